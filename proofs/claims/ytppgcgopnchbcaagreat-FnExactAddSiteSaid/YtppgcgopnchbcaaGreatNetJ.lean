/- Contracts: copies of antennas and radios, for the reference. Conditions: bounded lengths. -/
import Derived.Test.YtppgcgopnchbcaaGreatNet9
import Derived.Test.YtppgcgopnchbcaaGreatTree
import Derived.Deep.DeepCutAuto
namespace Go.Proofs.YtppgcgopnchbcaaGreat
open Go.RowKit
set_option linter.unusedVariables false

theorem blk6 {w : World} {B T : Nat} {a b c d e f : Value} (h : w.heap[B]? = some (.cells #[a, b, c, d, e, f] T (0, 0))) : w.cell? ⟨B, 0, none⟩ = some a ∧ w.cell? ⟨B, 1, none⟩ = some b ∧ w.cell? ⟨B, 2, none⟩ = some c ∧ w.cell? ⟨B, 3, none⟩ = some d ∧ w.cell? ⟨B, 4, none⟩ = some e ∧ w.cell? ⟨B, 5, none⟩ = some f := by
  simp [World.cell?, h]
set_option maxHeartbeats 4000000 in
set_option maxRecDepth 100000 in
theorem l06Own_any (x : DAntenna) (vh vv : Value) (b off : Nat) (w : World) (hh : Rd w.heap.size w (intsT x.horizontal) vh) (hv : Rd w.heap.size w (intsT x.vertical) vv) (hb : b < w.heap.size) (c0 : w.cell? ⟨b, off, none⟩ = some (.string x.name)) (c1 : w.cell? ⟨b, off + 1, none⟩ = some (.int .i64 x.gain)) (c2 : w.cell? ⟨b, off + 2, none⟩ = some vh) (c3 : w.cell? ⟨b, off + 3, none⟩ = some vv) (k1 : x.horizontal.length ≤ 1048576) (k2 : x.vertical.length ≤ 1048576) :
    Calls Tryz.prog 87 #[.pointer (some ⟨b, off, none⟩)] w fun e w' => ∃ a2 c2 a3 c3 fp, e = .returned (.agg #[.string x.name, .int .i64 x.gain, .slice a2 x.horizontal.length c2, .slice a3 x.vertical.length c3]) ∧ Below w.heap.size w w' ∧ OwnV w' x.tr [.string x.name, .int .i64 x.gain, .slice a2 x.horizontal.length c2, .slice a3 x.vertical.length c3] fp ∧ In w.heap.size w'.heap.size fp := by
  have H2 : Hid (∀ W : World, Below w.heap.size w W → Calls Tryz.prog 131 #[vh] W fun e w' => ∃ a' c' fp, e = .returned (.slice a' x.horizontal.length c') ∧ Below W.heap.size W w' ∧ Own w' (intsT x.horizontal) (.slice a' x.horizontal.length c') fp ∧ In W.heap.size w'.heap.size fp) := fun W hW => l00Own_any x.horizontal vh W ((hh.below hW).mono hW.size) k1
  have H3 : Hid (∀ W : World, Below w.heap.size w W → Calls Tryz.prog 131 #[vv] W fun e w' => ∃ a' c' fp, e = .returned (.slice a' x.vertical.length c') ∧ Below W.heap.size W w' ∧ Own w' (intsT x.vertical) (.slice a' x.vertical.length c') fp ∧ In W.heap.size w'.heap.size fp) := fun W hW => l00Own_any x.vertical vv W ((hv.below hW).mono hW.size) k2
  obtain ⟨ah, ch, e2, -, -, -⟩ := hh.ints
  obtain ⟨av, cv, e3, -, -, -⟩ := hv.ints
  subst e2 e3
  have HK : Hid (∀ W : World, Below w.heap.size w W → W.cell? ⟨b, off, none⟩ = some (.string x.name) ∧ W.cell? ⟨b, off + 1, none⟩ = some (.int .i64 x.gain) ∧ W.cell? ⟨b, off + 2, none⟩ = some (.slice ah x.horizontal.length ch) ∧ W.cell? ⟨b, off + 3, none⟩ = some (.slice av x.vertical.length cv)) := fun W h => ⟨(bat h b _ hb).trans c0, (bat h b _ hb).trans c1, (bat h b _ hb).trans c2, (bat h b _ hb).trans c3⟩
  clear hh hv c0 c1 c2 c3
  have BB1 : Hid (Below w.heap.size w (w.alloc (.cells #[.string ⟨#[]⟩, .int .i64 0, .slice none 0 0, .slice none 0 0] 120)).drew) := ((Below.refl _ _).alloc (Nat.le_refl _) _).drew
  have KR1 : Hid ((w.alloc (.cells #[.string ⟨#[]⟩, .int .i64 0, .slice none 0 0, .slice none 0 0] 120)).drew.heap[w.heap.size]? = some (.cells #[.string ⟨#[]⟩, .int .i64 0, .slice none 0 0, .slice none 0 0] 120 (0, 0))) := blkN w _ _
  have z1 : w.heap.size + 1 ≤ (w.alloc (.cells #[.string ⟨#[]⟩, .int .i64 0, .slice none 0 0, .slice none 0 0] 120)).drew.heap.size := by show _ ≤ (w.alloc _).heap.size; simp
  go_enter Tryz.func87, Tryz.ntmps87
  go_wp2
  refine wp_region_ord 18 [(0, true), (1, true), (2, true), (3, true), (4, true), (5, true), (6, true), (7, true), (8, true), (9, true), (10, true), (11, true), (13, true), (14, true), (15, true), (16, true), (12, false), (17, false)] (fun W => W.cell? ⟨b, off, none⟩ = some (.string x.name) ∧ W.cell? ⟨b, off + 1, none⟩ = some (.int .i64 x.gain) ∧ W.cell? ⟨b, off + 2, none⟩ = some (.slice ah x.horizontal.length ch) ∧ W.cell? ⟨b, off + 3, none⟩ = some (.slice av x.vertical.length cv)) (by kernel_rfl) (by kernel_rfl) (HK.out _ BB1.out) (fun hHeld => ?_)
  generalize (w.alloc (.cells #[.string ⟨#[]⟩, .int .i64 0, .slice none 0 0, .slice none 0 0] 120)).drew = W1 at *
  clear hHeld
  refine wpOrd_read (v := ?_) rfl (fun _ _ _ h => h) ?_ ?_
  rotate_left
  · (intro W hSW; (try dsimp only at hSW); (go_simp <;> with_reducible rfl))
  (try simp only [Act.put, List.setIfInBounds_toArray, List.set_cons_zero, List.set_cons_succ])
  refine wpOrd_read (v := ?_) rfl (fun _ _ _ h => h) ?_ ?_
  rotate_left
  · (intro W hSW; (try dsimp only at hSW); (go_simp <;> with_reducible rfl))
  (try simp only [Act.put, List.setIfInBounds_toArray, List.set_cons_zero, List.set_cons_succ])
  refine wpOrd_read (v := ?_) rfl (fun _ _ _ h => h) ?_ ?_
  rotate_left
  · (intro W hSW; (try dsimp only at hSW); (go_simp <;> with_reducible rfl))
  (try simp only [Act.put, List.setIfInBounds_toArray, List.set_cons_zero, List.set_cons_succ])
  refine wpOrd_read (v := ?_) rfl (fun _ _ _ h => h) ?_ ?_
  rotate_left
  · (intro W hSW; (try dsimp only at hSW); (go_simp <;> with_reducible rfl))
  (try simp only [Act.put, List.setIfInBounds_toArray, List.set_cons_zero, List.set_cons_succ])
  refine wpOrd_read (v := ?_) rfl (fun _ _ _ h => h) ?_ ?_
  rotate_left
  · (intro W hSW; (try dsimp only at hSW); (go_simp <;> with_reducible rfl))
  (try simp only [Act.put, List.setIfInBounds_toArray, List.set_cons_zero, List.set_cons_succ])
  refine wpOrd_read (v := ?_) rfl (fun _ _ _ h => h) ?_ ?_
  rotate_left
  · (intro W hSW; (try dsimp only at hSW); (go_simp <;> with_reducible rfl))
  (try simp only [Act.put, List.setIfInBounds_toArray, List.set_cons_zero, List.set_cons_succ])
  refine wpOrd_read (v := ?_) rfl (fun _ _ _ h => h) ?_ ?_
  rotate_left
  · (intro W hSW; (try dsimp only at hSW); (go_simp <;> with_reducible rfl))
  (try simp only [Act.put, List.setIfInBounds_toArray, List.set_cons_zero, List.set_cons_succ])
  refine wpOrd_read (v := ?_) rfl (fun _ _ _ h => h) ?_ ?_
  rotate_left
  · (intro W hSW; (try dsimp only at hSW); (go_simp <;> with_reducible rfl))
  (try simp only [Act.put, List.setIfInBounds_toArray, List.set_cons_zero, List.set_cons_succ])
  refine wpOrd_read (v := ?_) rfl (fun _ _ _ h => h) ?_ ?_
  rotate_left
  · (intro W hSW; (try dsimp only at hSW); (go_simp <;> with_reducible rfl))
  (try simp only [Act.put, List.setIfInBounds_toArray, List.set_cons_zero, List.set_cons_succ])
  refine wpOrd_read (v := ?_) rfl (fun _ _ _ h => h) ?_ ?_
  rotate_left
  · (intro W hSW; (try dsimp only at hSW); (go_simp <;> with_reducible rfl))
  (try simp only [Act.put, List.setIfInBounds_toArray, List.set_cons_zero, List.set_cons_succ])
  refine wpOrd_read (v := ?_) rfl (fun _ _ _ h => h) ?_ ?_
  rotate_left
  · (intro W hSW; (try dsimp only at hSW); (go_simp <;> with_reducible rfl))
  (try simp only [Act.put, List.setIfInBounds_toArray, List.set_cons_zero, List.set_cons_succ])
  refine wpOrd_read (v := ?_) rfl (fun _ _ _ h => h) ?_ ?_
  rotate_left
  · (intro W hSW; (try dsimp only at hSW); (go_simp <;> with_reducible rfl))
  (try simp only [Act.put, List.setIfInBounds_toArray, List.set_cons_zero, List.set_cons_succ])
  refine wpOrd_read (v := ?_) rfl (fun _ _ _ h => h) ?_ ?_
  rotate_left
  · (intro W hSW; (try dsimp only at hSW); (go_simp <;> with_reducible rfl))
  (try simp only [Act.put, List.setIfInBounds_toArray, List.set_cons_zero, List.set_cons_succ])
  refine wpOrd_read (v := ?_) rfl (fun _ _ _ h => h) ?_ ?_
  rotate_left
  · (intro W hSW; (try dsimp only at hSW); (go_simp <;> with_reducible rfl))
  (try simp only [Act.put, List.setIfInBounds_toArray, List.set_cons_zero, List.set_cons_succ])
  refine wpOrd_read (v := ?_) rfl (fun _ _ _ h => h) ?_ ?_
  rotate_left
  · (intro W hSW; (try dsimp only at hSW); (go_simp <;> with_reducible rfl))
  (try simp only [Act.put, List.setIfInBounds_toArray, List.set_cons_zero, List.set_cons_succ])
  refine wpOrd_read (v := ?_) rfl (fun _ _ _ h => h) ?_ ?_
  rotate_left
  · (intro W hSW; (try dsimp only at hSW); (go_simp <;> with_reducible rfl))
  (try simp only [Act.put, List.setIfInBounds_toArray, List.set_cons_zero, List.set_cons_succ])
  refine wpOrd_step rfl (fun K hK => ?_)
  go_simp
  refine (H2.out _ BB1.out).mono ?_
  rintro e X2 ⟨a2, d2, p2, rfl, hb2, o2, i2⟩
  refine hK.out _ _ (HK.out _ (BB1.out.trans (hb2.mono (by omega)))) ?_
  clear hK K
  (try simp only [Act.put, List.setIfInBounds_toArray, List.set_cons_zero, List.set_cons_succ])
  have BB2 := Lib.hid (BB1.out.trans (hb2.mono (by omega)))
  have KR2 := Lib.hid (blkB KR1.out hb2 (by omega))
  have z2 : W1.heap.size ≤ X2.heap.size := hb2.size
  have O2_1 := Lib.hid o2
  clear hb2 o2 BB1 KR1
  refine wpOrd_step rfl (fun K hK => ?_)
  go_simp
  refine (H3.out _ BB2.out).mono ?_
  rintro e X3 ⟨a3, d3, p3, rfl, hb3, o3, i3⟩
  refine hK.out _ _ (HK.out _ (BB2.out.trans (hb3.mono (by omega)))) ?_
  clear hK K
  (try simp only [Act.put, List.setIfInBounds_toArray, List.set_cons_zero, List.set_cons_succ])
  have BB3 := Lib.hid (BB2.out.trans (hb3.mono (by omega)))
  have KR3 := Lib.hid (blkB KR2.out hb3 (by omega))
  have z3 : X2.heap.size ≤ X3.heap.size := hb3.size
  have O3_2 := Lib.hid o3
  have O2_2 := Lib.hid (O2_1.out.below i2 (by omega) hb3)
  clear hb3 o3 BB2 KR2
  refine wpOrd_nil ?_
  simp only [List.drop_succ_cons, List.drop_zero]
  have ov : OwnV X3 x.tr [.string x.name, .int .i64 x.gain, .slice a2 x.horizontal.length d2, .slice a3 x.vertical.length d3] (p2 ++ (p3 ++ [])) := OwnV.consLit (OwnV.consLit (OwnV.cons O2_2.out (OwnV.cons O3_2.out OwnV.nil (by simp)) (fun y h1 h2 => by have := (i2 y h1).2; simp only [List.append_nil] at h2; have := (i3 y h2).1; omega)) rfl) rfl
  have iv : In (w.heap.size + 1) X3.heap.size (p2 ++ (p3 ++ [])) := (i2.mono (by omega) (by omega)).append ((i3.mono (by omega) (by omega)).append In.nil)
  have OF := Lib.hid (((((ov).setFar (p := ⟨w.heap.size, 0, none⟩) (fun e => by have := (iv _ e).1; simp only at this; omega) (.string x.name)).setFar (p := ⟨w.heap.size, 1, none⟩) (fun e => by have := (iv _ e).1; simp only at this; omega) (.int .i64 x.gain)).setFar (p := ⟨w.heap.size, 2, none⟩) (fun e => by have := (iv _ e).1; simp only at this; omega) (.slice a2 x.horizontal.length d2)).setFar (p := ⟨w.heap.size, 3, none⟩) (fun e => by have := (iv _ e).1; simp only at this; omega) (.slice a3 x.vertical.length d3))
  have BF := Lib.hid (((((BB3.out).setCell (p := ⟨w.heap.size, 0, none⟩) (Nat.le_refl _) (.string x.name)).setCell (p := ⟨w.heap.size, 1, none⟩) (Nat.le_refl _) (.int .i64 x.gain)).setCell (p := ⟨w.heap.size, 2, none⟩) (Nat.le_refl _) (.slice a2 x.horizontal.length d2)).setCell (p := ⟨w.heap.size, 3, none⟩) (Nat.le_refl _) (.slice a3 x.vertical.length d3))
  have IVF := Lib.hid iv
  obtain ⟨g0, g1, g2, g3⟩ := blk4 KR3.out
  have fz := blkF KR3.out
  clear ov iv KR3 BB3 O2_1 O2_2 O3_2 H2 H3 HK
  go_wp2
  refine bodyPost_ret (v := .agg #[.string x.name, .int .i64 x.gain, .slice a2 x.horizontal.length d2, .slice a3 x.vertical.length d3]) (by simp [results, Tryz.results87, go_sem, *]) rfl ⟨a2, d2, a3, d3, _, rfl, BF.out, OF.out, ?_⟩
  simp only [size_setCell]
  exact IVF.out.mono (by omega) (Nat.le_refl _)
set_option maxHeartbeats 4000000 in
set_option maxRecDepth 100000 in
theorem l07Own_any (x : DRadio) (vm : Value) (b off : Nat) (w : World) (hm : Rd w.heap.size w (DMode.sT x.modes) vm) (hb : b < w.heap.size) (c0 : w.cell? ⟨b, off, none⟩ = some (.string x.name)) (c1 : w.cell? ⟨b, off + 1, none⟩ = some (.int .i64 x.power)) (c2 : w.cell? ⟨b, off + 2, none⟩ = some (.int .i64 x.feeder)) (c3 : w.cell? ⟨b, off + 3, none⟩ = some (.int .i64 x.noise)) (c4 : w.cell? ⟨b, off + 4, none⟩ = some (.int .i64 x.width)) (c5 : w.cell? ⟨b, off + 5, none⟩ = some vm) (k1 : x.modes.length ≤ 1048576) :
    Calls Tryz.prog 88 #[.pointer (some ⟨b, off, none⟩)] w fun e w' => ∃ a5 d5 fp, e = .returned (.agg #[.string x.name, .int .i64 x.power, .int .i64 x.feeder, .int .i64 x.noise, .int .i64 x.width, .slice a5 x.modes.length d5]) ∧ Below w.heap.size w w' ∧ OwnV w' x.tr [.string x.name, .int .i64 x.power, .int .i64 x.feeder, .int .i64 x.noise, .int .i64 x.width, .slice a5 x.modes.length d5] fp ∧ In w.heap.size w'.heap.size fp := by
  obtain ⟨i0, hi0, hz0, hz1, hz2⟩ := info_parts infoMode
  obtain ⟨am, cm, xs, rfl, hnc, hcm, hrd, hx, h1⟩ := DMode.raw hm
  have HR := Lib.hid hrd
  have H1 := Lib.hid h1
  have HX := Lib.hid hx
  clear hrd h1 hx hm
  have w0 : Below w.heap.size w ((w.alloc (.cells #[.string ⟨#[]⟩, .int .i64 0, .int .i64 0, .int .i64 0, .int .i64 0, .slice none 0 0] 125)).alloc (.cells #[.string x.name, .int .i64 x.power, .int .i64 x.feeder, .int .i64 x.noise, .int .i64 x.width, .slice am x.modes.length cm] 125)) := ((Below.refl _ _).alloc (Nat.le_refl _) _).alloc (by simp) _
  have kR : ((w.alloc (.cells #[.string ⟨#[]⟩, .int .i64 0, .int .i64 0, .int .i64 0, .int .i64 0, .slice none 0 0] 125)).alloc (.cells #[.string x.name, .int .i64 x.power, .int .i64 x.feeder, .int .i64 x.noise, .int .i64 x.width, .slice am x.modes.length cm] 125)).heap[w.heap.size]? = some (.cells #[.string ⟨#[]⟩, .int .i64 0, .int .i64 0, .int .i64 0, .int .i64 0, .slice none 0 0] 125 (0, 0)) := blkA (blkN w _ _) (by simp) _
  have kL : ((w.alloc (.cells #[.string ⟨#[]⟩, .int .i64 0, .int .i64 0, .int .i64 0, .int .i64 0, .slice none 0 0] 125)).alloc (.cells #[.string x.name, .int .i64 x.power, .int .i64 x.feeder, .int .i64 x.noise, .int .i64 x.width, .slice am x.modes.length cm] 125)).heap[w.heap.size + 1]? = some (.cells #[.string x.name, .int .i64 x.power, .int .i64 x.feeder, .int .i64 x.noise, .int .i64 x.width, .slice am x.modes.length cm] 125 (0, 0)) := by
    have := blkN (w.alloc (.cells #[.string ⟨#[]⟩, .int .i64 0, .int .i64 0, .int .i64 0, .int .i64 0, .slice none 0 0] 125)) #[.string x.name, .int .i64 x.power, .int .i64 x.feeder, .int .i64 x.noise, .int .i64 x.width, .slice am x.modes.length cm] 125
    rw [show (w.alloc (.cells #[.string ⟨#[]⟩, .int .i64 0, .int .i64 0, .int .i64 0, .int .i64 0, .slice none 0 0] 125)).heap.size = w.heap.size + 1 by simp] at this
    exact this
  have z0 : w.heap.size + 2 = ((w.alloc (.cells #[.string ⟨#[]⟩, .int .i64 0, .int .i64 0, .int .i64 0, .int .i64 0, .slice none 0 0] 125)).alloc (.cells #[.string x.name, .int .i64 x.power, .int .i64 x.feeder, .int .i64 x.noise, .int .i64 x.width, .slice am x.modes.length cm] 125)).heap.size := by simp
  have HR1 := Lib.hid (HR.out.below w0)
  have KR := Lib.hid kR
  have KL := Lib.hid kL
  have W0 := Lib.hid w0
  have c5' := (bat w0 b _ hb).trans c5
  have Z0 := Lib.hid z0
  have z0' : w.heap.size + 2 ≤ ((w.alloc (.cells #[.string ⟨#[]⟩, .int .i64 0, .int .i64 0, .int .i64 0, .int .i64 0, .slice none 0 0] 125)).alloc (.cells #[.string x.name, .int .i64 x.power, .int .i64 x.feeder, .int .i64 x.noise, .int .i64 x.width, .slice am x.modes.length cm] 125)).heap.size := by simp
  clear kR kL w0 z0
  go_enter Tryz.func88, Tryz.ntmps88
  go_upto_region 2 with (fail)
  generalize ((w.alloc (.cells #[.string ⟨#[]⟩, .int .i64 0, .int .i64 0, .int .i64 0, .int .i64 0, .slice none 0 0] 125)).alloc (.cells #[.string x.name, .int .i64 x.power, .int .i64 x.feeder, .int .i64 x.noise, .int .i64 x.width, .slice am x.modes.length cm] 125)) = W1 at *
  clear c0 c1 c2 c3 c4 c5
  have hbW : b < W1.heap.size := by omega
  go_wp2_with (at_builtin; refine wpList_append_any _ rfl (.tmp 7) (.tmp 11) _ rfl W1.heap.size 140 i0 _ 2 16 Tryz.underlying123 hi0 hz0 hz1 hz2 rfl (by omega) (.slice (some ⟨W1.heap.size, 0, none⟩) 0 0) 0 [] rfl (own_emptyK W1 _ _) w.heap.size am x.modes.length cm xs rfl (HR1.out.alloc (by omega) _) H1.out (by simp only [maxLen]; omega) (by omega) (by simp) ?_; intro v1 w1 hown1 hg1 hat1; (simp only [Nat.zero_add, List.nil_append] at hown1); (have hb1 : Below W1.heap.size W1 w1 := ((Below.refl _ _).alloc (Nat.le_refl _) _).grown hg1 (by simp) (fun k hk => by simp [Value.ownBlock] at hk; omega)); obtain ⟨a5, d5, rfl, -⟩ := ownsRow_slice hown1; (have how := hown1); obtain ⟨fp, OF, IF_, -⟩ := (grow_Mode how HX.out).toOwnB (lo := W1.heap.size) (by decide) In.nil (Nat.le_refl _); obtain ⟨g0, g1, g2, g3, g4, g5⟩ := blk6 (blkB KR.out hb1 (by omega)); (have fz := blkF (blkB KR.out hb1 (by omega))); obtain ⟨l0, l1, l2, l3, l4, l5⟩ := blk6 (blkB KL.out hb1 (by omega)); (have lz := blkF (blkB KL.out hb1 (by omega))); (have BB := Lib.hid (W0.out.trans (hb1.mono (by omega)))); (have ov : OwnV w1 x.tr [.string x.name, .int .i64 x.power, .int .i64 x.feeder, .int .i64 x.noise, .int .i64 x.width, .slice a5 x.modes.length d5] (fp ++ []) := OwnV.consLit (OwnV.consLit (OwnV.consLit (OwnV.consLit (OwnV.consLit (OwnV.cons OF OwnV.nil (by simp)) rfl) rfl) rfl) rfl) rfl); (have OV := Lib.hid ov); (have IV : Hid (In (w.heap.size + 2) w1.heap.size (fp ++ [])) := (IF_.mono (by omega) (Nat.le_refl _)).append In.nil); clear hown1 hg1 hat1 how hb1 OF IF_ ov HR1 HR H1 HX KR KL W0 Z0 c5')

  have OF := Lib.hid ((((((((OV.out).setFar (p := ⟨w.heap.size + 1, 5, none⟩) (fun e => by have := (IV.out _ e).1; simp only at this; omega) (.slice a5 x.modes.length d5)).setFar (p := ⟨w.heap.size, 0, none⟩) (fun e => by have := (IV.out _ e).1; simp only at this; omega) (.string x.name)).setFar (p := ⟨w.heap.size, 1, none⟩) (fun e => by have := (IV.out _ e).1; simp only at this; omega) (.int .i64 x.power)).setFar (p := ⟨w.heap.size, 2, none⟩) (fun e => by have := (IV.out _ e).1; simp only at this; omega) (.int .i64 x.feeder)).setFar (p := ⟨w.heap.size, 3, none⟩) (fun e => by have := (IV.out _ e).1; simp only at this; omega) (.int .i64 x.noise)).setFar (p := ⟨w.heap.size, 4, none⟩) (fun e => by have := (IV.out _ e).1; simp only at this; omega) (.int .i64 x.width)).setFar (p := ⟨w.heap.size, 5, none⟩) (fun e => by have := (IV.out _ e).1; simp only at this; omega) (.slice a5 x.modes.length d5))
  have BF := Lib.hid ((((((((BB.out).setCell (p := ⟨w.heap.size + 1, 5, none⟩) (by show w.heap.size ≤ w.heap.size + 1; omega) (.slice a5 x.modes.length d5)).setCell (p := ⟨w.heap.size, 0, none⟩) (by show w.heap.size ≤ w.heap.size; omega) (.string x.name)).setCell (p := ⟨w.heap.size, 1, none⟩) (by show w.heap.size ≤ w.heap.size; omega) (.int .i64 x.power)).setCell (p := ⟨w.heap.size, 2, none⟩) (by show w.heap.size ≤ w.heap.size; omega) (.int .i64 x.feeder)).setCell (p := ⟨w.heap.size, 3, none⟩) (by show w.heap.size ≤ w.heap.size; omega) (.int .i64 x.noise)).setCell (p := ⟨w.heap.size, 4, none⟩) (by show w.heap.size ≤ w.heap.size; omega) (.int .i64 x.width)).setCell (p := ⟨w.heap.size, 5, none⟩) (by show w.heap.size ≤ w.heap.size; omega) (.slice a5 x.modes.length d5))
  refine bodyPost_ret (v := .agg #[.string x.name, .int .i64 x.power, .int .i64 x.feeder, .int .i64 x.noise, .int .i64 x.width, .slice a5 x.modes.length d5]) (by simp [results, Tryz.results88, go_sem, *]) rfl ⟨a5, d5, _, rfl, BF.out, OF.out, ?_⟩
  simp only [size_setCell]
  exact IV.out.mono (by omega) (Nat.le_refl _)
end Go.Proofs.YtppgcgopnchbcaaGreat
