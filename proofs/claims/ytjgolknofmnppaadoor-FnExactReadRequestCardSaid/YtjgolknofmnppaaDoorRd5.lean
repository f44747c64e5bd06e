/- Contracts: sites, read and written, for the program and for the reference. Conditions: bounded sizes; the library's own variables hold what they hold at the start. -/
import Derived.Test.YtjgolknofmnppaaDoorRd4
namespace Go.Proofs.YtjgolknofmnppaaDoor
open Go.RowKit
set_option linter.unusedVariables false
set_option linter.unusedSimpArgs false

def zSite : DSite := ⟨ofL [], ofL [], ⟨0, 0⟩⟩
theorem pointR_valid {l : List UInt8} {q : DPoint} (h : pointR l = some q) : pointB q = true := by
  unfold pointR at h
  cases hm : readM l 2 with
  | none => rw [hm] at h; cases h
  | some vs =>
    obtain ⟨x, y, rfl⟩ := readM_two hm
    rw [hm] at h
    have h' : (if pointB ⟨x, y⟩ then some (⟨x, y⟩ : DPoint) else none) = some q := h
    by_cases hp : pointB ⟨x, y⟩ = true
    · rw [if_pos hp] at h'
      obtain rfl := Option.some.inj h'
      exact hp
    · rw [if_neg hp] at h'; cases h'
theorem pointText_len (p : DPoint) (hx : I64 p.x) (hy : I64 p.y) : (pointText p).length ≤ 43 := by
  unfold pointText
  split
  · rw [List.length_append, List.length_cons]
    have := Go.Lib.itoa_length_le p.x hx.1 hx.2
    have := Go.Lib.itoa_length_le p.y hy.1 hy.2
    omega
  · simp
set_option maxHeartbeats 8000000 in
set_option maxRecDepth 100000 in
theorem siteText_any (x : DSite) (h0 : x.name.size ≤ 1048576) (h1 : x.holder.size ≤ 1048576) (hx : I64 x.place.x) (hy : I64 x.place.y) (w : World) (L : LibW w) : Calls Tryd.prog 37 #[.agg #[.string x.name, .string x.holder, .int .i64 x.place.x, .int .i64 x.place.y]] w fun e w' => e = .returned (.string (siteText x)) ∧ Below w.heap.size w w' := by
  obtain ⟨W0, hW0, b0, z0, k0⟩ := boxes1 w #[.string x.name, .string x.holder, .int .i64 x.place.x, .int .i64 x.place.y] 36
  have HW0 := Lib.hid hW0
  clear hW0
  have B0 := Lib.hid b0
  clear b0
  have K0 := Lib.hid k0
  clear k0
  have HD : Hid (∀ W : World, Below W0.heap.size W0 W → (W.cell? ⟨w.heap.size, 0, none⟩ = some (.string x.name) ∧ W.cell? ⟨w.heap.size, 1, none⟩ = some (.string x.holder) ∧ W.cell? ⟨w.heap.size, 2, none⟩ = some (.int .i64 x.place.x) ∧ W.cell? ⟨w.heap.size, 3, none⟩ = some (.int .i64 x.place.y))) := fun W hW => ⟨bkC (bkB K0.out hW (by omega)) 0 rfl, bkC (bkB K0.out hW (by omega)) 1 rfl, bkC (bkB K0.out hW (by omega)) 2 rfl, bkC (bkB K0.out hW (by omega)) 3 rfl⟩
  have HB : Hid (Below W0.heap.size W0 W0) := Below.refl _ _
  have HH : Hid (∀ W : World, Below W0.heap.size W0 W → Below w.heap.size w W) := fun W hW => B0.out.trans (hW.mono (by omega))
  have CV : Hid (∀ W : World, Calls Tryd.prog 62 #[.agg #[.string x.name, .string x.holder, .int .i64 x.place.x, .int .i64 x.place.y]] W fun e w' => e = .returned (.bool (siteB x)) ∧ Below W.heap.size W w') := fun W => siteValid_any x (by unfold maxLen; omega) (by unfold maxLen; omega) W
  have HLW : Hid (∀ W, Below W0.heap.size W0 W → LibW W) := fun W hW => L.mono (HH.out W hW)
  clear L
  have HX : Hid (∀ W, LibW W → Calls Tryd.prog 61 #[.agg #[.int .i64 x.place.x, .int .i64 x.place.y]] W fun e w' => e = .returned (.string (ofL (pointText x.place))) ∧ Below W.heap.size W w') := fun W hW => pointText_any x.place hx hy W hW
  by_cases hv : siteB x = true
  case neg =>
    have hv' : siteB x = false := Bool.eq_false_iff.2 hv
    rw [hv'] at CV
    have HE : Hid (siteText x = ofL []) := by show _ = _; unfold siteText; rw [if_neg hv]
    clear hv hv' hx hy h0 h1
    go_enter Tryd.func37, Tryd.ntmps37
    go_upto_region 1 with (fail)
    rw [HW0.out]
    obtain ⟨t0, t1, t2, t3⟩ := HD.out _ HB.out
    go_wp2_with (go_at_call 62; with_reducible refine (CV.out _).mono ?_; rintro e w2 ⟨rfl, hb2⟩; (try clear t0 t1 t2 t3); replace HB := Lib.hid (HB.out.trans (hb2.mono HB.out.size)); clear hb2; obtain ⟨t0, t1, t2, t3⟩ := HD.out _ HB.out)
    go_ret
    exact ⟨by rw [HE.out]; rfl, HH.out _ HB.out⟩
  case pos =>
    rw [hv] at CV
    have HE : Hid (x.name ++ ⟨#[32]⟩ ++ x.holder ++ ⟨#[32]⟩ ++ ofL (pointText x.place) = siteText x) := by
      show _ = _
      unfold siteText
      rw [if_pos hv, show (⟨#[32]⟩ : ByteArray) = ofL [32] from rfl]
      conv => lhs; rw [← ofL_bl x.name, ← ofL_bl x.holder, ofL_app, ofL_app, ofL_app, ofL_app]
      simp
    have lx : (ofL (pointText x.place)).size ≤ 43 := pointText_len x.place hx hy
    clear hv hx hy
    generalize ofL (pointText x.place) = sx at *
    have c1 : (⟨#[32]⟩ : ByteArray).size = 1 := rfl
    have a1 := fun W : World => run_string_add_sum (P := Tryd.prog) (w := W) x.name ⟨#[32]⟩ (by rw [c1]; omega)
    have a2 := fun W : World => run_string_add_sum (P := Tryd.prog) (w := W) (x.name ++ ⟨#[32]⟩) x.holder (by rw [ByteArray.size_append, c1]; omega)
    have a3 := fun W : World => run_string_add_sum (P := Tryd.prog) (w := W) (x.name ++ ⟨#[32]⟩ ++ x.holder) ⟨#[32]⟩ (by rw [ByteArray.size_append, ByteArray.size_append, c1]; omega)
    have a4 := fun W : World => run_string_add_sum (P := Tryd.prog) (w := W) (x.name ++ ⟨#[32]⟩ ++ x.holder ++ ⟨#[32]⟩) sx (by rw [ByteArray.size_append, ByteArray.size_append, ByteArray.size_append, c1]; omega)
    clear c1 lx h0 h1
    go_enter Tryd.func37, Tryd.ntmps37
    go_upto_region 1 with (fail)
    rw [HW0.out]
    obtain ⟨t0, t1, t2, t3⟩ := HD.out _ HB.out
    go_upto_region 3 with (go_at_call 62; with_reducible refine (CV.out _).mono ?_; rintro e w2 ⟨rfl, hb2⟩; (try clear t0 t1 t2 t3); replace HB := Lib.hid (HB.out.trans (hb2.mono HB.out.size)); clear hb2; obtain ⟨t0, t1, t2, t3⟩ := HD.out _ HB.out)
    have oB := overC (w0 := w2) (show w.heap.size < w2.heap.size by have := HB.out.size; omega)
    have HLO : Hid (∀ X, LibW (over w2.heap.size w2 X)) := fun X => HLW.out _ (HB.out.trans ((over_below w2.heap.size w2 X).mono HB.out.size))
    refine wp_region_over w2.heap.size w2 (Below.refl _ _) (by kernel_rfl) (by kernel_rfl) ?_
    repeat (go_big_quiet_step (first | (go_at_call 61; with_reducible exact over_left (Nat.le_refl _) (HX.out _ (HLO.out _)))))
    refine wpQuiet_nil ?_
    rintro _ ⟨X, rfl⟩
    have BE := Lib.hid (HH.out _ (HB.out.trans ((over_below w2.heap.size w2 X).mono HB.out.size)))
    clear oB
    generalize over w2.heap.size w2 X = w9 at *
    go_wp2
    go_ret
    exact ⟨by rw [HE.out]; rfl, BE.out⟩
set_option maxHeartbeats 8000000 in
set_option maxRecDepth 100000 in
theorem iReadSite_any (s : ByteArray) (hs : s.size ≤ 1048576) (w : World) (L : LibW w) : Calls Tryd.prog 16 #[.string s] w fun e w' => e = .returned (.tuple #[.agg #[.string ((siteR s).getD zSite).name, .string ((siteR s).getD zSite).holder, .int .i64 ((siteR s).getD zSite).place.x, .int .i64 ((siteR s).getD zSite).place.y], .bool (siteR s).isSome]) ∧ Below w.heap.size w w' := by
  obtain ⟨W0, hW0, b0, z0, k0⟩ := boxes1 w #[.string ⟨#[]⟩, .string ⟨#[]⟩, .int .i64 0, .int .i64 0] 36
  have HW0 := Lib.hid hW0
  clear hW0
  have B0 := Lib.hid b0
  clear b0
  have K0 := Lib.hid k0
  clear k0
  have HD : Hid (∀ W : World, Below W0.heap.size W0 W → (W.cell? ⟨w.heap.size, 0, none⟩ = some (.string ⟨#[]⟩) ∧ W.cell? ⟨w.heap.size, 1, none⟩ = some (.string ⟨#[]⟩) ∧ W.cell? ⟨w.heap.size, 2, none⟩ = some (.int .i64 0) ∧ W.cell? ⟨w.heap.size, 3, none⟩ = some (.int .i64 0))) := fun W hW => ⟨bkC (bkB K0.out hW (by omega)) 0 rfl, bkC (bkB K0.out hW (by omega)) 1 rfl, bkC (bkB K0.out hW (by omega)) 2 rfl, bkC (bkB K0.out hW (by omega)) 3 rfl⟩
  have HB : Hid (Below W0.heap.size W0 W0) := Below.refl _ _
  have HH : Hid (∀ W : World, Below W0.heap.size W0 W → Below w.heap.size w W) := fun W hW => B0.out.trans (hW.mono (by omega))
  have HSP : Hid (∀ W, Below W0.heap.size W0 W → Calls Tryd.prog 31 #[.string s, .string ⟨#[32]⟩] W fun e w' => ∃ a cc, e = .returned (.slice a (wordsB 32 s).length cc) ∧ Below W.heap.size W w' ∧ Rd w'.heap.size w' (strsT (wordsB 32 s)) (.slice a (wordsB 32 s).length cc)) := fun W hW => iSplit_any s 32 hs W (L.mono (HH.out W hW))
  have hsz : ∀ p ∈ wordsB 32 s, p.size ≤ 1048576 := fun p hp => Nat.le_trans (words_size _ _ _ hp) hs
  have hwl : (wordsB 32 s).length = (splitC 32 (bl s)).length := List.length_map _
  by_cases h2 : (splitC 32 (bl s)).length = 3
  case neg =>
    have HE : Hid (siteR s = none) := by
      show _ = _
      unfold siteR
      split
      · rename_i a b c e; rw [e] at h2; exact absurd rfl h2
      · rfl
    rw [← hwl] at h2
    generalize wordsB 32 s = ws at *
    have hq : ((ws.length : Int) != 3) = true := by rw [bne_iff_ne]; omega
    have hq2 : ((ws.length : Int) == 3) = false := by rw [beq_eq_false_iff_ne]; omega
    clear hwl h2 hsz
    go_enter Tryd.func16, Tryd.ntmps16
    go_upto_region 1 with (fail)
    rw [HW0.out]
    obtain ⟨t0, t1, t2, t3⟩ := HD.out _ HB.out
    go_wp2_with (go_at_call 31; with_reducible refine (HSP.out _ HB.out).mono ?_; rintro e w2 ⟨a, c, rfl, hb2, hr2⟩; clear hr2; have HB2 := Lib.hid (HB.out.trans (hb2.mono HB.out.size)); clear hb2 t0 t1 t2 t3; obtain ⟨t0, t1, t2, t3⟩ := HD.out _ HB2.out; have gz := bkF (bkB K0.out HB2.out (by omega)); have BF := Lib.hid (HH.out _ HB2.out))
    refine bodyPost_ret (v := .tuple #[.agg #[.string ⟨#[]⟩, .string ⟨#[]⟩, .int .i64 0, .int .i64 0], .bool false]) (by simp [results, Tryd.results16, go_sem, *]) rfl ?_
    exact ⟨by rw [HE.out]; rfl, (bset (bset (bset (bset BF.out (by omega) 0 _) (by omega) 1 _) (by omega) 2 _) (by omega) 3 _)⟩
  obtain ⟨a, b, n, hab⟩ : ∃ a b n, splitC 32 (bl s) = [a, b, n] := by
    match h : splitC 32 (bl s), h2 with
    | [a, b, n], _ => exact ⟨a, b, n, rfl⟩
  have hwd : wordsB 32 s = [ofL a, ofL b, ofL n] := words_of _ _ _ hab
  rw [hwd] at HSP hsz
  have hsa : (ofL a).size ≤ 1048576 := hsz (ofL a) (by simp)
  have hsb : (ofL b).size ≤ 1048576 := hsz (ofL b) (by simp)
  have hsn : (ofL n).size ≤ 1048576 := hsz (ofL n) (by simp)
  obtain ⟨p, hp⟩ : ∃ p, p = (pointR n).getD ⟨0, 0⟩ := ⟨_, rfl⟩
  have HRP : Hid (∀ W, Below W0.heap.size W0 W → Calls Tryd.prog 36 #[.string (ofL n)] W fun e w' => e = .returned (.tuple #[.agg #[.int .i64 p.x, .int .i64 p.y], .bool (pointR n).isSome]) ∧ Below W.heap.size W w') := fun W hW => by
    have := iReadPoint_any (ofL n) (by omega) W (L.mono (HH.out W hW))
    rw [bl_ofL] at this
    rw [hp]
    exact this
  have hIp : I64 p.x ∧ I64 p.y := by
    rw [hp]
    cases hpr : (pointR n) with
    | none => exact ⟨by constructor <;> decide, by constructor <;> decide⟩
    | some q =>
      have hb := pointR_valid hpr
      unfold pointB inB at hb
      simp only [Bool.and_eq_true, decide_eq_true_eq] at hb
      show I64 q.x ∧ I64 q.y
      constructor <;> constructor <;> omega
  have HTX : Hid (∀ W, Below W0.heap.size W0 W → Calls Tryd.prog 37 #[.agg #[.string (ofL a), .string (ofL b), .int .i64 p.x, .int .i64 p.y]] W fun e w' => e = .returned (.string (siteText ⟨ofL a, ofL b, p⟩)) ∧ Below W.heap.size W w') := fun W hW => siteText_any ⟨ofL a, ofL b, p⟩ hsa hsb hIp.1 hIp.2 W (L.mono (HH.out W hW))
  clear L
  clear hIp hwl h2 hwd hsz hsn
  cases hpr : (pointR n) with
  | none =>
    have HE : Hid (siteR s = none) := by show _ = _; unfold siteR; rw [hab]; simp [hpr]
    rw [hpr] at HRP
    clear hpr hp hab hsa hsb HTX
    generalize ofL a = sa at *
    generalize ofL b = sb at *
    go_enter Tryd.func16, Tryd.ntmps16
    go_upto_region 1 with (fail)
    rw [HW0.out]
    obtain ⟨t0, t1, t2, t3⟩ := HD.out _ HB.out
    go_wp2_with fail
    refine (HSP.out _ HB.out).mono ?_
    rintro e w2 ⟨a1, c1, rfl, hb2, hr2⟩
    obtain ⟨_, _, e1, _, _, hcl⟩ := Rd.strs hr2
    injection e1 with e1 _ e3
    subst e1 e3
    obtain ⟨b1, off, ea, hbb, hat⟩ := hcl (by simp)
    subst ea
    have x0 := hat 0 (by simp)
    have x1 := hat 1 (by simp)
    have x2 := hat 2 (by simp)
    simp only [List.getElem_cons_zero, List.getElem_cons_succ, Nat.add_zero] at x0 x1 x2
    have HBX := Lib.hid (HB.out.trans (hb2.mono HB.out.size))
    clear hb2 hr2 hcl hat t0 t1 t2 t3
    go_wp2_with fail
    refine (HRP.out _ HBX.out).mono ?_
    rintro e w3 ⟨rfl, hb3⟩
    have hc0 := (bat hb3 b1 off hbb).trans x0
    have hc1 := (bat hb3 b1 _ hbb).trans x1
    have HB3 := Lib.hid (HBX.out.trans (hb3.mono HBX.out.size))
    have z3 := hb3.size
    clear hb3 x0 x1 x2
    go_upto_region 5 with (fail)
    obtain ⟨W4, hW4, b4, z4, k4⟩ := boxes1 w3 #[.int .i64 p.x, .int .i64 p.y] 34
    rw [hW4]
    clear hW4
    have HB4 := Lib.hid (HB3.out.trans (b4.mono HB3.out.size))
    have HS4 : Hid (∀ W, Below W4.heap.size W4 W → (W.cell? ⟨b1, off, none⟩ = some (.string sa) ∧ W.cell? ⟨b1, off + 1, none⟩ = some (.string sb)) ∧ (W.cell? ⟨w3.heap.size, 0, none⟩ = some (.int .i64 p.x) ∧ W.cell? ⟨w3.heap.size, 1, none⟩ = some (.int .i64 p.y))) := fun W hW => ⟨⟨(bat hW b1 _ (by omega)).trans ((bat b4 b1 _ (by omega)).trans hc0), (bat hW b1 _ (by omega)).trans ((bat b4 b1 _ (by omega)).trans hc1)⟩, bkC (bkB k4 hW (by omega)) 0 rfl, bkC (bkB k4 hW (by omega)) 1 rfl⟩
    clear b4 k4 hc0 hc1
    refine wp_region_ord 9 [(0, true), (1, true), (2, true), (3, true), (4, true), (5, true), (6, true), (7, true), (8, false)] (fun W => (W.cell? ⟨b1, off, none⟩ = some (.string sa) ∧ W.cell? ⟨b1, off + 1, none⟩ = some (.string sb)) ∧ (W.cell? ⟨w3.heap.size, 0, none⟩ = some (.int .i64 p.x) ∧ W.cell? ⟨w3.heap.size, 1, none⟩ = some (.int .i64 p.y))) (by kernel_rfl) (by kernel_rfl) (HS4.out _ (below_drew1 _)) (fun hHeld => ?_)
    refine wpOrd_read (v := ?_) rfl (fun _ _ _ h => h) ?_ ?_
    rotate_left
    · (intro W hSW; (try dsimp only at hSW); (go_simp <;> with_reducible rfl))
    (try simp only [Act.put, List.setIfInBounds_toArray, List.set_cons_zero, List.set_cons_succ])
    refine wpOrd_read (v := ?_) rfl (fun _ _ _ h => h) ?_ ?_
    rotate_left
    · (intro W hSW; (try dsimp only at hSW); (go_simp <;> with_reducible rfl))
    (try simp only [Act.put, List.setIfInBounds_toArray, List.set_cons_zero, List.set_cons_succ])
    refine wpOrd_read (v := ?_) rfl (fun _ _ _ h => h) ?_ ?_
    rotate_left
    · (intro W hSW; (try dsimp only at hSW); (go_simp <;> with_reducible rfl))
    (try simp only [Act.put, List.setIfInBounds_toArray, List.set_cons_zero, List.set_cons_succ])
    refine wpOrd_read (v := ?_) rfl (fun _ _ _ h => h) ?_ ?_
    rotate_left
    · (intro W hSW; (try dsimp only at hSW); (go_simp <;> with_reducible rfl))
    (try simp only [Act.put, List.setIfInBounds_toArray, List.set_cons_zero, List.set_cons_succ])
    refine wpOrd_read (v := ?_) rfl (fun _ _ _ h => h) ?_ ?_
    rotate_left
    · (intro W hSW; (try dsimp only at hSW); (go_simp <;> with_reducible rfl))
    (try simp only [Act.put, List.setIfInBounds_toArray, List.set_cons_zero, List.set_cons_succ])
    refine wpOrd_read (v := ?_) rfl (fun _ _ _ h => h) ?_ ?_
    rotate_left
    · (intro W hSW; (try dsimp only at hSW); (go_simp <;> with_reducible rfl))
    (try simp only [Act.put, List.setIfInBounds_toArray, List.set_cons_zero, List.set_cons_succ])
    refine wpOrd_read (v := ?_) rfl (fun _ _ _ h => h) ?_ ?_
    rotate_left
    · (intro W hSW; (try dsimp only at hSW); (go_simp <;> with_reducible rfl))
    (try simp only [Act.put, List.setIfInBounds_toArray, List.set_cons_zero, List.set_cons_succ])
    refine wpOrd_read (v := ?_) rfl (fun _ _ _ h => h) ?_ ?_
    rotate_left
    · (intro W hSW; (try dsimp only at hSW); (go_simp <;> with_reducible rfl))
    (try simp only [Act.put, List.setIfInBounds_toArray, List.set_cons_zero, List.set_cons_succ])
    have HBD := Lib.hid (HB4.out.trans ((below_drew1 W4).mono HB4.out.size))
    have hzd : W4.heap.size ≤ W4.drew.heap.size := Nat.le_refl _
    have HSD : Hid (∀ W, Below W4.drew.heap.size W4.drew W → (W.cell? ⟨b1, off, none⟩ = some (.string sa) ∧ W.cell? ⟨b1, off + 1, none⟩ = some (.string sb)) ∧ (W.cell? ⟨w3.heap.size, 0, none⟩ = some (.int .i64 p.x) ∧ W.cell? ⟨w3.heap.size, 1, none⟩ = some (.int .i64 p.y))) := fun W hW => HS4.out W ((below_drew1 W4).trans (hW.mono hzd))
    generalize W4.drew = w4 at *
    refine wpOrd_step rfl (fun K hK => ?_)
    go_simp
    refine hK.out _ _ (HSD.out _ (below_alloc w4 _)) ?_
    clear hK K
    (try simp only [Act.put, List.setIfInBounds_toArray, List.set_cons_zero, List.set_cons_succ])
    refine wpOrd_nil ?_
    simp only [List.drop_succ_cons, List.drop_zero]
    go_upto_region 6 with (fail)
    obtain ⟨W5, hW5, b5, z5, k5⟩ := boxes1 w4 #[.string sa, .string sb, .int .i64 p.x, .int .i64 p.y] 36
    rw [hW5]
    clear hW5
    have HB5 := Lib.hid (HBD.out.trans (b5.mono HBD.out.size))
    have K5 := Lib.hid k5
    have zb5 := HBD.out.size
    clear b5 k5
    obtain ⟨t0, t1, t2, t3⟩ := HD.out _ HB5.out
    have gz := bkF (bkB K0.out HB5.out (by omega))
    have q0 := bkC (v := .string sa) K5.out 0 rfl
    have q1 := bkC (v := .string sb) K5.out 1 rfl
    have q2 := bkC (v := .int .i64 p.x) K5.out 2 rfl
    have q3 := bkC (v := .int .i64 p.y) K5.out 3 rfl
    have BF := Lib.hid (HH.out _ HB5.out)
    go_wp2_with fail
    refine bodyPost_ret (v := .tuple #[.agg #[.string ⟨#[]⟩, .string ⟨#[]⟩, .int .i64 0, .int .i64 0], .bool false]) (by simp [results, Tryd.results16, go_sem, *]) rfl ?_
    exact ⟨by rw [HE.out]; rfl, (bset (bset (bset (bset BF.out (by omega) 0 _) (by omega) 1 _) (by omega) 2 _) (by omega) 3 _)⟩
  | some p' =>
    have hpp : p = p' := by rw [hp, hpr]; rfl
    subst hpp
    rw [hpr] at HRP
    clear hp
    by_cases hv : siteB ⟨ofL a, ofL b, p⟩ = true
    · have HE : Hid (siteR s = some ⟨ofL a, ofL b, p⟩) := by show _ = _; unfold siteR; rw [hab]; simp [hpr, hv]
      rw [(siteText_of hab hpr).2 hv] at HTX
      have hq : (s.toList == s.toList) = true := beq_iff_eq.2 rfl
      have hqn : (s.toList != s.toList) = false := by unfold bne; rw [hq]; rfl
      clear hpr hab hsa hsb hv
      generalize ofL a = sa at *
      generalize ofL b = sb at *
      go_enter Tryd.func16, Tryd.ntmps16
      go_upto_region 1 with (fail)
      rw [HW0.out]
      obtain ⟨t0, t1, t2, t3⟩ := HD.out _ HB.out
      go_wp2_with fail
      refine (HSP.out _ HB.out).mono ?_
      rintro e w2 ⟨a1, c1, rfl, hb2, hr2⟩
      obtain ⟨_, _, e1, _, _, hcl⟩ := Rd.strs hr2
      injection e1 with e1 _ e3
      subst e1 e3
      obtain ⟨b1, off, ea, hbb, hat⟩ := hcl (by simp)
      subst ea
      have x0 := hat 0 (by simp)
      have x1 := hat 1 (by simp)
      have x2 := hat 2 (by simp)
      simp only [List.getElem_cons_zero, List.getElem_cons_succ, Nat.add_zero] at x0 x1 x2
      have HBX := Lib.hid (HB.out.trans (hb2.mono HB.out.size))
      clear hb2 hr2 hcl hat t0 t1 t2 t3
      go_wp2_with fail
      refine (HRP.out _ HBX.out).mono ?_
      rintro e w3 ⟨rfl, hb3⟩
      have hc0 := (bat hb3 b1 off hbb).trans x0
      have hc1 := (bat hb3 b1 _ hbb).trans x1
      have HB3 := Lib.hid (HBX.out.trans (hb3.mono HBX.out.size))
      have z3 := hb3.size
      clear hb3 x0 x1 x2
      go_upto_region 5 with (fail)
      obtain ⟨W4, hW4, b4, z4, k4⟩ := boxes1 w3 #[.int .i64 p.x, .int .i64 p.y] 34
      rw [hW4]
      clear hW4
      have HB4 := Lib.hid (HB3.out.trans (b4.mono HB3.out.size))
      have HS4 : Hid (∀ W, Below W4.heap.size W4 W → (W.cell? ⟨b1, off, none⟩ = some (.string sa) ∧ W.cell? ⟨b1, off + 1, none⟩ = some (.string sb)) ∧ (W.cell? ⟨w3.heap.size, 0, none⟩ = some (.int .i64 p.x) ∧ W.cell? ⟨w3.heap.size, 1, none⟩ = some (.int .i64 p.y))) := fun W hW => ⟨⟨(bat hW b1 _ (by omega)).trans ((bat b4 b1 _ (by omega)).trans hc0), (bat hW b1 _ (by omega)).trans ((bat b4 b1 _ (by omega)).trans hc1)⟩, bkC (bkB k4 hW (by omega)) 0 rfl, bkC (bkB k4 hW (by omega)) 1 rfl⟩
      clear b4 k4 hc0 hc1
      refine wp_region_ord 9 [(0, true), (1, true), (2, true), (3, true), (4, true), (5, true), (6, true), (7, true), (8, false)] (fun W => (W.cell? ⟨b1, off, none⟩ = some (.string sa) ∧ W.cell? ⟨b1, off + 1, none⟩ = some (.string sb)) ∧ (W.cell? ⟨w3.heap.size, 0, none⟩ = some (.int .i64 p.x) ∧ W.cell? ⟨w3.heap.size, 1, none⟩ = some (.int .i64 p.y))) (by kernel_rfl) (by kernel_rfl) (HS4.out _ (below_drew1 _)) (fun hHeld => ?_)
      refine wpOrd_read (v := ?_) rfl (fun _ _ _ h => h) ?_ ?_
      rotate_left
      · (intro W hSW; (try dsimp only at hSW); (go_simp <;> with_reducible rfl))
      (try simp only [Act.put, List.setIfInBounds_toArray, List.set_cons_zero, List.set_cons_succ])
      refine wpOrd_read (v := ?_) rfl (fun _ _ _ h => h) ?_ ?_
      rotate_left
      · (intro W hSW; (try dsimp only at hSW); (go_simp <;> with_reducible rfl))
      (try simp only [Act.put, List.setIfInBounds_toArray, List.set_cons_zero, List.set_cons_succ])
      refine wpOrd_read (v := ?_) rfl (fun _ _ _ h => h) ?_ ?_
      rotate_left
      · (intro W hSW; (try dsimp only at hSW); (go_simp <;> with_reducible rfl))
      (try simp only [Act.put, List.setIfInBounds_toArray, List.set_cons_zero, List.set_cons_succ])
      refine wpOrd_read (v := ?_) rfl (fun _ _ _ h => h) ?_ ?_
      rotate_left
      · (intro W hSW; (try dsimp only at hSW); (go_simp <;> with_reducible rfl))
      (try simp only [Act.put, List.setIfInBounds_toArray, List.set_cons_zero, List.set_cons_succ])
      refine wpOrd_read (v := ?_) rfl (fun _ _ _ h => h) ?_ ?_
      rotate_left
      · (intro W hSW; (try dsimp only at hSW); (go_simp <;> with_reducible rfl))
      (try simp only [Act.put, List.setIfInBounds_toArray, List.set_cons_zero, List.set_cons_succ])
      refine wpOrd_read (v := ?_) rfl (fun _ _ _ h => h) ?_ ?_
      rotate_left
      · (intro W hSW; (try dsimp only at hSW); (go_simp <;> with_reducible rfl))
      (try simp only [Act.put, List.setIfInBounds_toArray, List.set_cons_zero, List.set_cons_succ])
      refine wpOrd_read (v := ?_) rfl (fun _ _ _ h => h) ?_ ?_
      rotate_left
      · (intro W hSW; (try dsimp only at hSW); (go_simp <;> with_reducible rfl))
      (try simp only [Act.put, List.setIfInBounds_toArray, List.set_cons_zero, List.set_cons_succ])
      refine wpOrd_read (v := ?_) rfl (fun _ _ _ h => h) ?_ ?_
      rotate_left
      · (intro W hSW; (try dsimp only at hSW); (go_simp <;> with_reducible rfl))
      (try simp only [Act.put, List.setIfInBounds_toArray, List.set_cons_zero, List.set_cons_succ])
      have HBD := Lib.hid (HB4.out.trans ((below_drew1 W4).mono HB4.out.size))
      have hzd : W4.heap.size ≤ W4.drew.heap.size := Nat.le_refl _
      have HSD : Hid (∀ W, Below W4.drew.heap.size W4.drew W → (W.cell? ⟨b1, off, none⟩ = some (.string sa) ∧ W.cell? ⟨b1, off + 1, none⟩ = some (.string sb)) ∧ (W.cell? ⟨w3.heap.size, 0, none⟩ = some (.int .i64 p.x) ∧ W.cell? ⟨w3.heap.size, 1, none⟩ = some (.int .i64 p.y))) := fun W hW => HS4.out W ((below_drew1 W4).trans (hW.mono hzd))
      generalize W4.drew = w4 at *
      refine wpOrd_step rfl (fun K hK => ?_)
      go_simp
      refine hK.out _ _ (HSD.out _ (below_alloc w4 _)) ?_
      clear hK K
      (try simp only [Act.put, List.setIfInBounds_toArray, List.set_cons_zero, List.set_cons_succ])
      refine wpOrd_nil ?_
      simp only [List.drop_succ_cons, List.drop_zero]
      go_upto_region 6 with (fail)
      obtain ⟨W5, hW5, b5, z5, k5⟩ := boxes1 w4 #[.string sa, .string sb, .int .i64 p.x, .int .i64 p.y] 36
      rw [hW5]
      clear hW5
      have HB5 := Lib.hid (HBD.out.trans (b5.mono HBD.out.size))
      have K5 := Lib.hid k5
      have zb5 := HBD.out.size
      clear b5 k5
      obtain ⟨t0, t1, t2, t3⟩ := HD.out _ HB5.out
      have gz := bkF (bkB K0.out HB5.out (by omega))
      have q0 := bkC (v := .string sa) K5.out 0 rfl
      have q1 := bkC (v := .string sb) K5.out 1 rfl
      have q2 := bkC (v := .int .i64 p.x) K5.out 2 rfl
      have q3 := bkC (v := .int .i64 p.y) K5.out 3 rfl
      have BF := Lib.hid (HH.out _ HB5.out)
      go_wp2_with (go_at_call 37; with_reducible refine (HTX.out _ HB5.out).mono ?_; rintro e w6 ⟨rfl, hb6⟩; clear t0 t1 t2 t3 gz q0 q1 q2 q3 BF; have HB6 := Lib.hid (HB5.out.trans (hb6.mono HB5.out.size)); have K6 := Lib.hid (bkB K5.out hb6 (by omega)); clear hb6; obtain ⟨t0, t1, t2, t3⟩ := HD.out _ HB6.out; have gz := bkF (bkB K0.out HB6.out (by omega)); have q0 := bkC (v := .string sa) K6.out 0 rfl; have q1 := bkC (v := .string sb) K6.out 1 rfl; have q2 := bkC (v := .int .i64 p.x) K6.out 2 rfl; have q3 := bkC (v := .int .i64 p.y) K6.out 3 rfl; have BF := Lib.hid (HH.out _ HB6.out))
      refine bodyPost_ret (v := .tuple #[.agg #[.string sa, .string sb, .int .i64 p.x, .int .i64 p.y], .bool true]) (by simp [results, Tryd.results16, go_sem, *]) rfl ?_
      exact ⟨by rw [HE.out]; rfl, (bset (bset (bset (bset BF.out (by omega) 0 _) (by omega) 1 _) (by omega) 2 _) (by omega) 3 _)⟩
    · have HE : Hid (siteR s = none) := by show _ = _; unfold siteR; rw [hab]; simp [hpr, hv]
      have hne : eqS (siteText ⟨ofL a, ofL b, p⟩) s = false := by
        rw [Bool.eq_false_iff]
        intro e
        exact hv ((siteText_of hab hpr).1 (eqS_iff.1 e))
      generalize siteText ⟨ofL a, ofL b, p⟩ = tx at *
      have hq : (tx.toList == s.toList) = false := hne
      have hqn : (tx.toList != s.toList) = true := by unfold bne; rw [hq]; rfl
      clear hne
      clear hpr hab hsa hsb hv
      generalize ofL a = sa at *
      generalize ofL b = sb at *
      go_enter Tryd.func16, Tryd.ntmps16
      go_upto_region 1 with (fail)
      rw [HW0.out]
      obtain ⟨t0, t1, t2, t3⟩ := HD.out _ HB.out
      go_wp2_with fail
      refine (HSP.out _ HB.out).mono ?_
      rintro e w2 ⟨a1, c1, rfl, hb2, hr2⟩
      obtain ⟨_, _, e1, _, _, hcl⟩ := Rd.strs hr2
      injection e1 with e1 _ e3
      subst e1 e3
      obtain ⟨b1, off, ea, hbb, hat⟩ := hcl (by simp)
      subst ea
      have x0 := hat 0 (by simp)
      have x1 := hat 1 (by simp)
      have x2 := hat 2 (by simp)
      simp only [List.getElem_cons_zero, List.getElem_cons_succ, Nat.add_zero] at x0 x1 x2
      have HBX := Lib.hid (HB.out.trans (hb2.mono HB.out.size))
      clear hb2 hr2 hcl hat t0 t1 t2 t3
      go_wp2_with fail
      refine (HRP.out _ HBX.out).mono ?_
      rintro e w3 ⟨rfl, hb3⟩
      have hc0 := (bat hb3 b1 off hbb).trans x0
      have hc1 := (bat hb3 b1 _ hbb).trans x1
      have HB3 := Lib.hid (HBX.out.trans (hb3.mono HBX.out.size))
      have z3 := hb3.size
      clear hb3 x0 x1 x2
      go_upto_region 5 with (fail)
      obtain ⟨W4, hW4, b4, z4, k4⟩ := boxes1 w3 #[.int .i64 p.x, .int .i64 p.y] 34
      rw [hW4]
      clear hW4
      have HB4 := Lib.hid (HB3.out.trans (b4.mono HB3.out.size))
      have HS4 : Hid (∀ W, Below W4.heap.size W4 W → (W.cell? ⟨b1, off, none⟩ = some (.string sa) ∧ W.cell? ⟨b1, off + 1, none⟩ = some (.string sb)) ∧ (W.cell? ⟨w3.heap.size, 0, none⟩ = some (.int .i64 p.x) ∧ W.cell? ⟨w3.heap.size, 1, none⟩ = some (.int .i64 p.y))) := fun W hW => ⟨⟨(bat hW b1 _ (by omega)).trans ((bat b4 b1 _ (by omega)).trans hc0), (bat hW b1 _ (by omega)).trans ((bat b4 b1 _ (by omega)).trans hc1)⟩, bkC (bkB k4 hW (by omega)) 0 rfl, bkC (bkB k4 hW (by omega)) 1 rfl⟩
      clear b4 k4 hc0 hc1
      refine wp_region_ord 9 [(0, true), (1, true), (2, true), (3, true), (4, true), (5, true), (6, true), (7, true), (8, false)] (fun W => (W.cell? ⟨b1, off, none⟩ = some (.string sa) ∧ W.cell? ⟨b1, off + 1, none⟩ = some (.string sb)) ∧ (W.cell? ⟨w3.heap.size, 0, none⟩ = some (.int .i64 p.x) ∧ W.cell? ⟨w3.heap.size, 1, none⟩ = some (.int .i64 p.y))) (by kernel_rfl) (by kernel_rfl) (HS4.out _ (below_drew1 _)) (fun hHeld => ?_)
      refine wpOrd_read (v := ?_) rfl (fun _ _ _ h => h) ?_ ?_
      rotate_left
      · (intro W hSW; (try dsimp only at hSW); (go_simp <;> with_reducible rfl))
      (try simp only [Act.put, List.setIfInBounds_toArray, List.set_cons_zero, List.set_cons_succ])
      refine wpOrd_read (v := ?_) rfl (fun _ _ _ h => h) ?_ ?_
      rotate_left
      · (intro W hSW; (try dsimp only at hSW); (go_simp <;> with_reducible rfl))
      (try simp only [Act.put, List.setIfInBounds_toArray, List.set_cons_zero, List.set_cons_succ])
      refine wpOrd_read (v := ?_) rfl (fun _ _ _ h => h) ?_ ?_
      rotate_left
      · (intro W hSW; (try dsimp only at hSW); (go_simp <;> with_reducible rfl))
      (try simp only [Act.put, List.setIfInBounds_toArray, List.set_cons_zero, List.set_cons_succ])
      refine wpOrd_read (v := ?_) rfl (fun _ _ _ h => h) ?_ ?_
      rotate_left
      · (intro W hSW; (try dsimp only at hSW); (go_simp <;> with_reducible rfl))
      (try simp only [Act.put, List.setIfInBounds_toArray, List.set_cons_zero, List.set_cons_succ])
      refine wpOrd_read (v := ?_) rfl (fun _ _ _ h => h) ?_ ?_
      rotate_left
      · (intro W hSW; (try dsimp only at hSW); (go_simp <;> with_reducible rfl))
      (try simp only [Act.put, List.setIfInBounds_toArray, List.set_cons_zero, List.set_cons_succ])
      refine wpOrd_read (v := ?_) rfl (fun _ _ _ h => h) ?_ ?_
      rotate_left
      · (intro W hSW; (try dsimp only at hSW); (go_simp <;> with_reducible rfl))
      (try simp only [Act.put, List.setIfInBounds_toArray, List.set_cons_zero, List.set_cons_succ])
      refine wpOrd_read (v := ?_) rfl (fun _ _ _ h => h) ?_ ?_
      rotate_left
      · (intro W hSW; (try dsimp only at hSW); (go_simp <;> with_reducible rfl))
      (try simp only [Act.put, List.setIfInBounds_toArray, List.set_cons_zero, List.set_cons_succ])
      refine wpOrd_read (v := ?_) rfl (fun _ _ _ h => h) ?_ ?_
      rotate_left
      · (intro W hSW; (try dsimp only at hSW); (go_simp <;> with_reducible rfl))
      (try simp only [Act.put, List.setIfInBounds_toArray, List.set_cons_zero, List.set_cons_succ])
      have HBD := Lib.hid (HB4.out.trans ((below_drew1 W4).mono HB4.out.size))
      have hzd : W4.heap.size ≤ W4.drew.heap.size := Nat.le_refl _
      have HSD : Hid (∀ W, Below W4.drew.heap.size W4.drew W → (W.cell? ⟨b1, off, none⟩ = some (.string sa) ∧ W.cell? ⟨b1, off + 1, none⟩ = some (.string sb)) ∧ (W.cell? ⟨w3.heap.size, 0, none⟩ = some (.int .i64 p.x) ∧ W.cell? ⟨w3.heap.size, 1, none⟩ = some (.int .i64 p.y))) := fun W hW => HS4.out W ((below_drew1 W4).trans (hW.mono hzd))
      generalize W4.drew = w4 at *
      refine wpOrd_step rfl (fun K hK => ?_)
      go_simp
      refine hK.out _ _ (HSD.out _ (below_alloc w4 _)) ?_
      clear hK K
      (try simp only [Act.put, List.setIfInBounds_toArray, List.set_cons_zero, List.set_cons_succ])
      refine wpOrd_nil ?_
      simp only [List.drop_succ_cons, List.drop_zero]
      go_upto_region 6 with (fail)
      obtain ⟨W5, hW5, b5, z5, k5⟩ := boxes1 w4 #[.string sa, .string sb, .int .i64 p.x, .int .i64 p.y] 36
      rw [hW5]
      clear hW5
      have HB5 := Lib.hid (HBD.out.trans (b5.mono HBD.out.size))
      have K5 := Lib.hid k5
      have zb5 := HBD.out.size
      clear b5 k5
      obtain ⟨t0, t1, t2, t3⟩ := HD.out _ HB5.out
      have gz := bkF (bkB K0.out HB5.out (by omega))
      have q0 := bkC (v := .string sa) K5.out 0 rfl
      have q1 := bkC (v := .string sb) K5.out 1 rfl
      have q2 := bkC (v := .int .i64 p.x) K5.out 2 rfl
      have q3 := bkC (v := .int .i64 p.y) K5.out 3 rfl
      have BF := Lib.hid (HH.out _ HB5.out)
      go_wp2_with (go_at_call 37; with_reducible refine (HTX.out _ HB5.out).mono ?_; rintro e w6 ⟨rfl, hb6⟩; clear t0 t1 t2 t3 gz q0 q1 q2 q3 BF; have HB6 := Lib.hid (HB5.out.trans (hb6.mono HB5.out.size)); have K6 := Lib.hid (bkB K5.out hb6 (by omega)); clear hb6; obtain ⟨t0, t1, t2, t3⟩ := HD.out _ HB6.out; have gz := bkF (bkB K0.out HB6.out (by omega)); have q0 := bkC (v := .string sa) K6.out 0 rfl; have q1 := bkC (v := .string sb) K6.out 1 rfl; have q2 := bkC (v := .int .i64 p.x) K6.out 2 rfl; have q3 := bkC (v := .int .i64 p.y) K6.out 3 rfl; have BF := Lib.hid (HH.out _ HB6.out))
      refine bodyPost_ret (v := .tuple #[.agg #[.string ⟨#[]⟩, .string ⟨#[]⟩, .int .i64 0, .int .i64 0], .bool false]) (by simp [results, Tryd.results16, go_sem, *]) rfl ?_
      exact ⟨by rw [HE.out]; rfl, (bset (bset (bset (bset BF.out (by omega) 0 _) (by omega) 1 _) (by omega) 2 _) (by omega) 3 _)⟩
set_option maxHeartbeats 8000000 in
set_option maxRecDepth 100000 in
theorem sReadSite_any (s : ByteArray) (hs : s.size ≤ 1048576) (w : World) : Calls Tryd.prog 15 #[.string s] w fun e w' => e = .returned (.tuple #[.agg #[.string ((siteR s).getD zSite).name, .string ((siteR s).getD zSite).holder, .int .i64 ((siteR s).getD zSite).place.x, .int .i64 ((siteR s).getD zSite).place.y], .bool (siteR s).isSome]) ∧ Below w.heap.size w w' := by
  obtain ⟨W0, hW0, b0, z0, k0⟩ := boxes1 w #[.string ⟨#[]⟩, .string ⟨#[]⟩, .int .i64 0, .int .i64 0] 36
  have HW0 := Lib.hid hW0
  clear hW0
  have B0 := Lib.hid b0
  clear b0
  have K0 := Lib.hid k0
  clear k0
  have HD : Hid (∀ W : World, Below W0.heap.size W0 W → (W.cell? ⟨w.heap.size, 0, none⟩ = some (.string ⟨#[]⟩) ∧ W.cell? ⟨w.heap.size, 1, none⟩ = some (.string ⟨#[]⟩) ∧ W.cell? ⟨w.heap.size, 2, none⟩ = some (.int .i64 0) ∧ W.cell? ⟨w.heap.size, 3, none⟩ = some (.int .i64 0))) := fun W hW => ⟨bkC (bkB K0.out hW (by omega)) 0 rfl, bkC (bkB K0.out hW (by omega)) 1 rfl, bkC (bkB K0.out hW (by omega)) 2 rfl, bkC (bkB K0.out hW (by omega)) 3 rfl⟩
  have HB : Hid (Below W0.heap.size W0 W0) := Below.refl _ _
  have HH : Hid (∀ W : World, Below W0.heap.size W0 W → Below w.heap.size w W) := fun W hW => B0.out.trans (hW.mono (by omega))
  have HSP : Hid (∀ W, Below W0.heap.size W0 W → Calls Tryd.prog 21 #[.string s, .int .u8 32] W fun e w' => ∃ a cc, e = .returned (.slice a (wordsB 32 s).length cc) ∧ Below W.heap.size W w' ∧ Rd w'.heap.size w' (strsT (wordsB 32 s)) (.slice a (wordsB 32 s).length cc)) := fun W hW => l01Split_any s 32 32 rfl hs W
  have hsz : ∀ p ∈ wordsB 32 s, p.size ≤ 1048576 := fun p hp => Nat.le_trans (words_size _ _ _ hp) hs
  have hwl : (wordsB 32 s).length = (splitC 32 (bl s)).length := List.length_map _
  by_cases h2 : (splitC 32 (bl s)).length = 3
  case neg =>
    have HE : Hid (siteR s = none) := by
      show _ = _
      unfold siteR
      split
      · rename_i a b c e; rw [e] at h2; exact absurd rfl h2
      · rfl
    rw [← hwl] at h2
    generalize wordsB 32 s = ws at *
    have hq : ((ws.length : Int) != 3) = true := by rw [bne_iff_ne]; omega
    have hq2 : ((ws.length : Int) == 3) = false := by rw [beq_eq_false_iff_ne]; omega
    clear hwl h2 hsz
    go_enter Tryd.func15, Tryd.ntmps15
    go_upto_region 1 with (fail)
    rw [HW0.out]
    obtain ⟨t0, t1, t2, t3⟩ := HD.out _ HB.out
    go_wp2_with (go_at_call 21; with_reducible refine (HSP.out _ HB.out).mono ?_; rintro e w2 ⟨a, c, rfl, hb2, hr2⟩; clear hr2; have HB2 := Lib.hid (HB.out.trans (hb2.mono HB.out.size)); clear hb2 t0 t1 t2 t3; obtain ⟨t0, t1, t2, t3⟩ := HD.out _ HB2.out; have gz := bkF (bkB K0.out HB2.out (by omega)); have BF := Lib.hid (HH.out _ HB2.out))
    refine bodyPost_ret (v := .tuple #[.agg #[.string ⟨#[]⟩, .string ⟨#[]⟩, .int .i64 0, .int .i64 0], .bool false]) (by simp [results, Tryd.results15, go_sem, *]) rfl ?_
    exact ⟨by rw [HE.out]; rfl, (bset (bset (bset (bset BF.out (by omega) 0 _) (by omega) 1 _) (by omega) 2 _) (by omega) 3 _)⟩
  obtain ⟨a, b, n, hab⟩ : ∃ a b n, splitC 32 (bl s) = [a, b, n] := by
    match h : splitC 32 (bl s), h2 with
    | [a, b, n], _ => exact ⟨a, b, n, rfl⟩
  have hwd : wordsB 32 s = [ofL a, ofL b, ofL n] := words_of _ _ _ hab
  rw [hwd] at HSP hsz
  have hsa : (ofL a).size ≤ 1048576 := hsz (ofL a) (by simp)
  have hsb : (ofL b).size ≤ 1048576 := hsz (ofL b) (by simp)
  have hsn : (ofL n).size ≤ 1048576 := hsz (ofL n) (by simp)
  obtain ⟨p, hp⟩ : ∃ p, p = (pointR n).getD ⟨0, 0⟩ := ⟨_, rfl⟩
  have HRP : Hid (∀ W, Below W0.heap.size W0 W → Calls Tryd.prog 34 #[.string (ofL n)] W fun e w' => e = .returned (.tuple #[.agg #[.int .i64 p.x, .int .i64 p.y], .bool (pointR n).isSome]) ∧ Below W.heap.size W w') := fun W hW => by
    have := l03Read_any (ofL n) (by omega) W
    rw [bl_ofL, ← pointR_eq] at this
    rw [hp]
    exact this
  have hIp : I64 p.x ∧ I64 p.y := by
    rw [hp]
    cases hpr : (pointR n) with
    | none => exact ⟨by constructor <;> decide, by constructor <;> decide⟩
    | some q =>
      have hb := pointR_valid hpr
      unfold pointB inB at hb
      simp only [Bool.and_eq_true, decide_eq_true_eq] at hb
      show I64 q.x ∧ I64 q.y
      constructor <;> constructor <;> omega
  clear hIp hwl h2 hwd hsz hsn
  cases hpr : (pointR n) with
  | none =>
    have HE : Hid (siteR s = none) := by show _ = _; unfold siteR; rw [hab]; simp [hpr]
    rw [hpr] at HRP
    clear hpr hp hab hsa hsb
    generalize ofL a = sa at *
    generalize ofL b = sb at *
    go_enter Tryd.func15, Tryd.ntmps15
    go_upto_region 1 with (fail)
    rw [HW0.out]
    obtain ⟨t0, t1, t2, t3⟩ := HD.out _ HB.out
    go_wp2_with fail
    refine (HSP.out _ HB.out).mono ?_
    rintro e w2 ⟨a1, c1, rfl, hb2, hr2⟩
    obtain ⟨_, _, e1, _, _, hcl⟩ := Rd.strs hr2
    injection e1 with e1 _ e3
    subst e1 e3
    obtain ⟨b1, off, ea, hbb, hat⟩ := hcl (by simp)
    subst ea
    have x0 := hat 0 (by simp)
    have x1 := hat 1 (by simp)
    have x2 := hat 2 (by simp)
    simp only [List.getElem_cons_zero, List.getElem_cons_succ, Nat.add_zero] at x0 x1 x2
    have HBX := Lib.hid (HB.out.trans (hb2.mono HB.out.size))
    clear hb2 hr2 hcl hat t0 t1 t2 t3
    go_wp2_with fail
    refine (HRP.out _ HBX.out).mono ?_
    rintro e w3 ⟨rfl, hb3⟩
    have hc0 := (bat hb3 b1 off hbb).trans x0
    have hc1 := (bat hb3 b1 _ hbb).trans x1
    have HB3 := Lib.hid (HBX.out.trans (hb3.mono HBX.out.size))
    have z3 := hb3.size
    clear hb3 x0 x1 x2
    go_upto_region 5 with (fail)
    obtain ⟨W4, hW4, b4, z4, k4⟩ := boxes1 w3 #[.int .i64 p.x, .int .i64 p.y] 34
    rw [hW4]
    clear hW4
    have HB4 := Lib.hid (HB3.out.trans (b4.mono HB3.out.size))
    have HS4 : Hid (∀ W, Below W4.heap.size W4 W → (W.cell? ⟨b1, off, none⟩ = some (.string sa) ∧ W.cell? ⟨b1, off + 1, none⟩ = some (.string sb)) ∧ (W.cell? ⟨w3.heap.size, 0, none⟩ = some (.int .i64 p.x) ∧ W.cell? ⟨w3.heap.size, 1, none⟩ = some (.int .i64 p.y))) := fun W hW => ⟨⟨(bat hW b1 _ (by omega)).trans ((bat b4 b1 _ (by omega)).trans hc0), (bat hW b1 _ (by omega)).trans ((bat b4 b1 _ (by omega)).trans hc1)⟩, bkC (bkB k4 hW (by omega)) 0 rfl, bkC (bkB k4 hW (by omega)) 1 rfl⟩
    clear b4 k4 hc0 hc1
    refine wp_region_ord 9 [(0, true), (1, true), (2, true), (3, true), (4, true), (5, true), (6, true), (7, true), (8, false)] (fun W => (W.cell? ⟨b1, off, none⟩ = some (.string sa) ∧ W.cell? ⟨b1, off + 1, none⟩ = some (.string sb)) ∧ (W.cell? ⟨w3.heap.size, 0, none⟩ = some (.int .i64 p.x) ∧ W.cell? ⟨w3.heap.size, 1, none⟩ = some (.int .i64 p.y))) (by kernel_rfl) (by kernel_rfl) (HS4.out _ (below_drew1 _)) (fun hHeld => ?_)
    refine wpOrd_read (v := ?_) rfl (fun _ _ _ h => h) ?_ ?_
    rotate_left
    · (intro W hSW; (try dsimp only at hSW); (go_simp <;> with_reducible rfl))
    (try simp only [Act.put, List.setIfInBounds_toArray, List.set_cons_zero, List.set_cons_succ])
    refine wpOrd_read (v := ?_) rfl (fun _ _ _ h => h) ?_ ?_
    rotate_left
    · (intro W hSW; (try dsimp only at hSW); (go_simp <;> with_reducible rfl))
    (try simp only [Act.put, List.setIfInBounds_toArray, List.set_cons_zero, List.set_cons_succ])
    refine wpOrd_read (v := ?_) rfl (fun _ _ _ h => h) ?_ ?_
    rotate_left
    · (intro W hSW; (try dsimp only at hSW); (go_simp <;> with_reducible rfl))
    (try simp only [Act.put, List.setIfInBounds_toArray, List.set_cons_zero, List.set_cons_succ])
    refine wpOrd_read (v := ?_) rfl (fun _ _ _ h => h) ?_ ?_
    rotate_left
    · (intro W hSW; (try dsimp only at hSW); (go_simp <;> with_reducible rfl))
    (try simp only [Act.put, List.setIfInBounds_toArray, List.set_cons_zero, List.set_cons_succ])
    refine wpOrd_read (v := ?_) rfl (fun _ _ _ h => h) ?_ ?_
    rotate_left
    · (intro W hSW; (try dsimp only at hSW); (go_simp <;> with_reducible rfl))
    (try simp only [Act.put, List.setIfInBounds_toArray, List.set_cons_zero, List.set_cons_succ])
    refine wpOrd_read (v := ?_) rfl (fun _ _ _ h => h) ?_ ?_
    rotate_left
    · (intro W hSW; (try dsimp only at hSW); (go_simp <;> with_reducible rfl))
    (try simp only [Act.put, List.setIfInBounds_toArray, List.set_cons_zero, List.set_cons_succ])
    refine wpOrd_read (v := ?_) rfl (fun _ _ _ h => h) ?_ ?_
    rotate_left
    · (intro W hSW; (try dsimp only at hSW); (go_simp <;> with_reducible rfl))
    (try simp only [Act.put, List.setIfInBounds_toArray, List.set_cons_zero, List.set_cons_succ])
    refine wpOrd_read (v := ?_) rfl (fun _ _ _ h => h) ?_ ?_
    rotate_left
    · (intro W hSW; (try dsimp only at hSW); (go_simp <;> with_reducible rfl))
    (try simp only [Act.put, List.setIfInBounds_toArray, List.set_cons_zero, List.set_cons_succ])
    have HBD := Lib.hid (HB4.out.trans ((below_drew1 W4).mono HB4.out.size))
    have hzd : W4.heap.size ≤ W4.drew.heap.size := Nat.le_refl _
    have HSD : Hid (∀ W, Below W4.drew.heap.size W4.drew W → (W.cell? ⟨b1, off, none⟩ = some (.string sa) ∧ W.cell? ⟨b1, off + 1, none⟩ = some (.string sb)) ∧ (W.cell? ⟨w3.heap.size, 0, none⟩ = some (.int .i64 p.x) ∧ W.cell? ⟨w3.heap.size, 1, none⟩ = some (.int .i64 p.y))) := fun W hW => HS4.out W ((below_drew1 W4).trans (hW.mono hzd))
    generalize W4.drew = w4 at *
    refine wpOrd_step rfl (fun K hK => ?_)
    go_simp
    refine hK.out _ _ (HSD.out _ (below_alloc w4 _)) ?_
    clear hK K
    (try simp only [Act.put, List.setIfInBounds_toArray, List.set_cons_zero, List.set_cons_succ])
    refine wpOrd_nil ?_
    simp only [List.drop_succ_cons, List.drop_zero]
    go_upto_region 6 with (fail)
    obtain ⟨W5, hW5, b5, z5, k5⟩ := boxes1 w4 #[.string sa, .string sb, .int .i64 p.x, .int .i64 p.y] 36
    rw [hW5]
    clear hW5
    have HB5 := Lib.hid (HBD.out.trans (b5.mono HBD.out.size))
    have K5 := Lib.hid k5
    have zb5 := HBD.out.size
    clear b5 k5
    obtain ⟨t0, t1, t2, t3⟩ := HD.out _ HB5.out
    have gz := bkF (bkB K0.out HB5.out (by omega))
    have q0 := bkC (v := .string sa) K5.out 0 rfl
    have q1 := bkC (v := .string sb) K5.out 1 rfl
    have q2 := bkC (v := .int .i64 p.x) K5.out 2 rfl
    have q3 := bkC (v := .int .i64 p.y) K5.out 3 rfl
    have BF := Lib.hid (HH.out _ HB5.out)
    go_wp2_with fail
    refine bodyPost_ret (v := .tuple #[.agg #[.string ⟨#[]⟩, .string ⟨#[]⟩, .int .i64 0, .int .i64 0], .bool false]) (by simp [results, Tryd.results15, go_sem, *]) rfl ?_
    exact ⟨by rw [HE.out]; rfl, (bset (bset (bset (bset BF.out (by omega) 0 _) (by omega) 1 _) (by omega) 2 _) (by omega) 3 _)⟩
  | some p' =>
    have hpp : p = p' := by rw [hp, hpr]; rfl
    subst hpp
    rw [hpr] at HRP
    clear hp
    by_cases hv : siteB ⟨ofL a, ofL b, p⟩ = true
    · have HE : Hid (siteR s = some ⟨ofL a, ofL b, p⟩) := by show _ = _; unfold siteR; rw [hab]; simp [hpr, hv]
      have HV : Hid (∀ (W : World) {bb : Nat}, W.cell? ⟨bb, 0, none⟩ = some (.string (ofL a)) → W.cell? ⟨bb, 1, none⟩ = some (.string (ofL b)) → W.cell? ⟨bb, 2, none⟩ = some (.int .i64 p.x) → W.cell? ⟨bb, 3, none⟩ = some (.int .i64 p.y) → Calls Tryd.prog 35 #[.pointer (some ⟨bb, 0, none⟩)] W fun e w' => e = .returned (.bool true) ∧ Below W.heap.size W w') := fun W bb c0 c1 c2 c3 => by
        have := l14Site_any ⟨ofL a, ofL b, p⟩ bb 0 W c0 c1 c2 c3 (Nat.le_trans hsa (by unfold maxLen; omega)) (Nat.le_trans hsb (by unfold maxLen; omega))
        rw [hv] at this
        exact this
      clear hpr hab hsa hsb hv
      generalize ofL a = sa at *
      generalize ofL b = sb at *
      go_enter Tryd.func15, Tryd.ntmps15
      go_upto_region 1 with (fail)
      rw [HW0.out]
      obtain ⟨t0, t1, t2, t3⟩ := HD.out _ HB.out
      go_wp2_with fail
      refine (HSP.out _ HB.out).mono ?_
      rintro e w2 ⟨a1, c1, rfl, hb2, hr2⟩
      obtain ⟨_, _, e1, _, _, hcl⟩ := Rd.strs hr2
      injection e1 with e1 _ e3
      subst e1 e3
      obtain ⟨b1, off, ea, hbb, hat⟩ := hcl (by simp)
      subst ea
      have x0 := hat 0 (by simp)
      have x1 := hat 1 (by simp)
      have x2 := hat 2 (by simp)
      simp only [List.getElem_cons_zero, List.getElem_cons_succ, Nat.add_zero] at x0 x1 x2
      have HBX := Lib.hid (HB.out.trans (hb2.mono HB.out.size))
      clear hb2 hr2 hcl hat t0 t1 t2 t3
      go_wp2_with fail
      refine (HRP.out _ HBX.out).mono ?_
      rintro e w3 ⟨rfl, hb3⟩
      have hc0 := (bat hb3 b1 off hbb).trans x0
      have hc1 := (bat hb3 b1 _ hbb).trans x1
      have HB3 := Lib.hid (HBX.out.trans (hb3.mono HBX.out.size))
      have z3 := hb3.size
      clear hb3 x0 x1 x2
      go_upto_region 5 with (fail)
      obtain ⟨W4, hW4, b4, z4, k4⟩ := boxes1 w3 #[.int .i64 p.x, .int .i64 p.y] 34
      rw [hW4]
      clear hW4
      have HB4 := Lib.hid (HB3.out.trans (b4.mono HB3.out.size))
      have HS4 : Hid (∀ W, Below W4.heap.size W4 W → (W.cell? ⟨b1, off, none⟩ = some (.string sa) ∧ W.cell? ⟨b1, off + 1, none⟩ = some (.string sb)) ∧ (W.cell? ⟨w3.heap.size, 0, none⟩ = some (.int .i64 p.x) ∧ W.cell? ⟨w3.heap.size, 1, none⟩ = some (.int .i64 p.y))) := fun W hW => ⟨⟨(bat hW b1 _ (by omega)).trans ((bat b4 b1 _ (by omega)).trans hc0), (bat hW b1 _ (by omega)).trans ((bat b4 b1 _ (by omega)).trans hc1)⟩, bkC (bkB k4 hW (by omega)) 0 rfl, bkC (bkB k4 hW (by omega)) 1 rfl⟩
      clear b4 k4 hc0 hc1
      refine wp_region_ord 9 [(0, true), (1, true), (2, true), (3, true), (4, true), (5, true), (6, true), (7, true), (8, false)] (fun W => (W.cell? ⟨b1, off, none⟩ = some (.string sa) ∧ W.cell? ⟨b1, off + 1, none⟩ = some (.string sb)) ∧ (W.cell? ⟨w3.heap.size, 0, none⟩ = some (.int .i64 p.x) ∧ W.cell? ⟨w3.heap.size, 1, none⟩ = some (.int .i64 p.y))) (by kernel_rfl) (by kernel_rfl) (HS4.out _ (below_drew1 _)) (fun hHeld => ?_)
      refine wpOrd_read (v := ?_) rfl (fun _ _ _ h => h) ?_ ?_
      rotate_left
      · (intro W hSW; (try dsimp only at hSW); (go_simp <;> with_reducible rfl))
      (try simp only [Act.put, List.setIfInBounds_toArray, List.set_cons_zero, List.set_cons_succ])
      refine wpOrd_read (v := ?_) rfl (fun _ _ _ h => h) ?_ ?_
      rotate_left
      · (intro W hSW; (try dsimp only at hSW); (go_simp <;> with_reducible rfl))
      (try simp only [Act.put, List.setIfInBounds_toArray, List.set_cons_zero, List.set_cons_succ])
      refine wpOrd_read (v := ?_) rfl (fun _ _ _ h => h) ?_ ?_
      rotate_left
      · (intro W hSW; (try dsimp only at hSW); (go_simp <;> with_reducible rfl))
      (try simp only [Act.put, List.setIfInBounds_toArray, List.set_cons_zero, List.set_cons_succ])
      refine wpOrd_read (v := ?_) rfl (fun _ _ _ h => h) ?_ ?_
      rotate_left
      · (intro W hSW; (try dsimp only at hSW); (go_simp <;> with_reducible rfl))
      (try simp only [Act.put, List.setIfInBounds_toArray, List.set_cons_zero, List.set_cons_succ])
      refine wpOrd_read (v := ?_) rfl (fun _ _ _ h => h) ?_ ?_
      rotate_left
      · (intro W hSW; (try dsimp only at hSW); (go_simp <;> with_reducible rfl))
      (try simp only [Act.put, List.setIfInBounds_toArray, List.set_cons_zero, List.set_cons_succ])
      refine wpOrd_read (v := ?_) rfl (fun _ _ _ h => h) ?_ ?_
      rotate_left
      · (intro W hSW; (try dsimp only at hSW); (go_simp <;> with_reducible rfl))
      (try simp only [Act.put, List.setIfInBounds_toArray, List.set_cons_zero, List.set_cons_succ])
      refine wpOrd_read (v := ?_) rfl (fun _ _ _ h => h) ?_ ?_
      rotate_left
      · (intro W hSW; (try dsimp only at hSW); (go_simp <;> with_reducible rfl))
      (try simp only [Act.put, List.setIfInBounds_toArray, List.set_cons_zero, List.set_cons_succ])
      refine wpOrd_read (v := ?_) rfl (fun _ _ _ h => h) ?_ ?_
      rotate_left
      · (intro W hSW; (try dsimp only at hSW); (go_simp <;> with_reducible rfl))
      (try simp only [Act.put, List.setIfInBounds_toArray, List.set_cons_zero, List.set_cons_succ])
      have HBD := Lib.hid (HB4.out.trans ((below_drew1 W4).mono HB4.out.size))
      have hzd : W4.heap.size ≤ W4.drew.heap.size := Nat.le_refl _
      have HSD : Hid (∀ W, Below W4.drew.heap.size W4.drew W → (W.cell? ⟨b1, off, none⟩ = some (.string sa) ∧ W.cell? ⟨b1, off + 1, none⟩ = some (.string sb)) ∧ (W.cell? ⟨w3.heap.size, 0, none⟩ = some (.int .i64 p.x) ∧ W.cell? ⟨w3.heap.size, 1, none⟩ = some (.int .i64 p.y))) := fun W hW => HS4.out W ((below_drew1 W4).trans (hW.mono hzd))
      generalize W4.drew = w4 at *
      refine wpOrd_step rfl (fun K hK => ?_)
      go_simp
      refine hK.out _ _ (HSD.out _ (below_alloc w4 _)) ?_
      clear hK K
      (try simp only [Act.put, List.setIfInBounds_toArray, List.set_cons_zero, List.set_cons_succ])
      refine wpOrd_nil ?_
      simp only [List.drop_succ_cons, List.drop_zero]
      go_upto_region 6 with (fail)
      obtain ⟨W5, hW5, b5, z5, k5⟩ := boxes1 w4 #[.string sa, .string sb, .int .i64 p.x, .int .i64 p.y] 36
      rw [hW5]
      clear hW5
      have HB5 := Lib.hid (HBD.out.trans (b5.mono HBD.out.size))
      have K5 := Lib.hid k5
      have zb5 := HBD.out.size
      clear b5 k5
      obtain ⟨t0, t1, t2, t3⟩ := HD.out _ HB5.out
      have gz := bkF (bkB K0.out HB5.out (by omega))
      have q0 := bkC (v := .string sa) K5.out 0 rfl
      have q1 := bkC (v := .string sb) K5.out 1 rfl
      have q2 := bkC (v := .int .i64 p.x) K5.out 2 rfl
      have q3 := bkC (v := .int .i64 p.y) K5.out 3 rfl
      have BF := Lib.hid (HH.out _ HB5.out)
      go_wp2_with (go_at_call 35; with_reducible refine (HV.out _ q0 q1 q2 q3).mono ?_; rintro e w6 ⟨rfl, hb6⟩; clear t0 t1 t2 t3 gz q0 q1 q2 q3 BF; have HB6 := Lib.hid (HB5.out.trans (hb6.mono HB5.out.size)); have K6 := Lib.hid (bkB K5.out hb6 (by omega)); clear hb6; obtain ⟨t0, t1, t2, t3⟩ := HD.out _ HB6.out; have gz := bkF (bkB K0.out HB6.out (by omega)); have q0 := bkC (v := .string sa) K6.out 0 rfl; have q1 := bkC (v := .string sb) K6.out 1 rfl; have q2 := bkC (v := .int .i64 p.x) K6.out 2 rfl; have q3 := bkC (v := .int .i64 p.y) K6.out 3 rfl; have BF := Lib.hid (HH.out _ HB6.out))
      refine bodyPost_ret (v := .tuple #[.agg #[.string sa, .string sb, .int .i64 p.x, .int .i64 p.y], .bool true]) (by simp [results, Tryd.results15, go_sem, *]) rfl ?_
      exact ⟨by rw [HE.out]; rfl, (bset (bset (bset (bset BF.out (by omega) 0 _) (by omega) 1 _) (by omega) 2 _) (by omega) 3 _)⟩
    · have HE : Hid (siteR s = none) := by show _ = _; unfold siteR; rw [hab]; simp [hpr, hv]
      have HV : Hid (∀ (W : World) {bb : Nat}, W.cell? ⟨bb, 0, none⟩ = some (.string (ofL a)) → W.cell? ⟨bb, 1, none⟩ = some (.string (ofL b)) → W.cell? ⟨bb, 2, none⟩ = some (.int .i64 p.x) → W.cell? ⟨bb, 3, none⟩ = some (.int .i64 p.y) → Calls Tryd.prog 35 #[.pointer (some ⟨bb, 0, none⟩)] W fun e w' => e = .returned (.bool false) ∧ Below W.heap.size W w') := fun W bb c0 c1 c2 c3 => by
        have := l14Site_any ⟨ofL a, ofL b, p⟩ bb 0 W c0 c1 c2 c3 (Nat.le_trans hsa (by unfold maxLen; omega)) (Nat.le_trans hsb (by unfold maxLen; omega))
        rw [Bool.eq_false_iff.2 hv] at this
        exact this
      clear hpr hab hsa hsb hv
      generalize ofL a = sa at *
      generalize ofL b = sb at *
      go_enter Tryd.func15, Tryd.ntmps15
      go_upto_region 1 with (fail)
      rw [HW0.out]
      obtain ⟨t0, t1, t2, t3⟩ := HD.out _ HB.out
      go_wp2_with fail
      refine (HSP.out _ HB.out).mono ?_
      rintro e w2 ⟨a1, c1, rfl, hb2, hr2⟩
      obtain ⟨_, _, e1, _, _, hcl⟩ := Rd.strs hr2
      injection e1 with e1 _ e3
      subst e1 e3
      obtain ⟨b1, off, ea, hbb, hat⟩ := hcl (by simp)
      subst ea
      have x0 := hat 0 (by simp)
      have x1 := hat 1 (by simp)
      have x2 := hat 2 (by simp)
      simp only [List.getElem_cons_zero, List.getElem_cons_succ, Nat.add_zero] at x0 x1 x2
      have HBX := Lib.hid (HB.out.trans (hb2.mono HB.out.size))
      clear hb2 hr2 hcl hat t0 t1 t2 t3
      go_wp2_with fail
      refine (HRP.out _ HBX.out).mono ?_
      rintro e w3 ⟨rfl, hb3⟩
      have hc0 := (bat hb3 b1 off hbb).trans x0
      have hc1 := (bat hb3 b1 _ hbb).trans x1
      have HB3 := Lib.hid (HBX.out.trans (hb3.mono HBX.out.size))
      have z3 := hb3.size
      clear hb3 x0 x1 x2
      go_upto_region 5 with (fail)
      obtain ⟨W4, hW4, b4, z4, k4⟩ := boxes1 w3 #[.int .i64 p.x, .int .i64 p.y] 34
      rw [hW4]
      clear hW4
      have HB4 := Lib.hid (HB3.out.trans (b4.mono HB3.out.size))
      have HS4 : Hid (∀ W, Below W4.heap.size W4 W → (W.cell? ⟨b1, off, none⟩ = some (.string sa) ∧ W.cell? ⟨b1, off + 1, none⟩ = some (.string sb)) ∧ (W.cell? ⟨w3.heap.size, 0, none⟩ = some (.int .i64 p.x) ∧ W.cell? ⟨w3.heap.size, 1, none⟩ = some (.int .i64 p.y))) := fun W hW => ⟨⟨(bat hW b1 _ (by omega)).trans ((bat b4 b1 _ (by omega)).trans hc0), (bat hW b1 _ (by omega)).trans ((bat b4 b1 _ (by omega)).trans hc1)⟩, bkC (bkB k4 hW (by omega)) 0 rfl, bkC (bkB k4 hW (by omega)) 1 rfl⟩
      clear b4 k4 hc0 hc1
      refine wp_region_ord 9 [(0, true), (1, true), (2, true), (3, true), (4, true), (5, true), (6, true), (7, true), (8, false)] (fun W => (W.cell? ⟨b1, off, none⟩ = some (.string sa) ∧ W.cell? ⟨b1, off + 1, none⟩ = some (.string sb)) ∧ (W.cell? ⟨w3.heap.size, 0, none⟩ = some (.int .i64 p.x) ∧ W.cell? ⟨w3.heap.size, 1, none⟩ = some (.int .i64 p.y))) (by kernel_rfl) (by kernel_rfl) (HS4.out _ (below_drew1 _)) (fun hHeld => ?_)
      refine wpOrd_read (v := ?_) rfl (fun _ _ _ h => h) ?_ ?_
      rotate_left
      · (intro W hSW; (try dsimp only at hSW); (go_simp <;> with_reducible rfl))
      (try simp only [Act.put, List.setIfInBounds_toArray, List.set_cons_zero, List.set_cons_succ])
      refine wpOrd_read (v := ?_) rfl (fun _ _ _ h => h) ?_ ?_
      rotate_left
      · (intro W hSW; (try dsimp only at hSW); (go_simp <;> with_reducible rfl))
      (try simp only [Act.put, List.setIfInBounds_toArray, List.set_cons_zero, List.set_cons_succ])
      refine wpOrd_read (v := ?_) rfl (fun _ _ _ h => h) ?_ ?_
      rotate_left
      · (intro W hSW; (try dsimp only at hSW); (go_simp <;> with_reducible rfl))
      (try simp only [Act.put, List.setIfInBounds_toArray, List.set_cons_zero, List.set_cons_succ])
      refine wpOrd_read (v := ?_) rfl (fun _ _ _ h => h) ?_ ?_
      rotate_left
      · (intro W hSW; (try dsimp only at hSW); (go_simp <;> with_reducible rfl))
      (try simp only [Act.put, List.setIfInBounds_toArray, List.set_cons_zero, List.set_cons_succ])
      refine wpOrd_read (v := ?_) rfl (fun _ _ _ h => h) ?_ ?_
      rotate_left
      · (intro W hSW; (try dsimp only at hSW); (go_simp <;> with_reducible rfl))
      (try simp only [Act.put, List.setIfInBounds_toArray, List.set_cons_zero, List.set_cons_succ])
      refine wpOrd_read (v := ?_) rfl (fun _ _ _ h => h) ?_ ?_
      rotate_left
      · (intro W hSW; (try dsimp only at hSW); (go_simp <;> with_reducible rfl))
      (try simp only [Act.put, List.setIfInBounds_toArray, List.set_cons_zero, List.set_cons_succ])
      refine wpOrd_read (v := ?_) rfl (fun _ _ _ h => h) ?_ ?_
      rotate_left
      · (intro W hSW; (try dsimp only at hSW); (go_simp <;> with_reducible rfl))
      (try simp only [Act.put, List.setIfInBounds_toArray, List.set_cons_zero, List.set_cons_succ])
      refine wpOrd_read (v := ?_) rfl (fun _ _ _ h => h) ?_ ?_
      rotate_left
      · (intro W hSW; (try dsimp only at hSW); (go_simp <;> with_reducible rfl))
      (try simp only [Act.put, List.setIfInBounds_toArray, List.set_cons_zero, List.set_cons_succ])
      have HBD := Lib.hid (HB4.out.trans ((below_drew1 W4).mono HB4.out.size))
      have hzd : W4.heap.size ≤ W4.drew.heap.size := Nat.le_refl _
      have HSD : Hid (∀ W, Below W4.drew.heap.size W4.drew W → (W.cell? ⟨b1, off, none⟩ = some (.string sa) ∧ W.cell? ⟨b1, off + 1, none⟩ = some (.string sb)) ∧ (W.cell? ⟨w3.heap.size, 0, none⟩ = some (.int .i64 p.x) ∧ W.cell? ⟨w3.heap.size, 1, none⟩ = some (.int .i64 p.y))) := fun W hW => HS4.out W ((below_drew1 W4).trans (hW.mono hzd))
      generalize W4.drew = w4 at *
      refine wpOrd_step rfl (fun K hK => ?_)
      go_simp
      refine hK.out _ _ (HSD.out _ (below_alloc w4 _)) ?_
      clear hK K
      (try simp only [Act.put, List.setIfInBounds_toArray, List.set_cons_zero, List.set_cons_succ])
      refine wpOrd_nil ?_
      simp only [List.drop_succ_cons, List.drop_zero]
      go_upto_region 6 with (fail)
      obtain ⟨W5, hW5, b5, z5, k5⟩ := boxes1 w4 #[.string sa, .string sb, .int .i64 p.x, .int .i64 p.y] 36
      rw [hW5]
      clear hW5
      have HB5 := Lib.hid (HBD.out.trans (b5.mono HBD.out.size))
      have K5 := Lib.hid k5
      have zb5 := HBD.out.size
      clear b5 k5
      obtain ⟨t0, t1, t2, t3⟩ := HD.out _ HB5.out
      have gz := bkF (bkB K0.out HB5.out (by omega))
      have q0 := bkC (v := .string sa) K5.out 0 rfl
      have q1 := bkC (v := .string sb) K5.out 1 rfl
      have q2 := bkC (v := .int .i64 p.x) K5.out 2 rfl
      have q3 := bkC (v := .int .i64 p.y) K5.out 3 rfl
      have BF := Lib.hid (HH.out _ HB5.out)
      go_wp2_with (go_at_call 35; with_reducible refine (HV.out _ q0 q1 q2 q3).mono ?_; rintro e w6 ⟨rfl, hb6⟩; clear t0 t1 t2 t3 gz q0 q1 q2 q3 BF; have HB6 := Lib.hid (HB5.out.trans (hb6.mono HB5.out.size)); have K6 := Lib.hid (bkB K5.out hb6 (by omega)); clear hb6; obtain ⟨t0, t1, t2, t3⟩ := HD.out _ HB6.out; have gz := bkF (bkB K0.out HB6.out (by omega)); have q0 := bkC (v := .string sa) K6.out 0 rfl; have q1 := bkC (v := .string sb) K6.out 1 rfl; have q2 := bkC (v := .int .i64 p.x) K6.out 2 rfl; have q3 := bkC (v := .int .i64 p.y) K6.out 3 rfl; have BF := Lib.hid (HH.out _ HB6.out))
      refine bodyPost_ret (v := .tuple #[.agg #[.string ⟨#[]⟩, .string ⟨#[]⟩, .int .i64 0, .int .i64 0], .bool false]) (by simp [results, Tryd.results15, go_sem, *]) rfl ?_
      exact ⟨by rw [HE.out]; rfl, (bset (bset (bset (bset BF.out (by omega) 0 _) (by omega) 1 _) (by omega) 2 _) (by omega) 3 _)⟩
end Go.Proofs.YtjgolknofmnppaaDoor
