/- Contract: a copy of a network, for the program. Conditions: bounded lengths. -/
import Derived.Test.YtppgcgopnchbcaaGreatCloneT
import Derived.Test.YtppgcgopnchbcaaGreatClone
import Derived.Test.YtppgcgopnchbcaaGreatOrd
import Derived.Test.YtppgcgopnchbcaaGreatHNetwork
namespace Go.Proofs.YtppgcgopnchbcaaGreat
open Go.RowKit
set_option linter.unusedVariables false

/-- what a function leaves that returns a network of its own -/
def NetP (n : DNetwork) (w : World) (e : Ending) (w' : World) : Prop := ∃ a0 c0 a1 c1 a2 c2 a3 c3 fp, e = .returned (.agg #[.slice a0 n.sites.length c0, .slice a1 n.sectors.length c1, .slice a2 n.antennas.length c2, .slice a3 n.radios.length c3]) ∧ Below w.heap.size w w' ∧
  OwnV w' n.tr [.slice a0 n.sites.length c0, .slice a1 n.sectors.length c1, .slice a2 n.antennas.length c2, .slice a3 n.radios.length c3] fp ∧ In w.heap.size w'.heap.size fp
def obl (v : Value) : List Nat := v.ownBlock.toList
theorem obl_some (b n c : Nat) : obl (.slice (some ⟨b, 0, none⟩) n c) = [b] := rfl
theorem blk4 {w : World} {B T : Nat} {a b c d : Value} (h : w.heap[B]? = some (.cells #[a, b, c, d] T (0, 0))) : w.cell? ⟨B, 0, none⟩ = some a ∧ w.cell? ⟨B, 1, none⟩ = some b ∧ w.cell? ⟨B, 2, none⟩ = some c ∧ w.cell? ⟨B, 3, none⟩ = some d := by
  simp [World.cell?, h]
theorem blkC {w : World} {B T : Nat} {cs : Array Value} {v : Value} (h : w.heap[B]? = some (.cells cs T (0, 0))) (j : Nat) (hj : cs[j]? = some v) : w.cell? ⟨B, j, none⟩ = some v := (cell_of_row' h j).trans hj
theorem blkF {w : World} {B T : Nat} {cs : Array Value} (h : w.heap[B]? = some (.cells cs T (0, 0))) (j : Nat) : w.frozen? ⟨B, j, none⟩ = false := free_of_row h j
theorem blkS {w : World} {B T : Nat} {cs : Array Value} (h : w.heap[B]? = some (.cells cs T (0, 0))) (j : Nat) (v : Value) : (w.setCell ⟨B, j, none⟩ v).heap[B]? = some (.cells (cs.setIfInBounds j v) T (0, 0)) := row_setCell h j v
theorem blkO {w : World} {B : Nat} {o : Option Obj} (h : w.heap[B]? = o) {p : Addr} (hp : B ≠ p.block) (v : Value) : (w.setCell p v).heap[B]? = o := (Below.heap_setCell w p v B hp).trans h
theorem blkB {w w' : World} {B : Nat} {o : Option Obj} (h : w.heap[B]? = o) (hb : Below w.heap.size w w') (hl : B < w.heap.size) : w'.heap[B]? = o := (hb.block B hl).trans h
theorem blkN (w : World) (cs : Array Value) (T : Nat) : (w.alloc (.cells cs T)).heap[w.heap.size]? = some (.cells cs T (0, 0)) := by show (w.heap.push _)[w.heap.size]? = _; simp
theorem blkA {w : World} {B : Nat} {o : Option Obj} (h : w.heap[B]? = o) (hl : B < w.heap.size) (x : Obj) : (w.alloc x).heap[B]? = o := (Below.heap_alloc w x B hl).trans h
set_option maxHeartbeats 8000000 in
set_option maxRecDepth 100000 in
theorem netClone_any (n : DNetwork) (v0 v1 v2 v3 : Value) (w : World) (r0 : Rd w.heap.size w (DSite.sT n.sites) v0) (r1 : Rd w.heap.size w (DSector.sT n.sectors) v1) (r2 : Rd w.heap.size w (DAntenna.sT n.antennas) v2) (r3 : Rd w.heap.size w (DRadio.sT n.radios) v3) (hs : sizL n.tr ≤ 1048576) :
    Calls Tryz.prog 46 #[.agg #[v0, v1, v2, v3]] w (NetP n w) := by
  have hsum := DNetwork.siz_tr n
  have q0 := DSite.siz_s n.sites
  have q1 := DSector.siz_s n.sectors
  have q2 := DAntenna.siz_s n.antennas
  have q3 := DRadio.siz_s n.radios
  have l0 : n.sites.length ≤ 1048576 := by omega
  have l1 : n.sectors.length ≤ 1048576 := by omega
  have l2 : n.antennas.length ≤ 1048576 := by omega
  have l3 : n.radios.length ≤ 1048576 := by omega
  have LA : Hid (∀ k (h : k < n.antennas.length), n.antennas[k].horizontal.length ≤ 1048576 ∧ n.antennas[k].vertical.length ≤ 1048576) := fun k h => by
    have h1 := sizL_get_le DAntenna.tr n.antennas k h
    have h2 := DAntenna.siz_tr n.antennas[k]
    rw [siz_ints, siz_ints] at h2
    omega
  have LR : Hid (∀ k (h : k < n.radios.length), n.radios[k].modes.length ≤ 1048576) := fun k h => by
    have h1 := sizL_get_le DRadio.tr n.radios k h
    have h2 := DRadio.siz_tr n.radios[k]
    rw [DMode.siz_s] at h2
    omega
  obtain ⟨A0, C0, e0, -, -, -⟩ := DSite.rd r0
  obtain ⟨A1, C1, e1, -, -, -⟩ := DSector.rd r1
  obtain ⟨A2, C2, e2, -, -, -⟩ := DAntenna.rd r2
  obtain ⟨A3, C3, e3, -, -, -⟩ := DRadio.rd r3
  subst e0 e1 e2 e3
  clear hsum q0 q1 q2 q3
  have HC0 : Hid (∀ W : World, Below w.heap.size w W → Calls Tryz.prog 96 #[.slice A0 n.sites.length C0] W fun e w' => ∃ a' c' fp, e = .returned (.slice a' n.sites.length c') ∧ Below W.heap.size W w' ∧ Own w' (DSite.sT n.sites) (.slice a' n.sites.length c') fp ∧ In W.heap.size w'.heap.size fp) := fun W hW => cloneSite_any n.sites _ W ((r0.below hW).mono hW.size) l0
  have HC1 : Hid (∀ W : World, Below w.heap.size w W → Calls Tryz.prog 97 #[.slice A1 n.sectors.length C1] W fun e w' => ∃ a' c' fp, e = .returned (.slice a' n.sectors.length c') ∧ Below W.heap.size W w' ∧ Own w' (DSector.sT n.sectors) (.slice a' n.sectors.length c') fp ∧ In W.heap.size w'.heap.size fp) := fun W hW => cloneSector_any n.sectors _ W ((r1.below hW).mono hW.size) l1
  have HC2 : Hid (∀ W : World, Below w.heap.size w W → Calls Tryz.prog 98 #[.slice A2 n.antennas.length C2] W fun e w' => ∃ a' c' xs, e = .returned (.slice a' n.antennas.length c') ∧ Below W.heap.size W w' ∧ w'.ownsRow W.heap.size 120 4 (.slice a' n.antennas.length c') n.antennas.length xs ∧ RdV w.heap.size W (n.antennas.flatMap DAntenna.tr) xs) := fun W hW => cloneAntenna_raw n.antennas _ w.heap.size W (r2.below hW) hW.size l2
  have HC3 : Hid (∀ W : World, Below w.heap.size w W → Calls Tryz.prog 99 #[.slice A3 n.radios.length C3] W fun e w' => ∃ a' c' xs, e = .returned (.slice a' n.radios.length c') ∧ Below W.heap.size W w' ∧ w'.ownsRow W.heap.size 125 6 (.slice a' n.radios.length c') n.radios.length xs ∧ RdV w.heap.size W (n.radios.flatMap DRadio.tr) xs) := fun W hW => cloneRadio_raw n.radios _ w.heap.size W (r3.below hW) hW.size l3
  clear r0 r1 r2 r3
  have w0 : Below w.heap.size w ((w.alloc (.cells #[.slice A0 n.sites.length C0, .slice A1 n.sectors.length C1, .slice A2 n.antennas.length C2, .slice A3 n.radios.length C3] 35)).alloc (.cells #[.slice none 0 0, .slice none 0 0, .slice none 0 0, .slice none 0 0] 35)) := (((Below.refl _ _).alloc (Nat.le_refl _) _).alloc (by simp) _)
  have z0 : w.heap.size + 2 ≤ ((w.alloc (.cells #[.slice A0 n.sites.length C0, .slice A1 n.sectors.length C1, .slice A2 n.antennas.length C2, .slice A3 n.radios.length C3] 35)).alloc (.cells #[.slice none 0 0, .slice none 0 0, .slice none 0 0, .slice none 0 0] 35)).heap.size := by simp
  have kA : ((w.alloc (.cells #[.slice A0 n.sites.length C0, .slice A1 n.sectors.length C1, .slice A2 n.antennas.length C2, .slice A3 n.radios.length C3] 35)).alloc (.cells #[.slice none 0 0, .slice none 0 0, .slice none 0 0, .slice none 0 0] 35)).heap[w.heap.size]? = some (.cells #[.slice A0 n.sites.length C0, .slice A1 n.sectors.length C1, .slice A2 n.antennas.length C2, .slice A3 n.radios.length C3] 35 (0, 0)) := blkA (blkN w _ _) (by simp) _
  have kR : ((w.alloc (.cells #[.slice A0 n.sites.length C0, .slice A1 n.sectors.length C1, .slice A2 n.antennas.length C2, .slice A3 n.radios.length C3] 35)).alloc (.cells #[.slice none 0 0, .slice none 0 0, .slice none 0 0, .slice none 0 0] 35)).heap[w.heap.size + 1]? = some (.cells #[.slice none 0 0, .slice none 0 0, .slice none 0 0, .slice none 0 0] 35 (0, 0)) := by
    have := blkN (w.alloc (.cells #[.slice A0 n.sites.length C0, .slice A1 n.sectors.length C1, .slice A2 n.antennas.length C2, .slice A3 n.radios.length C3] 35)) #[.slice none 0 0, .slice none 0 0, .slice none 0 0, .slice none 0 0] 35
    rw [show (w.alloc (.cells #[.slice A0 n.sites.length C0, .slice A1 n.sectors.length C1, .slice A2 n.antennas.length C2, .slice A3 n.radios.length C3] 35)).heap.size = w.heap.size + 1 by simp] at this
    exact this
  have KA := Lib.hid kA
  have KR := Lib.hid kR
  have W0 := Lib.hid w0
  clear kA kR w0
  go_enter Tryz.func46, Tryz.ntmps46
  go_wp2
  generalize ((w.alloc (.cells #[.slice A0 n.sites.length C0, .slice A1 n.sectors.length C1, .slice A2 n.antennas.length C2, .slice A3 n.radios.length C3] 35)).alloc (.cells #[.slice none 0 0, .slice none 0 0, .slice none 0 0, .slice none 0 0] 35)) = W1 at *
  have KA1 : Hid (W1.drew.heap[w.heap.size]? = some (.cells #[.slice A0 n.sites.length C0, .slice A1 n.sectors.length C1, .slice A2 n.antennas.length C2, .slice A3 n.radios.length C3] 35 (0, 0))) := KA.out
  have KR1 : Hid (W1.drew.heap[w.heap.size + 1]? = some (.cells #[.slice none 0 0, .slice none 0 0, .slice none 0 0, .slice none 0 0] 35 (0, 0))) := KR.out
  have BB1 : Hid (Below w.heap.size w W1.drew) := W0.out.drew
  have z1 : w.heap.size + 2 ≤ W1.drew.heap.size := z0
  clear KA KR W0 z0
  refine wp_region_ord 13 [(0, true), (1, true), (3, true), (4, true), (6, true), (7, true), (9, true), (10, true), (2, false), (12, true), (5, false), (8, false), (11, false)] (fun W => W.cell? ⟨w.heap.size, 0, none⟩ = some (.slice A0 n.sites.length C0) ∧ W.cell? ⟨w.heap.size, 1, none⟩ = some (.slice A1 n.sectors.length C1) ∧ W.cell? ⟨w.heap.size, 2, none⟩ = some (.slice A2 n.antennas.length C2) ∧ W.cell? ⟨w.heap.size, 3, none⟩ = some (.slice A3 n.radios.length C3)) (by kernel_rfl) (by kernel_rfl) (blk4 KA1.out) (fun hHeld => ?_)
  generalize W1.drew = W2 at *
  refine wpOrd_read (v := ?_) rfl (fun _ _ _ h => h) ?_ ?_
  rotate_left
  · (intro W hSW; (try dsimp only at hSW); (go_simp <;> with_reducible rfl))
  (try simp only [Act.put, List.setIfInBounds_toArray, List.set_cons_zero, List.set_cons_succ])
  refine wpOrd_read (v := ?_) rfl (fun _ _ _ h => h) ?_ ?_
  rotate_left
  · (intro W hSW; (try dsimp only at hSW); (go_simp <;> with_reducible rfl))
  (try simp only [Act.put, List.setIfInBounds_toArray, List.set_cons_zero, List.set_cons_succ])
  refine wpOrd_read (v := ?_) rfl (fun _ _ _ h => h) ?_ ?_
  rotate_left
  · (intro W hSW; (try dsimp only at hSW); (go_simp <;> with_reducible rfl))
  (try simp only [Act.put, List.setIfInBounds_toArray, List.set_cons_zero, List.set_cons_succ])
  refine wpOrd_read (v := ?_) rfl (fun _ _ _ h => h) ?_ ?_
  rotate_left
  · (intro W hSW; (try dsimp only at hSW); (go_simp <;> with_reducible rfl))
  (try simp only [Act.put, List.setIfInBounds_toArray, List.set_cons_zero, List.set_cons_succ])
  refine wpOrd_read (v := ?_) rfl (fun _ _ _ h => h) ?_ ?_
  rotate_left
  · (intro W hSW; (try dsimp only at hSW); (go_simp <;> with_reducible rfl))
  (try simp only [Act.put, List.setIfInBounds_toArray, List.set_cons_zero, List.set_cons_succ])
  refine wpOrd_read (v := ?_) rfl (fun _ _ _ h => h) ?_ ?_
  rotate_left
  · (intro W hSW; (try dsimp only at hSW); (go_simp <;> with_reducible rfl))
  (try simp only [Act.put, List.setIfInBounds_toArray, List.set_cons_zero, List.set_cons_succ])
  refine wpOrd_read (v := ?_) rfl (fun _ _ _ h => h) ?_ ?_
  rotate_left
  · (intro W hSW; (try dsimp only at hSW); (go_simp <;> with_reducible rfl))
  (try simp only [Act.put, List.setIfInBounds_toArray, List.set_cons_zero, List.set_cons_succ])
  refine wpOrd_read (v := ?_) rfl (fun _ _ _ h => h) ?_ ?_
  rotate_left
  · (intro W hSW; (try dsimp only at hSW); (go_simp <;> with_reducible rfl))
  (try simp only [Act.put, List.setIfInBounds_toArray, List.set_cons_zero, List.set_cons_succ])
  refine wpOrd_step rfl (fun K hK => ?_)
  go_simp
  refine (HC0.out _ BB1.out).mono ?_
  rintro e X0 ⟨a0, c0, p0, rfl, hb0, o0, i0⟩
  refine hK.out _ _ (blk4 (blkB KA1.out hb0 (by omega))) ?_
  clear hK K
  (try simp only [Act.put, List.setIfInBounds_toArray, List.set_cons_zero, List.set_cons_succ])
  have KA2 := Lib.hid (blkB KA1.out hb0 (by omega))
  have KR2 := Lib.hid (blkB KR1.out hb0 (by omega))
  have BB2 := Lib.hid (BB1.out.trans (hb0.mono (by omega)))
  have z2 : W2.heap.size ≤ X0.heap.size := hb0.size
  have O0_0 := Lib.hid o0
  clear KA1 KR1 BB1 hb0 o0 hHeld
  refine wpOrd_read (v := ?_) rfl (fun _ _ _ h => h) ?_ ?_
  rotate_left
  · (intro W hSW; (try dsimp only at hSW); (go_simp <;> with_reducible rfl))
  (try simp only [Act.put, List.setIfInBounds_toArray, List.set_cons_zero, List.set_cons_succ])
  refine wpOrd_step rfl (fun K hK => ?_)
  go_simp
  refine (HC1.out _ BB2.out).mono ?_
  rintro e X1 ⟨a1, c1, p1, rfl, hb1, o1, i1⟩
  refine hK.out _ _ (blk4 (blkB KA2.out hb1 (by omega))) ?_
  clear hK K
  (try simp only [Act.put, List.setIfInBounds_toArray, List.set_cons_zero, List.set_cons_succ])
  have KA3 := Lib.hid (blkB KA2.out hb1 (by omega))
  have KR3 := Lib.hid (blkB KR2.out hb1 (by omega))
  have BB3 := Lib.hid (BB2.out.trans (hb1.mono (by omega)))
  have z3 : X0.heap.size ≤ X1.heap.size := hb1.size
  have O1_1 := Lib.hid o1
  have O0_1 := Lib.hid (O0_0.out.below i0 (by omega) hb1)
  clear KA2 KR2 BB2 hb1 o1
  refine wpOrd_step rfl (fun K hK => ?_)
  go_simp
  refine (HC2.out _ BB3.out).mono ?_
  rintro e X2 ⟨a2, c2, x2, rfl, hb2, o2, i2⟩
  refine hK.out _ _ (blk4 (blkB KA3.out hb2 (by omega))) ?_
  clear hK K
  (try simp only [Act.put, List.setIfInBounds_toArray, List.set_cons_zero, List.set_cons_succ])
  have KA4 := Lib.hid (blkB KA3.out hb2 (by omega))
  have KR4 := Lib.hid (blkB KR3.out hb2 (by omega))
  have BB4 := Lib.hid (BB3.out.trans (hb2.mono (by omega)))
  have z4 : X1.heap.size ≤ X2.heap.size := hb2.size
  have O2_2 := Lib.hid o2
  have GB2 : Hid (∀ b, (Value.slice a2 n.antennas.length c2).ownBlock = some b → X1.heap.size ≤ b ∧ b < X2.heap.size) := fun b hb => ownsRow_block o2 hb
  have RX2_2 := Lib.hid (i2.below (hb2.mono (by omega)))
  have O0_2 := Lib.hid (O0_1.out.below i0 (by omega) hb2)
  have O1_2 := Lib.hid (O1_1.out.below i1 (by omega) hb2)
  clear KA3 KR3 BB3 hb2 o2
  clear i2
  refine wpOrd_step rfl (fun K hK => ?_)
  go_simp
  refine (HC3.out _ BB4.out).mono ?_
  rintro e X3 ⟨a3, c3, x3, rfl, hb3, o3, i3⟩
  refine hK.out _ _ (blk4 (blkB KA4.out hb3 (by omega))) ?_
  clear hK K
  (try simp only [Act.put, List.setIfInBounds_toArray, List.set_cons_zero, List.set_cons_succ])
  have KA5 := Lib.hid (blkB KA4.out hb3 (by omega))
  have KR5 := Lib.hid (blkB KR4.out hb3 (by omega))
  have BB5 := Lib.hid (BB4.out.trans (hb3.mono (by omega)))
  have z5 : X2.heap.size ≤ X3.heap.size := hb3.size
  have O3_3 := Lib.hid o3
  have GB3 : Hid (∀ b, (Value.slice a3 n.radios.length c3).ownBlock = some b → X2.heap.size ≤ b ∧ b < X3.heap.size) := fun b hb => ownsRow_block o3 hb
  have RX3_3 := Lib.hid (i3.below (hb3.mono (by omega)))
  have O0_3 := Lib.hid (O0_2.out.below i0 (by omega) hb3)
  have O1_3 := Lib.hid (O1_2.out.below i1 (by omega) hb3)
  have O2_3 := Lib.hid (ownsRow_frame O2_2.out (fun g hg => hb3.block g (ownsRow_block O2_2.out hg).2))
  have RX2_3 := Lib.hid (RX2_2.out.below (hb3.mono (by omega)))
  clear KA4 KR4 BB4 hb3 o3
  clear i3
  refine wpOrd_nil ?_
  simp only [List.drop_succ_cons, List.drop_zero]
  obtain ⟨f0, f1, f2, f3⟩ := blk4 KA5.out
  have fz := blkF KA5.out
  have ch : Chg [w.heap.size] X3 ((((X3.setCell ⟨w.heap.size, 0, none⟩ (.slice a0 n.sites.length c0)).setCell ⟨w.heap.size, 1, none⟩ (.slice a1 n.sectors.length c1)).setCell ⟨w.heap.size, 2, none⟩ (.slice a2 n.antennas.length c2)).setCell ⟨w.heap.size, 3, none⟩ (.slice a3 n.radios.length c3)) := ((((Chg.refl [w.heap.size] X3).setCell (p := ⟨w.heap.size, 0, none⟩) (by simp) (.slice a0 n.sites.length c0)).setCell (p := ⟨w.heap.size, 1, none⟩) (by simp) (.slice a1 n.sectors.length c1)).setCell (p := ⟨w.heap.size, 2, none⟩) (by simp) (.slice a2 n.antennas.length c2)).setCell (p := ⟨w.heap.size, 3, none⟩) (by simp) (.slice a3 n.radios.length c3)
  have ka : ((((X3.setCell ⟨w.heap.size, 0, none⟩ (.slice a0 n.sites.length c0)).setCell ⟨w.heap.size, 1, none⟩ (.slice a1 n.sectors.length c1)).setCell ⟨w.heap.size, 2, none⟩ (.slice a2 n.antennas.length c2)).setCell ⟨w.heap.size, 3, none⟩ (.slice a3 n.radios.length c3)).heap[w.heap.size]? = some (.cells #[.slice a0 n.sites.length c0, .slice a1 n.sectors.length c1, .slice a2 n.antennas.length c2, .slice a3 n.radios.length c3] 35 (0, 0)) := by
    have := blkS (blkS (blkS (blkS KA5.out 0 (.slice a0 n.sites.length c0)) 1 (.slice a1 n.sectors.length c1)) 2 (.slice a2 n.antennas.length c2)) 3 (.slice a3 n.radios.length c3)
    simpa using this
  have KA7 := Lib.hid ka
  have CH7 := Lib.hid ch
  clear ka ch
  go_wp2
  clear f0 f1 f2 f3 fz
  generalize ((((X3.setCell ⟨w.heap.size, 0, none⟩ (.slice a0 n.sites.length c0)).setCell ⟨w.heap.size, 1, none⟩ (.slice a1 n.sectors.length c1)).setCell ⟨w.heap.size, 2, none⟩ (.slice a2 n.antennas.length c2)).setCell ⟨w.heap.size, 3, none⟩ (.slice a3 n.radios.length c3)) = W7 at *
  have z7 : X3.heap.size ≤ W7.heap.size := CH7.out.size
  have KR7 := Lib.hid ((CH7.out.block (w.heap.size + 1) (by omega) (by simp)).trans KR5.out)
  have b7 : Below w.heap.size X3 W7 := CH7.out.below (by omega) (by simp)
  have BB7 := Lib.hid (BB5.out.trans b7)
  have RX2_7 := Lib.hid (RX2_3.out.below b7)
  have RX3_7 := Lib.hid (RX3_3.out.below b7)
  have O0_7 := Lib.hid (O0_3.out.chg i0 (by omega) CH7.out (fun x hx e => by have := (i0 x hx).1; simp at e; omega))
  have O1_7 := Lib.hid (O1_3.out.chg i1 (by omega) CH7.out (fun x hx e => by have := (i1 x hx).1; simp at e; omega))
  have O2_7 := Lib.hid (ownsRow_frame O2_3.out (fun g hg => CH7.out.block g (ownsRow_block O2_3.out hg).2 (by have := (ownsRow_block O2_3.out hg).1; simp; omega)))
  have O3_7 := Lib.hid (ownsRow_frame O3_3.out (fun g hg => CH7.out.block g (ownsRow_block O3_3.out hg).2 (by have := (ownsRow_block O3_3.out hg).1; simp; omega)))
  have HS2 := Lib.hid (Half.start O2_7.out)
  clear b7 KA5 KR5 BB5 CH7 O0_3 O1_3 O2_3 O3_3 RX2_3 RX3_3 HC0 HC1 HC2 HC3 O2_7
  have LT2 := Lib.hid LA.out
  go_loopw [26] (fun i wr => ∃ (k : Nat) (f : List Nat), k ≤ n.antennas.length ∧ i = .int .i64 k ∧ Half wr X1.heap.size 120 4 (.slice a2 n.antennas.length c2) n.antennas.length ((n.antennas.take k).flatMap DAntenna.tr) x2 f ∧ In W7.heap.size wr.heap.size f ∧ Chg (obl (.slice a2 n.antennas.length c2)) W7 wr) (fun i wr => n.antennas.length - (intOf i).toNat)
  case atStart => exact ⟨0, [], Nat.zero_le _, rfl, by simpa using HS2.out, In.nil, Chg.refl _ _⟩
  case round =>
    obtain ⟨k, f, hk, rfl, hH, hin, hch⟩ := hrel
    have HH := Lib.hid hH
    have HCH := Lib.hid hch
    have zr : W7.heap.size ≤ wr.heap.size := hch.size
    clear hH hch
    by_cases hlt : k < n.antennas.length
    · obtain ⟨g, cap, ev, hgb, hgs⟩ := HH.out.form (by omega)
      injection ev with ea _ ec
      subst ea ec
      have RXW := RX2_7.out
      obtain ⟨u0, x0e, R0⟩ := RXW.at_ (k * 4 + 0) (strT n.antennas[k].name) (by have := flat_get DAntenna.tr 4 DAntenna.tr_len n.antennas k hlt 0 (by decide); rw [this]; rfl)
      obtain rfl := Rd.lit.1 R0
      obtain ⟨u1, x1e, R1⟩ := RXW.at_ (k * 4 + 1) (intT n.antennas[k].gain) (by have := flat_get DAntenna.tr 4 DAntenna.tr_len n.antennas k hlt 1 (by decide); rw [this]; rfl)
      obtain rfl := Rd.lit.1 R1
      obtain ⟨u2, x2e, R2⟩ := RXW.at_ (k * 4 + 2) (intsT n.antennas[k].horizontal) (by have := flat_get DAntenna.tr 4 DAntenna.tr_len n.antennas k hlt 2 (by decide); rw [this]; rfl)
      obtain ⟨ah2, ch2, eh2, -, -, -⟩ := R2.ints
      subst eh2
      obtain ⟨u3, x3e, R3⟩ := RXW.at_ (k * 4 + 3) (intsT n.antennas[k].vertical) (by have := flat_get DAntenna.tr 4 DAntenna.tr_len n.antennas k hlt 3 (by decide); rw [this]; rfl)
      obtain ⟨ah3, ch3, eh3, -, -, -⟩ := R3.ints
      subst eh3
      have htl : ((n.antennas.take k).flatMap DAntenna.tr).length = k * 4 := by rw [flat_length DAntenna.tr 4 DAntenna.tr_len, List.length_take, Nat.min_eq_left hk]
      have s0 := HH.out.cell rfl (j := k * 4 + 0) (by omega) x0e (by omega)
      have s1 := HH.out.cell rfl (j := k * 4 + 1) (by omega) x1e (by omega)
      have s2 := HH.out.cell rfl (j := k * 4 + 2) (by omega) x2e (by omega)
      have s3 := HH.out.cell rfl (j := k * 4 + 3) (by omega) x3e (by omega)
      rw [Nat.add_zero] at s0
      have kAr : wr.heap[w.heap.size]? = some (.cells #[.slice a0 n.sites.length c0, .slice a1 n.sectors.length c1, .slice (some ⟨g, 0, none⟩) n.antennas.length c2, .slice a3 n.radios.length c3] 35 (0, 0)) := (HCH.out.block w.heap.size (by omega) (by rw [obl_some]; simp; omega)).trans KA7.out
      obtain ⟨f0, f1, f2, f3⟩ := blk4 kAr
      have bWr : Below w.heap.size W7 wr := HCH.out.below (by omega) (by rw [obl_some]; simp; omega)
      have RR2 := Lib.hid (R2.below bWr)
      have RR3 := Lib.hid (R3.below bWr)
      have KAr := Lib.hid kAr
      have bAL : Below wr.heap.size wr (wr.alloc (.cells #[.string n.antennas[k].name, .int .i64 n.antennas[k].gain, .slice ah2 n.antennas[k].horizontal.length ch2, .slice ah3 n.antennas[k].vertical.length ch3] 120)).drew := ((Below.refl _ _).alloc (Nat.le_refl _) _).drew
      have KL1 : Hid ((wr.alloc (.cells #[.string n.antennas[k].name, .int .i64 n.antennas[k].gain, .slice ah2 n.antennas[k].horizontal.length ch2, .slice ah3 n.antennas[k].vertical.length ch3] 120)).drew.heap[wr.heap.size]? = some (.cells #[.string n.antennas[k].name, .int .i64 n.antennas[k].gain, .slice ah2 n.antennas[k].horizontal.length ch2, .slice ah3 n.antennas[k].vertical.length ch3] 120 (0, 0))) := blkN wr _ _
      have KAr1 := Lib.hid (blkB kAr bAL (by omega))
      have HH1 := Lib.hid (HH.out.below hin bAL)
      have z1r : wr.heap.size + 1 ≤ (wr.alloc (.cells #[.string n.antennas[k].name, .int .i64 n.antennas[k].gain, .slice ah2 n.antennas[k].horizontal.length ch2, .slice ah3 n.antennas[k].vertical.length ch3] 120)).drew.heap.size := by show _ ≤ (wr.alloc (.cells #[.string n.antennas[k].name, .int .i64 n.antennas[k].gain, .slice ah2 n.antennas[k].horizontal.length ch2, .slice ah3 n.antennas[k].vertical.length ch3] 120)).heap.size; simp
      have BL1 := Lib.hid bAL
      have i1 : (0 : Int) ≤ (k : Int) := by omega
      have i2 : (k : Int) < (n.antennas.length : Int) := by omega
      have HLT := Lib.hid (LT2.out k hlt)
      clear kAr bAL bWr RXW htl x0e R0 x1e R1 x2e R2 x3e R3
      go_wp2
      clear f0 f1 f2 f3 s0 s1 s2 s3
      refine wp_region_ord 15 [(0, true), (1, true), (2, true), (3, true), (4, true), (5, true), (6, true), (7, true), (9, true), (10, true), (8, false), (11, false), (12, true), (13, true), (14, false)] (fun W => W.cell? ⟨w.heap.size, 2, none⟩ = some (.slice (some ⟨g, 0, none⟩) n.antennas.length c2) ∧ W.cell? ⟨wr.heap.size, 2, none⟩ = some (.slice ah2 n.antennas[k].horizontal.length ch2) ∧ W.cell? ⟨wr.heap.size, 3, none⟩ = some (.slice ah3 n.antennas[k].vertical.length ch3)) (by kernel_rfl) (by kernel_rfl) (⟨(blk4 KAr1.out).2.2.1, (blkC KL1.out 2 rfl), (blkC KL1.out 3 rfl)⟩) (fun hHeld => ?_)
      generalize (wr.alloc (.cells #[.string n.antennas[k].name, .int .i64 n.antennas[k].gain, .slice ah2 n.antennas[k].horizontal.length ch2, .slice ah3 n.antennas[k].vertical.length ch3] 120)).drew = Y0 at *
      clear hHeld
      refine wpOrd_read (v := ?_) rfl (fun _ _ _ h => h) ?_ ?_
      rotate_left
      · (intro W hSW; (try dsimp only at hSW); (go_simp <;> with_reducible rfl))
      (try simp only [Act.put, List.setIfInBounds_toArray, List.set_cons_zero, List.set_cons_succ])
      refine wpOrd_read (v := ?_) rfl (fun _ _ _ h => h) ?_ ?_
      rotate_left
      · (intro W hSW; (try dsimp only at hSW); (go_simp <;> with_reducible rfl))
      (try simp only [Act.put, List.setIfInBounds_toArray, List.set_cons_zero, List.set_cons_succ])
      refine wpOrd_read (v := ?_) rfl (fun _ _ _ h => h) ?_ ?_
      rotate_left
      · (intro W hSW; (try dsimp only at hSW); (go_simp <;> with_reducible rfl))
      (try simp only [Act.put, List.setIfInBounds_toArray, List.set_cons_zero, List.set_cons_succ])
      refine wpOrd_read (v := ?_) rfl (fun _ _ _ h => h) ?_ ?_
      rotate_left
      · (intro W hSW; (try dsimp only at hSW); (go_simp <;> with_reducible rfl))
      (try simp only [Act.put, List.setIfInBounds_toArray, List.set_cons_zero, List.set_cons_succ])
      refine wpOrd_read (v := ?_) rfl (fun _ _ _ h => h) ?_ ?_
      rotate_left
      · (intro W hSW; (try dsimp only at hSW); (go_simp <;> with_reducible rfl))
      (try simp only [Act.put, List.setIfInBounds_toArray, List.set_cons_zero, List.set_cons_succ])
      refine wpOrd_read (v := ?_) rfl (fun _ _ _ h => h) ?_ ?_
      rotate_left
      · (intro W hSW; (try dsimp only at hSW); (go_simp <;> with_reducible rfl))
      (try simp only [Act.put, List.setIfInBounds_toArray, List.set_cons_zero, List.set_cons_succ])
      refine wpOrd_read (v := ?_) rfl (fun _ _ _ h => h) ?_ ?_
      rotate_left
      · (intro W hSW; (try dsimp only at hSW); (go_simp <;> with_reducible rfl))
      (try simp only [Act.put, List.setIfInBounds_toArray, List.set_cons_zero, List.set_cons_succ])
      refine wpOrd_read (v := ?_) rfl (fun _ _ _ h => h) ?_ ?_
      rotate_left
      · (intro W hSW; (try dsimp only at hSW); (go_simp <;> with_reducible rfl))
      (try simp only [Act.put, List.setIfInBounds_toArray, List.set_cons_zero, List.set_cons_succ])
      refine wpOrd_read (v := ?_) rfl (fun _ _ _ h => h) ?_ ?_
      rotate_left
      · (intro W hSW; (try dsimp only at hSW); (go_simp <;> with_reducible rfl))
      (try simp only [Act.put, List.setIfInBounds_toArray, List.set_cons_zero, List.set_cons_succ])
      refine wpOrd_read (v := ?_) rfl (fun _ _ _ h => h) ?_ ?_
      rotate_left
      · (intro W hSW; (try dsimp only at hSW); (go_simp <;> with_reducible rfl))
      (try simp only [Act.put, List.setIfInBounds_toArray, List.set_cons_zero, List.set_cons_succ])
      refine wpOrd_step rfl (fun K hK => ?_)
      go_simp
      refine (cloneI_any n.antennas[k].horizontal _ _ ((RR2.out.below (BL1.out.mono (by omega))).mono (by omega)) (by have := HLT.out; omega)).mono ?_
      rintro e Y1 ⟨b2, d2, p2_, rfl, hb, oi2, ii2⟩
      refine hK.out _ _ (⟨(blk4 (blkB KAr1.out hb (by omega))).2.2.1, (blkC (blkB KL1.out hb (by omega)) 2 rfl), (blkC (blkB KL1.out hb (by omega)) 3 rfl)⟩) ?_
      clear hK K
      (try simp only [Act.put, List.setIfInBounds_toArray, List.set_cons_zero, List.set_cons_succ])
      have KAr2 := Lib.hid (blkB KAr1.out hb (by omega))
      have KL2 := Lib.hid (blkB KL1.out hb (by omega))
      have HH2 := Lib.hid (HH1.out.below (hin.mono (Nat.le_refl _) (by omega)) hb)
      have z2r : Y0.heap.size ≤ Y1.heap.size := hb.size
      have BL2 := Lib.hid (BL1.out.trans (hb.mono (by omega)))
      have OI2_1 := Lib.hid oi2
      clear hb oi2 KAr1 KL1 HH1 BL1
      refine wpOrd_step rfl (fun K hK => ?_)
      go_simp
      refine (cloneI_any n.antennas[k].vertical _ _ ((RR3.out.below (BL2.out.mono (by omega))).mono (by omega)) (by have := HLT.out; omega)).mono ?_
      rintro e Y2 ⟨b3, d3, p3_, rfl, hb, oi3, ii3⟩
      refine hK.out _ _ (⟨(blk4 (blkB KAr2.out hb (by omega))).2.2.1, (blkC (blkB KL2.out hb (by omega)) 2 rfl), (blkC (blkB KL2.out hb (by omega)) 3 rfl)⟩) ?_
      clear hK K
      (try simp only [Act.put, List.setIfInBounds_toArray, List.set_cons_zero, List.set_cons_succ])
      have KAr3 := Lib.hid (blkB KAr2.out hb (by omega))
      have KL3 := Lib.hid (blkB KL2.out hb (by omega))
      have HH3 := Lib.hid (HH2.out.below (hin.mono (Nat.le_refl _) (by omega)) hb)
      have z3r : Y1.heap.size ≤ Y2.heap.size := hb.size
      have BL3 := Lib.hid (BL2.out.trans (hb.mono (by omega)))
      have OI3_2 := Lib.hid oi3
      have OI2_2 := Lib.hid (OI2_1.out.below ii2 (by omega) hb)
      clear hb oi3 KAr2 KL2 HH2 BL2
      have htl : ((n.antennas.take k).flatMap DAntenna.tr).length = k * 4 := by rw [flat_length DAntenna.tr 4 DAntenna.tr_len, List.length_take, Nat.min_eq_left hk]
      have RXW := RX2_7.out
      obtain ⟨y0, x0e, R0⟩ := RXW.at_ (k * 4 + 0) (strT n.antennas[k].name) (by have := flat_get DAntenna.tr 4 DAntenna.tr_len n.antennas k hlt 0 (by decide); rw [this]; rfl)
      obtain rfl := Rd.lit.1 R0
      have s0 := HH3.out.cell rfl (j := k * 4 + 0) (by omega) x0e (by omega)
      obtain ⟨y1, x1e, R1⟩ := RXW.at_ (k * 4 + 1) (intT n.antennas[k].gain) (by have := flat_get DAntenna.tr 4 DAntenna.tr_len n.antennas k hlt 1 (by decide); rw [this]; rfl)
      obtain rfl := Rd.lit.1 R1
      have s1 := HH3.out.cell rfl (j := k * 4 + 1) (by omega) x1e (by omega)
      obtain ⟨y2, x2e, R2⟩ := RXW.at_ (k * 4 + 2) (intsT n.antennas[k].horizontal) (by have := flat_get DAntenna.tr 4 DAntenna.tr_len n.antennas k hlt 2 (by decide); rw [this]; rfl)
      have s2 := HH3.out.cell rfl (j := k * 4 + 2) (by omega) x2e (by omega)
      obtain ⟨y3, x3e, R3⟩ := RXW.at_ (k * 4 + 3) (intsT n.antennas[k].vertical) (by have := flat_get DAntenna.tr 4 DAntenna.tr_len n.antennas k hlt 3 (by decide); rw [this]; rfl)
      have s3 := HH3.out.cell rfl (j := k * 4 + 3) (by omega) x3e (by omega)
      rw [Nat.add_zero] at s0
      have sz := HH3.out.open_ rfl
      have HTL := Lib.hid htl
      have S0 := Lib.hid s0
      have S1 := Lib.hid s1
      have S2 := Lib.hid s2
      have S3 := Lib.hid s3
      clear RXW htl x0e R0 x1e R1 x2e R2 x3e R3
      obtain ⟨f0, f1, f2, f3⟩ := blk4 KAr3.out
      refine wpOrd_read (v := ?_) rfl (fun _ _ _ h => h) ?_ ?_
      rotate_left
      · (intro W hSW; (try dsimp only at hSW); (go_simp <;> with_reducible rfl))
      (try simp only [Act.put, List.setIfInBounds_toArray, List.set_cons_zero, List.set_cons_succ])
      refine wpOrd_read (v := ?_) rfl (fun _ _ _ h => h) ?_ ?_
      rotate_left
      · (intro W hSW; (try dsimp only at hSW); (go_simp <;> with_reducible rfl))
      (try simp only [Act.put, List.setIfInBounds_toArray, List.set_cons_zero, List.set_cons_succ])
      refine wpOrd_step rfl (fun K hK => ?_)
      go_simp
      refine hK.out _ _ (⟨(by rw [World.cell?_setCell_other _ _ _ _ (by intro h; injection h; omega)]; exact f2), (by rw [World.cell?_setCell_other _ _ _ _ (by intro h; injection h; omega)]; exact blkC KL3.out 2 rfl), (by rw [World.cell?_setCell_other _ _ _ _ (by intro h; injection h; omega)]; exact blkC KL3.out 3 rfl)⟩) ?_
      clear hK K
      (try simp only [Act.put, List.setIfInBounds_toArray, List.set_cons_zero, List.set_cons_succ])
      refine wpOrd_nil ?_
      simp only [List.drop_succ_cons, List.drop_zero]
      have OV : OwnV Y2 n.antennas[k].tr [.string n.antennas[k].name, .int .i64 n.antennas[k].gain, .slice b2 n.antennas[k].horizontal.length d2, .slice b3 n.antennas[k].vertical.length d3] (p2_ ++ (p3_ ++ [])) := OwnV.consLit (OwnV.consLit (OwnV.cons OI2_2.out (OwnV.cons OI3_2.out (OwnV.nil) (by simp)) (fun x h1 h2 => by have := (ii2 x h1).2; simp only [List.append_nil] at h2; have := (ii3 x h2).1; omega)) rfl) rfl
      have IV : In wr.heap.size Y2.heap.size (p2_ ++ (p3_ ++ [])) := by
        intro x hx
        rcases List.mem_append.1 hx with hx | hx
        · exact (ii2.mono (by omega) (by omega) : In wr.heap.size Y2.heap.size _) x hx
        rcases List.mem_append.1 hx with hx | hx
        · exact (ii3.mono (by omega) (by omega) : In wr.heap.size Y2.heap.size _) x hx
        simp at hx
      have OVH := Lib.hid OV
      have IVH := Lib.hid IV
      clear OV IV
      go_wp2
      go_roundw
      case rel =>
        refine ⟨k + 1, f ++ (p2_ ++ (p3_ ++ [])), by omega, by go_num, ?_, ?_, ?_⟩
        · rw [flat_take_succ DAntenna.tr n.antennas k hlt]
          have hst := HH3.out.step rfl OVH.out.rep (by rw [HTL.out, DAntenna.tr_len]; omega) OVH.out.nd (fun h => by have := (IVH.out _ h).1; omega) (fun x h1 h2 => by have := (IVH.out x h1).1; have := (hin x h2).2; omega) OVH.out.free
          rw [HTL.out, setRow4_23 S0.out S1.out] at hst
          exact hst
        · simp only [size_setCell]
          exact (hin.mono (Nat.le_refl _) (by omega)).append (IVH.out.mono (by omega) (Nat.le_refl _))
        · exact ((HCH.out.trans (Chg.of_below BL3.out)).setCell (by rw [obl_some]; simp) _).setCell (by rw [obl_some]; simp) _
      case measure => simp [intOf]; omega
    · obtain rfl : k = n.antennas.length := by omega
      obtain ⟨W8, ew⟩ : ∃ W : World, W = wr := ⟨_, rfl⟩
      subst ew
      rw [List.take_length] at HH
      obtain ⟨F2, O2_8, I2, D2⟩ := (HH.out.done (flat_length DAntenna.tr 4 DAntenna.tr_len n.antennas)).toOwnB (lo := X1.heap.size) (by decide) (hin.mono (by omega) (Nat.le_refl _)) (Nat.le_refl _)
      have O2H_8 := Lib.hid O2_8
      have kA8 : W8.heap[w.heap.size]? = _ := (HCH.out.block w.heap.size (by omega) (fun e => by
        unfold obl at e; have h := GB2.out _ (by simpa using e); omega)).trans KA7.out
      have kR8 : W8.heap[w.heap.size + 1]? = _ := (HCH.out.block (w.heap.size + 1) (by omega) (fun e => by
        unfold obl at e; have h := GB2.out _ (by simpa using e); omega)).trans KR7.out
      have KA8 := Lib.hid kA8
      have KR8 := Lib.hid kR8
      have b8 : Below w.heap.size W7 W8 := HCH.out.below (by omega) (fun x e => by unfold obl at e; have h := GB2.out _ (by simpa using e); omega)
      have BB8 := Lib.hid (BB7.out.trans b8)
      have RX3_8 := Lib.hid (RX3_7.out.below b8)
      have O0_8 := Lib.hid (O0_7.out.chg i0 (by omega) HCH.out (fun x hx e => by unfold obl at e; have h := GB2.out _ (by simpa using e); have := (i0 x hx).2; omega))
      have O1_8 := Lib.hid (O1_7.out.chg i1 (by omega) HCH.out (fun x hx e => by unfold obl at e; have h := GB2.out _ (by simpa using e); have := (i1 x hx).2; omega))
      have O3_8 := Lib.hid (ownsRow_frame O3_7.out (fun g hg => HCH.out.block g (ownsRow_block O3_7.out hg).2 (fun e => by unfold obl at e; have h := GB2.out _ (by simpa using e); have := (GB3.out g hg).1; omega)))
      have HS3 := Lib.hid (Half.start O3_8.out)
      have D2H := Lib.hid D2
      have F2B : Hid (∀ x ∈ F2, X1.heap.size ≤ x ∧ (x < X2.heap.size ∨ W7.heap.size ≤ x) ∧ x < W8.heap.size) := fun x hx => by
        rcases D2H.out x hx with h | h
        · have := GB2.out x h; exact ⟨this.1, Or.inl this.2, (I2 x hx).2⟩
        · exact ⟨(I2 x hx).1, Or.inr (hin x h).1, (I2 x hx).2⟩
      have LT3 := Lib.hid LR.out
      obtain ⟨f0, f1, f2, f3⟩ := blk4 kA8
      clear kA8 kR8 b8 O2_8 D2 HH HCH hin KA7 KR7 BB7 RX2_7 RX3_7 O0_7 O1_7 O3_7 D2H LA HS2 LT2 O3_8 hlt
      go_wp2
      clear f0 f1 f2 f3
      go_loopw [51] (fun i wr => ∃ (k : Nat) (f : List Nat), k ≤ n.radios.length ∧ i = .int .i64 k ∧ Half wr X2.heap.size 125 6 (.slice a3 n.radios.length c3) n.radios.length ((n.radios.take k).flatMap DRadio.tr) x3 f ∧ In W8.heap.size wr.heap.size f ∧ Chg (obl (.slice a3 n.radios.length c3)) W8 wr) (fun i wr => n.radios.length - (intOf i).toNat)
      case atStart => exact ⟨0, [], Nat.zero_le _, rfl, by simpa using HS3.out, In.nil, Chg.refl _ _⟩
      case round =>
        obtain ⟨k, f, hk, rfl, hH, hin, hch⟩ := hrel
        have HH := Lib.hid hH
        have HCH := Lib.hid hch
        have zr : W8.heap.size ≤ wr.heap.size := hch.size
        clear hH hch
        by_cases hlt : k < n.radios.length
        · obtain ⟨g, cap, ev, hgb, hgs⟩ := HH.out.form (by omega)
          injection ev with ea _ ec
          subst ea ec
          have RXW := RX3_8.out
          obtain ⟨u0, x0e, R0⟩ := RXW.at_ (k * 6 + 0) (strT n.radios[k].name) (by have := flat_get DRadio.tr 6 DRadio.tr_len n.radios k hlt 0 (by decide); rw [this]; rfl)
          obtain rfl := Rd.lit.1 R0
          obtain ⟨u1, x1e, R1⟩ := RXW.at_ (k * 6 + 1) (intT n.radios[k].power) (by have := flat_get DRadio.tr 6 DRadio.tr_len n.radios k hlt 1 (by decide); rw [this]; rfl)
          obtain rfl := Rd.lit.1 R1
          obtain ⟨u2, x2e, R2⟩ := RXW.at_ (k * 6 + 2) (intT n.radios[k].feeder) (by have := flat_get DRadio.tr 6 DRadio.tr_len n.radios k hlt 2 (by decide); rw [this]; rfl)
          obtain rfl := Rd.lit.1 R2
          obtain ⟨u3, x3e, R3⟩ := RXW.at_ (k * 6 + 3) (intT n.radios[k].noise) (by have := flat_get DRadio.tr 6 DRadio.tr_len n.radios k hlt 3 (by decide); rw [this]; rfl)
          obtain rfl := Rd.lit.1 R3
          obtain ⟨u4, x4e, R4⟩ := RXW.at_ (k * 6 + 4) (intT n.radios[k].width) (by have := flat_get DRadio.tr 6 DRadio.tr_len n.radios k hlt 4 (by decide); rw [this]; rfl)
          obtain rfl := Rd.lit.1 R4
          obtain ⟨u5, x5e, R5⟩ := RXW.at_ (k * 6 + 5) (DMode.sT n.radios[k].modes) (by have := flat_get DRadio.tr 6 DRadio.tr_len n.radios k hlt 5 (by decide); rw [this]; rfl)
          obtain ⟨ah5, ch5, eh5, -, -, -⟩ := DMode.rd R5
          subst eh5
          have htl : ((n.radios.take k).flatMap DRadio.tr).length = k * 6 := by rw [flat_length DRadio.tr 6 DRadio.tr_len, List.length_take, Nat.min_eq_left hk]
          have s0 := HH.out.cell rfl (j := k * 6 + 0) (by omega) x0e (by omega)
          have s1 := HH.out.cell rfl (j := k * 6 + 1) (by omega) x1e (by omega)
          have s2 := HH.out.cell rfl (j := k * 6 + 2) (by omega) x2e (by omega)
          have s3 := HH.out.cell rfl (j := k * 6 + 3) (by omega) x3e (by omega)
          have s4 := HH.out.cell rfl (j := k * 6 + 4) (by omega) x4e (by omega)
          have s5 := HH.out.cell rfl (j := k * 6 + 5) (by omega) x5e (by omega)
          rw [Nat.add_zero] at s0
          have kAr : wr.heap[w.heap.size]? = some (.cells #[.slice a0 n.sites.length c0, .slice a1 n.sectors.length c1, .slice a2 n.antennas.length c2, .slice (some ⟨g, 0, none⟩) n.radios.length c3] 35 (0, 0)) := (HCH.out.block w.heap.size (by omega) (by rw [obl_some]; simp; omega)).trans KA8.out
          obtain ⟨f0, f1, f2, f3⟩ := blk4 kAr
          have bWr : Below w.heap.size W8 wr := HCH.out.below (by omega) (by rw [obl_some]; simp; omega)
          have RR5 := Lib.hid (R5.below bWr)
          have KAr := Lib.hid kAr
          have bAL : Below wr.heap.size wr (wr.alloc (.cells #[.string n.radios[k].name, .int .i64 n.radios[k].power, .int .i64 n.radios[k].feeder, .int .i64 n.radios[k].noise, .int .i64 n.radios[k].width, .slice ah5 n.radios[k].modes.length ch5] 125)).drew := ((Below.refl _ _).alloc (Nat.le_refl _) _).drew
          have KL1 : Hid ((wr.alloc (.cells #[.string n.radios[k].name, .int .i64 n.radios[k].power, .int .i64 n.radios[k].feeder, .int .i64 n.radios[k].noise, .int .i64 n.radios[k].width, .slice ah5 n.radios[k].modes.length ch5] 125)).drew.heap[wr.heap.size]? = some (.cells #[.string n.radios[k].name, .int .i64 n.radios[k].power, .int .i64 n.radios[k].feeder, .int .i64 n.radios[k].noise, .int .i64 n.radios[k].width, .slice ah5 n.radios[k].modes.length ch5] 125 (0, 0))) := blkN wr _ _
          have KAr1 := Lib.hid (blkB kAr bAL (by omega))
          have HH1 := Lib.hid (HH.out.below hin bAL)
          have z1r : wr.heap.size + 1 ≤ (wr.alloc (.cells #[.string n.radios[k].name, .int .i64 n.radios[k].power, .int .i64 n.radios[k].feeder, .int .i64 n.radios[k].noise, .int .i64 n.radios[k].width, .slice ah5 n.radios[k].modes.length ch5] 125)).drew.heap.size := by show _ ≤ (wr.alloc (.cells #[.string n.radios[k].name, .int .i64 n.radios[k].power, .int .i64 n.radios[k].feeder, .int .i64 n.radios[k].noise, .int .i64 n.radios[k].width, .slice ah5 n.radios[k].modes.length ch5] 125)).heap.size; simp
          have BL1 := Lib.hid bAL
          have i1 : (0 : Int) ≤ (k : Int) := by omega
          have i2 : (k : Int) < (n.radios.length : Int) := by omega
          have HLT := Lib.hid (LT3.out k hlt)
          clear kAr bAL bWr RXW htl x0e R0 x1e R1 x2e R2 x3e R3 x4e R4 x5e R5
          go_wp2
          clear f0 f1 f2 f3 s0 s1 s2 s3 s4 s5
          refine wp_region_ord 6 [(0, true), (1, true), (2, true), (3, true), (4, true), (5, false)] (fun W => W.cell? ⟨w.heap.size, 3, none⟩ = some (.slice (some ⟨g, 0, none⟩) n.radios.length c3) ∧ W.cell? ⟨wr.heap.size, 5, none⟩ = some (.slice ah5 n.radios[k].modes.length ch5)) (by kernel_rfl) (by kernel_rfl) (⟨(blk4 KAr1.out).2.2.2, (blkC KL1.out 5 rfl)⟩) (fun hHeld => ?_)
          generalize (wr.alloc (.cells #[.string n.radios[k].name, .int .i64 n.radios[k].power, .int .i64 n.radios[k].feeder, .int .i64 n.radios[k].noise, .int .i64 n.radios[k].width, .slice ah5 n.radios[k].modes.length ch5] 125)).drew = Y0 at *
          clear hHeld
          refine wpOrd_read (v := ?_) rfl (fun _ _ _ h => h) ?_ ?_
          rotate_left
          · (intro W hSW; (try dsimp only at hSW); (go_simp <;> with_reducible rfl))
          (try simp only [Act.put, List.setIfInBounds_toArray, List.set_cons_zero, List.set_cons_succ])
          refine wpOrd_read (v := ?_) rfl (fun _ _ _ h => h) ?_ ?_
          rotate_left
          · (intro W hSW; (try dsimp only at hSW); (go_simp <;> with_reducible rfl))
          (try simp only [Act.put, List.setIfInBounds_toArray, List.set_cons_zero, List.set_cons_succ])
          refine wpOrd_read (v := ?_) rfl (fun _ _ _ h => h) ?_ ?_
          rotate_left
          · (intro W hSW; (try dsimp only at hSW); (go_simp <;> with_reducible rfl))
          (try simp only [Act.put, List.setIfInBounds_toArray, List.set_cons_zero, List.set_cons_succ])
          refine wpOrd_read (v := ?_) rfl (fun _ _ _ h => h) ?_ ?_
          rotate_left
          · (intro W hSW; (try dsimp only at hSW); (go_simp <;> with_reducible rfl))
          (try simp only [Act.put, List.setIfInBounds_toArray, List.set_cons_zero, List.set_cons_succ])
          refine wpOrd_read (v := ?_) rfl (fun _ _ _ h => h) ?_ ?_
          rotate_left
          · (intro W hSW; (try dsimp only at hSW); (go_simp <;> with_reducible rfl))
          (try simp only [Act.put, List.setIfInBounds_toArray, List.set_cons_zero, List.set_cons_succ])
          refine wpOrd_step rfl (fun K hK => ?_)
          go_simp
          refine (cloneMode_any n.radios[k].modes _ _ ((RR5.out.below (BL1.out.mono (by omega))).mono (by omega)) HLT.out).mono ?_
          rintro e Y1 ⟨b5, d5, p5_, rfl, hb, oi5, ii5⟩
          refine hK.out _ _ (⟨(blk4 (blkB KAr1.out hb (by omega))).2.2.2, (blkC (blkB KL1.out hb (by omega)) 5 rfl)⟩) ?_
          clear hK K
          (try simp only [Act.put, List.setIfInBounds_toArray, List.set_cons_zero, List.set_cons_succ])
          have KAr2 := Lib.hid (blkB KAr1.out hb (by omega))
          have KL2 := Lib.hid (blkB KL1.out hb (by omega))
          have HH2 := Lib.hid (HH1.out.below (hin.mono (Nat.le_refl _) (by omega)) hb)
          have z2r : Y0.heap.size ≤ Y1.heap.size := hb.size
          have BL2 := Lib.hid (BL1.out.trans (hb.mono (by omega)))
          have OI5_1 := Lib.hid oi5
          clear hb oi5 KAr1 KL1 HH1 BL1
          have htl : ((n.radios.take k).flatMap DRadio.tr).length = k * 6 := by rw [flat_length DRadio.tr 6 DRadio.tr_len, List.length_take, Nat.min_eq_left hk]
          have RXW := RX3_8.out
          obtain ⟨y0, x0e, R0⟩ := RXW.at_ (k * 6 + 0) (strT n.radios[k].name) (by have := flat_get DRadio.tr 6 DRadio.tr_len n.radios k hlt 0 (by decide); rw [this]; rfl)
          obtain rfl := Rd.lit.1 R0
          have s0 := HH2.out.cell rfl (j := k * 6 + 0) (by omega) x0e (by omega)
          obtain ⟨y1, x1e, R1⟩ := RXW.at_ (k * 6 + 1) (intT n.radios[k].power) (by have := flat_get DRadio.tr 6 DRadio.tr_len n.radios k hlt 1 (by decide); rw [this]; rfl)
          obtain rfl := Rd.lit.1 R1
          have s1 := HH2.out.cell rfl (j := k * 6 + 1) (by omega) x1e (by omega)
          obtain ⟨y2, x2e, R2⟩ := RXW.at_ (k * 6 + 2) (intT n.radios[k].feeder) (by have := flat_get DRadio.tr 6 DRadio.tr_len n.radios k hlt 2 (by decide); rw [this]; rfl)
          obtain rfl := Rd.lit.1 R2
          have s2 := HH2.out.cell rfl (j := k * 6 + 2) (by omega) x2e (by omega)
          obtain ⟨y3, x3e, R3⟩ := RXW.at_ (k * 6 + 3) (intT n.radios[k].noise) (by have := flat_get DRadio.tr 6 DRadio.tr_len n.radios k hlt 3 (by decide); rw [this]; rfl)
          obtain rfl := Rd.lit.1 R3
          have s3 := HH2.out.cell rfl (j := k * 6 + 3) (by omega) x3e (by omega)
          obtain ⟨y4, x4e, R4⟩ := RXW.at_ (k * 6 + 4) (intT n.radios[k].width) (by have := flat_get DRadio.tr 6 DRadio.tr_len n.radios k hlt 4 (by decide); rw [this]; rfl)
          obtain rfl := Rd.lit.1 R4
          have s4 := HH2.out.cell rfl (j := k * 6 + 4) (by omega) x4e (by omega)
          obtain ⟨y5, x5e, R5⟩ := RXW.at_ (k * 6 + 5) (DMode.sT n.radios[k].modes) (by have := flat_get DRadio.tr 6 DRadio.tr_len n.radios k hlt 5 (by decide); rw [this]; rfl)
          have s5 := HH2.out.cell rfl (j := k * 6 + 5) (by omega) x5e (by omega)
          rw [Nat.add_zero] at s0
          have sz := HH2.out.open_ rfl
          have HTL := Lib.hid htl
          have S0 := Lib.hid s0
          have S1 := Lib.hid s1
          have S2 := Lib.hid s2
          have S3 := Lib.hid s3
          have S4 := Lib.hid s4
          have S5 := Lib.hid s5
          clear RXW htl x0e R0 x1e R1 x2e R2 x3e R3 x4e R4 x5e R5
          obtain ⟨f0, f1, f2, f3⟩ := blk4 KAr2.out
          refine wpOrd_nil ?_
          simp only [List.drop_succ_cons, List.drop_zero]
          have OV : OwnV Y1 n.radios[k].tr [.string n.radios[k].name, .int .i64 n.radios[k].power, .int .i64 n.radios[k].feeder, .int .i64 n.radios[k].noise, .int .i64 n.radios[k].width, .slice b5 n.radios[k].modes.length d5] (p5_ ++ []) := OwnV.consLit (OwnV.consLit (OwnV.consLit (OwnV.consLit (OwnV.consLit (OwnV.cons OI5_1.out (OwnV.nil) (by simp)) rfl) rfl) rfl) rfl) rfl
          have IV : In wr.heap.size Y1.heap.size (p5_ ++ []) := by
            intro x hx
            rcases List.mem_append.1 hx with hx | hx
            · exact (ii5.mono (by omega) (by omega) : In wr.heap.size Y1.heap.size _) x hx
            simp at hx
          have OVH := Lib.hid OV
          have IVH := Lib.hid IV
          clear OV IV
          go_wp2
          go_roundw
          case rel =>
            refine ⟨k + 1, f ++ (p5_ ++ []), by omega, by go_num, ?_, ?_, ?_⟩
            · rw [flat_take_succ DRadio.tr n.radios k hlt]
              have hst := HH2.out.step rfl OVH.out.rep (by rw [HTL.out, DRadio.tr_len]; omega) OVH.out.nd (fun h => by have := (IVH.out _ h).1; omega) (fun x h1 h2 => by have := (IVH.out x h1).1; have := (hin x h2).2; omega) OVH.out.free
              rw [HTL.out, setRow6_5 S0.out S1.out S2.out S3.out S4.out] at hst
              exact hst
            · simp only [size_setCell]
              exact (hin.mono (Nat.le_refl _) (by omega)).append (IVH.out.mono (by omega) (Nat.le_refl _))
            · exact (HCH.out.trans (Chg.of_below BL2.out)).setCell (by rw [obl_some]; simp) _
          case measure => simp [intOf]; omega
        · obtain rfl : k = n.radios.length := by omega
          obtain ⟨W9, ew⟩ : ∃ W : World, W = wr := ⟨_, rfl⟩
          subst ew
          rw [List.take_length] at HH
          obtain ⟨F3, O3_9, I3, D3⟩ := (HH.out.done (flat_length DRadio.tr 6 DRadio.tr_len n.radios)).toOwnB (lo := X2.heap.size) (by decide) (hin.mono (by omega) (Nat.le_refl _)) (Nat.le_refl _)
          have nin : ∀ b, b < X2.heap.size ∨ X3.heap.size ≤ b → b ∉ obl (.slice a3 n.radios.length c3) := fun b hb e => by unfold obl at e; have h := GB3.out _ (by simpa using e); omega
          have kA9 : W9.heap[w.heap.size]? = _ := (HCH.out.block w.heap.size (by omega) (nin _ (by omega))).trans KA8.out
          have kR9 : W9.heap[w.heap.size + 1]? = _ := (HCH.out.block (w.heap.size + 1) (by omega) (nin _ (by omega))).trans KR8.out
          have b9 : Below w.heap.size W8 W9 := HCH.out.below (by omega) (fun x e => Nat.le_of_not_lt fun h => nin x (by omega) e)
          have BB9 := Lib.hid (BB8.out.trans b9)
          have O0_9 := O0_8.out.chg i0 (by omega) HCH.out (fun x hx => nin x (by have := (i0 x hx).2; omega))
          have O1_9 := O1_8.out.chg i1 (by omega) HCH.out (fun x hx => nin x (by have := (i1 x hx).2; omega))
          have O2_9 := O2H_8.out.chg I2 (Nat.le_refl _) HCH.out (fun x hx => nin x (by have := F2B.out x hx; omega))
          have F3B : ∀ x ∈ F3, (X2.heap.size ≤ x ∧ x < X3.heap.size) ∨ (W8.heap.size ≤ x ∧ x < W9.heap.size) := fun x hx => by
            rcases D3 x hx with h | h
            · exact Or.inl (GB3.out x h)
            · exact Or.inr (hin x h)
          have ov : OwnV W9 n.tr [.slice a0 n.sites.length c0, .slice a1 n.sectors.length c1, .slice a2 n.antennas.length c2, .slice a3 n.radios.length c3] (p0 ++ (p1 ++ (F2 ++ (F3 ++ [])))) := OwnV.cons O0_9 (OwnV.cons O1_9 (OwnV.cons O2_9 (OwnV.cons O3_9 OwnV.nil (by simp)) (fun x h1 h2 => by
              simp only [List.append_nil] at h2; have := F2B.out x h1; have := F3B x h2; omega)) (fun x h1 h2 => by
              have := (i1 x h1).2
              rcases List.mem_append.1 h2 with h2 | h2
              · have := F2B.out x h2; omega
              · simp only [List.append_nil] at h2; have := F3B x h2; omega)) (fun x h1 h2 => by
              have := (i0 x h1).2
              rcases List.mem_append.1 h2 with h2 | h2
              · have := (i1 x h2).1; omega
              rcases List.mem_append.1 h2 with h2 | h2
              · have := F2B.out x h2; omega
              · simp only [List.append_nil] at h2; have := F3B x h2; omega)
          have z9 : W8.heap.size ≤ W9.heap.size := HCH.out.size
          have iv : In (w.heap.size + 2) W9.heap.size (p0 ++ (p1 ++ (F2 ++ (F3 ++ [])))) := (i0.mono (by omega) (by omega)).append ((i1.mono (by omega) (by omega)).append ((I2.mono (by omega) (by omega)).append ((I3.mono (by omega) (by omega)).append In.nil)))
          have OVF := Lib.hid ov
          have IVF := Lib.hid iv
          obtain ⟨f0, f1, f2, f3⟩ := blk4 kA9
          obtain ⟨g0, g1, g2, g3⟩ := blk4 kR9
          have fz := blkF kR9
          clear kA9 kR9 b9 O0_9 O1_9 O2_9 O3_9 F3B ov iv HH HCH D3 nin hin KA8 KR8 BB8 O0_8 O1_8 O2H_8 RX3_8 HS3 LT3 LR F2B GB2 GB3 i0 i1 I2 I3
          go_wp2
          have BF := Lib.hid (((((BB9.out).setCell (p := ⟨w.heap.size + 1, 0, none⟩) (by show w.heap.size ≤ w.heap.size + 1; omega) (.slice a0 n.sites.length c0)).setCell (p := ⟨w.heap.size + 1, 1, none⟩) (by show w.heap.size ≤ w.heap.size + 1; omega) (.slice a1 n.sectors.length c1)).setCell (p := ⟨w.heap.size + 1, 2, none⟩) (by show w.heap.size ≤ w.heap.size + 1; omega) (.slice a2 n.antennas.length c2)).setCell (p := ⟨w.heap.size + 1, 3, none⟩) (by show w.heap.size ≤ w.heap.size + 1; omega) (.slice a3 n.radios.length c3))
          have OF := Lib.hid (((((OVF.out).setFar (p := ⟨w.heap.size + 1, 0, none⟩) (fun e => by have := (IVF.out _ e).1; simp only at this; omega) (.slice a0 n.sites.length c0)).setFar (p := ⟨w.heap.size + 1, 1, none⟩) (fun e => by have := (IVF.out _ e).1; simp only at this; omega) (.slice a1 n.sectors.length c1)).setFar (p := ⟨w.heap.size + 1, 2, none⟩) (fun e => by have := (IVF.out _ e).1; simp only at this; omega) (.slice a2 n.antennas.length c2)).setFar (p := ⟨w.heap.size + 1, 3, none⟩) (fun e => by have := (IVF.out _ e).1; simp only at this; omega) (.slice a3 n.radios.length c3))
          refine bodyPost_ret (v := .agg #[.slice a0 n.sites.length c0, .slice a1 n.sectors.length c1, .slice a2 n.antennas.length c2, .slice a3 n.radios.length c3]) (by simp [results, Tryz.results46, go_sem, *]) rfl ⟨a0, c0, a1, c1, a2, c2, a3, c3, _, rfl, BF.out, OF.out, ?_⟩
          simp only [size_setCell]
          exact IVF.out.mono (by omega) (Nat.le_refl _)
end Go.Proofs.YtppgcgopnchbcaaGreat
