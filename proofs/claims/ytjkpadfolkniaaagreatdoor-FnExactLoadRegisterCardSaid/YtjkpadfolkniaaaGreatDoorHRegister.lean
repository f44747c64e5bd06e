/- Contracts of the laws' helpers over the type Register and slices of it. Conditions: bounded lengths. -/
import Derived.Test.YtjkpadfolkniaaaGreatDoorInts2
import Derived.Test.YtjkpadfolkniaaaGreatDoorTypes
import Derived.Test.YtjkpadfolkniaaaGreatDoorText
import Derived.Test.YtjkpadfolkniaaaGreatDoorOver
import Derived.Test.YtjkpadfolkniaaaGreatDoorHRecord
import Derived.Test.YtjkpadfolkniaaaGreatDoorHChange
namespace Go.Proofs.YtjkpadfolkniaaaGreatDoor
open Go.RowKit
set_option linter.unusedVariables false

theorem DRegister.siz_tr (x : DRegister) : sizL x.tr = siz (DRecord.sT x.records) + siz (DChange.sT x.changes) := by
  simp only [DRegister.tr, sizL]
  omega
set_option maxHeartbeats 4000000 in
set_option maxRecDepth 100000 in
theorem eq_Register (x : DRegister) (v0 u0 v1 u1 : Value) (B : Nat) (w : World) (h0 : Rd B w (DRecord.sT x.records) v0) (g0 : Rd B w (DRecord.sT x.records) u0) (h1 : Rd B w (DChange.sT x.changes) v1) (g1 : Rd B w (DChange.sT x.changes) u1) (hB : B ≤ w.heap.size) (hn : sizL x.tr ≤ 1099511627776) :
    Calls Tryz.prog 12 #[.agg #[v0, v1], .agg #[u0, u1]] w fun e w' => e = .returned (.bool true) ∧ Below w.heap.size w w' := by
  have hsum := DRegister.siz_tr x
  have b0 : Below w.heap.size w ((w.alloc (.cells #[v0, v1] 31)).alloc (.cells #[u0, u1] 31)) := ((Below.refl _ _).alloc (Nat.le_refl _) _).alloc (by simp) _
  have B0 := Lib.hid b0
  have y0 : w.heap.size + 2 ≤ ((w.alloc (.cells #[v0, v1] 31)).alloc (.cells #[u0, u1] 31)).heap.size := by first | (simp; done) | (simp; omega)
  clear b0
  go_enter Tryz.func12, Tryz.ntmps12
  go_wp2_with fail
  refine (eq_RecordS x.records v0 u0 B _ (h0.below (B0.out.mono hB)) (g0.below (B0.out.mono hB)) (by omega) (by omega)).mono ?_
  rintro e w1 ⟨rfl, hb1⟩
  obtain ⟨qa1, _, ya1⟩ := bcellAt hb1 (b := w.heap.size) (by omega)
  obtain ⟨qb1, _, yb1⟩ := bcellAt hb1 (b := w.heap.size + 1) (by omega)
  have y1 : w.heap.size + 2 ≤ w1.heap.size := by have := hb1.size; omega
  have B1 := Lib.hid (B0.out.trans (hb1.mono (by omega)))
  clear hb1
  go_wp2_with fail
  refine (eq_ChangeS x.changes v1 u1 B _ (h1.below (B1.out.mono hB)) (g1.below (B1.out.mono hB)) (by omega) (by omega)).mono ?_
  rintro e w2 ⟨rfl, hb2⟩
  obtain ⟨qa2, _, ya2⟩ := bcellAt hb2 (b := w.heap.size) (by omega)
  obtain ⟨qb2, _, yb2⟩ := bcellAt hb2 (b := w.heap.size + 1) (by omega)
  have y2 : w.heap.size + 2 ≤ w2.heap.size := by have := hb2.size; omega
  have B2 := Lib.hid (B1.out.trans (hb2.mono (by omega)))
  clear hb2
  go_wp2
  go_ret
  exact ⟨rfl, B2.out⟩
theorem DRegister.cnt_eq (x : DRegister) : cnt (DRecord.sT x.records) + cnt (DChange.sT x.changes) = cnt (DRecord.sT x.records) + cnt (DChange.sT x.changes) := rfl
set_option maxHeartbeats 4000000 in
set_option maxRecDepth 100000 in
theorem mark_Register (x : DRegister) (v0 v1 : Value) (f0 f1 : List Nat) (k0 l0 m0 l1 m1 : Nat) (w : World) (o0 : Own w (DRecord.sT x.records) v0 f0) (i0 : In l0 m0 f0) (n0 : m0 ≤ w.heap.size) (o1 : Own w (DChange.sT x.changes) v1 f1) (i1 : In l1 m1 f1) (n1 : m1 ≤ w.heap.size) (d0_1 : ∀ y ∈ f0, y ∉ f1) (hs : sizL x.tr ≤ 1099511627776) (hk0 : k0 + cnt (DRecord.sT x.records) + cnt (DChange.sT x.changes) ≤ 1099511627776) (hk1 : 0 < k0) :
    Calls Tryz.prog 13 #[.agg #[v0, v1], .int .i64 k0] w fun e w' => e = .returned (.int .i64 ((k0 + cnt (DRecord.sT x.records) + cnt (DChange.sT x.changes) : Nat) : Int)) ∧ Own w' (mkT (DRecord.sT x.records) (k0)) v0 f0 ∧ Own w' (mkT (DChange.sT x.changes) (k0 + cnt (DRecord.sT x.records))) v1 f1 ∧ Chg (f0 ++ f1) w w' := by
  have hsum := DRegister.siz_tr x
  have b0 : Below w.heap.size w (w.alloc (.cells #[v0, v1] 31)) := (Below.refl _ _).alloc (Nat.le_refl _) _
  have C0 := Lib.hid (Chg.of_below (fp := (f0 ++ f1)) b0)
  have y0 : w.heap.size < (w.alloc (.cells #[v0, v1] 31)).heap.size := by simp
  have O0_0 := Lib.hid (o0.below i0 n0 b0)
  have O0_1 := Lib.hid (o1.below i1 n1 b0)
  clear b0 o0 o1
  go_enter Tryz.func13, Tryz.ntmps13
  go_wp2_with fail
  refine (markI_RecordS x.records v0 f0 (k0) l0 _ _ O0_0.out (i0.mono (Nat.le_refl _) (by omega)) (by omega) (by first | rfl | simp only [Int.natCast_add]) (by omega) (by omega)).mono ?_
  rintro e w1 ⟨rfl, p0, c1⟩
  have y1 : w.heap.size < w1.heap.size := by have := c1.size; omega
  have hk1c : ∀ q, w1.cell? ⟨w.heap.size, q, none⟩ = _ := fun q => World.cell?_of_block (a := ⟨w.heap.size, q, none⟩) (c1.block w.heap.size y0 (fun e => by have := (i0 _ e).2; omega))
  have C1 := Lib.hid (C0.out.trans (c1.mono (fun y hy => by simp [hy])))
  have O1_0 := Lib.hid p0
  have O1_1 := Lib.hid (O0_1.out.chg i1 (by omega) c1 (fun y hy e => d0_1 y e hy))
  clear c1 p0
  go_wp2_with fail
  refine (markI_ChangeS x.changes v1 f1 (k0 + cnt (DRecord.sT x.records)) l1 _ _ O1_1.out (i1.mono (Nat.le_refl _) (by omega)) (by omega) (by first | rfl | simp only [Int.natCast_add]) (by omega) (by omega)).mono ?_
  rintro e w2 ⟨rfl, p1, c2⟩
  have y2 : w.heap.size < w2.heap.size := by have := c2.size; omega
  have hk2c : ∀ q, w2.cell? ⟨w.heap.size, q, none⟩ = _ := fun q => World.cell?_of_block (a := ⟨w.heap.size, q, none⟩) (c2.block w.heap.size y1 (fun e => by have := (i1 _ e).2; omega))
  have C2 := Lib.hid (C1.out.trans (c2.mono (fun y hy => by simp [hy])))
  have O2_0 := Lib.hid (O1_0.out.chg i0 (by omega) c2 (fun y hy e => d0_1 y hy e))
  have O2_1 := Lib.hid p1
  clear c2 p1
  go_wp2
  go_ret
  exact ⟨ret_int (by simp only [Int.natCast_add]), O2_0.out, O2_1.out, C2.out⟩
set_option maxHeartbeats 4000000 in
set_option maxRecDepth 100000 in
theorem held_Register (x : DRegister) (v0 v1 : Value) (B k0 : Nat) (w : World) (h0 : Rd B w (mkT (DRecord.sT x.records) (k0)) v0) (h1 : Rd B w (mkT (DChange.sT x.changes) (k0 + cnt (DRecord.sT x.records))) v1) (hB : B ≤ w.heap.size) (hs : sizL x.tr ≤ 1099511627776) (hk0 : k0 + cnt (DRecord.sT x.records) + cnt (DChange.sT x.changes) ≤ 1099511627776) (hk1 : 0 < k0) :
    Calls Tryz.prog 14 #[.agg #[v0, v1], .int .i64 k0] w fun e w' => e = .returned (.int .i64 ((k0 + cnt (DRecord.sT x.records) + cnt (DChange.sT x.changes) : Nat) : Int)) ∧ Below w.heap.size w w' := by
  have hsum := DRegister.siz_tr x
  have b0 : Below w.heap.size w (w.alloc (.cells #[v0, v1] 31)) := (Below.refl _ _).alloc (Nat.le_refl _) _
  have B0 := Lib.hid b0
  have y0 : w.heap.size < (w.alloc (.cells #[v0, v1] 31)).heap.size := by simp
  clear b0
  go_enter Tryz.func14, Tryz.ntmps14
  go_wp2_with fail
  refine (heldI_RecordS x.records v0 B (k0) _ _ (h0.below (B0.out.mono hB)) (by omega) (by omega) (by first | rfl | simp only [Int.natCast_add]) (by omega) (by omega)).mono ?_
  rintro e w1 ⟨rfl, hb1⟩
  obtain ⟨q1, _, y1⟩ := bcellAt hb1 (b := w.heap.size) y0
  have B1 := Lib.hid (B0.out.trans (hb1.mono (by omega)))
  clear hb1
  go_wp2_with fail
  refine (heldI_ChangeS x.changes v1 B (k0 + cnt (DRecord.sT x.records)) _ _ (h1.below (B1.out.mono hB)) (by omega) (by omega) (by first | rfl | simp only [Int.natCast_add]) (by omega) (by omega)).mono ?_
  rintro e w2 ⟨rfl, hb2⟩
  obtain ⟨q2, _, y2⟩ := bcellAt hb2 (b := w.heap.size) y1
  have B2 := Lib.hid (B1.out.trans (hb2.mono (by omega)))
  clear hb2
  go_wp2
  go_ret
  exact ⟨ret_int (by simp only [Int.natCast_add]), B2.out⟩
end Go.Proofs.YtjkpadfolkniaaaGreatDoor
