/- Contracts of the laws' helpers over the type Register and slices of it. Conditions: bounded lengths. -/
import Derived.Test.YtjkpadfolkniaaaDoorInts2
import Derived.Test.YtjkpadfolkniaaaDoorTypes
import Derived.Test.YtjkpadfolkniaaaDoorOver
import Derived.Test.YtjkpadfolkniaaaDoorHRecord
import Derived.Test.YtjkpadfolkniaaaDoorHChange
namespace Go.Proofs.YtjkpadfolkniaaaDoor
open Go.RowKit
set_option linter.unusedVariables false

theorem DRegister.siz_tr (x : DRegister) : sizL x.tr = siz (DRecord.sT x.records) + siz (DChange.sT x.changes) := by
  simp only [DRegister.tr, sizL]
  omega
set_option maxHeartbeats 4000000 in
set_option maxRecDepth 100000 in
theorem sz_Register (x : DRegister) (v0 v1 : Value) (B : Nat) (left : Int) (w : World) (h0 : Rd B w (DRecord.sT x.records) v0) (h1 : Rd B w (DChange.sT x.changes) v1) (hB : B ≤ w.heap.size) (hl : 0 ≤ left) (hl2 : left ≤ 1048576) (hok : x.ok) :
    Calls Tryd.prog 4 #[.agg #[v0, v1], .int .i64 left] w (SzPost (sizL x.tr) left w) := by
  have hsum := DRegister.siz_tr x
  have b0 : Below w.heap.size w (w.alloc (.cells #[v0, v1] 25)) := (Below.refl _ _).alloc (Nat.le_refl _) _
  have B0 := Lib.hid b0
  have z0 : w.heap.size ≤ (w.alloc (.cells #[v0, v1] 25)).heap.size := b0.size
  have y0 : w.heap.size < (w.alloc (.cells #[v0, v1] 25)).heap.size := by simp
  have R0_0 := Lib.hid (h0.below (b0.mono hB))
  have R0_1 := Lib.hid (h1.below (b0.mono hB))
  clear b0 h0 h1
  go_enter Tryd.func4, Tryd.ntmps4
  go_wp2_with fail
  refine (sz_RecordS x.records v0 B _ _ R0_0.out (by omega) (by omega) (by omega) (hok.records)).mono ?_
  rintro e w1 ⟨⟨c0, rfl⟩ | ⟨c0, rfl⟩, hb1⟩
  case inr =>
    go_wp2
    go_ret
    exact ⟨Or.inr ⟨by omega, rfl⟩, B0.out.trans (hb1.mono z0)⟩
  obtain ⟨q1, _, y1⟩ := bcellAt hb1 (b := w.heap.size) y0
  have z1 : w.heap.size ≤ w1.heap.size := by omega
  have B1 := Lib.hid (B0.out.trans (hb1.mono z0))
  have R1_0 := Lib.hid (R0_0.out.below (hb1.mono (by omega)))
  have R1_1 := Lib.hid (R0_1.out.below (hb1.mono (by omega)))
  clear hb1
  have d0 : decide (left - (siz (DRecord.sT x.records) : Int) < 0) = false := by simp; omega
  go_wp2_with fail
  refine (sz_ChangeS x.changes v1 B _ _ R1_1.out (by omega) (by omega) (by omega) (hok.changes)).mono ?_
  rintro e w2 ⟨⟨c1, rfl⟩ | ⟨c1, rfl⟩, hb2⟩
  case inr =>
    go_wp2
    go_ret
    exact ⟨Or.inr ⟨by omega, rfl⟩, B1.out.trans (hb2.mono z1)⟩
  obtain ⟨q2, _, y2⟩ := bcellAt hb2 (b := w.heap.size) y1
  have z2 : w.heap.size ≤ w2.heap.size := by omega
  have B2 := Lib.hid (B1.out.trans (hb2.mono z1))
  have R2_0 := Lib.hid (R1_0.out.below (hb2.mono (by omega)))
  have R2_1 := Lib.hid (R1_1.out.below (hb2.mono (by omega)))
  clear hb2
  have d1 : decide (left - (siz (DRecord.sT x.records) : Int) - (siz (DChange.sT x.changes) : Int) < 0) = false := by simp; omega
  go_wp2
  go_ret
  exact ⟨Or.inl ⟨by omega, ret_int (by omega)⟩, B2.out⟩
set_option maxHeartbeats 4000000 in
set_option maxRecDepth 100000 in
theorem to_Register (x : DRegister) (v0 v1 : Value) (w : World) (h0 : Rd w.heap.size w (DRecord.sT x.records) v0) (h1 : Rd w.heap.size w (DChange.sT x.changes) v1) (hn : sizL x.tr ≤ 1048576) :
    Calls Tryd.prog 6 #[.agg #[v0, v1]] w fun e w' => ∃ a0 c0 a1 c1 fp, e = .returned (.agg #[.slice a0 x.records.length c0, .slice a1 x.changes.length c1]) ∧ Below w.heap.size w w' ∧ OwnV w' x.tr [.slice a0 x.records.length c0, .slice a1 x.changes.length c1] fp ∧ In w.heap.size w'.heap.size fp := by
  have hsum := DRegister.siz_tr x
  go_enter Tryd.func6, Tryd.ntmps6
  have bX0 : Below w.heap.size w (((w.alloc (.cells #[v0, v1] 25)).alloc (.cells #[.slice none 0 0, .slice none 0 0] 32)).alloc (.cells #[.slice none 0 0, .slice none 0 0] 32)) := (((Below.refl _ _).alloc (Nat.le_refl _) _).alloc (by simp) _).alloc (by first | (simp; done) | (simp; omega)) _
  have BX0 := Lib.hid bX0
  have zX0 : w.heap.size + 3 ≤ (((w.alloc (.cells #[v0, v1] 25)).alloc (.cells #[.slice none 0 0, .slice none 0 0] 32)).alloc (.cells #[.slice none 0 0, .slice none 0 0] 32)).heap.size := by first | (simp; done) | (simp; omega)
  clear bX0
  go_wp2_with fail
  refine (to_RecordS x.records v0 (((w.alloc (.cells #[v0, v1] 25)).alloc (.cells #[.slice none 0 0, .slice none 0 0] 32)).alloc (.cells #[.slice none 0 0, .slice none 0 0] 32)) ((h0.below BX0.out).mono (by omega)) (by omega)).mono ?_
  rintro e w1 ⟨a0, c0, fp1, rfl, hb1, o1, i1⟩
  obtain ⟨qa1, _, ya1⟩ := bcellAt hb1 (b := w.heap.size) (by omega)
  obtain ⟨qb1, qf1, yb1⟩ := bcellAt hb1 (b := w.heap.size + 1) (by omega)
  obtain ⟨qc1, qg1, yc1⟩ := bcellAt hb1 (b := w.heap.size + 1 + 1) (by omega)
  have z1 := hb1.size
  have B1 := Lib.hid (BX0.out.trans (hb1.mono (by omega)))
  have y1 : w.heap.size + 3 ≤ w1.heap.size := by omega
  have j1 : In (w.heap.size + 3) w1.heap.size fp1 := i1.mono (by omega) (Nat.le_refl _)
  have P1_1 := Lib.hid o1
  clear hb1 o1 i1
  have BX1 := Lib.hid (B1.out.setCell (p := ⟨w.heap.size + 1 + 1, 0, none⟩) (by show w.heap.size ≤ w.heap.size + 1 + 1; omega) (.slice a0 x.records.length c0))
  have zX1 : w.heap.size + 3 ≤ ((w1.setCell ⟨w.heap.size + 1 + 1, 0, none⟩ (.slice a0 x.records.length c0))).heap.size := by simp only [size_setCell]; omega
  go_wp2_with fail
  refine (to_ChangeS x.changes v1 ((w1.setCell ⟨w.heap.size + 1 + 1, 0, none⟩ (.slice a0 x.records.length c0))) ((h1.below BX1.out).mono (by omega)) (by omega)).mono ?_
  rintro e w2 ⟨a1, c1, fp2, rfl, hb2, o2, i2⟩
  obtain ⟨qa2, _, ya2⟩ := bcellAt hb2 (b := w.heap.size) (by omega)
  obtain ⟨qb2, qf2, yb2⟩ := bcellAt hb2 (b := w.heap.size + 1) (by omega)
  obtain ⟨qc2, qg2, yc2⟩ := bcellAt hb2 (b := w.heap.size + 1 + 1) (by omega)
  have z2 := hb2.size
  simp only [size_setCell] at z2
  have B2 := Lib.hid (BX1.out.trans (hb2.mono (by omega)))
  have y2 : w.heap.size + 3 ≤ w2.heap.size := by omega
  have P1_2 := Lib.hid ((P1_1.out.setFar (p := ⟨w.heap.size + 1 + 1, 0, none⟩) (fun e => by have := (j1 _ e).1; simp only at this; omega) (.slice a0 x.records.length c0)).below j1 (by first | omega | (simp only [size_setCell]; omega)) hb2)
  have j2 : In (w1.heap.size) w2.heap.size fp2 := i2.mono (by simp only [size_setCell]; omega) (Nat.le_refl _)
  have P2_2 := Lib.hid o2
  clear hb2 o2 i2
  go_wp2
  have F1 := Lib.hid (((P1_2.out.setFar (p := ⟨w.heap.size + 1 + 1, 1, none⟩) (fun e => by have := (j1 _ e).1; simp only at this; omega) (.slice a1 x.changes.length c1)).setFar (p := ⟨w.heap.size + 1, 0, none⟩) (fun e => by have := (j1 _ e).1; simp only at this; omega) (.slice a0 x.records.length c0)).setFar (p := ⟨w.heap.size + 1, 1, none⟩) (fun e => by have := (j1 _ e).1; simp only at this; omega) (.slice a1 x.changes.length c1))
  have F2 := Lib.hid (((P2_2.out.setFar (p := ⟨w.heap.size + 1 + 1, 1, none⟩) (fun e => by have := (j2 _ e).1; simp only at this; omega) (.slice a1 x.changes.length c1)).setFar (p := ⟨w.heap.size + 1, 0, none⟩) (fun e => by have := (j2 _ e).1; simp only at this; omega) (.slice a0 x.records.length c0)).setFar (p := ⟨w.heap.size + 1, 1, none⟩) (fun e => by have := (j2 _ e).1; simp only at this; omega) (.slice a1 x.changes.length c1))
  have BF := Lib.hid (((B2.out.setCell (p := ⟨w.heap.size + 1 + 1, 1, none⟩) (by show w.heap.size ≤ w.heap.size + 1 + 1; omega) (.slice a1 x.changes.length c1)).setCell (p := ⟨w.heap.size + 1, 0, none⟩) (by show w.heap.size ≤ w.heap.size + 1; omega) (.slice a0 x.records.length c0)).setCell (p := ⟨w.heap.size + 1, 1, none⟩) (by show w.heap.size ≤ w.heap.size + 1; omega) (.slice a1 x.changes.length c1))
  refine bodyPost_ret (v := .agg #[.slice a0 x.records.length c0, .slice a1 x.changes.length c1]) (by simp [results, Tryd.results6, go_sem, *]) rfl ⟨a0, c0, a1, c1, fp1 ++ (fp2 ++ []), rfl, BF.out, ?_, ?_⟩
  · exact (OwnV.cons F1.out (OwnV.cons F2.out OwnV.nil (fun x hx e => by have h1 := j2 x hx; simp at e)) (fun x hx e => by have h1 := j1 x hx; simp only [List.mem_append, List.not_mem_nil, or_false] at e; have h2 := j2 x e; omega))
  · simp only [size_setCell]
    exact ((j1.mono (by omega) (by omega)).append ((j2.mono (by omega) (by omega)).append In.nil))
set_option maxHeartbeats 4000000 in
set_option maxRecDepth 100000 in
theorem eq_Register (x : DRegister) (v0 u0 v1 u1 : Value) (B : Nat) (w : World) (h0 : Rd B w (DRecord.sT x.records) v0) (g0 : Rd B w (DRecord.sT x.records) u0) (h1 : Rd B w (DChange.sT x.changes) v1) (g1 : Rd B w (DChange.sT x.changes) u1) (hB : B ≤ w.heap.size) (hn : sizL x.tr ≤ 1099511627776) :
    Calls Tryd.prog 8 #[.agg #[v0, v1], .agg #[u0, u1]] w fun e w' => e = .returned (.bool true) ∧ Below w.heap.size w w' := by
  have hsum := DRegister.siz_tr x
  have b0 : Below w.heap.size w ((w.alloc (.cells #[v0, v1] 32)).alloc (.cells #[u0, u1] 32)) := ((Below.refl _ _).alloc (Nat.le_refl _) _).alloc (by simp) _
  have B0 := Lib.hid b0
  have y0 : w.heap.size + 2 ≤ ((w.alloc (.cells #[v0, v1] 32)).alloc (.cells #[u0, u1] 32)).heap.size := by first | (simp; done) | (simp; omega)
  clear b0
  go_enter Tryd.func8, Tryd.ntmps8
  go_wp2_with fail
  refine (eq_RecordS x.records v0 u0 B _ (h0.below (B0.out.mono hB)) (g0.below (B0.out.mono hB)) (by omega) (by omega)).mono ?_
  rintro e w1 ⟨rfl, hb1⟩
  obtain ⟨qa1, _, ya1⟩ := bcellAt hb1 (b := w.heap.size) (by omega)
  obtain ⟨qb1, _, yb1⟩ := bcellAt hb1 (b := w.heap.size + 1) (by omega)
  have y1 : w.heap.size + 2 ≤ w1.heap.size := by have := hb1.size; omega
  have B1 := Lib.hid (B0.out.trans (hb1.mono (by omega)))
  clear hb1
  go_wp2_with fail
  refine (eq_ChangeS x.changes v1 u1 B _ (h1.below (B1.out.mono hB)) (g1.below (B1.out.mono hB)) (by omega) (by omega)).mono ?_
  rintro e w2 ⟨rfl, hb2⟩
  obtain ⟨qa2, _, ya2⟩ := bcellAt hb2 (b := w.heap.size) (by omega)
  obtain ⟨qb2, _, yb2⟩ := bcellAt hb2 (b := w.heap.size + 1) (by omega)
  have y2 : w.heap.size + 2 ≤ w2.heap.size := by have := hb2.size; omega
  have B2 := Lib.hid (B1.out.trans (hb2.mono (by omega)))
  clear hb2
  go_wp2
  go_ret
  exact ⟨rfl, B2.out⟩
theorem DRegister.cnt_eq (x : DRegister) : cnt (DRecord.sT x.records) + cnt (DChange.sT x.changes) = cnt (DRecord.sT x.records) + cnt (DChange.sT x.changes) := rfl
end Go.Proofs.YtjkpadfolkniaaaDoor
