/- The walk of the law FnExactSaveRegister: it returns true. -/
import Derived.Test.YtjkpadfolkniaaaDoorSr5
import Derived.Test.YtjkpadfolkniaaaDoorHRegister
import Derived.Deep.RegionHeld3
namespace Go.Proofs.YtjkpadfolkniaaaDoor.fnExactSaveRegister
open Go.RowKit
set_option linter.unusedVariables false
set_option maxHeartbeats 4000000 in
set_option maxRecDepth 100000 in
theorem walk (ra : DRegister) (vra0 vra1 : Value) (w : World) (L : LibW w) (rra0 : Rd w.heap.size w (DRecord.sT ra.records) vra0) (rra1 : Rd w.heap.size w (DChange.sT ra.changes) vra1) (hk_ra : ra.ok) :
    Calls Tryd.prog 3 #[.agg #[vra0, vra1]] w fun e w' => e = .returned (.bool true) ∧ Below w.heap.size w w' := by
  have Hra0 := Lib.hid rra0
  have Hra1 := Lib.hid rra1
  clear rra0 rra1
  have hq_ra := DRegister.siz_tr ra
  have HL := Lib.hid L
  clear L
  have BB0 : Hid (Below w.heap.size w w) := Below.refl _ _
  generalize hR : saveR ra = R at *
  have HR := Lib.hid hR
  clear hR
  have HS : Hid (∀ (W : World) (xra0 xra1 : Value), Rd W.heap.size W (DRecord.sT ra.records) xra0 → Rd W.heap.size W (DChange.sT ra.changes) xra1 → sizL ra.tr ≤ 1048576 → Calls Tryd.prog 5 #[.agg #[xra0, xra1]] W (fun e w' => e = .returned (.tuple #[.string R.1, .int .i64 R.2]) ∧ Below W.heap.size W w')) := fun W xra0 xra1 yra0 yra1 z0 => by rw [← HR.out]; exact sSaveRegister_std ra xra0 xra1 W yra0 yra1 z0 hk_ra
  have HI : Hid (∀ (W : World) (xra0 xra1 : Value), LibW W → Rd W.heap.size W (DRecord.sT ra.records) xra0 → Rd W.heap.size W (DChange.sT ra.changes) xra1 → sizL ra.tr ≤ 1048576 → Calls Tryd.prog 7 #[.agg #[xra0, xra1]] W (fun e w' => e = .returned (.tuple #[.string R.1, .int .i64 R.2]) ∧ Below W.heap.size W w')) := fun W xra0 xra1 hlw yra0 yra1 z0 => by rw [← HR.out]; exact iSaveRegister_std ra xra0 xra1 W hlw yra0 yra1 z0 hk_ra
  go_enter Tryd.func3, Tryd.ntmps3
  go_wp2_with fail
  have BX1 : Hid (Below w.heap.size w (w.alloc (.cells #[vra0, vra1] 25))) := (BB0.out.alloc (by first | omega | (simp; done) | (simp; omega)) _)
  have zx1 := BX1.out.size
  refine (sz_Register ra vra0 vra1 w.heap.size _ _ (Hra0.out.below BX1.out) (Hra1.out.below BX1.out) (by omega) (by omega) (by omega) hk_ra).mono ?_
  rintro e w1 ⟨⟨cz1, rfl⟩ | ⟨cz1, rfl⟩, hb1⟩
  case inr =>
    go_wp2
    go_ret
    exact ⟨rfl, BX1.out.trans (hb1.mono (by omega))⟩
  have cy1 : decide ((1048576 : Int) - sizL ra.tr < 0) = false := by simp; omega
  have hx1 : Below w.heap.size w (w.alloc (.cells #[vra0, vra1] 25)) := ((Below.refl _ _).alloc (Nat.le_refl _) _)
  have hbb1 : Below w.heap.size w w1 := hx1.trans (hb1.mono (by first | (simp; done) | (simp; omega)))
  have z1 := hbb1.size
  obtain ⟨qAra1, _, yAra1⟩ := bcellAt hb1 (b := w.heap.size) (by first | omega | (simp; done) | (simp; omega))
  have BB1 := Lib.hid (BB0.out.trans (hbb1.mono (by omega)))
  clear hx1
  clear hb1 hbb1
  have CZ1 := Lib.hid cy1
  go_wp2_with fail
  have BX2 : Hid (Below w.heap.size w w1) := BB1.out
  have zx2 := BX2.out.size
  refine (to_Register ra _ _ _ ((Hra0.out.below BX2.out).mono zx2) ((Hra1.out.below BX2.out).mono zx2) (by omega)).mono ?_
  rintro e w2 ⟨atra0, ctra0, atra1, ctra1, ftra, rfl, hb2, ov2, iv2⟩
  have hbb2 : Below w1.heap.size w1 w2 := hb2
  have z2 := hbb2.size
  obtain ⟨qAra2, _, yAra2⟩ := bcellAt hb2 (b := w.heap.size) (by first | omega | (simp; done) | (simp; omega))
  have BB2 := Lib.hid (BB1.out.trans (hbb2.mono (by omega)))
  clear hbb2
  obtain ⟨g2_0, r2_0, e2_0, p2_0, ov2_0, d2_0⟩ := OwnV.uncons ov2
  obtain ⟨g2_1, r2_1, e2_1, p2_1, ov2_1, d2_1⟩ := OwnV.uncons ov2_0
  have iw2 := iv2.mono (lo' := w1.heap.size + 0) (by first | omega | (simp; done) | (simp; omega)) (Nat.le_refl _)
  have hnil2 := ov2_1.rep
  change r2_1 = [] at hnil2
  subst hnil2
  subst e2_1
  subst e2_0
  have itra0 : In _ _ g2_0 := fun y hy => iw2 y (by simp [hy])
  have otra0_2 := Lib.hid p2_0
  have itra1 : In _ _ g2_1 := fun y hy => iw2 y (by simp [hy])
  have otra1_2 := Lib.hid p2_1
  have djtra0_1 : ∀ y ∈ g2_0, y ∉ g2_1 := fun y hy e => d2_0 y hy (by simp [e])
  clear p2_0 ov2_0 d2_0 p2_1 ov2_1 d2_1 ov2 iv2 iw2
  go_wp2_with fail
  refine (HS.out _ _ _ ((otra0_2.out.rd itra0).mono (by omega)) ((otra1_2.out.rd itra1).mono (by omega)) (by omega)).mono ?_
  rintro e w3 ⟨rfl, hb3⟩
  have hbb3 : Below w2.heap.size w2 w3 := hb3
  have z3 := hbb3.size
  obtain ⟨qAra3, _, yAra3⟩ := bcellAt hb3 (b := w.heap.size) (by first | omega | (simp; done) | (simp; omega))
  have BB3 := Lib.hid (BB2.out.trans (hbb3.mono (by omega)))
  have otra0_3 := Lib.hid (otra0_2.out.below itra0 (by omega) hbb3)
  have otra1_3 := Lib.hid (otra1_2.out.below itra1 (by omega) hbb3)
  clear hbb3
  go_wp2_with fail
  have BX4 : Hid (Below w.heap.size w w3) := BB3.out
  have zx4 := BX4.out.size
  refine (to_Register ra _ _ _ ((Hra0.out.below BX4.out).mono zx4) ((Hra1.out.below BX4.out).mono zx4) (by omega)).mono ?_
  rintro e w4 ⟨aura0, cura0, aura1, cura1, fura, rfl, hb4, ov4, iv4⟩
  have hbb4 : Below w3.heap.size w3 w4 := hb4
  have z4 := hbb4.size
  obtain ⟨qAra4, _, yAra4⟩ := bcellAt hb4 (b := w.heap.size) (by first | omega | (simp; done) | (simp; omega))
  have BB4 := Lib.hid (BB3.out.trans (hbb4.mono (by omega)))
  clear hbb4
  obtain ⟨g4_0, r4_0, e4_0, p4_0, ov4_0, d4_0⟩ := OwnV.uncons ov4
  obtain ⟨g4_1, r4_1, e4_1, p4_1, ov4_1, d4_1⟩ := OwnV.uncons ov4_0
  have iw4 := iv4.mono (lo' := w3.heap.size + 0) (by first | omega | (simp; done) | (simp; omega)) (Nat.le_refl _)
  have hnil4 := ov4_1.rep
  change r4_1 = [] at hnil4
  subst hnil4
  subst e4_1
  subst e4_0
  have iura0 : In _ _ g4_0 := fun y hy => iw4 y (by simp [hy])
  have oura0_4 := Lib.hid p4_0
  have iura1 : In _ _ g4_1 := fun y hy => iw4 y (by simp [hy])
  have oura1_4 := Lib.hid p4_1
  have djura0_1 : ∀ y ∈ g4_0, y ∉ g4_1 := fun y hy e => d4_0 y hy (by simp [e])
  clear p4_0 ov4_0 d4_0 p4_1 ov4_1 d4_1 ov4 iv4 iw4
  go_wp2_with fail
  refine (HI.out _ _ _ (HL.out.mono (BB4.out.alloc (by omega) _)) (((oura0_4.out.below iura0 (by omega) ((Below.refl _ _).alloc (Nat.le_refl _) _)).rd iura0).mono (by first | omega | (simp; done) | (simp; omega))) (((oura1_4.out.below iura1 (by omega) ((Below.refl _ _).alloc (Nat.le_refl _) _)).rd iura1).mono (by first | omega | (simp; done) | (simp; omega))) (by omega)).mono ?_
  rintro e w5 ⟨rfl, hb5⟩
  have hx5 : Below w4.heap.size w4 (w4.alloc (.cells #[.slice aura0 ra.records.length cura0, .slice aura1 ra.changes.length cura1] 32)) := ((Below.refl _ _).alloc (Nat.le_refl _) _)
  have hbb5 : Below w4.heap.size w4 w5 := hx5.trans (hb5.mono (by first | (simp; done) | (simp; omega)))
  have z5 := hbb5.size
  obtain ⟨qAra5, _, yAra5⟩ := bcellAt hb5 (b := w.heap.size) (by first | omega | (simp; done) | (simp; omega))
  obtain ⟨qUra5, _, yUra5⟩ := bcellAt hb5 (b := w4.heap.size) (by first | omega | (simp; done) | (simp; omega))
  have BB5 := Lib.hid (BB4.out.trans (hbb5.mono (by omega)))
  have oura0_5 := Lib.hid (oura0_4.out.below iura0 (by omega) hbb5)
  have oura1_5 := Lib.hid (oura1_4.out.below iura1 (by omega) hbb5)
  clear hx5
  clear hb5 hbb5
  clear cy1
  have hcf : w5.cell? ⟨w4.heap.size, 0, none⟩ = some (.slice aura0 ra.records.length cura0) ∧ w5.cell? ⟨w4.heap.size, 1, none⟩ = some (.slice aura1 ra.changes.length cura1) ∧ w5.cell? ⟨w.heap.size, 0, none⟩ = some (vra0) ∧ w5.cell? ⟨w.heap.size, 1, none⟩ = some (vra1) := by refine ⟨?_, ?_, ?_, ?_⟩ <;> simp [go_sem, *]
  go_wp2
  have hsame : Below w5.heap.size w5 w5.drew := ⟨rfl, rfl, rfl, Nat.le_refl _, fun _ _ => rfl⟩
  have BBd := Lib.hid BB5.out.drew
  have HTO := Lib.hid (to_Register ra vra0 vra1 w5.drew ((Hra0.out.below BBd.out).mono (by show w.heap.size ≤ w5.heap.size; omega)) ((Hra1.out.below BBd.out).mono (by show w.heap.size ≤ w5.heap.size; omega)) (by omega))
  have HEQ : Hid (∀ (W : World) (p0 p1 q0 q1 : Value), Below w5.heap.size w5 W → RdV W.heap.size W ra.tr [q0, q1] → p0 = .slice aura0 ra.records.length cura0 → p1 = .slice aura1 ra.changes.length cura1 → Calls Tryd.prog 8 #[.agg #[p0, p1], .agg #[q0, q1]] W fun e w' => e = .returned (.bool true) ∧ Below W.heap.size W w') := fun W p0 p1 q0 q1 hW hr e0 e1 => by
    subst e0 e1
    have hzW := hW.size
    exact eq_Register ra _ _ _ _ W.heap.size W (((oura0_5.out.below iura0 (by omega) hW).rd iura0).mono (by omega)) hr.1 (((oura1_5.out.below iura1 (by omega) hW).rd iura1).mono (by omega)) hr.2.1 (Nat.le_refl _) (by omega)
  go_region_held3 (fun W => W.cell? ⟨w4.heap.size, 0, none⟩ = some (.slice aura0 ra.records.length cura0) ∧ W.cell? ⟨w4.heap.size, 1, none⟩ = some (.slice aura1 ra.changes.length cura1) ∧ W.cell? ⟨w.heap.size, 0, none⟩ = some (vra0) ∧ W.cell? ⟨w.heap.size, 1, none⟩ = some (vra1)) (first | exact hcf | (refine ⟨?_, ?_, ?_, ?_⟩ <;> simp [go_sem, *]))
    (first
      | (go_at_call 6; refine (HTO.out).mono ?_; rintro e wt ⟨at0, ct0, at1, ct1, ft, rfl, hbt, ovt, ivt⟩; obtain ⟨qUt, _, yUt⟩ := bcellAt hbt (b := w4.heap.size) (by show w4.heap.size < w5.heap.size; omega); obtain ⟨qAt, _, yAt⟩ := bcellAt hbt (b := w.heap.size) (by show w.heap.size < w5.heap.size; omega))
      | (go_at_call 8; refine (HEQ.out _ _ _ _ _ (hsame.trans hbt) (ovt.rd ivt) rfl rfl).mono ?_; rintro e w6 ⟨rfl, hbe⟩; obtain ⟨qUe, _, yUe⟩ := bcellAt hbe (b := w4.heap.size) yUt; obtain ⟨qAe, _, yAe⟩ := bcellAt hbe (b := w.heap.size) yAt))
  have hb6 : Below w5.heap.size w5 w6 := (hsame.trans hbt).trans (hbe.mono (hsame.trans hbt).size)
  clear HEQ HTO BBd hcf qUt qAt qUe qAe yUt yAt yUe yAe hbe hbt ovt ivt hsame
  have hbb6 : Below w5.heap.size w5 w6 := hb6
  have z6 := hbb6.size
  obtain ⟨qAra6, _, yAra6⟩ := bcellAt hb6 (b := w.heap.size) (by first | omega | (simp; done) | (simp; omega))
  obtain ⟨qUra6, _, yUra6⟩ := bcellAt hb6 (b := w4.heap.size) (by first | omega | (simp; done) | (simp; omega))
  have BB6 := Lib.hid (BB5.out.trans (hbb6.mono (by omega)))
  have oura0_6 := Lib.hid (oura0_5.out.below iura0 (by omega) hbb6)
  have oura1_6 := Lib.hid (oura1_5.out.below iura1 (by omega) hbb6)
  clear hbb6
  go_wp2
  go_ret
  exact ⟨rfl, BB6.out⟩
end Go.Proofs.YtjkpadfolkniaaaDoor.fnExactSaveRegister
