/- The walk of the law FnExactEirpToward: it returns true. -/
import Derived.Test.YtefefgamiaganaaEirp6
import Derived.Test.YtefefgamiaganaaHNetwork
import Derived.Deep.RegionHeld3
namespace Go.Proofs.Ytefefgamiaganaa.fnExactEirpToward
open Go.RowKit
set_option linter.unusedVariables false
set_option maxHeartbeats 4000000 in
set_option maxRecDepth 100000 in
theorem walk (nw : DNetwork) (nm : ByteArray) (be : Int) (el : Int) (vnw0 vnw1 vnw2 vnw3 : Value) (w : World) (rnw0 : Rd w.heap.size w (DSite.sT nw.sites) vnw0) (rnw1 : Rd w.heap.size w (DSector.sT nw.sectors) vnw1) (rnw2 : Rd w.heap.size w (DAntenna.sT nw.antennas) vnw2) (rnw3 : Rd w.heap.size w (DRadio.sT nw.radios) vnw3) (hk_nw : nw.ok) (hk_nm : nm.size ≤ maxLen) (hk_be : I64 be) (hk_el : I64 el) :
    Calls Try.prog 6 #[.agg #[vnw0, vnw1, vnw2, vnw3], .string nm, .int .i64 be, .int .i64 el] w fun e w' => e = .returned (.bool true) ∧ Below w.heap.size w w' := by
  have Hnw0 := Lib.hid rnw0
  have Hnw1 := Lib.hid rnw1
  have Hnw2 := Lib.hid rnw2
  have Hnw3 := Lib.hid rnw3
  clear rnw0 rnw1 rnw2 rnw3
  unfold maxLen at hk_nm
  have hq_nw := DNetwork.siz_tr nw
  have BB0 : Hid (Below w.heap.size w w) := Below.refl _ _
  generalize hR : eirpR nw nm be el = R at *
  have HR := Lib.hid hR
  clear hR
  have HS : Hid (∀ (W : World) (xnw0 xnw1 xnw2 xnw3 : Value), Rd W.heap.size W (DSite.sT nw.sites) xnw0 → Rd W.heap.size W (DSector.sT nw.sectors) xnw1 → Rd W.heap.size W (DAntenna.sT nw.antennas) xnw2 → Rd W.heap.size W (DRadio.sT nw.radios) xnw3 → sizL nw.tr ≤ 1048576 → nm.size ≤ 1048576 → Calls Try.prog 21 #[.agg #[xnw0, xnw1, xnw2, xnw3], .string nm, .int .i64 be, .int .i64 el] W (fun e w' => e = .returned (.tuple #[.int .i64 R.1, .int .i64 R.2]) ∧ Below W.heap.size W w')) := fun W xnw0 xnw1 xnw2 xnw3 ynw0 ynw1 ynw2 ynw3 z0 z1 => by rw [← HR.out]; exact sEirpToward_std nw nm be el xnw0 xnw1 xnw2 xnw3 W ynw0 ynw1 ynw2 ynw3 z0 hk_nw z1 hk_be hk_el
  have HI : Hid (∀ (W : World) (xnw0 xnw1 xnw2 xnw3 : Value), Rd W.heap.size W (DSite.sT nw.sites) xnw0 → Rd W.heap.size W (DSector.sT nw.sectors) xnw1 → Rd W.heap.size W (DAntenna.sT nw.antennas) xnw2 → Rd W.heap.size W (DRadio.sT nw.radios) xnw3 → sizL nw.tr ≤ 1048576 → nm.size ≤ 1048576 → Calls Try.prog 22 #[.agg #[xnw0, xnw1, xnw2, xnw3], .string nm, .int .i64 be, .int .i64 el] W (fun e w' => e = .returned (.tuple #[.int .i64 R.1, .int .i64 R.2]) ∧ Below W.heap.size W w')) := fun W xnw0 xnw1 xnw2 xnw3 ynw0 ynw1 ynw2 ynw3 z0 z1 => by rw [← HR.out]; exact iEirpToward_std nw nm be el xnw0 xnw1 xnw2 xnw3 W ynw0 ynw1 ynw2 ynw3 z0 hk_nw z1 hk_be hk_el
  by_cases hl_nm : nm.size ≤ 1048576
  case neg =>
    have hl1_nm : (1048576 : Int) < ((nm.size : Nat) : Int) := by omega
    have hl2_nm : 1048576 < nm.size := by omega
    go_enter Try.func6, Try.ntmps6
    go_wp2
    go_ret
    exact ⟨rfl, Below.alloc (Below.refl _ _) (by first | exact Nat.le_refl _ | (simp; done) | (simp; omega)) _⟩
  have hl1_nm : ((nm.size : Nat) : Int) ≤ 1048576 := by omega
  go_enter Try.func6, Try.ntmps6
  go_wp2_with fail
  have BX1 : Hid (Below w.heap.size w (w.alloc (.cells #[vnw0, vnw1, vnw2, vnw3] 27))) := (BB0.out.alloc (by first | omega | (simp; done) | (simp; omega)) _)
  have zx1 := BX1.out.size
  refine (sz_Network nw vnw0 vnw1 vnw2 vnw3 w.heap.size _ _ (Hnw0.out.below BX1.out) (Hnw1.out.below BX1.out) (Hnw2.out.below BX1.out) (Hnw3.out.below BX1.out) (by omega) (by omega) (by omega) hk_nw).mono ?_
  rintro e w1 ⟨⟨cz1, rfl⟩ | ⟨cz1, rfl⟩, hb1⟩
  case inr =>
    go_wp2
    go_ret
    exact ⟨rfl, BX1.out.trans (hb1.mono (by omega))⟩
  have cy1 : decide ((1048576 : Int) - sizL nw.tr < 0) = false := by simp; omega
  have hx1 : Below w.heap.size w (w.alloc (.cells #[vnw0, vnw1, vnw2, vnw3] 27)) := ((Below.refl _ _).alloc (Nat.le_refl _) _)
  have hbb1 : Below w.heap.size w w1 := hx1.trans (hb1.mono (by first | (simp; done) | (simp; omega)))
  have z1 := hbb1.size
  obtain ⟨qAnw1, _, yAnw1⟩ := bcellAt hb1 (b := w.heap.size) (by first | omega | (simp; done) | (simp; omega))
  have BB1 := Lib.hid (BB0.out.trans (hbb1.mono (by omega)))
  clear hx1
  clear hb1 hbb1
  have CZ1 := Lib.hid cy1
  go_wp2_with fail
  have BX2 : Hid (Below w.heap.size w w1) := BB1.out
  have zx2 := BX2.out.size
  refine (to_Network nw _ _ _ _ _ ((Hnw0.out.below BX2.out).mono zx2) ((Hnw1.out.below BX2.out).mono zx2) ((Hnw2.out.below BX2.out).mono zx2) ((Hnw3.out.below BX2.out).mono zx2) (by omega)).mono ?_
  rintro e w2 ⟨atnw0, ctnw0, atnw1, ctnw1, atnw2, ctnw2, atnw3, ctnw3, ftnw, rfl, hb2, ov2, iv2⟩
  have hbb2 : Below w1.heap.size w1 w2 := hb2
  have z2 := hbb2.size
  obtain ⟨qAnw2, _, yAnw2⟩ := bcellAt hb2 (b := w.heap.size) (by first | omega | (simp; done) | (simp; omega))
  have BB2 := Lib.hid (BB1.out.trans (hbb2.mono (by omega)))
  clear hbb2
  obtain ⟨g2_0, r2_0, e2_0, p2_0, ov2_0, d2_0⟩ := OwnV.uncons ov2
  obtain ⟨g2_1, r2_1, e2_1, p2_1, ov2_1, d2_1⟩ := OwnV.uncons ov2_0
  obtain ⟨g2_2, r2_2, e2_2, p2_2, ov2_2, d2_2⟩ := OwnV.uncons ov2_1
  obtain ⟨g2_3, r2_3, e2_3, p2_3, ov2_3, d2_3⟩ := OwnV.uncons ov2_2
  have iw2 := iv2.mono (lo' := w1.heap.size + 0) (by first | omega | (simp; done) | (simp; omega)) (Nat.le_refl _)
  have hnil2 := ov2_3.rep
  change r2_3 = [] at hnil2
  subst hnil2
  subst e2_3
  subst e2_2
  subst e2_1
  subst e2_0
  have itnw0 : In _ _ g2_0 := fun y hy => iw2 y (by simp [hy])
  have otnw0_2 := Lib.hid p2_0
  have itnw1 : In _ _ g2_1 := fun y hy => iw2 y (by simp [hy])
  have otnw1_2 := Lib.hid p2_1
  have itnw2 : In _ _ g2_2 := fun y hy => iw2 y (by simp [hy])
  have otnw2_2 := Lib.hid p2_2
  have itnw3 : In _ _ g2_3 := fun y hy => iw2 y (by simp [hy])
  have otnw3_2 := Lib.hid p2_3
  have djtnw0_1 : ∀ y ∈ g2_0, y ∉ g2_1 := fun y hy e => d2_0 y hy (by simp [e])
  have djtnw0_2 : ∀ y ∈ g2_0, y ∉ g2_2 := fun y hy e => d2_0 y hy (by simp [e])
  have djtnw0_3 : ∀ y ∈ g2_0, y ∉ g2_3 := fun y hy e => d2_0 y hy (by simp [e])
  have djtnw1_2 : ∀ y ∈ g2_1, y ∉ g2_2 := fun y hy e => d2_1 y hy (by simp [e])
  have djtnw1_3 : ∀ y ∈ g2_1, y ∉ g2_3 := fun y hy e => d2_1 y hy (by simp [e])
  have djtnw2_3 : ∀ y ∈ g2_2, y ∉ g2_3 := fun y hy e => d2_2 y hy (by simp [e])
  clear p2_0 ov2_0 d2_0 p2_1 ov2_1 d2_1 p2_2 ov2_2 d2_2 p2_3 ov2_3 d2_3 ov2 iv2 iw2
  go_wp2_with fail
  refine (HS.out _ _ _ _ _ ((otnw0_2.out.rd itnw0).mono (by omega)) ((otnw1_2.out.rd itnw1).mono (by omega)) ((otnw2_2.out.rd itnw2).mono (by omega)) ((otnw3_2.out.rd itnw3).mono (by omega)) (by omega) (by omega)).mono ?_
  rintro e w3 ⟨rfl, hb3⟩
  have hbb3 : Below w2.heap.size w2 w3 := hb3
  have z3 := hbb3.size
  obtain ⟨qAnw3, _, yAnw3⟩ := bcellAt hb3 (b := w.heap.size) (by first | omega | (simp; done) | (simp; omega))
  have BB3 := Lib.hid (BB2.out.trans (hbb3.mono (by omega)))
  have otnw0_3 := Lib.hid (otnw0_2.out.below itnw0 (by omega) hbb3)
  have otnw1_3 := Lib.hid (otnw1_2.out.below itnw1 (by omega) hbb3)
  have otnw2_3 := Lib.hid (otnw2_2.out.below itnw2 (by omega) hbb3)
  have otnw3_3 := Lib.hid (otnw3_2.out.below itnw3 (by omega) hbb3)
  clear hbb3
  go_wp2_with fail
  have BX4 : Hid (Below w.heap.size w w3) := BB3.out
  have zx4 := BX4.out.size
  refine (to_Network nw _ _ _ _ _ ((Hnw0.out.below BX4.out).mono zx4) ((Hnw1.out.below BX4.out).mono zx4) ((Hnw2.out.below BX4.out).mono zx4) ((Hnw3.out.below BX4.out).mono zx4) (by omega)).mono ?_
  rintro e w4 ⟨aunw0, cunw0, aunw1, cunw1, aunw2, cunw2, aunw3, cunw3, funw, rfl, hb4, ov4, iv4⟩
  have hbb4 : Below w3.heap.size w3 w4 := hb4
  have z4 := hbb4.size
  obtain ⟨qAnw4, _, yAnw4⟩ := bcellAt hb4 (b := w.heap.size) (by first | omega | (simp; done) | (simp; omega))
  have BB4 := Lib.hid (BB3.out.trans (hbb4.mono (by omega)))
  clear hbb4
  obtain ⟨g4_0, r4_0, e4_0, p4_0, ov4_0, d4_0⟩ := OwnV.uncons ov4
  obtain ⟨g4_1, r4_1, e4_1, p4_1, ov4_1, d4_1⟩ := OwnV.uncons ov4_0
  obtain ⟨g4_2, r4_2, e4_2, p4_2, ov4_2, d4_2⟩ := OwnV.uncons ov4_1
  obtain ⟨g4_3, r4_3, e4_3, p4_3, ov4_3, d4_3⟩ := OwnV.uncons ov4_2
  have iw4 := iv4.mono (lo' := w3.heap.size + 0) (by first | omega | (simp; done) | (simp; omega)) (Nat.le_refl _)
  have hnil4 := ov4_3.rep
  change r4_3 = [] at hnil4
  subst hnil4
  subst e4_3
  subst e4_2
  subst e4_1
  subst e4_0
  have iunw0 : In _ _ g4_0 := fun y hy => iw4 y (by simp [hy])
  have ounw0_4 := Lib.hid p4_0
  have iunw1 : In _ _ g4_1 := fun y hy => iw4 y (by simp [hy])
  have ounw1_4 := Lib.hid p4_1
  have iunw2 : In _ _ g4_2 := fun y hy => iw4 y (by simp [hy])
  have ounw2_4 := Lib.hid p4_2
  have iunw3 : In _ _ g4_3 := fun y hy => iw4 y (by simp [hy])
  have ounw3_4 := Lib.hid p4_3
  have djunw0_1 : ∀ y ∈ g4_0, y ∉ g4_1 := fun y hy e => d4_0 y hy (by simp [e])
  have djunw0_2 : ∀ y ∈ g4_0, y ∉ g4_2 := fun y hy e => d4_0 y hy (by simp [e])
  have djunw0_3 : ∀ y ∈ g4_0, y ∉ g4_3 := fun y hy e => d4_0 y hy (by simp [e])
  have djunw1_2 : ∀ y ∈ g4_1, y ∉ g4_2 := fun y hy e => d4_1 y hy (by simp [e])
  have djunw1_3 : ∀ y ∈ g4_1, y ∉ g4_3 := fun y hy e => d4_1 y hy (by simp [e])
  have djunw2_3 : ∀ y ∈ g4_2, y ∉ g4_3 := fun y hy e => d4_2 y hy (by simp [e])
  clear p4_0 ov4_0 d4_0 p4_1 ov4_1 d4_1 p4_2 ov4_2 d4_2 p4_3 ov4_3 d4_3 ov4 iv4 iw4
  go_wp2_with fail
  refine (HI.out _ _ _ _ _ (((ounw0_4.out.below iunw0 (by omega) ((Below.refl _ _).alloc (Nat.le_refl _) _)).rd iunw0).mono (by first | omega | (simp; done) | (simp; omega))) (((ounw1_4.out.below iunw1 (by omega) ((Below.refl _ _).alloc (Nat.le_refl _) _)).rd iunw1).mono (by first | omega | (simp; done) | (simp; omega))) (((ounw2_4.out.below iunw2 (by omega) ((Below.refl _ _).alloc (Nat.le_refl _) _)).rd iunw2).mono (by first | omega | (simp; done) | (simp; omega))) (((ounw3_4.out.below iunw3 (by omega) ((Below.refl _ _).alloc (Nat.le_refl _) _)).rd iunw3).mono (by first | omega | (simp; done) | (simp; omega))) (by omega) (by omega)).mono ?_
  rintro e w5 ⟨rfl, hb5⟩
  have hx5 : Below w4.heap.size w4 (w4.alloc (.cells #[.slice aunw0 nw.sites.length cunw0, .slice aunw1 nw.sectors.length cunw1, .slice aunw2 nw.antennas.length cunw2, .slice aunw3 nw.radios.length cunw3] 40)) := ((Below.refl _ _).alloc (Nat.le_refl _) _)
  have hbb5 : Below w4.heap.size w4 w5 := hx5.trans (hb5.mono (by first | (simp; done) | (simp; omega)))
  have z5 := hbb5.size
  obtain ⟨qAnw5, _, yAnw5⟩ := bcellAt hb5 (b := w.heap.size) (by first | omega | (simp; done) | (simp; omega))
  obtain ⟨qUnw5, _, yUnw5⟩ := bcellAt hb5 (b := w4.heap.size) (by first | omega | (simp; done) | (simp; omega))
  have BB5 := Lib.hid (BB4.out.trans (hbb5.mono (by omega)))
  have ounw0_5 := Lib.hid (ounw0_4.out.below iunw0 (by omega) hbb5)
  have ounw1_5 := Lib.hid (ounw1_4.out.below iunw1 (by omega) hbb5)
  have ounw2_5 := Lib.hid (ounw2_4.out.below iunw2 (by omega) hbb5)
  have ounw3_5 := Lib.hid (ounw3_4.out.below iunw3 (by omega) hbb5)
  clear hx5
  clear hb5 hbb5
  clear cy1
  have hcf : w5.cell? ⟨w4.heap.size, 0, none⟩ = some (.slice aunw0 nw.sites.length cunw0) ∧ w5.cell? ⟨w4.heap.size, 1, none⟩ = some (.slice aunw1 nw.sectors.length cunw1) ∧ w5.cell? ⟨w4.heap.size, 2, none⟩ = some (.slice aunw2 nw.antennas.length cunw2) ∧ w5.cell? ⟨w4.heap.size, 3, none⟩ = some (.slice aunw3 nw.radios.length cunw3) ∧ w5.cell? ⟨w.heap.size, 0, none⟩ = some (vnw0) ∧ w5.cell? ⟨w.heap.size, 1, none⟩ = some (vnw1) ∧ w5.cell? ⟨w.heap.size, 2, none⟩ = some (vnw2) ∧ w5.cell? ⟨w.heap.size, 3, none⟩ = some (vnw3) := by refine ⟨?_, ?_, ?_, ?_, ?_, ?_, ?_, ?_⟩ <;> simp [go_sem, *]
  go_wp2
  have hsame : Below w5.heap.size w5 w5.drew := ⟨rfl, rfl, rfl, Nat.le_refl _, fun _ _ => rfl⟩
  have BBd := Lib.hid BB5.out.drew
  have HTO := Lib.hid (to_Network nw vnw0 vnw1 vnw2 vnw3 w5.drew ((Hnw0.out.below BBd.out).mono (by show w.heap.size ≤ w5.heap.size; omega)) ((Hnw1.out.below BBd.out).mono (by show w.heap.size ≤ w5.heap.size; omega)) ((Hnw2.out.below BBd.out).mono (by show w.heap.size ≤ w5.heap.size; omega)) ((Hnw3.out.below BBd.out).mono (by show w.heap.size ≤ w5.heap.size; omega)) (by omega))
  have HEQ : Hid (∀ (W : World) (p0 p1 p2 p3 q0 q1 q2 q3 : Value), Below w5.heap.size w5 W → RdV W.heap.size W nw.tr [q0, q1, q2, q3] → p0 = .slice aunw0 nw.sites.length cunw0 → p1 = .slice aunw1 nw.sectors.length cunw1 → p2 = .slice aunw2 nw.antennas.length cunw2 → p3 = .slice aunw3 nw.radios.length cunw3 → Calls Try.prog 14 #[.agg #[p0, p1, p2, p3], .agg #[q0, q1, q2, q3]] W fun e w' => e = .returned (.bool true) ∧ Below W.heap.size W w') := fun W p0 p1 p2 p3 q0 q1 q2 q3 hW hr e0 e1 e2 e3 => by
    subst e0 e1 e2 e3
    have hzW := hW.size
    exact eq_Network nw _ _ _ _ _ _ _ _ W.heap.size W (((ounw0_5.out.below iunw0 (by omega) hW).rd iunw0).mono (by omega)) hr.1 (((ounw1_5.out.below iunw1 (by omega) hW).rd iunw1).mono (by omega)) hr.2.1 (((ounw2_5.out.below iunw2 (by omega) hW).rd iunw2).mono (by omega)) hr.2.2.1 (((ounw3_5.out.below iunw3 (by omega) hW).rd iunw3).mono (by omega)) hr.2.2.2.1 (Nat.le_refl _) (by omega)
  go_region_held3 (fun W => W.cell? ⟨w4.heap.size, 0, none⟩ = some (.slice aunw0 nw.sites.length cunw0) ∧ W.cell? ⟨w4.heap.size, 1, none⟩ = some (.slice aunw1 nw.sectors.length cunw1) ∧ W.cell? ⟨w4.heap.size, 2, none⟩ = some (.slice aunw2 nw.antennas.length cunw2) ∧ W.cell? ⟨w4.heap.size, 3, none⟩ = some (.slice aunw3 nw.radios.length cunw3) ∧ W.cell? ⟨w.heap.size, 0, none⟩ = some (vnw0) ∧ W.cell? ⟨w.heap.size, 1, none⟩ = some (vnw1) ∧ W.cell? ⟨w.heap.size, 2, none⟩ = some (vnw2) ∧ W.cell? ⟨w.heap.size, 3, none⟩ = some (vnw3)) (first | exact hcf | (refine ⟨?_, ?_, ?_, ?_, ?_, ?_, ?_, ?_⟩ <;> simp [go_sem, *]))
    (first
      | (go_at_call 11; refine (HTO.out).mono ?_; rintro e wt ⟨at0, ct0, at1, ct1, at2, ct2, at3, ct3, ft, rfl, hbt, ovt, ivt⟩; obtain ⟨qUt, _, yUt⟩ := bcellAt hbt (b := w4.heap.size) (by show w4.heap.size < w5.heap.size; omega); obtain ⟨qAt, _, yAt⟩ := bcellAt hbt (b := w.heap.size) (by show w.heap.size < w5.heap.size; omega))
      | (go_at_call 14; refine (HEQ.out _ _ _ _ _ _ _ _ _ (hsame.trans hbt) (ovt.rd ivt) rfl rfl rfl rfl).mono ?_; rintro e w6 ⟨rfl, hbe⟩; obtain ⟨qUe, _, yUe⟩ := bcellAt hbe (b := w4.heap.size) yUt; obtain ⟨qAe, _, yAe⟩ := bcellAt hbe (b := w.heap.size) yAt))
  have hb6 : Below w5.heap.size w5 w6 := (hsame.trans hbt).trans (hbe.mono (hsame.trans hbt).size)
  clear HEQ HTO BBd hcf qUt qAt qUe qAe yUt yAt yUe yAe hbe hbt ovt ivt hsame
  have hbb6 : Below w5.heap.size w5 w6 := hb6
  have z6 := hbb6.size
  obtain ⟨qAnw6, _, yAnw6⟩ := bcellAt hb6 (b := w.heap.size) (by first | omega | (simp; done) | (simp; omega))
  obtain ⟨qUnw6, _, yUnw6⟩ := bcellAt hb6 (b := w4.heap.size) (by first | omega | (simp; done) | (simp; omega))
  have BB6 := Lib.hid (BB5.out.trans (hbb6.mono (by omega)))
  have ounw0_6 := Lib.hid (ounw0_5.out.below iunw0 (by omega) hbb6)
  have ounw1_6 := Lib.hid (ounw1_5.out.below iunw1 (by omega) hbb6)
  have ounw2_6 := Lib.hid (ounw2_5.out.below iunw2 (by omega) hbb6)
  have ounw3_6 := Lib.hid (ounw3_5.out.below iunw3 (by omega) hbb6)
  clear hbb6
  go_wp2
  go_ret
  exact ⟨rfl, BB6.out⟩
end Go.Proofs.Ytefefgamiaganaa.fnExactEirpToward
