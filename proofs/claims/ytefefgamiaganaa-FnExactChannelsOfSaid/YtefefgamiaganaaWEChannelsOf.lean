/- The walk of the law FnExactChannelsOf: it returns true. -/
import Derived.Test.YtefefgamiaganaaNetI
import Derived.Test.YtefefgamiaganaaStrs
import Derived.Test.YtefefgamiaganaaHNetwork
import Derived.Deep.RegionHeld3
namespace Go.Proofs.Ytefefgamiaganaa.fnExactChannelsOf
open Go.RowKit
set_option linter.unusedVariables false
theorem cntL_net (n : DNetwork) : cnt (DSite.sT n.sites) + cnt (DSector.sT n.sectors) + cnt (DAntenna.sT n.antennas) + cnt (DRadio.sT n.radios) ≤ 16 * sizL n.tr := by
  have h := DNetwork.siz_tr n
  have h0 := DSite.cnt_le n.sites
  have h1 := DSector.cnt_le n.sectors
  have h2 := DAntenna.cnt_le n.antennas
  have h3 := DRadio.cnt_le n.radios
  omega
theorem R_siz (n : DNetwork) : siz (intsT (chanR n).1) ≤ sizL n.tr := by
  have h := DNetwork.siz_tr n
  rw [DSector.siz_s] at h
  rw [siz_ints]
  unfold chanR
  have := col_len DSector.channel anyS n.sectors
  split
  · simp only; omega
  · simp
set_option maxHeartbeats 4000000 in
set_option maxRecDepth 100000 in
theorem walk (nw : DNetwork) (vnw0 vnw1 vnw2 vnw3 : Value) (w : World) (rnw0 : Rd w.heap.size w (DSite.sT nw.sites) vnw0) (rnw1 : Rd w.heap.size w (DSector.sT nw.sectors) vnw1) (rnw2 : Rd w.heap.size w (DAntenna.sT nw.antennas) vnw2) (rnw3 : Rd w.heap.size w (DRadio.sT nw.radios) vnw3) (hk_nw : nw.ok) :
    Calls Try.prog 7 #[.agg #[vnw0, vnw1, vnw2, vnw3]] w fun e w' => e = .returned (.bool true) ∧ Below w.heap.size w w' := by
  have Hnw0 := Lib.hid rnw0
  have Hnw1 := Lib.hid rnw1
  have Hnw2 := Lib.hid rnw2
  have Hnw3 := Lib.hid rnw3
  clear rnw0 rnw1 rnw2 rnw3
  have hq_nw := DNetwork.siz_tr nw
  have hcn := cntL_net nw
  have hRs := R_siz nw
  have hRc := cnt_ints (chanR nw).1
  have hRz := siz_ints (chanR nw).1
  have BB0 : Hid (Below w.heap.size w w) := Below.refl _ _
  generalize hR : chanR nw = R at *
  have HR := Lib.hid hR
  clear hR
  have HS : Hid (∀ (W : World) (xnw0 xnw1 xnw2 xnw3 : Value), Rd W.heap.size W (DSite.sT nw.sites) xnw0 → Rd W.heap.size W (DSector.sT nw.sectors) xnw1 → Rd W.heap.size W (DAntenna.sT nw.antennas) xnw2 → Rd W.heap.size W (DRadio.sT nw.radios) xnw3 → sizL nw.tr ≤ 1048576 → Calls Try.prog 23 #[.agg #[xnw0, xnw1, xnw2, xnw3]] W (fun e w' => ∃ a0_0 c0_0 fp0, e = .returned (.tuple #[.slice a0_0 R.1.length c0_0, .int .i64 R.2]) ∧ Below W.heap.size W w' ∧ Own w' (intsT R.1) (.slice a0_0 R.1.length c0_0) fp0 ∧ In W.heap.size w'.heap.size fp0)) := fun W xnw0 xnw1 xnw2 xnw3 ynw0 ynw1 ynw2 ynw3 z0 => by rw [← HR.out]; exact sChannelsOf_std nw xnw0 xnw1 xnw2 xnw3 W ynw0 ynw1 ynw2 ynw3 z0 hk_nw
  have HI : Hid (∀ (W : World) (xnw0 xnw1 xnw2 xnw3 : Value), Rd W.heap.size W (DSite.sT nw.sites) xnw0 → Rd W.heap.size W (DSector.sT nw.sectors) xnw1 → Rd W.heap.size W (DAntenna.sT nw.antennas) xnw2 → Rd W.heap.size W (DRadio.sT nw.radios) xnw3 → sizL nw.tr ≤ 1048576 → Calls Try.prog 24 #[.agg #[xnw0, xnw1, xnw2, xnw3]] W (fun e w' => ∃ a0_0 c0_0 fp0, e = .returned (.tuple #[.slice a0_0 R.1.length c0_0, .int .i64 R.2]) ∧ Below W.heap.size W w' ∧ Own w' (intsT R.1) (.slice a0_0 R.1.length c0_0) fp0 ∧ In W.heap.size w'.heap.size fp0)) := fun W xnw0 xnw1 xnw2 xnw3 ynw0 ynw1 ynw2 ynw3 z0 => by rw [← HR.out]; exact iChannelsOf_std nw xnw0 xnw1 xnw2 xnw3 W ynw0 ynw1 ynw2 ynw3 z0 hk_nw
  go_enter Try.func7, Try.ntmps7
  go_wp2_with fail
  have BX1 : Hid (Below w.heap.size w (w.alloc (.cells #[vnw0, vnw1, vnw2, vnw3] 27))) := (BB0.out.alloc (by first | omega | (simp; done) | (simp; omega)) _)
  have zx1 := BX1.out.size
  refine (sz_Network nw vnw0 vnw1 vnw2 vnw3 w.heap.size _ _ (Hnw0.out.below BX1.out) (Hnw1.out.below BX1.out) (Hnw2.out.below BX1.out) (Hnw3.out.below BX1.out) (by omega) (by omega) (by omega) hk_nw).mono ?_
  rintro e w1 ⟨⟨cz1, rfl⟩ | ⟨cz1, rfl⟩, hb1⟩
  case inr =>
    go_wp2
    go_ret
    exact ⟨rfl, BX1.out.trans (hb1.mono (by omega))⟩
  have cy1 : decide ((1048576 : Int) - sizL nw.tr < 0) = false := by simp; omega
  have hx1 : Below w.heap.size w (w.alloc (.cells #[vnw0, vnw1, vnw2, vnw3] 27)) := ((Below.refl _ _).alloc (Nat.le_refl _) _)
  have hbb1 : Below w.heap.size w w1 := hx1.trans (hb1.mono (by first | (simp; done) | (simp; omega)))
  have z1 := hbb1.size
  obtain ⟨qAnw1, _, yAnw1⟩ := bcellAt hb1 (b := w.heap.size) (by first | omega | (simp; done) | (simp; omega))
  have BB1 := Lib.hid (BB0.out.trans (hbb1.mono (by omega)))
  clear hx1
  clear hb1 hbb1
  have CZ1 := Lib.hid cy1
  go_wp2_with fail
  have BX2 : Hid (Below w.heap.size w w1) := BB1.out
  have zx2 := BX2.out.size
  refine (to_Network nw _ _ _ _ _ ((Hnw0.out.below BX2.out).mono zx2) ((Hnw1.out.below BX2.out).mono zx2) ((Hnw2.out.below BX2.out).mono zx2) ((Hnw3.out.below BX2.out).mono zx2) (by omega)).mono ?_
  rintro e w2 ⟨atnw0, ctnw0, atnw1, ctnw1, atnw2, ctnw2, atnw3, ctnw3, ftnw, rfl, hb2, ov2, iv2⟩
  have hbb2 : Below w1.heap.size w1 w2 := hb2
  have z2 := hbb2.size
  obtain ⟨qAnw2, _, yAnw2⟩ := bcellAt hb2 (b := w.heap.size) (by first | omega | (simp; done) | (simp; omega))
  have BB2 := Lib.hid (BB1.out.trans (hbb2.mono (by omega)))
  clear hbb2
  obtain ⟨g2_0, r2_0, e2_0, p2_0, ov2_0, d2_0⟩ := OwnV.uncons ov2
  obtain ⟨g2_1, r2_1, e2_1, p2_1, ov2_1, d2_1⟩ := OwnV.uncons ov2_0
  obtain ⟨g2_2, r2_2, e2_2, p2_2, ov2_2, d2_2⟩ := OwnV.uncons ov2_1
  obtain ⟨g2_3, r2_3, e2_3, p2_3, ov2_3, d2_3⟩ := OwnV.uncons ov2_2
  have iw2 := iv2.mono (lo' := w1.heap.size + 0) (by first | omega | (simp; done) | (simp; omega)) (Nat.le_refl _)
  have hnil2 := ov2_3.rep
  change r2_3 = [] at hnil2
  subst hnil2
  subst e2_3
  subst e2_2
  subst e2_1
  subst e2_0
  have itnw0 : In _ _ g2_0 := fun y hy => iw2 y (by simp [hy])
  have otnw0_2 := Lib.hid p2_0
  have itnw1 : In _ _ g2_1 := fun y hy => iw2 y (by simp [hy])
  have otnw1_2 := Lib.hid p2_1
  have itnw2 : In _ _ g2_2 := fun y hy => iw2 y (by simp [hy])
  have otnw2_2 := Lib.hid p2_2
  have itnw3 : In _ _ g2_3 := fun y hy => iw2 y (by simp [hy])
  have otnw3_2 := Lib.hid p2_3
  have djtnw0_1 : ∀ y ∈ g2_0, y ∉ g2_1 := fun y hy e => d2_0 y hy (by simp [e])
  have djtnw0_2 : ∀ y ∈ g2_0, y ∉ g2_2 := fun y hy e => d2_0 y hy (by simp [e])
  have djtnw0_3 : ∀ y ∈ g2_0, y ∉ g2_3 := fun y hy e => d2_0 y hy (by simp [e])
  have djtnw1_2 : ∀ y ∈ g2_1, y ∉ g2_2 := fun y hy e => d2_1 y hy (by simp [e])
  have djtnw1_3 : ∀ y ∈ g2_1, y ∉ g2_3 := fun y hy e => d2_1 y hy (by simp [e])
  have djtnw2_3 : ∀ y ∈ g2_2, y ∉ g2_3 := fun y hy e => d2_2 y hy (by simp [e])
  clear p2_0 ov2_0 d2_0 p2_1 ov2_1 d2_1 p2_2 ov2_2 d2_2 p2_3 ov2_3 d2_3 ov2 iv2 iw2
  go_wp2_with fail
  refine (HS.out _ _ _ _ _ ((otnw0_2.out.rd itnw0).mono (by omega)) ((otnw1_2.out.rd itnw1).mono (by omega)) ((otnw2_2.out.rd itnw2).mono (by omega)) ((otnw3_2.out.rd itnw3).mono (by omega)) (by omega)).mono ?_
  rintro e w3 ⟨as00, cs00, fs00, rfl, hb3, ows0, iws0⟩
  have is00 := iws0.mono (lo' := w2.heap.size + 0) (by first | omega | (simp; done) | (simp; omega)) (Nat.le_refl _)
  clear iws0
  have hbb3 : Below w2.heap.size w2 w3 := hb3
  have z3 := hbb3.size
  obtain ⟨qAnw3, _, yAnw3⟩ := bcellAt hb3 (b := w.heap.size) (by first | omega | (simp; done) | (simp; omega))
  have BB3 := Lib.hid (BB2.out.trans (hbb3.mono (by omega)))
  have otnw0_3 := Lib.hid (otnw0_2.out.below itnw0 (by omega) hbb3)
  have otnw1_3 := Lib.hid (otnw1_2.out.below itnw1 (by omega) hbb3)
  have otnw2_3 := Lib.hid (otnw2_2.out.below itnw2 (by omega) hbb3)
  have otnw3_3 := Lib.hid (otnw3_2.out.below itnw3 (by omega) hbb3)
  clear hbb3
  have os00_3 := Lib.hid ows0
  clear ows0
  go_wp2_with fail
  have BX4 : Hid (Below w.heap.size w w3) := BB3.out
  have zx4 := BX4.out.size
  refine (to_Network nw _ _ _ _ _ ((Hnw0.out.below BX4.out).mono zx4) ((Hnw1.out.below BX4.out).mono zx4) ((Hnw2.out.below BX4.out).mono zx4) ((Hnw3.out.below BX4.out).mono zx4) (by omega)).mono ?_
  rintro e w4 ⟨aunw0, cunw0, aunw1, cunw1, aunw2, cunw2, aunw3, cunw3, funw, rfl, hb4, ov4, iv4⟩
  have hbb4 : Below w3.heap.size w3 w4 := hb4
  have z4 := hbb4.size
  obtain ⟨qAnw4, _, yAnw4⟩ := bcellAt hb4 (b := w.heap.size) (by first | omega | (simp; done) | (simp; omega))
  have BB4 := Lib.hid (BB3.out.trans (hbb4.mono (by omega)))
  have os00_4 := Lib.hid (os00_3.out.below is00 (by omega) hbb4)
  clear hbb4
  obtain ⟨g4_0, r4_0, e4_0, p4_0, ov4_0, d4_0⟩ := OwnV.uncons ov4
  obtain ⟨g4_1, r4_1, e4_1, p4_1, ov4_1, d4_1⟩ := OwnV.uncons ov4_0
  obtain ⟨g4_2, r4_2, e4_2, p4_2, ov4_2, d4_2⟩ := OwnV.uncons ov4_1
  obtain ⟨g4_3, r4_3, e4_3, p4_3, ov4_3, d4_3⟩ := OwnV.uncons ov4_2
  have iw4 := iv4.mono (lo' := w3.heap.size + 0) (by first | omega | (simp; done) | (simp; omega)) (Nat.le_refl _)
  have hnil4 := ov4_3.rep
  change r4_3 = [] at hnil4
  subst hnil4
  subst e4_3
  subst e4_2
  subst e4_1
  subst e4_0
  have iunw0 : In _ _ g4_0 := fun y hy => iw4 y (by simp [hy])
  have ounw0_4 := Lib.hid p4_0
  have iunw1 : In _ _ g4_1 := fun y hy => iw4 y (by simp [hy])
  have ounw1_4 := Lib.hid p4_1
  have iunw2 : In _ _ g4_2 := fun y hy => iw4 y (by simp [hy])
  have ounw2_4 := Lib.hid p4_2
  have iunw3 : In _ _ g4_3 := fun y hy => iw4 y (by simp [hy])
  have ounw3_4 := Lib.hid p4_3
  have djunw0_1 : ∀ y ∈ g4_0, y ∉ g4_1 := fun y hy e => d4_0 y hy (by simp [e])
  have djunw0_2 : ∀ y ∈ g4_0, y ∉ g4_2 := fun y hy e => d4_0 y hy (by simp [e])
  have djunw0_3 : ∀ y ∈ g4_0, y ∉ g4_3 := fun y hy e => d4_0 y hy (by simp [e])
  have djunw1_2 : ∀ y ∈ g4_1, y ∉ g4_2 := fun y hy e => d4_1 y hy (by simp [e])
  have djunw1_3 : ∀ y ∈ g4_1, y ∉ g4_3 := fun y hy e => d4_1 y hy (by simp [e])
  have djunw2_3 : ∀ y ∈ g4_2, y ∉ g4_3 := fun y hy e => d4_2 y hy (by simp [e])
  clear p4_0 ov4_0 d4_0 p4_1 ov4_1 d4_1 p4_2 ov4_2 d4_2 p4_3 ov4_3 d4_3 ov4 iv4 iw4
  go_wp2_with fail
  refine (HI.out _ _ _ _ _ (((ounw0_4.out.below iunw0 (by omega) ((Below.refl _ _).alloc (Nat.le_refl _) _)).rd iunw0).mono (by first | omega | (simp; done) | (simp; omega))) (((ounw1_4.out.below iunw1 (by omega) ((Below.refl _ _).alloc (Nat.le_refl _) _)).rd iunw1).mono (by first | omega | (simp; done) | (simp; omega))) (((ounw2_4.out.below iunw2 (by omega) ((Below.refl _ _).alloc (Nat.le_refl _) _)).rd iunw2).mono (by first | omega | (simp; done) | (simp; omega))) (((ounw3_4.out.below iunw3 (by omega) ((Below.refl _ _).alloc (Nat.le_refl _) _)).rd iunw3).mono (by first | omega | (simp; done) | (simp; omega))) (by omega)).mono ?_
  rintro e w5 ⟨ag00, cg00, fg00, rfl, hb5, owg0, iwg0⟩
  have ig00 := iwg0.mono (lo' := w4.heap.size + 1) (by first | omega | (simp; done) | (simp; omega)) (Nat.le_refl _)
  clear iwg0
  have hx5 : Below w4.heap.size w4 (w4.alloc (.cells #[.slice aunw0 nw.sites.length cunw0, .slice aunw1 nw.sectors.length cunw1, .slice aunw2 nw.antennas.length cunw2, .slice aunw3 nw.radios.length cunw3] 40)) := ((Below.refl _ _).alloc (Nat.le_refl _) _)
  have hbb5 : Below w4.heap.size w4 w5 := hx5.trans (hb5.mono (by first | (simp; done) | (simp; omega)))
  have z5 := hbb5.size
  obtain ⟨qAnw5, _, yAnw5⟩ := bcellAt hb5 (b := w.heap.size) (by first | omega | (simp; done) | (simp; omega))
  obtain ⟨qUnw5, _, yUnw5⟩ := bcellAt hb5 (b := w4.heap.size) (by first | omega | (simp; done) | (simp; omega))
  have BB5 := Lib.hid (BB4.out.trans (hbb5.mono (by omega)))
  have os00_5 := Lib.hid (os00_4.out.below is00 (by omega) hbb5)
  have ounw0_5 := Lib.hid (ounw0_4.out.below iunw0 (by omega) hbb5)
  have ounw1_5 := Lib.hid (ounw1_4.out.below iunw1 (by omega) hbb5)
  have ounw2_5 := Lib.hid (ounw2_4.out.below iunw2 (by omega) hbb5)
  have ounw3_5 := Lib.hid (ounw3_4.out.below iunw3 (by omega) hbb5)
  clear hx5
  clear hb5 hbb5
  have og00_5 := Lib.hid owg0
  clear owg0
  go_wp2_with fail
  refine ((eq_Int64S R.1 _ _ w5.heap.size _ ((og00_5.out.rd ig00).mono (by omega)) ((os00_5.out.rd is00).mono (by omega)) (Nat.le_refl _) (by omega))).mono ?_
  rintro e w6 ⟨rfl, hb6⟩
  have hbb6 : Below w5.heap.size w5 w6 := hb6
  have z6 := hbb6.size
  obtain ⟨qAnw6, _, yAnw6⟩ := bcellAt hb6 (b := w.heap.size) (by first | omega | (simp; done) | (simp; omega))
  obtain ⟨qUnw6, _, yUnw6⟩ := bcellAt hb6 (b := w4.heap.size) (by first | omega | (simp; done) | (simp; omega))
  have BB6 := Lib.hid (BB5.out.trans (hbb6.mono (by omega)))
  have os00_6 := Lib.hid (os00_5.out.below is00 (by omega) hbb6)
  have ounw0_6 := Lib.hid (ounw0_5.out.below iunw0 (by omega) hbb6)
  have ounw1_6 := Lib.hid (ounw1_5.out.below iunw1 (by omega) hbb6)
  have ounw2_6 := Lib.hid (ounw2_5.out.below iunw2 (by omega) hbb6)
  have ounw3_6 := Lib.hid (ounw3_5.out.below iunw3 (by omega) hbb6)
  have og00_6 := Lib.hid (og00_5.out.below ig00 (by omega) hbb6)
  clear hbb6
  clear cy1
  have hcf : w6.cell? ⟨w4.heap.size, 0, none⟩ = some (.slice aunw0 nw.sites.length cunw0) ∧ w6.cell? ⟨w4.heap.size, 1, none⟩ = some (.slice aunw1 nw.sectors.length cunw1) ∧ w6.cell? ⟨w4.heap.size, 2, none⟩ = some (.slice aunw2 nw.antennas.length cunw2) ∧ w6.cell? ⟨w4.heap.size, 3, none⟩ = some (.slice aunw3 nw.radios.length cunw3) ∧ w6.cell? ⟨w.heap.size, 0, none⟩ = some (vnw0) ∧ w6.cell? ⟨w.heap.size, 1, none⟩ = some (vnw1) ∧ w6.cell? ⟨w.heap.size, 2, none⟩ = some (vnw2) ∧ w6.cell? ⟨w.heap.size, 3, none⟩ = some (vnw3) := by refine ⟨?_, ?_, ?_, ?_, ?_, ?_, ?_, ?_⟩ <;> simp [go_sem, *]
  go_wp2
  have hsame : Below w6.heap.size w6 w6.drew := ⟨rfl, rfl, rfl, Nat.le_refl _, fun _ _ => rfl⟩
  have BBd := Lib.hid BB6.out.drew
  have HTO := Lib.hid (to_Network nw vnw0 vnw1 vnw2 vnw3 w6.drew ((Hnw0.out.below BBd.out).mono (by show w.heap.size ≤ w6.heap.size; omega)) ((Hnw1.out.below BBd.out).mono (by show w.heap.size ≤ w6.heap.size; omega)) ((Hnw2.out.below BBd.out).mono (by show w.heap.size ≤ w6.heap.size; omega)) ((Hnw3.out.below BBd.out).mono (by show w.heap.size ≤ w6.heap.size; omega)) (by omega))
  have HEQ : Hid (∀ (W : World) (p0 p1 p2 p3 q0 q1 q2 q3 : Value), Below w6.heap.size w6 W → RdV W.heap.size W nw.tr [q0, q1, q2, q3] → p0 = .slice aunw0 nw.sites.length cunw0 → p1 = .slice aunw1 nw.sectors.length cunw1 → p2 = .slice aunw2 nw.antennas.length cunw2 → p3 = .slice aunw3 nw.radios.length cunw3 → Calls Try.prog 14 #[.agg #[p0, p1, p2, p3], .agg #[q0, q1, q2, q3]] W fun e w' => e = .returned (.bool true) ∧ Below W.heap.size W w') := fun W p0 p1 p2 p3 q0 q1 q2 q3 hW hr e0 e1 e2 e3 => by
    subst e0 e1 e2 e3
    have hzW := hW.size
    exact eq_Network nw _ _ _ _ _ _ _ _ W.heap.size W (((ounw0_6.out.below iunw0 (by omega) hW).rd iunw0).mono (by omega)) hr.1 (((ounw1_6.out.below iunw1 (by omega) hW).rd iunw1).mono (by omega)) hr.2.1 (((ounw2_6.out.below iunw2 (by omega) hW).rd iunw2).mono (by omega)) hr.2.2.1 (((ounw3_6.out.below iunw3 (by omega) hW).rd iunw3).mono (by omega)) hr.2.2.2.1 (Nat.le_refl _) (by omega)
  go_region_held3 (fun W => W.cell? ⟨w4.heap.size, 0, none⟩ = some (.slice aunw0 nw.sites.length cunw0) ∧ W.cell? ⟨w4.heap.size, 1, none⟩ = some (.slice aunw1 nw.sectors.length cunw1) ∧ W.cell? ⟨w4.heap.size, 2, none⟩ = some (.slice aunw2 nw.antennas.length cunw2) ∧ W.cell? ⟨w4.heap.size, 3, none⟩ = some (.slice aunw3 nw.radios.length cunw3) ∧ W.cell? ⟨w.heap.size, 0, none⟩ = some (vnw0) ∧ W.cell? ⟨w.heap.size, 1, none⟩ = some (vnw1) ∧ W.cell? ⟨w.heap.size, 2, none⟩ = some (vnw2) ∧ W.cell? ⟨w.heap.size, 3, none⟩ = some (vnw3)) (first | exact hcf | (refine ⟨?_, ?_, ?_, ?_, ?_, ?_, ?_, ?_⟩ <;> simp [go_sem, *]))
    (first
      | (go_at_call 11; refine (HTO.out).mono ?_; rintro e wt ⟨at0, ct0, at1, ct1, at2, ct2, at3, ct3, ft, rfl, hbt, ovt, ivt⟩; obtain ⟨qUt, _, yUt⟩ := bcellAt hbt (b := w4.heap.size) (by show w4.heap.size < w6.heap.size; omega); obtain ⟨qAt, _, yAt⟩ := bcellAt hbt (b := w.heap.size) (by show w.heap.size < w6.heap.size; omega))
      | (go_at_call 14; refine (HEQ.out _ _ _ _ _ _ _ _ _ (hsame.trans hbt) (ovt.rd ivt) rfl rfl rfl rfl).mono ?_; rintro e w7 ⟨rfl, hbe⟩; obtain ⟨qUe, _, yUe⟩ := bcellAt hbe (b := w4.heap.size) yUt; obtain ⟨qAe, _, yAe⟩ := bcellAt hbe (b := w.heap.size) yAt))
  have hb7 : Below w6.heap.size w6 w7 := (hsame.trans hbt).trans (hbe.mono (hsame.trans hbt).size)
  clear HEQ HTO BBd hcf qUt qAt qUe qAe yUt yAt yUe yAe hbe hbt ovt ivt hsame
  have hbb7 : Below w6.heap.size w6 w7 := hb7
  have z7 := hbb7.size
  obtain ⟨qAnw7, _, yAnw7⟩ := bcellAt hb7 (b := w.heap.size) (by first | omega | (simp; done) | (simp; omega))
  obtain ⟨qUnw7, _, yUnw7⟩ := bcellAt hb7 (b := w4.heap.size) (by first | omega | (simp; done) | (simp; omega))
  have BB7 := Lib.hid (BB6.out.trans (hbb7.mono (by omega)))
  have os00_7 := Lib.hid (os00_6.out.below is00 (by omega) hbb7)
  have ounw0_7 := Lib.hid (ounw0_6.out.below iunw0 (by omega) hbb7)
  have ounw1_7 := Lib.hid (ounw1_6.out.below iunw1 (by omega) hbb7)
  have ounw2_7 := Lib.hid (ounw2_6.out.below iunw2 (by omega) hbb7)
  have ounw3_7 := Lib.hid (ounw3_6.out.below iunw3 (by omega) hbb7)
  have og00_7 := Lib.hid (og00_6.out.below ig00 (by omega) hbb7)
  clear hbb7
  go_wp2_with fail
  refine (mark_Network nw _ _ _ _ g4_0 g4_1 g4_2 g4_3 (1) _ _ _ _ _ _ _ _ _ ounw0_7.out iunw0 (by first | omega | (simp; done) | (simp; omega)) ounw1_7.out iunw1 (by first | omega | (simp; done) | (simp; omega)) ounw2_7.out iunw2 (by first | omega | (simp; done) | (simp; omega)) ounw3_7.out iunw3 (by first | omega | (simp; done) | (simp; omega)) djunw0_1 djunw0_2 djunw0_3 djunw1_2 djunw1_3 djunw2_3 (by omega) (by omega) (by omega)).mono ?_
  rintro e w8 ⟨rfl, munw0, munw1, munw2, munw3, hc8⟩
  have hcc8 : Chg (g4_0 ++ g4_1 ++ g4_2 ++ g4_3) w7 w8 := hc8
  have z8 := hcc8.size
  have hkAnw8 := hc8.block (w.heap.size) (by first | omega | (simp; done) | (simp; omega)) (fun e => by simp only [List.mem_append] at e; rcases e with (((e | e) | e) | e) <;> first | (have h2 := iunw0 _ e; omega) | (have h2 := iunw1 _ e; omega) | (have h2 := iunw2 _ e; omega) | (have h2 := iunw3 _ e; omega))
  have qAnw8 : ∀ o, w8.cell? ⟨w.heap.size, o, none⟩ = _ := fun o => World.cell?_of_block (a := ⟨w.heap.size, o, none⟩) hkAnw8
  have yAnw8 : w.heap.size < w8.heap.size := by first | omega | (have := hc8.size; simp at this; omega)
  clear hkAnw8
  have hkUnw8 := hc8.block (w4.heap.size) (by first | omega | (simp; done) | (simp; omega)) (fun e => by simp only [List.mem_append] at e; rcases e with (((e | e) | e) | e) <;> first | (have h2 := iunw0 _ e; omega) | (have h2 := iunw1 _ e; omega) | (have h2 := iunw2 _ e; omega) | (have h2 := iunw3 _ e; omega))
  have qUnw8 : ∀ o, w8.cell? ⟨w4.heap.size, o, none⟩ = _ := fun o => World.cell?_of_block (a := ⟨w4.heap.size, o, none⟩) hkUnw8
  have yUnw8 : w4.heap.size < w8.heap.size := by first | omega | (have := hc8.size; simp at this; omega)
  clear hkUnw8
  have BB8 := Lib.hid (BB7.out.trans (hcc8.below (by omega) (fun x hx => by simp only [List.mem_append] at hx; rcases hx with (((hx | hx) | hx) | hx) <;> first | (have h2 := iunw0 x hx; omega) | (have h2 := iunw1 x hx; omega) | (have h2 := iunw2 x hx; omega) | (have h2 := iunw3 x hx; omega))))
  have os00_8 := Lib.hid (os00_7.out.chg is00 (by omega) hcc8 (fun x hx e => by have hx0 := is00 x hx; simp only [List.mem_append] at e; rcases e with (((e | e) | e) | e) <;> first | (have h2 := iunw0 x e; omega) | (have h2 := iunw1 x e; omega) | (have h2 := iunw2 x e; omega) | (have h2 := iunw3 x e; omega)))
  have og00_8 := Lib.hid (og00_7.out.chg ig00 (by omega) hcc8 (fun x hx e => by have hx0 := ig00 x hx; simp only [List.mem_append] at e; rcases e with (((e | e) | e) | e) <;> first | (have h2 := iunw0 x e; omega) | (have h2 := iunw1 x e; omega) | (have h2 := iunw2 x e; omega) | (have h2 := iunw3 x e; omega)))
  clear hcc8
  have kounw0_8 := Lib.hid munw0
  clear munw0
  have kounw1_8 := Lib.hid munw1
  clear munw1
  have kounw2_8 := Lib.hid munw2
  clear munw2
  have kounw3_8 := Lib.hid munw3
  clear munw3
  have kd8 : decide (((1 + cnt (DSite.sT nw.sites) + cnt (DSector.sT nw.sectors) + cnt (DAntenna.sT nw.antennas) + cnt (DRadio.sT nw.radios) : Nat) : Int) < 0) = false := by simp; omega
  go_wp2_with fail
  refine ((eq_Int64S R.1 _ _ w8.heap.size _ ((og00_8.out.rd ig00).mono (by omega)) ((os00_8.out.rd is00).mono (by omega)) (Nat.le_refl _) (by omega))).mono ?_
  rintro e w9 ⟨rfl, hb9⟩
  have hbb9 : Below w8.heap.size w8 w9 := hb9
  have z9 := hbb9.size
  obtain ⟨qAnw9, _, yAnw9⟩ := bcellAt hb9 (b := w.heap.size) (by first | omega | (simp; done) | (simp; omega))
  obtain ⟨qUnw9, _, yUnw9⟩ := bcellAt hb9 (b := w4.heap.size) (by first | omega | (simp; done) | (simp; omega))
  have BB9 := Lib.hid (BB8.out.trans (hbb9.mono (by omega)))
  have os00_9 := Lib.hid (os00_8.out.below is00 (by omega) hbb9)
  have og00_9 := Lib.hid (og00_8.out.below ig00 (by omega) hbb9)
  clear hbb9
  go_wp2_with fail
  refine (mark_Int64S R.1 _ fg00 (1) _ _ og00_9.out (ig00.mono (Nat.le_refl _) (by first | omega | (simp; done) | (simp; omega))) (by omega) (by omega)).mono ?_
  rintro e w10 ⟨rfl, mg00, hc10⟩
  have hcc10 : Chg fg00 w9 w10 := hc10
  have z10 := hcc10.size
  have hkAnw10 := hc10.block (w.heap.size) (by first | omega | (simp; done) | (simp; omega)) (fun e => by have h2 := ig00 _ e; omega)
  have qAnw10 : ∀ o, w10.cell? ⟨w.heap.size, o, none⟩ = _ := fun o => World.cell?_of_block (a := ⟨w.heap.size, o, none⟩) hkAnw10
  have yAnw10 : w.heap.size < w10.heap.size := by first | omega | (have := hc10.size; simp at this; omega)
  clear hkAnw10
  have hkUnw10 := hc10.block (w4.heap.size) (by first | omega | (simp; done) | (simp; omega)) (fun e => by have h2 := ig00 _ e; omega)
  have qUnw10 : ∀ o, w10.cell? ⟨w4.heap.size, o, none⟩ = _ := fun o => World.cell?_of_block (a := ⟨w4.heap.size, o, none⟩) hkUnw10
  have yUnw10 : w4.heap.size < w10.heap.size := by first | omega | (have := hc10.size; simp at this; omega)
  clear hkUnw10
  have BB10 := Lib.hid (BB9.out.trans (hcc10.below (by omega) (fun x hx => by have h2 := ig00 x hx; omega)))
  have os00_10 := Lib.hid (os00_9.out.chg is00 (by omega) hcc10 (fun x hx e => by have hx0 := is00 x hx; have h2 := ig00 x e; omega))
  clear hcc10
  have kog00_10 := Lib.hid mg00
  clear mg00
  go_wp2_with fail
  refine (held_Int64S R.1 _ w10.heap.size (1) _ ((kog00_10.out.rd ig00).mono (by omega)) (Nat.le_refl _) (by omega) (by omega)).mono ?_
  rintro e w11 ⟨rfl, hb11⟩
  have hbb11 : Below w10.heap.size w10 w11 := hb11
  have z11 := hbb11.size
  obtain ⟨qAnw11, _, yAnw11⟩ := bcellAt hb11 (b := w.heap.size) (by first | omega | (simp; done) | (simp; omega))
  obtain ⟨qUnw11, _, yUnw11⟩ := bcellAt hb11 (b := w4.heap.size) (by first | omega | (simp; done) | (simp; omega))
  have BB11 := Lib.hid (BB10.out.trans (hbb11.mono (by omega)))
  have os00_11 := Lib.hid (os00_10.out.below is00 (by omega) hbb11)
  have kog00_11 := Lib.hid (kog00_10.out.below ig00 (by omega) hbb11)
  clear hbb11
  go_wp2_with fail
  have BX12 : Hid (Below w.heap.size w w11) := BB11.out
  have zx12 := BX12.out.size
  refine (to_Network nw _ _ _ _ _ ((Hnw0.out.below BX12.out).mono zx12) ((Hnw1.out.below BX12.out).mono zx12) ((Hnw2.out.below BX12.out).mono zx12) ((Hnw3.out.below BX12.out).mono zx12) (by omega)).mono ?_
  rintro e w12 ⟨amnw0, cmnw0, amnw1, cmnw1, amnw2, cmnw2, amnw3, cmnw3, fmnw, rfl, hb12, ov12, iv12⟩
  have hbb12 : Below w11.heap.size w11 w12 := hb12
  have z12 := hbb12.size
  obtain ⟨qAnw12, _, yAnw12⟩ := bcellAt hb12 (b := w.heap.size) (by first | omega | (simp; done) | (simp; omega))
  obtain ⟨qUnw12, _, yUnw12⟩ := bcellAt hb12 (b := w4.heap.size) (by first | omega | (simp; done) | (simp; omega))
  have BB12 := Lib.hid (BB11.out.trans (hbb12.mono (by omega)))
  have os00_12 := Lib.hid (os00_11.out.below is00 (by omega) hbb12)
  have kog00_12 := Lib.hid (kog00_11.out.below ig00 (by omega) hbb12)
  clear hbb12
  obtain ⟨g12_0, r12_0, e12_0, p12_0, ov12_0, d12_0⟩ := OwnV.uncons ov12
  obtain ⟨g12_1, r12_1, e12_1, p12_1, ov12_1, d12_1⟩ := OwnV.uncons ov12_0
  obtain ⟨g12_2, r12_2, e12_2, p12_2, ov12_2, d12_2⟩ := OwnV.uncons ov12_1
  obtain ⟨g12_3, r12_3, e12_3, p12_3, ov12_3, d12_3⟩ := OwnV.uncons ov12_2
  have iw12 := iv12.mono (lo' := w11.heap.size + 0) (by first | omega | (simp; done) | (simp; omega)) (Nat.le_refl _)
  have hnil12 := ov12_3.rep
  change r12_3 = [] at hnil12
  subst hnil12
  subst e12_3
  subst e12_2
  subst e12_1
  subst e12_0
  have imnw0 : In _ _ g12_0 := fun y hy => iw12 y (by simp [hy])
  have omnw0_12 := Lib.hid p12_0
  have imnw1 : In _ _ g12_1 := fun y hy => iw12 y (by simp [hy])
  have omnw1_12 := Lib.hid p12_1
  have imnw2 : In _ _ g12_2 := fun y hy => iw12 y (by simp [hy])
  have omnw2_12 := Lib.hid p12_2
  have imnw3 : In _ _ g12_3 := fun y hy => iw12 y (by simp [hy])
  have omnw3_12 := Lib.hid p12_3
  have djmnw0_1 : ∀ y ∈ g12_0, y ∉ g12_1 := fun y hy e => d12_0 y hy (by simp [e])
  have djmnw0_2 : ∀ y ∈ g12_0, y ∉ g12_2 := fun y hy e => d12_0 y hy (by simp [e])
  have djmnw0_3 : ∀ y ∈ g12_0, y ∉ g12_3 := fun y hy e => d12_0 y hy (by simp [e])
  have djmnw1_2 : ∀ y ∈ g12_1, y ∉ g12_2 := fun y hy e => d12_1 y hy (by simp [e])
  have djmnw1_3 : ∀ y ∈ g12_1, y ∉ g12_3 := fun y hy e => d12_1 y hy (by simp [e])
  have djmnw2_3 : ∀ y ∈ g12_2, y ∉ g12_3 := fun y hy e => d12_2 y hy (by simp [e])
  clear p12_0 ov12_0 d12_0 p12_1 ov12_1 d12_1 p12_2 ov12_2 d12_2 p12_3 ov12_3 d12_3 ov12 iv12 iw12
  go_wp2_with fail
  refine (HI.out _ _ _ _ _ ((omnw0_12.out.rd imnw0).mono (by omega)) ((omnw1_12.out.rd imnw1).mono (by omega)) ((omnw2_12.out.rd imnw2).mono (by omega)) ((omnw3_12.out.rd imnw3).mono (by omega)) (by omega)).mono ?_
  rintro e w13 ⟨ah00, ch00, fh00, rfl, hb13, owh0, iwh0⟩
  have ih00 := iwh0.mono (lo' := w12.heap.size + 0) (by first | omega | (simp; done) | (simp; omega)) (Nat.le_refl _)
  clear iwh0
  have hbb13 : Below w12.heap.size w12 w13 := hb13
  have z13 := hbb13.size
  obtain ⟨qAnw13, _, yAnw13⟩ := bcellAt hb13 (b := w.heap.size) (by first | omega | (simp; done) | (simp; omega))
  obtain ⟨qUnw13, _, yUnw13⟩ := bcellAt hb13 (b := w4.heap.size) (by first | omega | (simp; done) | (simp; omega))
  have BB13 := Lib.hid (BB12.out.trans (hbb13.mono (by omega)))
  have os00_13 := Lib.hid (os00_12.out.below is00 (by omega) hbb13)
  have kog00_13 := Lib.hid (kog00_12.out.below ig00 (by omega) hbb13)
  have omnw0_13 := Lib.hid (omnw0_12.out.below imnw0 (by omega) hbb13)
  have omnw1_13 := Lib.hid (omnw1_12.out.below imnw1 (by omega) hbb13)
  have omnw2_13 := Lib.hid (omnw2_12.out.below imnw2 (by omega) hbb13)
  have omnw3_13 := Lib.hid (omnw3_12.out.below imnw3 (by omega) hbb13)
  clear hbb13
  have oh00_13 := Lib.hid owh0
  clear owh0
  go_wp2_with fail
  refine ((eq_Int64S R.1 _ _ w13.heap.size _ ((oh00_13.out.rd ih00).mono (by omega)) ((os00_13.out.rd is00).mono (by omega)) (Nat.le_refl _) (by omega))).mono ?_
  rintro e w14 ⟨rfl, hb14⟩
  have hbb14 : Below w13.heap.size w13 w14 := hb14
  have z14 := hbb14.size
  obtain ⟨qAnw14, _, yAnw14⟩ := bcellAt hb14 (b := w.heap.size) (by first | omega | (simp; done) | (simp; omega))
  obtain ⟨qUnw14, _, yUnw14⟩ := bcellAt hb14 (b := w4.heap.size) (by first | omega | (simp; done) | (simp; omega))
  have BB14 := Lib.hid (BB13.out.trans (hbb14.mono (by omega)))
  have os00_14 := Lib.hid (os00_13.out.below is00 (by omega) hbb14)
  have kog00_14 := Lib.hid (kog00_13.out.below ig00 (by omega) hbb14)
  have oh00_14 := Lib.hid (oh00_13.out.below ih00 (by omega) hbb14)
  clear hbb14
  go_wp2_with fail
  refine (held_Int64S R.1 _ w14.heap.size (1) _ ((kog00_14.out.rd ig00).mono (by omega)) (Nat.le_refl _) (by omega) (by omega)).mono ?_
  rintro e w15 ⟨rfl, hb15⟩
  have hbb15 : Below w14.heap.size w14 w15 := hb15
  have z15 := hbb15.size
  obtain ⟨qAnw15, _, yAnw15⟩ := bcellAt hb15 (b := w.heap.size) (by first | omega | (simp; done) | (simp; omega))
  obtain ⟨qUnw15, _, yUnw15⟩ := bcellAt hb15 (b := w4.heap.size) (by first | omega | (simp; done) | (simp; omega))
  have BB15 := Lib.hid (BB14.out.trans (hbb15.mono (by omega)))
  have kog00_15 := Lib.hid (kog00_14.out.below ig00 (by omega) hbb15)
  clear hbb15
  go_wp2
  go_ret
  exact ⟨rfl, BB15.out⟩
end Go.Proofs.Ytefefgamiaganaa.fnExactChannelsOf
