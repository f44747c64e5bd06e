/- The walk of the law FnExactDropSite: it returns true. -/
import Derived.Test.YtppgcgopnchbcaaGreatNetQ
import Derived.Test.YtppgcgopnchbcaaGreatStrs
import Derived.Test.YtppgcgopnchbcaaGreatHNetwork
import Derived.Test.YtppgcgopnchbcaaGreatTree
import Derived.Deep.RegionHeld3
namespace Go.Proofs.YtppgcgopnchbcaaGreat.fnExactDropSite
open Go.RowKit
set_option linter.unusedVariables false
theorem cntL_net (n : DNetwork) : cnt (DSite.sT n.sites) + cnt (DSector.sT n.sectors) + cnt (DAntenna.sT n.antennas) + cnt (DRadio.sT n.radios) ≤ 16 * sizL n.tr := by
  have h := DNetwork.siz_tr n
  have h0 := DSite.cnt_le n.sites
  have h1 := DSector.cnt_le n.sectors
  have h2 := DAntenna.cnt_le n.antennas
  have h3 := DRadio.cnt_le n.radios
  omega
theorem siz_zero : sizL (DNetwork.tr ⟨[], [], [], []⟩) = 0 := rfl
theorem siz_erase (l : List DSite) (k : Nat) : siz (DSite.sT (l.eraseIdx k)) ≤ siz (DSite.sT l) := by
  rw [DSite.siz_s, DSite.siz_s]
  have h1 := List.length_eraseIdx_le l k
  have e : l.eraseIdx k = l.take k ++ l.drop (k + 1) := List.eraseIdx_eq_take_drop_succ ..
  have h2 : sizL ((l.eraseIdx k).flatMap DSite.tr) ≤ sizL (l.flatMap DSite.tr) := by
    rw [e, List.flatMap_append, sizL_append]
    by_cases h : k < l.length
    · rw [flat_split DSite.tr l k h]
      simp only [sizL_append]
      omega
    · rw [List.drop_eq_nil_of_le (by omega), List.take_of_length_le (by omega)]
      simp [sizL]
  omega
theorem R_siz (n : DNetwork) (nm : ByteArray) : sizL (dropSiteR n nm).1.tr ≤ sizL n.tr := by
  unfold dropSiteR
  repeat' split
  all_goals (first | (rw [siz_zero]; omega) | (have h := DNetwork.siz_tr n; rw [DNetwork.siz_tr]; have h1 := siz_erase n.sites (idxSite n.sites nm).toNat; simp only; omega))
set_option maxHeartbeats 4000000 in
set_option maxRecDepth 100000 in
theorem walk (nw : DNetwork) (nm : ByteArray) (vnw0 vnw1 vnw2 vnw3 : Value) (w : World) (rnw0 : Rd w.heap.size w (DSite.sT nw.sites) vnw0) (rnw1 : Rd w.heap.size w (DSector.sT nw.sectors) vnw1) (rnw2 : Rd w.heap.size w (DAntenna.sT nw.antennas) vnw2) (rnw3 : Rd w.heap.size w (DRadio.sT nw.radios) vnw3) (hk_nw : nw.ok) (hk_nm : nm.size ≤ maxLen) :
    Calls Tryz.prog 5 #[.agg #[vnw0, vnw1, vnw2, vnw3], .string nm] w fun e w' => e = .returned (.bool true) ∧ Below w.heap.size w w' := by
  have Hnw0 := Lib.hid rnw0
  have Hnw1 := Lib.hid rnw1
  have Hnw2 := Lib.hid rnw2
  have Hnw3 := Lib.hid rnw3
  clear rnw0 rnw1 rnw2 rnw3
  unfold maxLen at hk_nm
  have hq_nw := DNetwork.siz_tr nw
  have hcn := cntL_net nw
  have hRs := R_siz nw nm
  have hR0 := DNetwork.siz_tr (dropSiteR nw nm).1
  have hRc := cntL_net (dropSiteR nw nm).1
  have BB0 : Hid (Below w.heap.size w w) := Below.refl _ _
  generalize hR : dropSiteR nw nm = R at *
  have HR := Lib.hid hR
  clear hR
  have HS : Hid (∀ (W : World) (xnw0 xnw1 xnw2 xnw3 : Value), Rd W.heap.size W (DSite.sT nw.sites) xnw0 → Rd W.heap.size W (DSector.sT nw.sectors) xnw1 → Rd W.heap.size W (DAntenna.sT nw.antennas) xnw2 → Rd W.heap.size W (DRadio.sT nw.radios) xnw3 → sizL nw.tr ≤ 1048576 → nm.size ≤ 1048576 → Calls Tryz.prog 23 #[.agg #[xnw0, xnw1, xnw2, xnw3], .string nm] W (fun e w' => ∃ a0_0 c0_0 a0_1 c0_1 a0_2 c0_2 a0_3 c0_3 fp0, e = .returned (.tuple #[.agg #[.slice a0_0 R.1.sites.length c0_0, .slice a0_1 R.1.sectors.length c0_1, .slice a0_2 R.1.antennas.length c0_2, .slice a0_3 R.1.radios.length c0_3], .int .i64 R.2]) ∧ Below W.heap.size W w' ∧ OwnV w' R.1.tr [.slice a0_0 R.1.sites.length c0_0, .slice a0_1 R.1.sectors.length c0_1, .slice a0_2 R.1.antennas.length c0_2, .slice a0_3 R.1.radios.length c0_3] fp0 ∧ In W.heap.size w'.heap.size fp0)) := fun W xnw0 xnw1 xnw2 xnw3 ynw0 ynw1 ynw2 ynw3 z0 z1 => by rw [← HR.out]; exact sDropSite_std nw nm xnw0 xnw1 xnw2 xnw3 W ynw0 ynw1 ynw2 ynw3 z0 hk_nw z1
  have HI : Hid (∀ (W : World) (xnw0 xnw1 xnw2 xnw3 : Value), Rd W.heap.size W (DSite.sT nw.sites) xnw0 → Rd W.heap.size W (DSector.sT nw.sectors) xnw1 → Rd W.heap.size W (DAntenna.sT nw.antennas) xnw2 → Rd W.heap.size W (DRadio.sT nw.radios) xnw3 → sizL nw.tr ≤ 1048576 → nm.size ≤ 1048576 → Calls Tryz.prog 24 #[.agg #[xnw0, xnw1, xnw2, xnw3], .string nm] W (fun e w' => ∃ a0_0 c0_0 a0_1 c0_1 a0_2 c0_2 a0_3 c0_3 fp0, e = .returned (.tuple #[.agg #[.slice a0_0 R.1.sites.length c0_0, .slice a0_1 R.1.sectors.length c0_1, .slice a0_2 R.1.antennas.length c0_2, .slice a0_3 R.1.radios.length c0_3], .int .i64 R.2]) ∧ Below W.heap.size W w' ∧ OwnV w' R.1.tr [.slice a0_0 R.1.sites.length c0_0, .slice a0_1 R.1.sectors.length c0_1, .slice a0_2 R.1.antennas.length c0_2, .slice a0_3 R.1.radios.length c0_3] fp0 ∧ In W.heap.size w'.heap.size fp0)) := fun W xnw0 xnw1 xnw2 xnw3 ynw0 ynw1 ynw2 ynw3 z0 z1 => by rw [← HR.out]; exact iDropSite_std nw nm xnw0 xnw1 xnw2 xnw3 W ynw0 ynw1 ynw2 ynw3 z0 hk_nw z1
  by_cases hl_nm : nm.size ≤ 1048576
  case neg =>
    have hl1_nm : (1048576 : Int) < ((nm.size : Nat) : Int) := by omega
    have hl2_nm : 1048576 < nm.size := by omega
    go_enter Tryz.func5, Tryz.ntmps5
    go_wp2
    go_ret
    exact ⟨rfl, Below.alloc (Below.refl _ _) (by first | exact Nat.le_refl _ | (simp; done) | (simp; omega)) _⟩
  have hl1_nm : ((nm.size : Nat) : Int) ≤ 1048576 := by omega
  go_enter Tryz.func5, Tryz.ntmps5
  go_wp2_with fail
  have BX1 : Hid (Below w.heap.size w (w.alloc (.cells #[vnw0, vnw1, vnw2, vnw3] 27))) := (BB0.out.alloc (by first | omega | (simp; done) | (simp; omega)) _)
  have zx1 := BX1.out.size
  refine (sz_Network nw vnw0 vnw1 vnw2 vnw3 w.heap.size _ _ (Hnw0.out.below BX1.out) (Hnw1.out.below BX1.out) (Hnw2.out.below BX1.out) (Hnw3.out.below BX1.out) (by omega) (by omega) (by omega) hk_nw).mono ?_
  rintro e w1 ⟨⟨cz1, rfl⟩ | ⟨cz1, rfl⟩, hb1⟩
  case inr =>
    go_wp2
    go_ret
    exact ⟨rfl, BX1.out.trans (hb1.mono (by omega))⟩
  have cy1 : decide ((1048576 : Int) - sizL nw.tr < 0) = false := by simp; omega
  have hx1 : Below w.heap.size w (w.alloc (.cells #[vnw0, vnw1, vnw2, vnw3] 27)) := ((Below.refl _ _).alloc (Nat.le_refl _) _)
  have hbb1 : Below w.heap.size w w1 := hx1.trans (hb1.mono (by first | (simp; done) | (simp; omega)))
  have z1 := hbb1.size
  obtain ⟨qAnw1, _, yAnw1⟩ := bcellAt hb1 (b := w.heap.size) (by first | omega | (simp; done) | (simp; omega))
  have BB1 := Lib.hid (BB0.out.trans (hbb1.mono (by omega)))
  clear hx1
  clear hb1 hbb1
  have CZ1 := Lib.hid cy1
  go_wp2_with fail
  have BX2 : Hid (Below w.heap.size w w1) := BB1.out
  have zx2 := BX2.out.size
  refine (to_Network nw _ _ _ _ _ ((Hnw0.out.below BX2.out).mono zx2) ((Hnw1.out.below BX2.out).mono zx2) ((Hnw2.out.below BX2.out).mono zx2) ((Hnw3.out.below BX2.out).mono zx2) (by omega)).mono ?_
  rintro e w2 ⟨atnw0, ctnw0, atnw1, ctnw1, atnw2, ctnw2, atnw3, ctnw3, ftnw, rfl, hb2, ov2, iv2⟩
  have hbb2 : Below w1.heap.size w1 w2 := hb2
  have z2 := hbb2.size
  obtain ⟨qAnw2, _, yAnw2⟩ := bcellAt hb2 (b := w.heap.size) (by first | omega | (simp; done) | (simp; omega))
  have BB2 := Lib.hid (BB1.out.trans (hbb2.mono (by omega)))
  clear hbb2
  obtain ⟨g2_0, r2_0, e2_0, p2_0, ov2_0, d2_0⟩ := OwnV.uncons ov2
  obtain ⟨g2_1, r2_1, e2_1, p2_1, ov2_1, d2_1⟩ := OwnV.uncons ov2_0
  obtain ⟨g2_2, r2_2, e2_2, p2_2, ov2_2, d2_2⟩ := OwnV.uncons ov2_1
  obtain ⟨g2_3, r2_3, e2_3, p2_3, ov2_3, d2_3⟩ := OwnV.uncons ov2_2
  have iw2 := iv2.mono (lo' := w1.heap.size + 0) (by first | omega | (simp; done) | (simp; omega)) (Nat.le_refl _)
  have hnil2 := ov2_3.rep
  change r2_3 = [] at hnil2
  subst hnil2
  subst e2_3
  subst e2_2
  subst e2_1
  subst e2_0
  have itnw0 : In _ _ g2_0 := fun y hy => iw2 y (by simp [hy])
  have otnw0_2 := Lib.hid p2_0
  have itnw1 : In _ _ g2_1 := fun y hy => iw2 y (by simp [hy])
  have otnw1_2 := Lib.hid p2_1
  have itnw2 : In _ _ g2_2 := fun y hy => iw2 y (by simp [hy])
  have otnw2_2 := Lib.hid p2_2
  have itnw3 : In _ _ g2_3 := fun y hy => iw2 y (by simp [hy])
  have otnw3_2 := Lib.hid p2_3
  have djtnw0_1 : ∀ y ∈ g2_0, y ∉ g2_1 := fun y hy e => d2_0 y hy (by simp [e])
  have djtnw0_2 : ∀ y ∈ g2_0, y ∉ g2_2 := fun y hy e => d2_0 y hy (by simp [e])
  have djtnw0_3 : ∀ y ∈ g2_0, y ∉ g2_3 := fun y hy e => d2_0 y hy (by simp [e])
  have djtnw1_2 : ∀ y ∈ g2_1, y ∉ g2_2 := fun y hy e => d2_1 y hy (by simp [e])
  have djtnw1_3 : ∀ y ∈ g2_1, y ∉ g2_3 := fun y hy e => d2_1 y hy (by simp [e])
  have djtnw2_3 : ∀ y ∈ g2_2, y ∉ g2_3 := fun y hy e => d2_2 y hy (by simp [e])
  clear p2_0 ov2_0 d2_0 p2_1 ov2_1 d2_1 p2_2 ov2_2 d2_2 p2_3 ov2_3 d2_3 ov2 iv2 iw2
  go_wp2_with fail
  refine (HS.out _ _ _ _ _ ((otnw0_2.out.rd itnw0).mono (by omega)) ((otnw1_2.out.rd itnw1).mono (by omega)) ((otnw2_2.out.rd itnw2).mono (by omega)) ((otnw3_2.out.rd itnw3).mono (by omega)) (by omega) (by omega)).mono ?_
  rintro e w3 ⟨as00, cs00, as01, cs01, as02, cs02, as03, cs03, fs0, rfl, hb3, ov3, iv3⟩
  have hbb3 : Below w2.heap.size w2 w3 := hb3
  have z3 := hbb3.size
  obtain ⟨qAnw3, _, yAnw3⟩ := bcellAt hb3 (b := w.heap.size) (by first | omega | (simp; done) | (simp; omega))
  have BB3 := Lib.hid (BB2.out.trans (hbb3.mono (by omega)))
  have otnw0_3 := Lib.hid (otnw0_2.out.below itnw0 (by omega) hbb3)
  have otnw1_3 := Lib.hid (otnw1_2.out.below itnw1 (by omega) hbb3)
  have otnw2_3 := Lib.hid (otnw2_2.out.below itnw2 (by omega) hbb3)
  have otnw3_3 := Lib.hid (otnw3_2.out.below itnw3 (by omega) hbb3)
  clear hbb3
  obtain ⟨g3_0, r3_0, e3_0, p3_0, ov3_0, d3_0⟩ := OwnV.uncons ov3
  obtain ⟨g3_1, r3_1, e3_1, p3_1, ov3_1, d3_1⟩ := OwnV.uncons ov3_0
  obtain ⟨g3_2, r3_2, e3_2, p3_2, ov3_2, d3_2⟩ := OwnV.uncons ov3_1
  obtain ⟨g3_3, r3_3, e3_3, p3_3, ov3_3, d3_3⟩ := OwnV.uncons ov3_2
  have iw3 := iv3.mono (lo' := w2.heap.size + 0) (by first | omega | (simp; done) | (simp; omega)) (Nat.le_refl _)
  have hnil3 := ov3_3.rep
  change r3_3 = [] at hnil3
  subst hnil3
  subst e3_3
  subst e3_2
  subst e3_1
  subst e3_0
  have is00 : In _ _ g3_0 := fun y hy => iw3 y (by simp [hy])
  have os00_3 := Lib.hid p3_0
  have is01 : In _ _ g3_1 := fun y hy => iw3 y (by simp [hy])
  have os01_3 := Lib.hid p3_1
  have is02 : In _ _ g3_2 := fun y hy => iw3 y (by simp [hy])
  have os02_3 := Lib.hid p3_2
  have is03 : In _ _ g3_3 := fun y hy => iw3 y (by simp [hy])
  have os03_3 := Lib.hid p3_3
  have djs00_1 : ∀ y ∈ g3_0, y ∉ g3_1 := fun y hy e => d3_0 y hy (by simp [e])
  have djs00_2 : ∀ y ∈ g3_0, y ∉ g3_2 := fun y hy e => d3_0 y hy (by simp [e])
  have djs00_3 : ∀ y ∈ g3_0, y ∉ g3_3 := fun y hy e => d3_0 y hy (by simp [e])
  have djs01_2 : ∀ y ∈ g3_1, y ∉ g3_2 := fun y hy e => d3_1 y hy (by simp [e])
  have djs01_3 : ∀ y ∈ g3_1, y ∉ g3_3 := fun y hy e => d3_1 y hy (by simp [e])
  have djs02_3 : ∀ y ∈ g3_2, y ∉ g3_3 := fun y hy e => d3_2 y hy (by simp [e])
  clear p3_0 ov3_0 d3_0 p3_1 ov3_1 d3_1 p3_2 ov3_2 d3_2 p3_3 ov3_3 d3_3 ov3 iv3 iw3
  go_wp2_with fail
  have BX4 : Hid (Below w.heap.size w (w3.alloc (.cells #[.slice as00 R.1.sites.length cs00, .slice as01 R.1.sectors.length cs01, .slice as02 R.1.antennas.length cs02, .slice as03 R.1.radios.length cs03] 35))) := (BB3.out.alloc (by first | omega | (simp; done) | (simp; omega)) _)
  have zx4 := BX4.out.size
  refine (to_Network nw _ _ _ _ _ ((Hnw0.out.below BX4.out).mono zx4) ((Hnw1.out.below BX4.out).mono zx4) ((Hnw2.out.below BX4.out).mono zx4) ((Hnw3.out.below BX4.out).mono zx4) (by omega)).mono ?_
  rintro e w4 ⟨aunw0, cunw0, aunw1, cunw1, aunw2, cunw2, aunw3, cunw3, funw, rfl, hb4, ov4, iv4⟩
  have hx4 : Below w3.heap.size w3 (w3.alloc (.cells #[.slice as00 R.1.sites.length cs00, .slice as01 R.1.sectors.length cs01, .slice as02 R.1.antennas.length cs02, .slice as03 R.1.radios.length cs03] 35)) := ((Below.refl _ _).alloc (Nat.le_refl _) _)
  have hbb4 : Below w3.heap.size w3 w4 := hx4.trans (hb4.mono (by first | (simp; done) | (simp; omega)))
  have z4 := hbb4.size
  obtain ⟨qAnw4, _, yAnw4⟩ := bcellAt hb4 (b := w.heap.size) (by first | omega | (simp; done) | (simp; omega))
  obtain ⟨qS04, _, yS04⟩ := bcellAt hb4 (b := w3.heap.size) (by first | omega | (simp; done) | (simp; omega))
  have BB4 := Lib.hid (BB3.out.trans (hbb4.mono (by omega)))
  have os00_4 := Lib.hid (os00_3.out.below is00 (by omega) hbb4)
  have os01_4 := Lib.hid (os01_3.out.below is01 (by omega) hbb4)
  have os02_4 := Lib.hid (os02_3.out.below is02 (by omega) hbb4)
  have os03_4 := Lib.hid (os03_3.out.below is03 (by omega) hbb4)
  clear hx4
  clear hb4 hbb4
  obtain ⟨g4_0, r4_0, e4_0, p4_0, ov4_0, d4_0⟩ := OwnV.uncons ov4
  obtain ⟨g4_1, r4_1, e4_1, p4_1, ov4_1, d4_1⟩ := OwnV.uncons ov4_0
  obtain ⟨g4_2, r4_2, e4_2, p4_2, ov4_2, d4_2⟩ := OwnV.uncons ov4_1
  obtain ⟨g4_3, r4_3, e4_3, p4_3, ov4_3, d4_3⟩ := OwnV.uncons ov4_2
  have iw4 := iv4.mono (lo' := w3.heap.size + 1) (by first | omega | (simp; done) | (simp; omega)) (Nat.le_refl _)
  have hnil4 := ov4_3.rep
  change r4_3 = [] at hnil4
  subst hnil4
  subst e4_3
  subst e4_2
  subst e4_1
  subst e4_0
  have iunw0 : In _ _ g4_0 := fun y hy => iw4 y (by simp [hy])
  have ounw0_4 := Lib.hid p4_0
  have iunw1 : In _ _ g4_1 := fun y hy => iw4 y (by simp [hy])
  have ounw1_4 := Lib.hid p4_1
  have iunw2 : In _ _ g4_2 := fun y hy => iw4 y (by simp [hy])
  have ounw2_4 := Lib.hid p4_2
  have iunw3 : In _ _ g4_3 := fun y hy => iw4 y (by simp [hy])
  have ounw3_4 := Lib.hid p4_3
  have djunw0_1 : ∀ y ∈ g4_0, y ∉ g4_1 := fun y hy e => d4_0 y hy (by simp [e])
  have djunw0_2 : ∀ y ∈ g4_0, y ∉ g4_2 := fun y hy e => d4_0 y hy (by simp [e])
  have djunw0_3 : ∀ y ∈ g4_0, y ∉ g4_3 := fun y hy e => d4_0 y hy (by simp [e])
  have djunw1_2 : ∀ y ∈ g4_1, y ∉ g4_2 := fun y hy e => d4_1 y hy (by simp [e])
  have djunw1_3 : ∀ y ∈ g4_1, y ∉ g4_3 := fun y hy e => d4_1 y hy (by simp [e])
  have djunw2_3 : ∀ y ∈ g4_2, y ∉ g4_3 := fun y hy e => d4_2 y hy (by simp [e])
  clear p4_0 ov4_0 d4_0 p4_1 ov4_1 d4_1 p4_2 ov4_2 d4_2 p4_3 ov4_3 d4_3 ov4 iv4 iw4
  go_wp2_with fail
  refine (HI.out _ _ _ _ _ (((ounw0_4.out.below iunw0 (by omega) ((Below.refl _ _).alloc (Nat.le_refl _) _)).rd iunw0).mono (by first | omega | (simp; done) | (simp; omega))) (((ounw1_4.out.below iunw1 (by omega) ((Below.refl _ _).alloc (Nat.le_refl _) _)).rd iunw1).mono (by first | omega | (simp; done) | (simp; omega))) (((ounw2_4.out.below iunw2 (by omega) ((Below.refl _ _).alloc (Nat.le_refl _) _)).rd iunw2).mono (by first | omega | (simp; done) | (simp; omega))) (((ounw3_4.out.below iunw3 (by omega) ((Below.refl _ _).alloc (Nat.le_refl _) _)).rd iunw3).mono (by first | omega | (simp; done) | (simp; omega))) (by omega) (by omega)).mono ?_
  rintro e w5 ⟨ag00, cg00, ag01, cg01, ag02, cg02, ag03, cg03, fg0, rfl, hb5, ov5, iv5⟩
  have hx5 : Below w4.heap.size w4 (w4.alloc (.cells #[.slice aunw0 nw.sites.length cunw0, .slice aunw1 nw.sectors.length cunw1, .slice aunw2 nw.antennas.length cunw2, .slice aunw3 nw.radios.length cunw3] 35)) := ((Below.refl _ _).alloc (Nat.le_refl _) _)
  have hbb5 : Below w4.heap.size w4 w5 := hx5.trans (hb5.mono (by first | (simp; done) | (simp; omega)))
  have z5 := hbb5.size
  obtain ⟨qAnw5, _, yAnw5⟩ := bcellAt hb5 (b := w.heap.size) (by first | omega | (simp; done) | (simp; omega))
  obtain ⟨qS05, _, yS05⟩ := bcellAt hb5 (b := w3.heap.size) (by first | omega | (simp; done) | (simp; omega))
  obtain ⟨qUnw5, _, yUnw5⟩ := bcellAt hb5 (b := w4.heap.size) (by first | omega | (simp; done) | (simp; omega))
  have BB5 := Lib.hid (BB4.out.trans (hbb5.mono (by omega)))
  have os00_5 := Lib.hid (os00_4.out.below is00 (by omega) hbb5)
  have os01_5 := Lib.hid (os01_4.out.below is01 (by omega) hbb5)
  have os02_5 := Lib.hid (os02_4.out.below is02 (by omega) hbb5)
  have os03_5 := Lib.hid (os03_4.out.below is03 (by omega) hbb5)
  have ounw0_5 := Lib.hid (ounw0_4.out.below iunw0 (by omega) hbb5)
  have ounw1_5 := Lib.hid (ounw1_4.out.below iunw1 (by omega) hbb5)
  have ounw2_5 := Lib.hid (ounw2_4.out.below iunw2 (by omega) hbb5)
  have ounw3_5 := Lib.hid (ounw3_4.out.below iunw3 (by omega) hbb5)
  clear hx5
  clear hb5 hbb5
  obtain ⟨g5_0, r5_0, e5_0, p5_0, ov5_0, d5_0⟩ := OwnV.uncons ov5
  obtain ⟨g5_1, r5_1, e5_1, p5_1, ov5_1, d5_1⟩ := OwnV.uncons ov5_0
  obtain ⟨g5_2, r5_2, e5_2, p5_2, ov5_2, d5_2⟩ := OwnV.uncons ov5_1
  obtain ⟨g5_3, r5_3, e5_3, p5_3, ov5_3, d5_3⟩ := OwnV.uncons ov5_2
  have iw5 := iv5.mono (lo' := w4.heap.size + 1) (by first | omega | (simp; done) | (simp; omega)) (Nat.le_refl _)
  have hnil5 := ov5_3.rep
  change r5_3 = [] at hnil5
  subst hnil5
  subst e5_3
  subst e5_2
  subst e5_1
  subst e5_0
  have ig00 : In _ _ g5_0 := fun y hy => iw5 y (by simp [hy])
  have og00_5 := Lib.hid p5_0
  have ig01 : In _ _ g5_1 := fun y hy => iw5 y (by simp [hy])
  have og01_5 := Lib.hid p5_1
  have ig02 : In _ _ g5_2 := fun y hy => iw5 y (by simp [hy])
  have og02_5 := Lib.hid p5_2
  have ig03 : In _ _ g5_3 := fun y hy => iw5 y (by simp [hy])
  have og03_5 := Lib.hid p5_3
  have djg00_1 : ∀ y ∈ g5_0, y ∉ g5_1 := fun y hy e => d5_0 y hy (by simp [e])
  have djg00_2 : ∀ y ∈ g5_0, y ∉ g5_2 := fun y hy e => d5_0 y hy (by simp [e])
  have djg00_3 : ∀ y ∈ g5_0, y ∉ g5_3 := fun y hy e => d5_0 y hy (by simp [e])
  have djg01_2 : ∀ y ∈ g5_1, y ∉ g5_2 := fun y hy e => d5_1 y hy (by simp [e])
  have djg01_3 : ∀ y ∈ g5_1, y ∉ g5_3 := fun y hy e => d5_1 y hy (by simp [e])
  have djg02_3 : ∀ y ∈ g5_2, y ∉ g5_3 := fun y hy e => d5_2 y hy (by simp [e])
  clear p5_0 ov5_0 d5_0 p5_1 ov5_1 d5_1 p5_2 ov5_2 d5_2 p5_3 ov5_3 d5_3 ov5 iv5 iw5
  go_wp2_with fail
  refine ((eq_Network R.1 _ _ _ _ _ _ _ _ (w5.alloc (.cells #[.slice ag00 R.1.sites.length cg00, .slice ag01 R.1.sectors.length cg01, .slice ag02 R.1.antennas.length cg02, .slice ag03 R.1.radios.length cg03] 35)).heap.size _ (((og00_5.out.below ig00 (by omega) ((Below.refl _ _).alloc (Nat.le_refl _) _)).rd ig00).mono (by first | omega | (simp; done) | (simp; omega))) (((os00_5.out.below is00 (by omega) ((Below.refl _ _).alloc (Nat.le_refl _) _)).rd is00).mono (by first | omega | (simp; done) | (simp; omega))) (((og01_5.out.below ig01 (by omega) ((Below.refl _ _).alloc (Nat.le_refl _) _)).rd ig01).mono (by first | omega | (simp; done) | (simp; omega))) (((os01_5.out.below is01 (by omega) ((Below.refl _ _).alloc (Nat.le_refl _) _)).rd is01).mono (by first | omega | (simp; done) | (simp; omega))) (((og02_5.out.below ig02 (by omega) ((Below.refl _ _).alloc (Nat.le_refl _) _)).rd ig02).mono (by first | omega | (simp; done) | (simp; omega))) (((os02_5.out.below is02 (by omega) ((Below.refl _ _).alloc (Nat.le_refl _) _)).rd is02).mono (by first | omega | (simp; done) | (simp; omega))) (((og03_5.out.below ig03 (by omega) ((Below.refl _ _).alloc (Nat.le_refl _) _)).rd ig03).mono (by first | omega | (simp; done) | (simp; omega))) (((os03_5.out.below is03 (by omega) ((Below.refl _ _).alloc (Nat.le_refl _) _)).rd is03).mono (by first | omega | (simp; done) | (simp; omega))) (Nat.le_refl _) (by omega))).mono ?_
  rintro e w6 ⟨rfl, hb6⟩
  have hx6 : Below w5.heap.size w5 (w5.alloc (.cells #[.slice ag00 R.1.sites.length cg00, .slice ag01 R.1.sectors.length cg01, .slice ag02 R.1.antennas.length cg02, .slice ag03 R.1.radios.length cg03] 35)) := ((Below.refl _ _).alloc (Nat.le_refl _) _)
  have hbb6 : Below w5.heap.size w5 w6 := hx6.trans (hb6.mono (by first | (simp; done) | (simp; omega)))
  have z6 := hbb6.size
  obtain ⟨qAnw6, _, yAnw6⟩ := bcellAt hb6 (b := w.heap.size) (by first | omega | (simp; done) | (simp; omega))
  obtain ⟨qS06, _, yS06⟩ := bcellAt hb6 (b := w3.heap.size) (by first | omega | (simp; done) | (simp; omega))
  obtain ⟨qUnw6, _, yUnw6⟩ := bcellAt hb6 (b := w4.heap.size) (by first | omega | (simp; done) | (simp; omega))
  obtain ⟨qG06, _, yG06⟩ := bcellAt hb6 (b := w5.heap.size) (by first | omega | (simp; done) | (simp; omega))
  have BB6 := Lib.hid (BB5.out.trans (hbb6.mono (by omega)))
  have os00_6 := Lib.hid (os00_5.out.below is00 (by omega) hbb6)
  have os01_6 := Lib.hid (os01_5.out.below is01 (by omega) hbb6)
  have os02_6 := Lib.hid (os02_5.out.below is02 (by omega) hbb6)
  have os03_6 := Lib.hid (os03_5.out.below is03 (by omega) hbb6)
  have ounw0_6 := Lib.hid (ounw0_5.out.below iunw0 (by omega) hbb6)
  have ounw1_6 := Lib.hid (ounw1_5.out.below iunw1 (by omega) hbb6)
  have ounw2_6 := Lib.hid (ounw2_5.out.below iunw2 (by omega) hbb6)
  have ounw3_6 := Lib.hid (ounw3_5.out.below iunw3 (by omega) hbb6)
  have og00_6 := Lib.hid (og00_5.out.below ig00 (by omega) hbb6)
  have og01_6 := Lib.hid (og01_5.out.below ig01 (by omega) hbb6)
  have og02_6 := Lib.hid (og02_5.out.below ig02 (by omega) hbb6)
  have og03_6 := Lib.hid (og03_5.out.below ig03 (by omega) hbb6)
  clear hx6
  clear hb6 hbb6
  clear cy1
  have hcf : w6.cell? ⟨w4.heap.size, 0, none⟩ = some (.slice aunw0 nw.sites.length cunw0) ∧ w6.cell? ⟨w4.heap.size, 1, none⟩ = some (.slice aunw1 nw.sectors.length cunw1) ∧ w6.cell? ⟨w4.heap.size, 2, none⟩ = some (.slice aunw2 nw.antennas.length cunw2) ∧ w6.cell? ⟨w4.heap.size, 3, none⟩ = some (.slice aunw3 nw.radios.length cunw3) ∧ w6.cell? ⟨w.heap.size, 0, none⟩ = some (vnw0) ∧ w6.cell? ⟨w.heap.size, 1, none⟩ = some (vnw1) ∧ w6.cell? ⟨w.heap.size, 2, none⟩ = some (vnw2) ∧ w6.cell? ⟨w.heap.size, 3, none⟩ = some (vnw3) := by refine ⟨?_, ?_, ?_, ?_, ?_, ?_, ?_, ?_⟩ <;> simp [go_sem, *]
  go_wp2
  have hsame : Below w6.heap.size w6 w6.drew := ⟨rfl, rfl, rfl, Nat.le_refl _, fun _ _ => rfl⟩
  have BBd := Lib.hid BB6.out.drew
  have HTO := Lib.hid (to_Network nw vnw0 vnw1 vnw2 vnw3 w6.drew ((Hnw0.out.below BBd.out).mono (by show w.heap.size ≤ w6.heap.size; omega)) ((Hnw1.out.below BBd.out).mono (by show w.heap.size ≤ w6.heap.size; omega)) ((Hnw2.out.below BBd.out).mono (by show w.heap.size ≤ w6.heap.size; omega)) ((Hnw3.out.below BBd.out).mono (by show w.heap.size ≤ w6.heap.size; omega)) (by omega))
  have HEQ : Hid (∀ (W : World) (p0 p1 p2 p3 q0 q1 q2 q3 : Value), Below w6.heap.size w6 W → RdV W.heap.size W nw.tr [q0, q1, q2, q3] → p0 = .slice aunw0 nw.sites.length cunw0 → p1 = .slice aunw1 nw.sectors.length cunw1 → p2 = .slice aunw2 nw.antennas.length cunw2 → p3 = .slice aunw3 nw.radios.length cunw3 → Calls Tryz.prog 14 #[.agg #[p0, p1, p2, p3], .agg #[q0, q1, q2, q3]] W fun e w' => e = .returned (.bool true) ∧ Below W.heap.size W w') := fun W p0 p1 p2 p3 q0 q1 q2 q3 hW hr e0 e1 e2 e3 => by
    subst e0 e1 e2 e3
    have hzW := hW.size
    exact eq_Network nw _ _ _ _ _ _ _ _ W.heap.size W (((ounw0_6.out.below iunw0 (by omega) hW).rd iunw0).mono (by omega)) hr.1 (((ounw1_6.out.below iunw1 (by omega) hW).rd iunw1).mono (by omega)) hr.2.1 (((ounw2_6.out.below iunw2 (by omega) hW).rd iunw2).mono (by omega)) hr.2.2.1 (((ounw3_6.out.below iunw3 (by omega) hW).rd iunw3).mono (by omega)) hr.2.2.2.1 (Nat.le_refl _) (by omega)
  go_region_held3 (fun W => W.cell? ⟨w4.heap.size, 0, none⟩ = some (.slice aunw0 nw.sites.length cunw0) ∧ W.cell? ⟨w4.heap.size, 1, none⟩ = some (.slice aunw1 nw.sectors.length cunw1) ∧ W.cell? ⟨w4.heap.size, 2, none⟩ = some (.slice aunw2 nw.antennas.length cunw2) ∧ W.cell? ⟨w4.heap.size, 3, none⟩ = some (.slice aunw3 nw.radios.length cunw3) ∧ W.cell? ⟨w.heap.size, 0, none⟩ = some (vnw0) ∧ W.cell? ⟨w.heap.size, 1, none⟩ = some (vnw1) ∧ W.cell? ⟨w.heap.size, 2, none⟩ = some (vnw2) ∧ W.cell? ⟨w.heap.size, 3, none⟩ = some (vnw3)) (first | exact hcf | (refine ⟨?_, ?_, ?_, ?_, ?_, ?_, ?_, ?_⟩ <;> simp [go_sem, *]))
    (first
      | (go_at_call 11; refine (HTO.out).mono ?_; rintro e wt ⟨at0, ct0, at1, ct1, at2, ct2, at3, ct3, ft, rfl, hbt, ovt, ivt⟩; obtain ⟨qUt, _, yUt⟩ := bcellAt hbt (b := w4.heap.size) (by show w4.heap.size < w6.heap.size; omega); obtain ⟨qAt, _, yAt⟩ := bcellAt hbt (b := w.heap.size) (by show w.heap.size < w6.heap.size; omega))
      | (go_at_call 14; refine (HEQ.out _ _ _ _ _ _ _ _ _ (hsame.trans hbt) (ovt.rd ivt) rfl rfl rfl rfl).mono ?_; rintro e w7 ⟨rfl, hbe⟩; obtain ⟨qUe, _, yUe⟩ := bcellAt hbe (b := w4.heap.size) yUt; obtain ⟨qAe, _, yAe⟩ := bcellAt hbe (b := w.heap.size) yAt))
  have hb7 : Below w6.heap.size w6 w7 := (hsame.trans hbt).trans (hbe.mono (hsame.trans hbt).size)
  clear HEQ HTO BBd hcf qUt qAt qUe qAe yUt yAt yUe yAe hbe hbt ovt ivt hsame
  have hbb7 : Below w6.heap.size w6 w7 := hb7
  have z7 := hbb7.size
  obtain ⟨qAnw7, _, yAnw7⟩ := bcellAt hb7 (b := w.heap.size) (by first | omega | (simp; done) | (simp; omega))
  obtain ⟨qS07, _, yS07⟩ := bcellAt hb7 (b := w3.heap.size) (by first | omega | (simp; done) | (simp; omega))
  obtain ⟨qUnw7, _, yUnw7⟩ := bcellAt hb7 (b := w4.heap.size) (by first | omega | (simp; done) | (simp; omega))
  obtain ⟨qG07, _, yG07⟩ := bcellAt hb7 (b := w5.heap.size) (by first | omega | (simp; done) | (simp; omega))
  have BB7 := Lib.hid (BB6.out.trans (hbb7.mono (by omega)))
  have os00_7 := Lib.hid (os00_6.out.below is00 (by omega) hbb7)
  have os01_7 := Lib.hid (os01_6.out.below is01 (by omega) hbb7)
  have os02_7 := Lib.hid (os02_6.out.below is02 (by omega) hbb7)
  have os03_7 := Lib.hid (os03_6.out.below is03 (by omega) hbb7)
  have ounw0_7 := Lib.hid (ounw0_6.out.below iunw0 (by omega) hbb7)
  have ounw1_7 := Lib.hid (ounw1_6.out.below iunw1 (by omega) hbb7)
  have ounw2_7 := Lib.hid (ounw2_6.out.below iunw2 (by omega) hbb7)
  have ounw3_7 := Lib.hid (ounw3_6.out.below iunw3 (by omega) hbb7)
  have og00_7 := Lib.hid (og00_6.out.below ig00 (by omega) hbb7)
  have og01_7 := Lib.hid (og01_6.out.below ig01 (by omega) hbb7)
  have og02_7 := Lib.hid (og02_6.out.below ig02 (by omega) hbb7)
  have og03_7 := Lib.hid (og03_6.out.below ig03 (by omega) hbb7)
  clear hbb7
  go_wp2_with fail
  refine (mark_Network nw _ _ _ _ g4_0 g4_1 g4_2 g4_3 (1) _ _ _ _ _ _ _ _ _ ounw0_7.out iunw0 (by first | omega | (simp; done) | (simp; omega)) ounw1_7.out iunw1 (by first | omega | (simp; done) | (simp; omega)) ounw2_7.out iunw2 (by first | omega | (simp; done) | (simp; omega)) ounw3_7.out iunw3 (by first | omega | (simp; done) | (simp; omega)) djunw0_1 djunw0_2 djunw0_3 djunw1_2 djunw1_3 djunw2_3 (by omega) (by omega) (by omega)).mono ?_
  rintro e w8 ⟨rfl, munw0, munw1, munw2, munw3, hc8⟩
  have hcc8 : Chg (g4_0 ++ g4_1 ++ g4_2 ++ g4_3) w7 w8 := hc8
  have z8 := hcc8.size
  have hkAnw8 := hc8.block (w.heap.size) (by first | omega | (simp; done) | (simp; omega)) (fun e => by simp only [List.mem_append] at e; rcases e with (((e | e) | e) | e) <;> first | (have h2 := iunw0 _ e; omega) | (have h2 := iunw1 _ e; omega) | (have h2 := iunw2 _ e; omega) | (have h2 := iunw3 _ e; omega))
  have qAnw8 : ∀ o, w8.cell? ⟨w.heap.size, o, none⟩ = _ := fun o => World.cell?_of_block (a := ⟨w.heap.size, o, none⟩) hkAnw8
  have yAnw8 : w.heap.size < w8.heap.size := by first | omega | (have := hc8.size; simp at this; omega)
  clear hkAnw8
  have hkS08 := hc8.block (w3.heap.size) (by first | omega | (simp; done) | (simp; omega)) (fun e => by simp only [List.mem_append] at e; rcases e with (((e | e) | e) | e) <;> first | (have h2 := iunw0 _ e; omega) | (have h2 := iunw1 _ e; omega) | (have h2 := iunw2 _ e; omega) | (have h2 := iunw3 _ e; omega))
  have qS08 : ∀ o, w8.cell? ⟨w3.heap.size, o, none⟩ = _ := fun o => World.cell?_of_block (a := ⟨w3.heap.size, o, none⟩) hkS08
  have yS08 : w3.heap.size < w8.heap.size := by first | omega | (have := hc8.size; simp at this; omega)
  clear hkS08
  have hkUnw8 := hc8.block (w4.heap.size) (by first | omega | (simp; done) | (simp; omega)) (fun e => by simp only [List.mem_append] at e; rcases e with (((e | e) | e) | e) <;> first | (have h2 := iunw0 _ e; omega) | (have h2 := iunw1 _ e; omega) | (have h2 := iunw2 _ e; omega) | (have h2 := iunw3 _ e; omega))
  have qUnw8 : ∀ o, w8.cell? ⟨w4.heap.size, o, none⟩ = _ := fun o => World.cell?_of_block (a := ⟨w4.heap.size, o, none⟩) hkUnw8
  have yUnw8 : w4.heap.size < w8.heap.size := by first | omega | (have := hc8.size; simp at this; omega)
  clear hkUnw8
  have hkG08 := hc8.block (w5.heap.size) (by first | omega | (simp; done) | (simp; omega)) (fun e => by simp only [List.mem_append] at e; rcases e with (((e | e) | e) | e) <;> first | (have h2 := iunw0 _ e; omega) | (have h2 := iunw1 _ e; omega) | (have h2 := iunw2 _ e; omega) | (have h2 := iunw3 _ e; omega))
  have qG08 : ∀ o, w8.cell? ⟨w5.heap.size, o, none⟩ = _ := fun o => World.cell?_of_block (a := ⟨w5.heap.size, o, none⟩) hkG08
  have yG08 : w5.heap.size < w8.heap.size := by first | omega | (have := hc8.size; simp at this; omega)
  clear hkG08
  have BB8 := Lib.hid (BB7.out.trans (hcc8.below (by omega) (fun x hx => by simp only [List.mem_append] at hx; rcases hx with (((hx | hx) | hx) | hx) <;> first | (have h2 := iunw0 x hx; omega) | (have h2 := iunw1 x hx; omega) | (have h2 := iunw2 x hx; omega) | (have h2 := iunw3 x hx; omega))))
  have os00_8 := Lib.hid (os00_7.out.chg is00 (by omega) hcc8 (fun x hx e => by have hx0 := is00 x hx; simp only [List.mem_append] at e; rcases e with (((e | e) | e) | e) <;> first | (have h2 := iunw0 x e; omega) | (have h2 := iunw1 x e; omega) | (have h2 := iunw2 x e; omega) | (have h2 := iunw3 x e; omega)))
  have os01_8 := Lib.hid (os01_7.out.chg is01 (by omega) hcc8 (fun x hx e => by have hx0 := is01 x hx; simp only [List.mem_append] at e; rcases e with (((e | e) | e) | e) <;> first | (have h2 := iunw0 x e; omega) | (have h2 := iunw1 x e; omega) | (have h2 := iunw2 x e; omega) | (have h2 := iunw3 x e; omega)))
  have os02_8 := Lib.hid (os02_7.out.chg is02 (by omega) hcc8 (fun x hx e => by have hx0 := is02 x hx; simp only [List.mem_append] at e; rcases e with (((e | e) | e) | e) <;> first | (have h2 := iunw0 x e; omega) | (have h2 := iunw1 x e; omega) | (have h2 := iunw2 x e; omega) | (have h2 := iunw3 x e; omega)))
  have os03_8 := Lib.hid (os03_7.out.chg is03 (by omega) hcc8 (fun x hx e => by have hx0 := is03 x hx; simp only [List.mem_append] at e; rcases e with (((e | e) | e) | e) <;> first | (have h2 := iunw0 x e; omega) | (have h2 := iunw1 x e; omega) | (have h2 := iunw2 x e; omega) | (have h2 := iunw3 x e; omega)))
  have og00_8 := Lib.hid (og00_7.out.chg ig00 (by omega) hcc8 (fun x hx e => by have hx0 := ig00 x hx; simp only [List.mem_append] at e; rcases e with (((e | e) | e) | e) <;> first | (have h2 := iunw0 x e; omega) | (have h2 := iunw1 x e; omega) | (have h2 := iunw2 x e; omega) | (have h2 := iunw3 x e; omega)))
  have og01_8 := Lib.hid (og01_7.out.chg ig01 (by omega) hcc8 (fun x hx e => by have hx0 := ig01 x hx; simp only [List.mem_append] at e; rcases e with (((e | e) | e) | e) <;> first | (have h2 := iunw0 x e; omega) | (have h2 := iunw1 x e; omega) | (have h2 := iunw2 x e; omega) | (have h2 := iunw3 x e; omega)))
  have og02_8 := Lib.hid (og02_7.out.chg ig02 (by omega) hcc8 (fun x hx e => by have hx0 := ig02 x hx; simp only [List.mem_append] at e; rcases e with (((e | e) | e) | e) <;> first | (have h2 := iunw0 x e; omega) | (have h2 := iunw1 x e; omega) | (have h2 := iunw2 x e; omega) | (have h2 := iunw3 x e; omega)))
  have og03_8 := Lib.hid (og03_7.out.chg ig03 (by omega) hcc8 (fun x hx e => by have hx0 := ig03 x hx; simp only [List.mem_append] at e; rcases e with (((e | e) | e) | e) <;> first | (have h2 := iunw0 x e; omega) | (have h2 := iunw1 x e; omega) | (have h2 := iunw2 x e; omega) | (have h2 := iunw3 x e; omega)))
  clear hcc8
  have kounw0_8 := Lib.hid munw0
  clear munw0
  have kounw1_8 := Lib.hid munw1
  clear munw1
  have kounw2_8 := Lib.hid munw2
  clear munw2
  have kounw3_8 := Lib.hid munw3
  clear munw3
  have kd8 : decide (((1 + cnt (DSite.sT nw.sites) + cnt (DSector.sT nw.sectors) + cnt (DAntenna.sT nw.antennas) + cnt (DRadio.sT nw.radios) : Nat) : Int) < 0) = false := by simp; omega
  go_wp2_with fail
  refine ((eq_Network R.1 _ _ _ _ _ _ _ _ w8.heap.size _ ((og00_8.out.rd ig00).mono (by omega)) ((os00_8.out.rd is00).mono (by omega)) ((og01_8.out.rd ig01).mono (by omega)) ((os01_8.out.rd is01).mono (by omega)) ((og02_8.out.rd ig02).mono (by omega)) ((os02_8.out.rd is02).mono (by omega)) ((og03_8.out.rd ig03).mono (by omega)) ((os03_8.out.rd is03).mono (by omega)) (Nat.le_refl _) (by omega))).mono ?_
  rintro e w9 ⟨rfl, hb9⟩
  have hbb9 : Below w8.heap.size w8 w9 := hb9
  have z9 := hbb9.size
  obtain ⟨qAnw9, _, yAnw9⟩ := bcellAt hb9 (b := w.heap.size) (by first | omega | (simp; done) | (simp; omega))
  obtain ⟨qS09, _, yS09⟩ := bcellAt hb9 (b := w3.heap.size) (by first | omega | (simp; done) | (simp; omega))
  obtain ⟨qUnw9, _, yUnw9⟩ := bcellAt hb9 (b := w4.heap.size) (by first | omega | (simp; done) | (simp; omega))
  obtain ⟨qG09, _, yG09⟩ := bcellAt hb9 (b := w5.heap.size) (by first | omega | (simp; done) | (simp; omega))
  have BB9 := Lib.hid (BB8.out.trans (hbb9.mono (by omega)))
  have os00_9 := Lib.hid (os00_8.out.below is00 (by omega) hbb9)
  have os01_9 := Lib.hid (os01_8.out.below is01 (by omega) hbb9)
  have os02_9 := Lib.hid (os02_8.out.below is02 (by omega) hbb9)
  have os03_9 := Lib.hid (os03_8.out.below is03 (by omega) hbb9)
  have og00_9 := Lib.hid (og00_8.out.below ig00 (by omega) hbb9)
  have og01_9 := Lib.hid (og01_8.out.below ig01 (by omega) hbb9)
  have og02_9 := Lib.hid (og02_8.out.below ig02 (by omega) hbb9)
  have og03_9 := Lib.hid (og03_8.out.below ig03 (by omega) hbb9)
  clear hbb9
  go_wp2_with fail
  refine (mark_Network R.1 _ _ _ _ g5_0 g5_1 g5_2 g5_3 (1) _ _ _ _ _ _ _ _ _ og00_9.out ig00 (by first | omega | (simp; done) | (simp; omega)) og01_9.out ig01 (by first | omega | (simp; done) | (simp; omega)) og02_9.out ig02 (by first | omega | (simp; done) | (simp; omega)) og03_9.out ig03 (by first | omega | (simp; done) | (simp; omega)) djg00_1 djg00_2 djg00_3 djg01_2 djg01_3 djg02_3 (by omega) (by omega) (by omega)).mono ?_
  rintro e w10 ⟨rfl, mg00, mg01, mg02, mg03, hc10⟩
  have hcc10 : Chg (g5_0 ++ g5_1 ++ g5_2 ++ g5_3) w9 w10 := hc10
  have z10 := hcc10.size
  have hkAnw10 := hc10.block (w.heap.size) (by first | omega | (simp; done) | (simp; omega)) (fun e => by simp only [List.mem_append] at e; rcases e with (((e | e) | e) | e) <;> first | (have h2 := ig00 _ e; omega) | (have h2 := ig01 _ e; omega) | (have h2 := ig02 _ e; omega) | (have h2 := ig03 _ e; omega))
  have qAnw10 : ∀ o, w10.cell? ⟨w.heap.size, o, none⟩ = _ := fun o => World.cell?_of_block (a := ⟨w.heap.size, o, none⟩) hkAnw10
  have yAnw10 : w.heap.size < w10.heap.size := by first | omega | (have := hc10.size; simp at this; omega)
  clear hkAnw10
  have hkS010 := hc10.block (w3.heap.size) (by first | omega | (simp; done) | (simp; omega)) (fun e => by simp only [List.mem_append] at e; rcases e with (((e | e) | e) | e) <;> first | (have h2 := ig00 _ e; omega) | (have h2 := ig01 _ e; omega) | (have h2 := ig02 _ e; omega) | (have h2 := ig03 _ e; omega))
  have qS010 : ∀ o, w10.cell? ⟨w3.heap.size, o, none⟩ = _ := fun o => World.cell?_of_block (a := ⟨w3.heap.size, o, none⟩) hkS010
  have yS010 : w3.heap.size < w10.heap.size := by first | omega | (have := hc10.size; simp at this; omega)
  clear hkS010
  have hkUnw10 := hc10.block (w4.heap.size) (by first | omega | (simp; done) | (simp; omega)) (fun e => by simp only [List.mem_append] at e; rcases e with (((e | e) | e) | e) <;> first | (have h2 := ig00 _ e; omega) | (have h2 := ig01 _ e; omega) | (have h2 := ig02 _ e; omega) | (have h2 := ig03 _ e; omega))
  have qUnw10 : ∀ o, w10.cell? ⟨w4.heap.size, o, none⟩ = _ := fun o => World.cell?_of_block (a := ⟨w4.heap.size, o, none⟩) hkUnw10
  have yUnw10 : w4.heap.size < w10.heap.size := by first | omega | (have := hc10.size; simp at this; omega)
  clear hkUnw10
  have hkG010 := hc10.block (w5.heap.size) (by first | omega | (simp; done) | (simp; omega)) (fun e => by simp only [List.mem_append] at e; rcases e with (((e | e) | e) | e) <;> first | (have h2 := ig00 _ e; omega) | (have h2 := ig01 _ e; omega) | (have h2 := ig02 _ e; omega) | (have h2 := ig03 _ e; omega))
  have qG010 : ∀ o, w10.cell? ⟨w5.heap.size, o, none⟩ = _ := fun o => World.cell?_of_block (a := ⟨w5.heap.size, o, none⟩) hkG010
  have yG010 : w5.heap.size < w10.heap.size := by first | omega | (have := hc10.size; simp at this; omega)
  clear hkG010
  have BB10 := Lib.hid (BB9.out.trans (hcc10.below (by omega) (fun x hx => by simp only [List.mem_append] at hx; rcases hx with (((hx | hx) | hx) | hx) <;> first | (have h2 := ig00 x hx; omega) | (have h2 := ig01 x hx; omega) | (have h2 := ig02 x hx; omega) | (have h2 := ig03 x hx; omega))))
  have os00_10 := Lib.hid (os00_9.out.chg is00 (by omega) hcc10 (fun x hx e => by have hx0 := is00 x hx; simp only [List.mem_append] at e; rcases e with (((e | e) | e) | e) <;> first | (have h2 := ig00 x e; omega) | (have h2 := ig01 x e; omega) | (have h2 := ig02 x e; omega) | (have h2 := ig03 x e; omega)))
  have os01_10 := Lib.hid (os01_9.out.chg is01 (by omega) hcc10 (fun x hx e => by have hx0 := is01 x hx; simp only [List.mem_append] at e; rcases e with (((e | e) | e) | e) <;> first | (have h2 := ig00 x e; omega) | (have h2 := ig01 x e; omega) | (have h2 := ig02 x e; omega) | (have h2 := ig03 x e; omega)))
  have os02_10 := Lib.hid (os02_9.out.chg is02 (by omega) hcc10 (fun x hx e => by have hx0 := is02 x hx; simp only [List.mem_append] at e; rcases e with (((e | e) | e) | e) <;> first | (have h2 := ig00 x e; omega) | (have h2 := ig01 x e; omega) | (have h2 := ig02 x e; omega) | (have h2 := ig03 x e; omega)))
  have os03_10 := Lib.hid (os03_9.out.chg is03 (by omega) hcc10 (fun x hx e => by have hx0 := is03 x hx; simp only [List.mem_append] at e; rcases e with (((e | e) | e) | e) <;> first | (have h2 := ig00 x e; omega) | (have h2 := ig01 x e; omega) | (have h2 := ig02 x e; omega) | (have h2 := ig03 x e; omega)))
  clear hcc10
  have kog00_10 := Lib.hid mg00
  clear mg00
  have kog01_10 := Lib.hid mg01
  clear mg01
  have kog02_10 := Lib.hid mg02
  clear mg02
  have kog03_10 := Lib.hid mg03
  clear mg03
  go_wp2_with fail
  refine (held_Network R.1 _ _ _ _ w10.heap.size (1) _ ((kog00_10.out.rd ig00).mono (by omega)) ((kog01_10.out.rd ig01).mono (by omega)) ((kog02_10.out.rd ig02).mono (by omega)) ((kog03_10.out.rd ig03).mono (by omega)) (Nat.le_refl _) (by omega) (by omega) (by omega)).mono ?_
  rintro e w11 ⟨rfl, hb11⟩
  have hbb11 : Below w10.heap.size w10 w11 := hb11
  have z11 := hbb11.size
  obtain ⟨qAnw11, _, yAnw11⟩ := bcellAt hb11 (b := w.heap.size) (by first | omega | (simp; done) | (simp; omega))
  obtain ⟨qS011, _, yS011⟩ := bcellAt hb11 (b := w3.heap.size) (by first | omega | (simp; done) | (simp; omega))
  obtain ⟨qUnw11, _, yUnw11⟩ := bcellAt hb11 (b := w4.heap.size) (by first | omega | (simp; done) | (simp; omega))
  obtain ⟨qG011, _, yG011⟩ := bcellAt hb11 (b := w5.heap.size) (by first | omega | (simp; done) | (simp; omega))
  have BB11 := Lib.hid (BB10.out.trans (hbb11.mono (by omega)))
  have os00_11 := Lib.hid (os00_10.out.below is00 (by omega) hbb11)
  have os01_11 := Lib.hid (os01_10.out.below is01 (by omega) hbb11)
  have os02_11 := Lib.hid (os02_10.out.below is02 (by omega) hbb11)
  have os03_11 := Lib.hid (os03_10.out.below is03 (by omega) hbb11)
  have kog00_11 := Lib.hid (kog00_10.out.below ig00 (by omega) hbb11)
  have kog01_11 := Lib.hid (kog01_10.out.below ig01 (by omega) hbb11)
  have kog02_11 := Lib.hid (kog02_10.out.below ig02 (by omega) hbb11)
  have kog03_11 := Lib.hid (kog03_10.out.below ig03 (by omega) hbb11)
  clear hbb11
  go_wp2_with fail
  have BX12 : Hid (Below w.heap.size w w11) := BB11.out
  have zx12 := BX12.out.size
  refine (to_Network nw _ _ _ _ _ ((Hnw0.out.below BX12.out).mono zx12) ((Hnw1.out.below BX12.out).mono zx12) ((Hnw2.out.below BX12.out).mono zx12) ((Hnw3.out.below BX12.out).mono zx12) (by omega)).mono ?_
  rintro e w12 ⟨amnw0, cmnw0, amnw1, cmnw1, amnw2, cmnw2, amnw3, cmnw3, fmnw, rfl, hb12, ov12, iv12⟩
  have hbb12 : Below w11.heap.size w11 w12 := hb12
  have z12 := hbb12.size
  obtain ⟨qAnw12, _, yAnw12⟩ := bcellAt hb12 (b := w.heap.size) (by first | omega | (simp; done) | (simp; omega))
  obtain ⟨qS012, _, yS012⟩ := bcellAt hb12 (b := w3.heap.size) (by first | omega | (simp; done) | (simp; omega))
  obtain ⟨qUnw12, _, yUnw12⟩ := bcellAt hb12 (b := w4.heap.size) (by first | omega | (simp; done) | (simp; omega))
  obtain ⟨qG012, _, yG012⟩ := bcellAt hb12 (b := w5.heap.size) (by first | omega | (simp; done) | (simp; omega))
  have BB12 := Lib.hid (BB11.out.trans (hbb12.mono (by omega)))
  have os00_12 := Lib.hid (os00_11.out.below is00 (by omega) hbb12)
  have os01_12 := Lib.hid (os01_11.out.below is01 (by omega) hbb12)
  have os02_12 := Lib.hid (os02_11.out.below is02 (by omega) hbb12)
  have os03_12 := Lib.hid (os03_11.out.below is03 (by omega) hbb12)
  have kog00_12 := Lib.hid (kog00_11.out.below ig00 (by omega) hbb12)
  have kog01_12 := Lib.hid (kog01_11.out.below ig01 (by omega) hbb12)
  have kog02_12 := Lib.hid (kog02_11.out.below ig02 (by omega) hbb12)
  have kog03_12 := Lib.hid (kog03_11.out.below ig03 (by omega) hbb12)
  clear hbb12
  obtain ⟨g12_0, r12_0, e12_0, p12_0, ov12_0, d12_0⟩ := OwnV.uncons ov12
  obtain ⟨g12_1, r12_1, e12_1, p12_1, ov12_1, d12_1⟩ := OwnV.uncons ov12_0
  obtain ⟨g12_2, r12_2, e12_2, p12_2, ov12_2, d12_2⟩ := OwnV.uncons ov12_1
  obtain ⟨g12_3, r12_3, e12_3, p12_3, ov12_3, d12_3⟩ := OwnV.uncons ov12_2
  have iw12 := iv12.mono (lo' := w11.heap.size + 0) (by first | omega | (simp; done) | (simp; omega)) (Nat.le_refl _)
  have hnil12 := ov12_3.rep
  change r12_3 = [] at hnil12
  subst hnil12
  subst e12_3
  subst e12_2
  subst e12_1
  subst e12_0
  have imnw0 : In _ _ g12_0 := fun y hy => iw12 y (by simp [hy])
  have omnw0_12 := Lib.hid p12_0
  have imnw1 : In _ _ g12_1 := fun y hy => iw12 y (by simp [hy])
  have omnw1_12 := Lib.hid p12_1
  have imnw2 : In _ _ g12_2 := fun y hy => iw12 y (by simp [hy])
  have omnw2_12 := Lib.hid p12_2
  have imnw3 : In _ _ g12_3 := fun y hy => iw12 y (by simp [hy])
  have omnw3_12 := Lib.hid p12_3
  have djmnw0_1 : ∀ y ∈ g12_0, y ∉ g12_1 := fun y hy e => d12_0 y hy (by simp [e])
  have djmnw0_2 : ∀ y ∈ g12_0, y ∉ g12_2 := fun y hy e => d12_0 y hy (by simp [e])
  have djmnw0_3 : ∀ y ∈ g12_0, y ∉ g12_3 := fun y hy e => d12_0 y hy (by simp [e])
  have djmnw1_2 : ∀ y ∈ g12_1, y ∉ g12_2 := fun y hy e => d12_1 y hy (by simp [e])
  have djmnw1_3 : ∀ y ∈ g12_1, y ∉ g12_3 := fun y hy e => d12_1 y hy (by simp [e])
  have djmnw2_3 : ∀ y ∈ g12_2, y ∉ g12_3 := fun y hy e => d12_2 y hy (by simp [e])
  clear p12_0 ov12_0 d12_0 p12_1 ov12_1 d12_1 p12_2 ov12_2 d12_2 p12_3 ov12_3 d12_3 ov12 iv12 iw12
  go_wp2_with fail
  refine (HI.out _ _ _ _ _ ((omnw0_12.out.rd imnw0).mono (by omega)) ((omnw1_12.out.rd imnw1).mono (by omega)) ((omnw2_12.out.rd imnw2).mono (by omega)) ((omnw3_12.out.rd imnw3).mono (by omega)) (by omega) (by omega)).mono ?_
  rintro e w13 ⟨ah00, ch00, ah01, ch01, ah02, ch02, ah03, ch03, fh0, rfl, hb13, ov13, iv13⟩
  have hbb13 : Below w12.heap.size w12 w13 := hb13
  have z13 := hbb13.size
  obtain ⟨qAnw13, _, yAnw13⟩ := bcellAt hb13 (b := w.heap.size) (by first | omega | (simp; done) | (simp; omega))
  obtain ⟨qS013, _, yS013⟩ := bcellAt hb13 (b := w3.heap.size) (by first | omega | (simp; done) | (simp; omega))
  obtain ⟨qUnw13, _, yUnw13⟩ := bcellAt hb13 (b := w4.heap.size) (by first | omega | (simp; done) | (simp; omega))
  obtain ⟨qG013, _, yG013⟩ := bcellAt hb13 (b := w5.heap.size) (by first | omega | (simp; done) | (simp; omega))
  have BB13 := Lib.hid (BB12.out.trans (hbb13.mono (by omega)))
  have os00_13 := Lib.hid (os00_12.out.below is00 (by omega) hbb13)
  have os01_13 := Lib.hid (os01_12.out.below is01 (by omega) hbb13)
  have os02_13 := Lib.hid (os02_12.out.below is02 (by omega) hbb13)
  have os03_13 := Lib.hid (os03_12.out.below is03 (by omega) hbb13)
  have kog00_13 := Lib.hid (kog00_12.out.below ig00 (by omega) hbb13)
  have kog01_13 := Lib.hid (kog01_12.out.below ig01 (by omega) hbb13)
  have kog02_13 := Lib.hid (kog02_12.out.below ig02 (by omega) hbb13)
  have kog03_13 := Lib.hid (kog03_12.out.below ig03 (by omega) hbb13)
  have omnw0_13 := Lib.hid (omnw0_12.out.below imnw0 (by omega) hbb13)
  have omnw1_13 := Lib.hid (omnw1_12.out.below imnw1 (by omega) hbb13)
  have omnw2_13 := Lib.hid (omnw2_12.out.below imnw2 (by omega) hbb13)
  have omnw3_13 := Lib.hid (omnw3_12.out.below imnw3 (by omega) hbb13)
  clear hbb13
  obtain ⟨g13_0, r13_0, e13_0, p13_0, ov13_0, d13_0⟩ := OwnV.uncons ov13
  obtain ⟨g13_1, r13_1, e13_1, p13_1, ov13_1, d13_1⟩ := OwnV.uncons ov13_0
  obtain ⟨g13_2, r13_2, e13_2, p13_2, ov13_2, d13_2⟩ := OwnV.uncons ov13_1
  obtain ⟨g13_3, r13_3, e13_3, p13_3, ov13_3, d13_3⟩ := OwnV.uncons ov13_2
  have iw13 := iv13.mono (lo' := w12.heap.size + 0) (by first | omega | (simp; done) | (simp; omega)) (Nat.le_refl _)
  have hnil13 := ov13_3.rep
  change r13_3 = [] at hnil13
  subst hnil13
  subst e13_3
  subst e13_2
  subst e13_1
  subst e13_0
  have ih00 : In _ _ g13_0 := fun y hy => iw13 y (by simp [hy])
  have oh00_13 := Lib.hid p13_0
  have ih01 : In _ _ g13_1 := fun y hy => iw13 y (by simp [hy])
  have oh01_13 := Lib.hid p13_1
  have ih02 : In _ _ g13_2 := fun y hy => iw13 y (by simp [hy])
  have oh02_13 := Lib.hid p13_2
  have ih03 : In _ _ g13_3 := fun y hy => iw13 y (by simp [hy])
  have oh03_13 := Lib.hid p13_3
  have djh00_1 : ∀ y ∈ g13_0, y ∉ g13_1 := fun y hy e => d13_0 y hy (by simp [e])
  have djh00_2 : ∀ y ∈ g13_0, y ∉ g13_2 := fun y hy e => d13_0 y hy (by simp [e])
  have djh00_3 : ∀ y ∈ g13_0, y ∉ g13_3 := fun y hy e => d13_0 y hy (by simp [e])
  have djh01_2 : ∀ y ∈ g13_1, y ∉ g13_2 := fun y hy e => d13_1 y hy (by simp [e])
  have djh01_3 : ∀ y ∈ g13_1, y ∉ g13_3 := fun y hy e => d13_1 y hy (by simp [e])
  have djh02_3 : ∀ y ∈ g13_2, y ∉ g13_3 := fun y hy e => d13_2 y hy (by simp [e])
  clear p13_0 ov13_0 d13_0 p13_1 ov13_1 d13_1 p13_2 ov13_2 d13_2 p13_3 ov13_3 d13_3 ov13 iv13 iw13
  go_wp2_with fail
  refine ((eq_Network R.1 _ _ _ _ _ _ _ _ (w13.alloc (.cells #[.slice ah00 R.1.sites.length ch00, .slice ah01 R.1.sectors.length ch01, .slice ah02 R.1.antennas.length ch02, .slice ah03 R.1.radios.length ch03] 35)).heap.size _ (((oh00_13.out.below ih00 (by omega) ((Below.refl _ _).alloc (Nat.le_refl _) _)).rd ih00).mono (by first | omega | (simp; done) | (simp; omega))) (((os00_13.out.below is00 (by omega) ((Below.refl _ _).alloc (Nat.le_refl _) _)).rd is00).mono (by first | omega | (simp; done) | (simp; omega))) (((oh01_13.out.below ih01 (by omega) ((Below.refl _ _).alloc (Nat.le_refl _) _)).rd ih01).mono (by first | omega | (simp; done) | (simp; omega))) (((os01_13.out.below is01 (by omega) ((Below.refl _ _).alloc (Nat.le_refl _) _)).rd is01).mono (by first | omega | (simp; done) | (simp; omega))) (((oh02_13.out.below ih02 (by omega) ((Below.refl _ _).alloc (Nat.le_refl _) _)).rd ih02).mono (by first | omega | (simp; done) | (simp; omega))) (((os02_13.out.below is02 (by omega) ((Below.refl _ _).alloc (Nat.le_refl _) _)).rd is02).mono (by first | omega | (simp; done) | (simp; omega))) (((oh03_13.out.below ih03 (by omega) ((Below.refl _ _).alloc (Nat.le_refl _) _)).rd ih03).mono (by first | omega | (simp; done) | (simp; omega))) (((os03_13.out.below is03 (by omega) ((Below.refl _ _).alloc (Nat.le_refl _) _)).rd is03).mono (by first | omega | (simp; done) | (simp; omega))) (Nat.le_refl _) (by omega))).mono ?_
  rintro e w14 ⟨rfl, hb14⟩
  have hx14 : Below w13.heap.size w13 (w13.alloc (.cells #[.slice ah00 R.1.sites.length ch00, .slice ah01 R.1.sectors.length ch01, .slice ah02 R.1.antennas.length ch02, .slice ah03 R.1.radios.length ch03] 35)) := ((Below.refl _ _).alloc (Nat.le_refl _) _)
  have hbb14 : Below w13.heap.size w13 w14 := hx14.trans (hb14.mono (by first | (simp; done) | (simp; omega)))
  have z14 := hbb14.size
  obtain ⟨qAnw14, _, yAnw14⟩ := bcellAt hb14 (b := w.heap.size) (by first | omega | (simp; done) | (simp; omega))
  obtain ⟨qS014, _, yS014⟩ := bcellAt hb14 (b := w3.heap.size) (by first | omega | (simp; done) | (simp; omega))
  obtain ⟨qUnw14, _, yUnw14⟩ := bcellAt hb14 (b := w4.heap.size) (by first | omega | (simp; done) | (simp; omega))
  obtain ⟨qG014, _, yG014⟩ := bcellAt hb14 (b := w5.heap.size) (by first | omega | (simp; done) | (simp; omega))
  obtain ⟨qH014, _, yH014⟩ := bcellAt hb14 (b := w13.heap.size) (by first | omega | (simp; done) | (simp; omega))
  have BB14 := Lib.hid (BB13.out.trans (hbb14.mono (by omega)))
  have os00_14 := Lib.hid (os00_13.out.below is00 (by omega) hbb14)
  have os01_14 := Lib.hid (os01_13.out.below is01 (by omega) hbb14)
  have os02_14 := Lib.hid (os02_13.out.below is02 (by omega) hbb14)
  have os03_14 := Lib.hid (os03_13.out.below is03 (by omega) hbb14)
  have kog00_14 := Lib.hid (kog00_13.out.below ig00 (by omega) hbb14)
  have kog01_14 := Lib.hid (kog01_13.out.below ig01 (by omega) hbb14)
  have kog02_14 := Lib.hid (kog02_13.out.below ig02 (by omega) hbb14)
  have kog03_14 := Lib.hid (kog03_13.out.below ig03 (by omega) hbb14)
  have oh00_14 := Lib.hid (oh00_13.out.below ih00 (by omega) hbb14)
  have oh01_14 := Lib.hid (oh01_13.out.below ih01 (by omega) hbb14)
  have oh02_14 := Lib.hid (oh02_13.out.below ih02 (by omega) hbb14)
  have oh03_14 := Lib.hid (oh03_13.out.below ih03 (by omega) hbb14)
  clear hx14
  clear hb14 hbb14
  go_wp2_with fail
  refine (held_Network R.1 _ _ _ _ w14.heap.size (1) _ ((kog00_14.out.rd ig00).mono (by omega)) ((kog01_14.out.rd ig01).mono (by omega)) ((kog02_14.out.rd ig02).mono (by omega)) ((kog03_14.out.rd ig03).mono (by omega)) (Nat.le_refl _) (by omega) (by omega) (by omega)).mono ?_
  rintro e w15 ⟨rfl, hb15⟩
  have hbb15 : Below w14.heap.size w14 w15 := hb15
  have z15 := hbb15.size
  obtain ⟨qAnw15, _, yAnw15⟩ := bcellAt hb15 (b := w.heap.size) (by first | omega | (simp; done) | (simp; omega))
  obtain ⟨qS015, _, yS015⟩ := bcellAt hb15 (b := w3.heap.size) (by first | omega | (simp; done) | (simp; omega))
  obtain ⟨qUnw15, _, yUnw15⟩ := bcellAt hb15 (b := w4.heap.size) (by first | omega | (simp; done) | (simp; omega))
  obtain ⟨qG015, _, yG015⟩ := bcellAt hb15 (b := w5.heap.size) (by first | omega | (simp; done) | (simp; omega))
  obtain ⟨qH015, _, yH015⟩ := bcellAt hb15 (b := w13.heap.size) (by first | omega | (simp; done) | (simp; omega))
  have BB15 := Lib.hid (BB14.out.trans (hbb15.mono (by omega)))
  have kog00_15 := Lib.hid (kog00_14.out.below ig00 (by omega) hbb15)
  have kog01_15 := Lib.hid (kog01_14.out.below ig01 (by omega) hbb15)
  have kog02_15 := Lib.hid (kog02_14.out.below ig02 (by omega) hbb15)
  have kog03_15 := Lib.hid (kog03_14.out.below ig03 (by omega) hbb15)
  clear hbb15
  go_wp2
  go_ret
  exact ⟨rfl, BB15.out⟩
end Go.Proofs.YtppgcgopnchbcaaGreat.fnExactDropSite
