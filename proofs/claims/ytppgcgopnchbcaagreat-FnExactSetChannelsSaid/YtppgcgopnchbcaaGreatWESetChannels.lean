/- The walk of the law FnExactSetChannels: it returns true. -/
import Derived.Test.YtppgcgopnchbcaaGreatNetM
import Derived.Test.YtppgcgopnchbcaaGreatStrs
import Derived.Test.YtppgcgopnchbcaaGreatHNetwork
import Derived.Test.YtppgcgopnchbcaaGreatTree
import Derived.Deep.RegionHeld3
namespace Go.Proofs.YtppgcgopnchbcaaGreat.fnExactSetChannels
open Go.RowKit
set_option linter.unusedVariables false
theorem cntL_net (n : DNetwork) : cnt (DSite.sT n.sites) + cnt (DSector.sT n.sectors) + cnt (DAntenna.sT n.antennas) + cnt (DRadio.sT n.radios) ≤ 16 * sizL n.tr := by
  have h := DNetwork.siz_tr n
  have h0 := DSite.cnt_le n.sites
  have h1 := DSector.cnt_le n.sectors
  have h2 := DAntenna.cnt_le n.antennas
  have h3 := DRadio.cnt_le n.radios
  omega
theorem siz_zero : sizL (DNetwork.tr ⟨[], [], [], []⟩) = 0 := rfl
theorem siz_ch (x : DSector) (c : Int) : sizL (DSector.tr { x with channel := c }) = sizL x.tr := by rw [DSector.siz_tr, DSector.siz_tr]
theorem siz_chN (l : List DSector) (cs : List Int) (k : Nat) : siz (DSector.sT (chN l cs k)) = siz (DSector.sT l) := by
  induction k with
  | zero => rfl
  | succ k ih =>
    unfold chN
    split
    · rename_i h
      rw [← ih, DSector.siz_s, DSector.siz_s, List.length_set, flat_set DSector.tr _ k h]
      have e := flat_split DSector.tr (chN l cs k) k h
      rw [e]
      simp only [sizL_append, siz_ch]
    · exact ih
theorem R_siz (n : DNetwork) (cs : List Int) : sizL (setR n cs).1.tr ≤ sizL n.tr := by
  unfold setR
  repeat' split
  · have h := DNetwork.siz_tr n
    rw [DNetwork.siz_tr]
    have h1 := siz_chN n.sectors cs n.sectors.length
    simp only
    omega
  all_goals (rw [siz_zero]; omega)
set_option maxHeartbeats 4000000 in
set_option maxRecDepth 100000 in
theorem walk (nw : DNetwork) (list : List Int) (vnw0 vnw1 vnw2 vnw3 vlist0 : Value) (w : World) (rnw0 : Rd w.heap.size w (DSite.sT nw.sites) vnw0) (rnw1 : Rd w.heap.size w (DSector.sT nw.sectors) vnw1) (rnw2 : Rd w.heap.size w (DAntenna.sT nw.antennas) vnw2) (rnw3 : Rd w.heap.size w (DRadio.sT nw.radios) vnw3) (rlist0 : Rd w.heap.size w (intsT list) vlist0) (hk_nw : nw.ok) (hk_list : ∀ n ∈ list, I64 n) :
    Calls Tryz.prog 3 #[.agg #[vnw0, vnw1, vnw2, vnw3], vlist0] w fun e w' => e = .returned (.bool true) ∧ Below w.heap.size w w' := by
  have Hnw0 := Lib.hid rnw0
  have Hnw1 := Lib.hid rnw1
  have Hnw2 := Lib.hid rnw2
  have Hnw3 := Lib.hid rnw3
  have Hlist0 := Lib.hid rlist0
  clear rnw0 rnw1 rnw2 rnw3 rlist0
  obtain ⟨avlist, cvlist, evlist, _, _, _⟩ := Rd.ints Hlist0.out
  subst evlist
  have hq_nw := DNetwork.siz_tr nw
  have hcn := cntL_net nw
  have hRs := R_siz nw list
  have hR0 := DNetwork.siz_tr (setR nw list).1
  have hRc := cntL_net (setR nw list).1
  have hc4 := cnt_ints list
  have BB0 : Hid (Below w.heap.size w w) := Below.refl _ _
  generalize hR : setR nw list = R at *
  have HR := Lib.hid hR
  clear hR
  have HS : Hid (∀ (W : World) (xnw0 xnw1 xnw2 xnw3 xlist0 : Value), Rd W.heap.size W (DSite.sT nw.sites) xnw0 → Rd W.heap.size W (DSector.sT nw.sectors) xnw1 → Rd W.heap.size W (DAntenna.sT nw.antennas) xnw2 → Rd W.heap.size W (DRadio.sT nw.radios) xnw3 → Rd W.heap.size W (intsT list) xlist0 → sizL nw.tr ≤ 1048576 → siz (intsT list) ≤ 1048576 → Calls Tryz.prog 10 #[.agg #[xnw0, xnw1, xnw2, xnw3], xlist0] W (fun e w' => ∃ a0_0 c0_0 a0_1 c0_1 a0_2 c0_2 a0_3 c0_3 fp0, e = .returned (.tuple #[.agg #[.slice a0_0 R.1.sites.length c0_0, .slice a0_1 R.1.sectors.length c0_1, .slice a0_2 R.1.antennas.length c0_2, .slice a0_3 R.1.radios.length c0_3], .int .i64 R.2]) ∧ Below W.heap.size W w' ∧ OwnV w' R.1.tr [.slice a0_0 R.1.sites.length c0_0, .slice a0_1 R.1.sectors.length c0_1, .slice a0_2 R.1.antennas.length c0_2, .slice a0_3 R.1.radios.length c0_3] fp0 ∧ In W.heap.size w'.heap.size fp0)) := fun W xnw0 xnw1 xnw2 xnw3 xlist0 ynw0 ynw1 ynw2 ynw3 ylist0 z0 z1 => by rw [← HR.out]; exact sSetChannels_std nw list xnw0 xnw1 xnw2 xnw3 xlist0 W ynw0 ynw1 ynw2 ynw3 ylist0 z0 hk_nw z1 hk_list
  have HI : Hid (∀ (W : World) (xnw0 xnw1 xnw2 xnw3 xlist0 : Value), Rd W.heap.size W (DSite.sT nw.sites) xnw0 → Rd W.heap.size W (DSector.sT nw.sectors) xnw1 → Rd W.heap.size W (DAntenna.sT nw.antennas) xnw2 → Rd W.heap.size W (DRadio.sT nw.radios) xnw3 → Rd W.heap.size W (intsT list) xlist0 → sizL nw.tr ≤ 1048576 → siz (intsT list) ≤ 1048576 → Calls Tryz.prog 13 #[.agg #[xnw0, xnw1, xnw2, xnw3], xlist0] W (fun e w' => ∃ a0_0 c0_0 a0_1 c0_1 a0_2 c0_2 a0_3 c0_3 fp0, e = .returned (.tuple #[.agg #[.slice a0_0 R.1.sites.length c0_0, .slice a0_1 R.1.sectors.length c0_1, .slice a0_2 R.1.antennas.length c0_2, .slice a0_3 R.1.radios.length c0_3], .int .i64 R.2]) ∧ Below W.heap.size W w' ∧ OwnV w' R.1.tr [.slice a0_0 R.1.sites.length c0_0, .slice a0_1 R.1.sectors.length c0_1, .slice a0_2 R.1.antennas.length c0_2, .slice a0_3 R.1.radios.length c0_3] fp0 ∧ In W.heap.size w'.heap.size fp0)) := fun W xnw0 xnw1 xnw2 xnw3 xlist0 ynw0 ynw1 ynw2 ynw3 ylist0 z0 z1 => by rw [← HR.out]; exact iSetChannels_std nw list xnw0 xnw1 xnw2 xnw3 xlist0 W ynw0 ynw1 ynw2 ynw3 ylist0 z0 hk_nw z1 hk_list
  by_cases hl_list : list.length ≤ 1048576
  case neg =>
    have hl1_list : (1048576 : Int) < ((list.length : Nat) : Int) := by omega
    have hl2_list : 1048576 < list.length := by omega
    go_enter Tryz.func3, Tryz.ntmps3
    go_wp2
    go_ret
    exact ⟨rfl, Below.alloc (Below.refl _ _) (by first | exact Nat.le_refl _ | (simp; done) | (simp; omega)) _⟩
  have hl1_list : ((list.length : Nat) : Int) ≤ 1048576 := by omega
  have hs_list : siz (intsT list) ≤ 1048576 := by rw [siz_ints]; exact hl_list
  go_enter Tryz.func3, Tryz.ntmps3
  go_wp2_with fail
  have BX1 : Hid (Below w.heap.size w (w.alloc (.cells #[vnw0, vnw1, vnw2, vnw3] 27))) := (BB0.out.alloc (by first | omega | (simp; done) | (simp; omega)) _)
  have zx1 := BX1.out.size
  refine (sz_Network nw vnw0 vnw1 vnw2 vnw3 w.heap.size _ _ (Hnw0.out.below BX1.out) (Hnw1.out.below BX1.out) (Hnw2.out.below BX1.out) (Hnw3.out.below BX1.out) (by omega) (by omega) (by omega) hk_nw).mono ?_
  rintro e w1 ⟨⟨cz1, rfl⟩ | ⟨cz1, rfl⟩, hb1⟩
  case inr =>
    go_wp2
    go_ret
    exact ⟨rfl, BX1.out.trans (hb1.mono (by omega))⟩
  have cy1 : decide ((1048576 : Int) - sizL nw.tr < 0) = false := by simp; omega
  have hx1 : Below w.heap.size w (w.alloc (.cells #[vnw0, vnw1, vnw2, vnw3] 27)) := ((Below.refl _ _).alloc (Nat.le_refl _) _)
  have hbb1 : Below w.heap.size w w1 := hx1.trans (hb1.mono (by first | (simp; done) | (simp; omega)))
  have z1 := hbb1.size
  obtain ⟨qAnw1, _, yAnw1⟩ := bcellAt hb1 (b := w.heap.size) (by first | omega | (simp; done) | (simp; omega))
  have BB1 := Lib.hid (BB0.out.trans (hbb1.mono (by omega)))
  clear hx1
  clear hb1 hbb1
  have CZ1 := Lib.hid cy1
  go_wp2_with fail
  have BX2 : Hid (Below w.heap.size w w1) := BB1.out
  have zx2 := BX2.out.size
  refine (to_Network nw _ _ _ _ _ ((Hnw0.out.below BX2.out).mono zx2) ((Hnw1.out.below BX2.out).mono zx2) ((Hnw2.out.below BX2.out).mono zx2) ((Hnw3.out.below BX2.out).mono zx2) (by omega)).mono ?_
  rintro e w2 ⟨atnw0, ctnw0, atnw1, ctnw1, atnw2, ctnw2, atnw3, ctnw3, ftnw, rfl, hb2, ov2, iv2⟩
  have hbb2 : Below w1.heap.size w1 w2 := hb2
  have z2 := hbb2.size
  obtain ⟨qAnw2, _, yAnw2⟩ := bcellAt hb2 (b := w.heap.size) (by first | omega | (simp; done) | (simp; omega))
  have BB2 := Lib.hid (BB1.out.trans (hbb2.mono (by omega)))
  clear hbb2
  obtain ⟨g2_0, r2_0, e2_0, p2_0, ov2_0, d2_0⟩ := OwnV.uncons ov2
  obtain ⟨g2_1, r2_1, e2_1, p2_1, ov2_1, d2_1⟩ := OwnV.uncons ov2_0
  obtain ⟨g2_2, r2_2, e2_2, p2_2, ov2_2, d2_2⟩ := OwnV.uncons ov2_1
  obtain ⟨g2_3, r2_3, e2_3, p2_3, ov2_3, d2_3⟩ := OwnV.uncons ov2_2
  have iw2 := iv2.mono (lo' := w1.heap.size + 0) (by first | omega | (simp; done) | (simp; omega)) (Nat.le_refl _)
  have hnil2 := ov2_3.rep
  change r2_3 = [] at hnil2
  subst hnil2
  subst e2_3
  subst e2_2
  subst e2_1
  subst e2_0
  have itnw0 : In _ _ g2_0 := fun y hy => iw2 y (by simp [hy])
  have otnw0_2 := Lib.hid p2_0
  have itnw1 : In _ _ g2_1 := fun y hy => iw2 y (by simp [hy])
  have otnw1_2 := Lib.hid p2_1
  have itnw2 : In _ _ g2_2 := fun y hy => iw2 y (by simp [hy])
  have otnw2_2 := Lib.hid p2_2
  have itnw3 : In _ _ g2_3 := fun y hy => iw2 y (by simp [hy])
  have otnw3_2 := Lib.hid p2_3
  have djtnw0_1 : ∀ y ∈ g2_0, y ∉ g2_1 := fun y hy e => d2_0 y hy (by simp [e])
  have djtnw0_2 : ∀ y ∈ g2_0, y ∉ g2_2 := fun y hy e => d2_0 y hy (by simp [e])
  have djtnw0_3 : ∀ y ∈ g2_0, y ∉ g2_3 := fun y hy e => d2_0 y hy (by simp [e])
  have djtnw1_2 : ∀ y ∈ g2_1, y ∉ g2_2 := fun y hy e => d2_1 y hy (by simp [e])
  have djtnw1_3 : ∀ y ∈ g2_1, y ∉ g2_3 := fun y hy e => d2_1 y hy (by simp [e])
  have djtnw2_3 : ∀ y ∈ g2_2, y ∉ g2_3 := fun y hy e => d2_2 y hy (by simp [e])
  clear p2_0 ov2_0 d2_0 p2_1 ov2_1 d2_1 p2_2 ov2_2 d2_2 p2_3 ov2_3 d2_3 ov2 iv2 iw2
  go_wp2_with fail
  have BX3 : Hid (Below w.heap.size w w2) := BB2.out
  have zx3 := BX3.out.size
  refine (to_Int64S list _ _ ((Hlist0.out.below BX3.out).mono zx3) (by omega)).mono ?_
  rintro e w3 ⟨atlist0, ctlist0, ftlist0, rfl, hb3, ov3, iqtlist0⟩
  have itlist0 := iqtlist0.mono (lo' := w2.heap.size + 0) (by first | omega | (simp; done) | (simp; omega)) (Nat.le_refl _)
  clear iqtlist0
  have hbb3 : Below w2.heap.size w2 w3 := hb3
  have z3 := hbb3.size
  obtain ⟨qAnw3, _, yAnw3⟩ := bcellAt hb3 (b := w.heap.size) (by first | omega | (simp; done) | (simp; omega))
  have BB3 := Lib.hid (BB2.out.trans (hbb3.mono (by omega)))
  have otnw0_3 := Lib.hid (otnw0_2.out.below itnw0 (by omega) hbb3)
  have otnw1_3 := Lib.hid (otnw1_2.out.below itnw1 (by omega) hbb3)
  have otnw2_3 := Lib.hid (otnw2_2.out.below itnw2 (by omega) hbb3)
  have otnw3_3 := Lib.hid (otnw3_2.out.below itnw3 (by omega) hbb3)
  clear hbb3
  have otlist0_3 := Lib.hid ov3
  clear ov3
  go_wp2_with fail
  refine (HS.out _ _ _ _ _ _ ((otnw0_3.out.rd itnw0).mono (by omega)) ((otnw1_3.out.rd itnw1).mono (by omega)) ((otnw2_3.out.rd itnw2).mono (by omega)) ((otnw3_3.out.rd itnw3).mono (by omega)) ((otlist0_3.out.rd itlist0).mono (by omega)) (by omega) (by omega)).mono ?_
  rintro e w4 ⟨as00, cs00, as01, cs01, as02, cs02, as03, cs03, fs0, rfl, hb4, ov4, iv4⟩
  have hbb4 : Below w3.heap.size w3 w4 := hb4
  have z4 := hbb4.size
  obtain ⟨qAnw4, _, yAnw4⟩ := bcellAt hb4 (b := w.heap.size) (by first | omega | (simp; done) | (simp; omega))
  have BB4 := Lib.hid (BB3.out.trans (hbb4.mono (by omega)))
  have otnw0_4 := Lib.hid (otnw0_3.out.below itnw0 (by omega) hbb4)
  have otnw1_4 := Lib.hid (otnw1_3.out.below itnw1 (by omega) hbb4)
  have otnw2_4 := Lib.hid (otnw2_3.out.below itnw2 (by omega) hbb4)
  have otnw3_4 := Lib.hid (otnw3_3.out.below itnw3 (by omega) hbb4)
  have otlist0_4 := Lib.hid (otlist0_3.out.below itlist0 (by omega) hbb4)
  clear hbb4
  obtain ⟨g4_0, r4_0, e4_0, p4_0, ov4_0, d4_0⟩ := OwnV.uncons ov4
  obtain ⟨g4_1, r4_1, e4_1, p4_1, ov4_1, d4_1⟩ := OwnV.uncons ov4_0
  obtain ⟨g4_2, r4_2, e4_2, p4_2, ov4_2, d4_2⟩ := OwnV.uncons ov4_1
  obtain ⟨g4_3, r4_3, e4_3, p4_3, ov4_3, d4_3⟩ := OwnV.uncons ov4_2
  have iw4 := iv4.mono (lo' := w3.heap.size + 0) (by first | omega | (simp; done) | (simp; omega)) (Nat.le_refl _)
  have hnil4 := ov4_3.rep
  change r4_3 = [] at hnil4
  subst hnil4
  subst e4_3
  subst e4_2
  subst e4_1
  subst e4_0
  have is00 : In _ _ g4_0 := fun y hy => iw4 y (by simp [hy])
  have os00_4 := Lib.hid p4_0
  have is01 : In _ _ g4_1 := fun y hy => iw4 y (by simp [hy])
  have os01_4 := Lib.hid p4_1
  have is02 : In _ _ g4_2 := fun y hy => iw4 y (by simp [hy])
  have os02_4 := Lib.hid p4_2
  have is03 : In _ _ g4_3 := fun y hy => iw4 y (by simp [hy])
  have os03_4 := Lib.hid p4_3
  have djs00_1 : ∀ y ∈ g4_0, y ∉ g4_1 := fun y hy e => d4_0 y hy (by simp [e])
  have djs00_2 : ∀ y ∈ g4_0, y ∉ g4_2 := fun y hy e => d4_0 y hy (by simp [e])
  have djs00_3 : ∀ y ∈ g4_0, y ∉ g4_3 := fun y hy e => d4_0 y hy (by simp [e])
  have djs01_2 : ∀ y ∈ g4_1, y ∉ g4_2 := fun y hy e => d4_1 y hy (by simp [e])
  have djs01_3 : ∀ y ∈ g4_1, y ∉ g4_3 := fun y hy e => d4_1 y hy (by simp [e])
  have djs02_3 : ∀ y ∈ g4_2, y ∉ g4_3 := fun y hy e => d4_2 y hy (by simp [e])
  clear p4_0 ov4_0 d4_0 p4_1 ov4_1 d4_1 p4_2 ov4_2 d4_2 p4_3 ov4_3 d4_3 ov4 iv4 iw4
  go_wp2_with fail
  have BX5 : Hid (Below w.heap.size w (w4.alloc (.cells #[.slice as00 R.1.sites.length cs00, .slice as01 R.1.sectors.length cs01, .slice as02 R.1.antennas.length cs02, .slice as03 R.1.radios.length cs03] 35))) := (BB4.out.alloc (by first | omega | (simp; done) | (simp; omega)) _)
  have zx5 := BX5.out.size
  refine (to_Network nw _ _ _ _ _ ((Hnw0.out.below BX5.out).mono zx5) ((Hnw1.out.below BX5.out).mono zx5) ((Hnw2.out.below BX5.out).mono zx5) ((Hnw3.out.below BX5.out).mono zx5) (by omega)).mono ?_
  rintro e w5 ⟨aunw0, cunw0, aunw1, cunw1, aunw2, cunw2, aunw3, cunw3, funw, rfl, hb5, ov5, iv5⟩
  have hx5 : Below w4.heap.size w4 (w4.alloc (.cells #[.slice as00 R.1.sites.length cs00, .slice as01 R.1.sectors.length cs01, .slice as02 R.1.antennas.length cs02, .slice as03 R.1.radios.length cs03] 35)) := ((Below.refl _ _).alloc (Nat.le_refl _) _)
  have hbb5 : Below w4.heap.size w4 w5 := hx5.trans (hb5.mono (by first | (simp; done) | (simp; omega)))
  have z5 := hbb5.size
  obtain ⟨qAnw5, _, yAnw5⟩ := bcellAt hb5 (b := w.heap.size) (by first | omega | (simp; done) | (simp; omega))
  obtain ⟨qS05, _, yS05⟩ := bcellAt hb5 (b := w4.heap.size) (by first | omega | (simp; done) | (simp; omega))
  have BB5 := Lib.hid (BB4.out.trans (hbb5.mono (by omega)))
  have os00_5 := Lib.hid (os00_4.out.below is00 (by omega) hbb5)
  have os01_5 := Lib.hid (os01_4.out.below is01 (by omega) hbb5)
  have os02_5 := Lib.hid (os02_4.out.below is02 (by omega) hbb5)
  have os03_5 := Lib.hid (os03_4.out.below is03 (by omega) hbb5)
  clear hx5
  clear hb5 hbb5
  obtain ⟨g5_0, r5_0, e5_0, p5_0, ov5_0, d5_0⟩ := OwnV.uncons ov5
  obtain ⟨g5_1, r5_1, e5_1, p5_1, ov5_1, d5_1⟩ := OwnV.uncons ov5_0
  obtain ⟨g5_2, r5_2, e5_2, p5_2, ov5_2, d5_2⟩ := OwnV.uncons ov5_1
  obtain ⟨g5_3, r5_3, e5_3, p5_3, ov5_3, d5_3⟩ := OwnV.uncons ov5_2
  have iw5 := iv5.mono (lo' := w4.heap.size + 1) (by first | omega | (simp; done) | (simp; omega)) (Nat.le_refl _)
  have hnil5 := ov5_3.rep
  change r5_3 = [] at hnil5
  subst hnil5
  subst e5_3
  subst e5_2
  subst e5_1
  subst e5_0
  have iunw0 : In _ _ g5_0 := fun y hy => iw5 y (by simp [hy])
  have ounw0_5 := Lib.hid p5_0
  have iunw1 : In _ _ g5_1 := fun y hy => iw5 y (by simp [hy])
  have ounw1_5 := Lib.hid p5_1
  have iunw2 : In _ _ g5_2 := fun y hy => iw5 y (by simp [hy])
  have ounw2_5 := Lib.hid p5_2
  have iunw3 : In _ _ g5_3 := fun y hy => iw5 y (by simp [hy])
  have ounw3_5 := Lib.hid p5_3
  have djunw0_1 : ∀ y ∈ g5_0, y ∉ g5_1 := fun y hy e => d5_0 y hy (by simp [e])
  have djunw0_2 : ∀ y ∈ g5_0, y ∉ g5_2 := fun y hy e => d5_0 y hy (by simp [e])
  have djunw0_3 : ∀ y ∈ g5_0, y ∉ g5_3 := fun y hy e => d5_0 y hy (by simp [e])
  have djunw1_2 : ∀ y ∈ g5_1, y ∉ g5_2 := fun y hy e => d5_1 y hy (by simp [e])
  have djunw1_3 : ∀ y ∈ g5_1, y ∉ g5_3 := fun y hy e => d5_1 y hy (by simp [e])
  have djunw2_3 : ∀ y ∈ g5_2, y ∉ g5_3 := fun y hy e => d5_2 y hy (by simp [e])
  clear p5_0 ov5_0 d5_0 p5_1 ov5_1 d5_1 p5_2 ov5_2 d5_2 p5_3 ov5_3 d5_3 ov5 iv5 iw5
  go_wp2_with fail
  have BX6 : Hid (Below w.heap.size w (w5.alloc (.cells #[.slice aunw0 nw.sites.length cunw0, .slice aunw1 nw.sectors.length cunw1, .slice aunw2 nw.antennas.length cunw2, .slice aunw3 nw.radios.length cunw3] 35))) := (BB5.out.alloc (by first | omega | (simp; done) | (simp; omega)) _)
  have zx6 := BX6.out.size
  refine (to_Int64S list _ _ ((Hlist0.out.below BX6.out).mono zx6) (by omega)).mono ?_
  rintro e w6 ⟨aulist0, culist0, fulist0, rfl, hb6, ov6, iqulist0⟩
  have iulist0 := iqulist0.mono (lo' := w5.heap.size + 1) (by first | omega | (simp; done) | (simp; omega)) (Nat.le_refl _)
  clear iqulist0
  have hx6 : Below w5.heap.size w5 (w5.alloc (.cells #[.slice aunw0 nw.sites.length cunw0, .slice aunw1 nw.sectors.length cunw1, .slice aunw2 nw.antennas.length cunw2, .slice aunw3 nw.radios.length cunw3] 35)) := ((Below.refl _ _).alloc (Nat.le_refl _) _)
  have hbb6 : Below w5.heap.size w5 w6 := hx6.trans (hb6.mono (by first | (simp; done) | (simp; omega)))
  have z6 := hbb6.size
  obtain ⟨qAnw6, _, yAnw6⟩ := bcellAt hb6 (b := w.heap.size) (by first | omega | (simp; done) | (simp; omega))
  obtain ⟨qS06, _, yS06⟩ := bcellAt hb6 (b := w4.heap.size) (by first | omega | (simp; done) | (simp; omega))
  obtain ⟨qUnw6, _, yUnw6⟩ := bcellAt hb6 (b := w5.heap.size) (by first | omega | (simp; done) | (simp; omega))
  have BB6 := Lib.hid (BB5.out.trans (hbb6.mono (by omega)))
  have os00_6 := Lib.hid (os00_5.out.below is00 (by omega) hbb6)
  have os01_6 := Lib.hid (os01_5.out.below is01 (by omega) hbb6)
  have os02_6 := Lib.hid (os02_5.out.below is02 (by omega) hbb6)
  have os03_6 := Lib.hid (os03_5.out.below is03 (by omega) hbb6)
  have ounw0_6 := Lib.hid (ounw0_5.out.below iunw0 (by omega) hbb6)
  have ounw1_6 := Lib.hid (ounw1_5.out.below iunw1 (by omega) hbb6)
  have ounw2_6 := Lib.hid (ounw2_5.out.below iunw2 (by omega) hbb6)
  have ounw3_6 := Lib.hid (ounw3_5.out.below iunw3 (by omega) hbb6)
  clear hx6
  clear hb6 hbb6
  have oulist0_6 := Lib.hid ov6
  clear ov6
  go_wp2_with fail
  refine (HI.out _ _ _ _ _ _ ((ounw0_6.out.rd iunw0).mono (by omega)) ((ounw1_6.out.rd iunw1).mono (by omega)) ((ounw2_6.out.rd iunw2).mono (by omega)) ((ounw3_6.out.rd iunw3).mono (by omega)) ((oulist0_6.out.rd iulist0).mono (by omega)) (by omega) (by omega)).mono ?_
  rintro e w7 ⟨ag00, cg00, ag01, cg01, ag02, cg02, ag03, cg03, fg0, rfl, hb7, ov7, iv7⟩
  have hbb7 : Below w6.heap.size w6 w7 := hb7
  have z7 := hbb7.size
  obtain ⟨qAnw7, _, yAnw7⟩ := bcellAt hb7 (b := w.heap.size) (by first | omega | (simp; done) | (simp; omega))
  obtain ⟨qS07, _, yS07⟩ := bcellAt hb7 (b := w4.heap.size) (by first | omega | (simp; done) | (simp; omega))
  obtain ⟨qUnw7, _, yUnw7⟩ := bcellAt hb7 (b := w5.heap.size) (by first | omega | (simp; done) | (simp; omega))
  have BB7 := Lib.hid (BB6.out.trans (hbb7.mono (by omega)))
  have os00_7 := Lib.hid (os00_6.out.below is00 (by omega) hbb7)
  have os01_7 := Lib.hid (os01_6.out.below is01 (by omega) hbb7)
  have os02_7 := Lib.hid (os02_6.out.below is02 (by omega) hbb7)
  have os03_7 := Lib.hid (os03_6.out.below is03 (by omega) hbb7)
  have ounw0_7 := Lib.hid (ounw0_6.out.below iunw0 (by omega) hbb7)
  have ounw1_7 := Lib.hid (ounw1_6.out.below iunw1 (by omega) hbb7)
  have ounw2_7 := Lib.hid (ounw2_6.out.below iunw2 (by omega) hbb7)
  have ounw3_7 := Lib.hid (ounw3_6.out.below iunw3 (by omega) hbb7)
  have oulist0_7 := Lib.hid (oulist0_6.out.below iulist0 (by omega) hbb7)
  clear hbb7
  obtain ⟨g7_0, r7_0, e7_0, p7_0, ov7_0, d7_0⟩ := OwnV.uncons ov7
  obtain ⟨g7_1, r7_1, e7_1, p7_1, ov7_1, d7_1⟩ := OwnV.uncons ov7_0
  obtain ⟨g7_2, r7_2, e7_2, p7_2, ov7_2, d7_2⟩ := OwnV.uncons ov7_1
  obtain ⟨g7_3, r7_3, e7_3, p7_3, ov7_3, d7_3⟩ := OwnV.uncons ov7_2
  have iw7 := iv7.mono (lo' := w6.heap.size + 0) (by first | omega | (simp; done) | (simp; omega)) (Nat.le_refl _)
  have hnil7 := ov7_3.rep
  change r7_3 = [] at hnil7
  subst hnil7
  subst e7_3
  subst e7_2
  subst e7_1
  subst e7_0
  have ig00 : In _ _ g7_0 := fun y hy => iw7 y (by simp [hy])
  have og00_7 := Lib.hid p7_0
  have ig01 : In _ _ g7_1 := fun y hy => iw7 y (by simp [hy])
  have og01_7 := Lib.hid p7_1
  have ig02 : In _ _ g7_2 := fun y hy => iw7 y (by simp [hy])
  have og02_7 := Lib.hid p7_2
  have ig03 : In _ _ g7_3 := fun y hy => iw7 y (by simp [hy])
  have og03_7 := Lib.hid p7_3
  have djg00_1 : ∀ y ∈ g7_0, y ∉ g7_1 := fun y hy e => d7_0 y hy (by simp [e])
  have djg00_2 : ∀ y ∈ g7_0, y ∉ g7_2 := fun y hy e => d7_0 y hy (by simp [e])
  have djg00_3 : ∀ y ∈ g7_0, y ∉ g7_3 := fun y hy e => d7_0 y hy (by simp [e])
  have djg01_2 : ∀ y ∈ g7_1, y ∉ g7_2 := fun y hy e => d7_1 y hy (by simp [e])
  have djg01_3 : ∀ y ∈ g7_1, y ∉ g7_3 := fun y hy e => d7_1 y hy (by simp [e])
  have djg02_3 : ∀ y ∈ g7_2, y ∉ g7_3 := fun y hy e => d7_2 y hy (by simp [e])
  clear p7_0 ov7_0 d7_0 p7_1 ov7_1 d7_1 p7_2 ov7_2 d7_2 p7_3 ov7_3 d7_3 ov7 iv7 iw7
  go_wp2_with fail
  refine ((eq_Network R.1 _ _ _ _ _ _ _ _ (w7.alloc (.cells #[.slice ag00 R.1.sites.length cg00, .slice ag01 R.1.sectors.length cg01, .slice ag02 R.1.antennas.length cg02, .slice ag03 R.1.radios.length cg03] 35)).heap.size _ (((og00_7.out.below ig00 (by omega) ((Below.refl _ _).alloc (Nat.le_refl _) _)).rd ig00).mono (by first | omega | (simp; done) | (simp; omega))) (((os00_7.out.below is00 (by omega) ((Below.refl _ _).alloc (Nat.le_refl _) _)).rd is00).mono (by first | omega | (simp; done) | (simp; omega))) (((og01_7.out.below ig01 (by omega) ((Below.refl _ _).alloc (Nat.le_refl _) _)).rd ig01).mono (by first | omega | (simp; done) | (simp; omega))) (((os01_7.out.below is01 (by omega) ((Below.refl _ _).alloc (Nat.le_refl _) _)).rd is01).mono (by first | omega | (simp; done) | (simp; omega))) (((og02_7.out.below ig02 (by omega) ((Below.refl _ _).alloc (Nat.le_refl _) _)).rd ig02).mono (by first | omega | (simp; done) | (simp; omega))) (((os02_7.out.below is02 (by omega) ((Below.refl _ _).alloc (Nat.le_refl _) _)).rd is02).mono (by first | omega | (simp; done) | (simp; omega))) (((og03_7.out.below ig03 (by omega) ((Below.refl _ _).alloc (Nat.le_refl _) _)).rd ig03).mono (by first | omega | (simp; done) | (simp; omega))) (((os03_7.out.below is03 (by omega) ((Below.refl _ _).alloc (Nat.le_refl _) _)).rd is03).mono (by first | omega | (simp; done) | (simp; omega))) (Nat.le_refl _) (by omega))).mono ?_
  rintro e w8 ⟨rfl, hb8⟩
  have hx8 : Below w7.heap.size w7 (w7.alloc (.cells #[.slice ag00 R.1.sites.length cg00, .slice ag01 R.1.sectors.length cg01, .slice ag02 R.1.antennas.length cg02, .slice ag03 R.1.radios.length cg03] 35)) := ((Below.refl _ _).alloc (Nat.le_refl _) _)
  have hbb8 : Below w7.heap.size w7 w8 := hx8.trans (hb8.mono (by first | (simp; done) | (simp; omega)))
  have z8 := hbb8.size
  obtain ⟨qAnw8, _, yAnw8⟩ := bcellAt hb8 (b := w.heap.size) (by first | omega | (simp; done) | (simp; omega))
  obtain ⟨qS08, _, yS08⟩ := bcellAt hb8 (b := w4.heap.size) (by first | omega | (simp; done) | (simp; omega))
  obtain ⟨qUnw8, _, yUnw8⟩ := bcellAt hb8 (b := w5.heap.size) (by first | omega | (simp; done) | (simp; omega))
  obtain ⟨qG08, _, yG08⟩ := bcellAt hb8 (b := w7.heap.size) (by first | omega | (simp; done) | (simp; omega))
  have BB8 := Lib.hid (BB7.out.trans (hbb8.mono (by omega)))
  have os00_8 := Lib.hid (os00_7.out.below is00 (by omega) hbb8)
  have os01_8 := Lib.hid (os01_7.out.below is01 (by omega) hbb8)
  have os02_8 := Lib.hid (os02_7.out.below is02 (by omega) hbb8)
  have os03_8 := Lib.hid (os03_7.out.below is03 (by omega) hbb8)
  have ounw0_8 := Lib.hid (ounw0_7.out.below iunw0 (by omega) hbb8)
  have ounw1_8 := Lib.hid (ounw1_7.out.below iunw1 (by omega) hbb8)
  have ounw2_8 := Lib.hid (ounw2_7.out.below iunw2 (by omega) hbb8)
  have ounw3_8 := Lib.hid (ounw3_7.out.below iunw3 (by omega) hbb8)
  have oulist0_8 := Lib.hid (oulist0_7.out.below iulist0 (by omega) hbb8)
  have og00_8 := Lib.hid (og00_7.out.below ig00 (by omega) hbb8)
  have og01_8 := Lib.hid (og01_7.out.below ig01 (by omega) hbb8)
  have og02_8 := Lib.hid (og02_7.out.below ig02 (by omega) hbb8)
  have og03_8 := Lib.hid (og03_7.out.below ig03 (by omega) hbb8)
  clear hx8
  clear hb8 hbb8
  clear cy1
  have hcf : w8.cell? ⟨w5.heap.size, 0, none⟩ = some (.slice aunw0 nw.sites.length cunw0) ∧ w8.cell? ⟨w5.heap.size, 1, none⟩ = some (.slice aunw1 nw.sectors.length cunw1) ∧ w8.cell? ⟨w5.heap.size, 2, none⟩ = some (.slice aunw2 nw.antennas.length cunw2) ∧ w8.cell? ⟨w5.heap.size, 3, none⟩ = some (.slice aunw3 nw.radios.length cunw3) ∧ w8.cell? ⟨w.heap.size, 0, none⟩ = some (vnw0) ∧ w8.cell? ⟨w.heap.size, 1, none⟩ = some (vnw1) ∧ w8.cell? ⟨w.heap.size, 2, none⟩ = some (vnw2) ∧ w8.cell? ⟨w.heap.size, 3, none⟩ = some (vnw3) := by refine ⟨?_, ?_, ?_, ?_, ?_, ?_, ?_, ?_⟩ <;> simp [go_sem, *]
  go_wp2
  have hsame : Below w8.heap.size w8 w8.drew := ⟨rfl, rfl, rfl, Nat.le_refl _, fun _ _ => rfl⟩
  have BBd := Lib.hid BB8.out.drew
  have HTO := Lib.hid (to_Network nw vnw0 vnw1 vnw2 vnw3 w8.drew ((Hnw0.out.below BBd.out).mono (by show w.heap.size ≤ w8.heap.size; omega)) ((Hnw1.out.below BBd.out).mono (by show w.heap.size ≤ w8.heap.size; omega)) ((Hnw2.out.below BBd.out).mono (by show w.heap.size ≤ w8.heap.size; omega)) ((Hnw3.out.below BBd.out).mono (by show w.heap.size ≤ w8.heap.size; omega)) (by omega))
  have HEQ : Hid (∀ (W : World) (p0 p1 p2 p3 q0 q1 q2 q3 : Value), Below w8.heap.size w8 W → RdV W.heap.size W nw.tr [q0, q1, q2, q3] → p0 = .slice aunw0 nw.sites.length cunw0 → p1 = .slice aunw1 nw.sectors.length cunw1 → p2 = .slice aunw2 nw.antennas.length cunw2 → p3 = .slice aunw3 nw.radios.length cunw3 → Calls Tryz.prog 14 #[.agg #[p0, p1, p2, p3], .agg #[q0, q1, q2, q3]] W fun e w' => e = .returned (.bool true) ∧ Below W.heap.size W w') := fun W p0 p1 p2 p3 q0 q1 q2 q3 hW hr e0 e1 e2 e3 => by
    subst e0 e1 e2 e3
    have hzW := hW.size
    exact eq_Network nw _ _ _ _ _ _ _ _ W.heap.size W (((ounw0_8.out.below iunw0 (by omega) hW).rd iunw0).mono (by omega)) hr.1 (((ounw1_8.out.below iunw1 (by omega) hW).rd iunw1).mono (by omega)) hr.2.1 (((ounw2_8.out.below iunw2 (by omega) hW).rd iunw2).mono (by omega)) hr.2.2.1 (((ounw3_8.out.below iunw3 (by omega) hW).rd iunw3).mono (by omega)) hr.2.2.2.1 (Nat.le_refl _) (by omega)
  go_region_held3 (fun W => W.cell? ⟨w5.heap.size, 0, none⟩ = some (.slice aunw0 nw.sites.length cunw0) ∧ W.cell? ⟨w5.heap.size, 1, none⟩ = some (.slice aunw1 nw.sectors.length cunw1) ∧ W.cell? ⟨w5.heap.size, 2, none⟩ = some (.slice aunw2 nw.antennas.length cunw2) ∧ W.cell? ⟨w5.heap.size, 3, none⟩ = some (.slice aunw3 nw.radios.length cunw3) ∧ W.cell? ⟨w.heap.size, 0, none⟩ = some (vnw0) ∧ W.cell? ⟨w.heap.size, 1, none⟩ = some (vnw1) ∧ W.cell? ⟨w.heap.size, 2, none⟩ = some (vnw2) ∧ W.cell? ⟨w.heap.size, 3, none⟩ = some (vnw3)) (first | exact hcf | (refine ⟨?_, ?_, ?_, ?_, ?_, ?_, ?_, ?_⟩ <;> simp [go_sem, *]))
    (first
      | (go_at_call 11; refine (HTO.out).mono ?_; rintro e wt ⟨at0, ct0, at1, ct1, at2, ct2, at3, ct3, ft, rfl, hbt, ovt, ivt⟩; obtain ⟨qUt, _, yUt⟩ := bcellAt hbt (b := w5.heap.size) (by show w5.heap.size < w8.heap.size; omega); obtain ⟨qAt, _, yAt⟩ := bcellAt hbt (b := w.heap.size) (by show w.heap.size < w8.heap.size; omega))
      | (go_at_call 14; refine (HEQ.out _ _ _ _ _ _ _ _ _ (hsame.trans hbt) (ovt.rd ivt) rfl rfl rfl rfl).mono ?_; rintro e w9 ⟨rfl, hbe⟩; obtain ⟨qUe, _, yUe⟩ := bcellAt hbe (b := w5.heap.size) yUt; obtain ⟨qAe, _, yAe⟩ := bcellAt hbe (b := w.heap.size) yAt))
  have hb9 : Below w8.heap.size w8 w9 := (hsame.trans hbt).trans (hbe.mono (hsame.trans hbt).size)
  clear HEQ HTO BBd hcf qUt qAt qUe qAe yUt yAt yUe yAe hbe hbt ovt ivt hsame
  have hbb9 : Below w8.heap.size w8 w9 := hb9
  have z9 := hbb9.size
  obtain ⟨qAnw9, _, yAnw9⟩ := bcellAt hb9 (b := w.heap.size) (by first | omega | (simp; done) | (simp; omega))
  obtain ⟨qS09, _, yS09⟩ := bcellAt hb9 (b := w4.heap.size) (by first | omega | (simp; done) | (simp; omega))
  obtain ⟨qUnw9, _, yUnw9⟩ := bcellAt hb9 (b := w5.heap.size) (by first | omega | (simp; done) | (simp; omega))
  obtain ⟨qG09, _, yG09⟩ := bcellAt hb9 (b := w7.heap.size) (by first | omega | (simp; done) | (simp; omega))
  have BB9 := Lib.hid (BB8.out.trans (hbb9.mono (by omega)))
  have os00_9 := Lib.hid (os00_8.out.below is00 (by omega) hbb9)
  have os01_9 := Lib.hid (os01_8.out.below is01 (by omega) hbb9)
  have os02_9 := Lib.hid (os02_8.out.below is02 (by omega) hbb9)
  have os03_9 := Lib.hid (os03_8.out.below is03 (by omega) hbb9)
  have ounw0_9 := Lib.hid (ounw0_8.out.below iunw0 (by omega) hbb9)
  have ounw1_9 := Lib.hid (ounw1_8.out.below iunw1 (by omega) hbb9)
  have ounw2_9 := Lib.hid (ounw2_8.out.below iunw2 (by omega) hbb9)
  have ounw3_9 := Lib.hid (ounw3_8.out.below iunw3 (by omega) hbb9)
  have oulist0_9 := Lib.hid (oulist0_8.out.below iulist0 (by omega) hbb9)
  have og00_9 := Lib.hid (og00_8.out.below ig00 (by omega) hbb9)
  have og01_9 := Lib.hid (og01_8.out.below ig01 (by omega) hbb9)
  have og02_9 := Lib.hid (og02_8.out.below ig02 (by omega) hbb9)
  have og03_9 := Lib.hid (og03_8.out.below ig03 (by omega) hbb9)
  clear hbb9
  go_wp2_with fail
  have BX10 : Hid (Below w.heap.size w w9) := BB9.out
  have zx10 := BX10.out.size
  refine (to_Int64S list _ _ ((Hlist0.out.below BX10.out).mono zx10) (by omega)).mono ?_
  rintro e w10 ⟨anlist0, cnlist0, fnlist0, rfl, hb10, ov10, iqnlist0⟩
  have inlist0 := iqnlist0.mono (lo' := w9.heap.size + 0) (by first | omega | (simp; done) | (simp; omega)) (Nat.le_refl _)
  clear iqnlist0
  have hbb10 : Below w9.heap.size w9 w10 := hb10
  have z10 := hbb10.size
  obtain ⟨qAnw10, _, yAnw10⟩ := bcellAt hb10 (b := w.heap.size) (by first | omega | (simp; done) | (simp; omega))
  obtain ⟨qS010, _, yS010⟩ := bcellAt hb10 (b := w4.heap.size) (by first | omega | (simp; done) | (simp; omega))
  obtain ⟨qUnw10, _, yUnw10⟩ := bcellAt hb10 (b := w5.heap.size) (by first | omega | (simp; done) | (simp; omega))
  obtain ⟨qG010, _, yG010⟩ := bcellAt hb10 (b := w7.heap.size) (by first | omega | (simp; done) | (simp; omega))
  have BB10 := Lib.hid (BB9.out.trans (hbb10.mono (by omega)))
  have os00_10 := Lib.hid (os00_9.out.below is00 (by omega) hbb10)
  have os01_10 := Lib.hid (os01_9.out.below is01 (by omega) hbb10)
  have os02_10 := Lib.hid (os02_9.out.below is02 (by omega) hbb10)
  have os03_10 := Lib.hid (os03_9.out.below is03 (by omega) hbb10)
  have ounw0_10 := Lib.hid (ounw0_9.out.below iunw0 (by omega) hbb10)
  have ounw1_10 := Lib.hid (ounw1_9.out.below iunw1 (by omega) hbb10)
  have ounw2_10 := Lib.hid (ounw2_9.out.below iunw2 (by omega) hbb10)
  have ounw3_10 := Lib.hid (ounw3_9.out.below iunw3 (by omega) hbb10)
  have oulist0_10 := Lib.hid (oulist0_9.out.below iulist0 (by omega) hbb10)
  have og00_10 := Lib.hid (og00_9.out.below ig00 (by omega) hbb10)
  have og01_10 := Lib.hid (og01_9.out.below ig01 (by omega) hbb10)
  have og02_10 := Lib.hid (og02_9.out.below ig02 (by omega) hbb10)
  have og03_10 := Lib.hid (og03_9.out.below ig03 (by omega) hbb10)
  clear hbb10
  have onlist0_10 := Lib.hid ov10
  clear ov10
  go_wp2_with fail
  refine ((eq_Int64S list _ _ w10.heap.size _ ((oulist0_10.out.rd iulist0).mono (by omega)) ((onlist0_10.out.rd inlist0).mono (by omega)) (Nat.le_refl _) (by omega))).mono ?_
  rintro e w11 ⟨rfl, hb11⟩
  have hbb11 : Below w10.heap.size w10 w11 := hb11
  have z11 := hbb11.size
  obtain ⟨qAnw11, _, yAnw11⟩ := bcellAt hb11 (b := w.heap.size) (by first | omega | (simp; done) | (simp; omega))
  obtain ⟨qS011, _, yS011⟩ := bcellAt hb11 (b := w4.heap.size) (by first | omega | (simp; done) | (simp; omega))
  obtain ⟨qUnw11, _, yUnw11⟩ := bcellAt hb11 (b := w5.heap.size) (by first | omega | (simp; done) | (simp; omega))
  obtain ⟨qG011, _, yG011⟩ := bcellAt hb11 (b := w7.heap.size) (by first | omega | (simp; done) | (simp; omega))
  have BB11 := Lib.hid (BB10.out.trans (hbb11.mono (by omega)))
  have os00_11 := Lib.hid (os00_10.out.below is00 (by omega) hbb11)
  have os01_11 := Lib.hid (os01_10.out.below is01 (by omega) hbb11)
  have os02_11 := Lib.hid (os02_10.out.below is02 (by omega) hbb11)
  have os03_11 := Lib.hid (os03_10.out.below is03 (by omega) hbb11)
  have ounw0_11 := Lib.hid (ounw0_10.out.below iunw0 (by omega) hbb11)
  have ounw1_11 := Lib.hid (ounw1_10.out.below iunw1 (by omega) hbb11)
  have ounw2_11 := Lib.hid (ounw2_10.out.below iunw2 (by omega) hbb11)
  have ounw3_11 := Lib.hid (ounw3_10.out.below iunw3 (by omega) hbb11)
  have oulist0_11 := Lib.hid (oulist0_10.out.below iulist0 (by omega) hbb11)
  have og00_11 := Lib.hid (og00_10.out.below ig00 (by omega) hbb11)
  have og01_11 := Lib.hid (og01_10.out.below ig01 (by omega) hbb11)
  have og02_11 := Lib.hid (og02_10.out.below ig02 (by omega) hbb11)
  have og03_11 := Lib.hid (og03_10.out.below ig03 (by omega) hbb11)
  have onlist0_11 := Lib.hid (onlist0_10.out.below inlist0 (by omega) hbb11)
  clear hbb11
  go_wp2_with fail
  refine (mark_Network nw _ _ _ _ g5_0 g5_1 g5_2 g5_3 (1) _ _ _ _ _ _ _ _ _ ounw0_11.out iunw0 (by first | omega | (simp; done) | (simp; omega)) ounw1_11.out iunw1 (by first | omega | (simp; done) | (simp; omega)) ounw2_11.out iunw2 (by first | omega | (simp; done) | (simp; omega)) ounw3_11.out iunw3 (by first | omega | (simp; done) | (simp; omega)) djunw0_1 djunw0_2 djunw0_3 djunw1_2 djunw1_3 djunw2_3 (by omega) (by omega) (by omega)).mono ?_
  rintro e w12 ⟨rfl, munw0, munw1, munw2, munw3, hc12⟩
  have hcc12 : Chg (g5_0 ++ g5_1 ++ g5_2 ++ g5_3) w11 w12 := hc12
  have z12 := hcc12.size
  have hkAnw12 := hc12.block (w.heap.size) (by first | omega | (simp; done) | (simp; omega)) (fun e => by simp only [List.mem_append] at e; rcases e with (((e | e) | e) | e) <;> first | (have h2 := iunw0 _ e; omega) | (have h2 := iunw1 _ e; omega) | (have h2 := iunw2 _ e; omega) | (have h2 := iunw3 _ e; omega))
  have qAnw12 : ∀ o, w12.cell? ⟨w.heap.size, o, none⟩ = _ := fun o => World.cell?_of_block (a := ⟨w.heap.size, o, none⟩) hkAnw12
  have yAnw12 : w.heap.size < w12.heap.size := by first | omega | (have := hc12.size; simp at this; omega)
  clear hkAnw12
  have hkS012 := hc12.block (w4.heap.size) (by first | omega | (simp; done) | (simp; omega)) (fun e => by simp only [List.mem_append] at e; rcases e with (((e | e) | e) | e) <;> first | (have h2 := iunw0 _ e; omega) | (have h2 := iunw1 _ e; omega) | (have h2 := iunw2 _ e; omega) | (have h2 := iunw3 _ e; omega))
  have qS012 : ∀ o, w12.cell? ⟨w4.heap.size, o, none⟩ = _ := fun o => World.cell?_of_block (a := ⟨w4.heap.size, o, none⟩) hkS012
  have yS012 : w4.heap.size < w12.heap.size := by first | omega | (have := hc12.size; simp at this; omega)
  clear hkS012
  have hkUnw12 := hc12.block (w5.heap.size) (by first | omega | (simp; done) | (simp; omega)) (fun e => by simp only [List.mem_append] at e; rcases e with (((e | e) | e) | e) <;> first | (have h2 := iunw0 _ e; omega) | (have h2 := iunw1 _ e; omega) | (have h2 := iunw2 _ e; omega) | (have h2 := iunw3 _ e; omega))
  have qUnw12 : ∀ o, w12.cell? ⟨w5.heap.size, o, none⟩ = _ := fun o => World.cell?_of_block (a := ⟨w5.heap.size, o, none⟩) hkUnw12
  have yUnw12 : w5.heap.size < w12.heap.size := by first | omega | (have := hc12.size; simp at this; omega)
  clear hkUnw12
  have hkG012 := hc12.block (w7.heap.size) (by first | omega | (simp; done) | (simp; omega)) (fun e => by simp only [List.mem_append] at e; rcases e with (((e | e) | e) | e) <;> first | (have h2 := iunw0 _ e; omega) | (have h2 := iunw1 _ e; omega) | (have h2 := iunw2 _ e; omega) | (have h2 := iunw3 _ e; omega))
  have qG012 : ∀ o, w12.cell? ⟨w7.heap.size, o, none⟩ = _ := fun o => World.cell?_of_block (a := ⟨w7.heap.size, o, none⟩) hkG012
  have yG012 : w7.heap.size < w12.heap.size := by first | omega | (have := hc12.size; simp at this; omega)
  clear hkG012
  have BB12 := Lib.hid (BB11.out.trans (hcc12.below (by omega) (fun x hx => by simp only [List.mem_append] at hx; rcases hx with (((hx | hx) | hx) | hx) <;> first | (have h2 := iunw0 x hx; omega) | (have h2 := iunw1 x hx; omega) | (have h2 := iunw2 x hx; omega) | (have h2 := iunw3 x hx; omega))))
  have os00_12 := Lib.hid (os00_11.out.chg is00 (by omega) hcc12 (fun x hx e => by have hx0 := is00 x hx; simp only [List.mem_append] at e; rcases e with (((e | e) | e) | e) <;> first | (have h2 := iunw0 x e; omega) | (have h2 := iunw1 x e; omega) | (have h2 := iunw2 x e; omega) | (have h2 := iunw3 x e; omega)))
  have os01_12 := Lib.hid (os01_11.out.chg is01 (by omega) hcc12 (fun x hx e => by have hx0 := is01 x hx; simp only [List.mem_append] at e; rcases e with (((e | e) | e) | e) <;> first | (have h2 := iunw0 x e; omega) | (have h2 := iunw1 x e; omega) | (have h2 := iunw2 x e; omega) | (have h2 := iunw3 x e; omega)))
  have os02_12 := Lib.hid (os02_11.out.chg is02 (by omega) hcc12 (fun x hx e => by have hx0 := is02 x hx; simp only [List.mem_append] at e; rcases e with (((e | e) | e) | e) <;> first | (have h2 := iunw0 x e; omega) | (have h2 := iunw1 x e; omega) | (have h2 := iunw2 x e; omega) | (have h2 := iunw3 x e; omega)))
  have os03_12 := Lib.hid (os03_11.out.chg is03 (by omega) hcc12 (fun x hx e => by have hx0 := is03 x hx; simp only [List.mem_append] at e; rcases e with (((e | e) | e) | e) <;> first | (have h2 := iunw0 x e; omega) | (have h2 := iunw1 x e; omega) | (have h2 := iunw2 x e; omega) | (have h2 := iunw3 x e; omega)))
  have oulist0_12 := Lib.hid (oulist0_11.out.chg iulist0 (by omega) hcc12 (fun x hx e => by have hx0 := iulist0 x hx; simp only [List.mem_append] at e; rcases e with (((e | e) | e) | e) <;> first | (have h2 := iunw0 x e; omega) | (have h2 := iunw1 x e; omega) | (have h2 := iunw2 x e; omega) | (have h2 := iunw3 x e; omega)))
  have og00_12 := Lib.hid (og00_11.out.chg ig00 (by omega) hcc12 (fun x hx e => by have hx0 := ig00 x hx; simp only [List.mem_append] at e; rcases e with (((e | e) | e) | e) <;> first | (have h2 := iunw0 x e; omega) | (have h2 := iunw1 x e; omega) | (have h2 := iunw2 x e; omega) | (have h2 := iunw3 x e; omega)))
  have og01_12 := Lib.hid (og01_11.out.chg ig01 (by omega) hcc12 (fun x hx e => by have hx0 := ig01 x hx; simp only [List.mem_append] at e; rcases e with (((e | e) | e) | e) <;> first | (have h2 := iunw0 x e; omega) | (have h2 := iunw1 x e; omega) | (have h2 := iunw2 x e; omega) | (have h2 := iunw3 x e; omega)))
  have og02_12 := Lib.hid (og02_11.out.chg ig02 (by omega) hcc12 (fun x hx e => by have hx0 := ig02 x hx; simp only [List.mem_append] at e; rcases e with (((e | e) | e) | e) <;> first | (have h2 := iunw0 x e; omega) | (have h2 := iunw1 x e; omega) | (have h2 := iunw2 x e; omega) | (have h2 := iunw3 x e; omega)))
  have og03_12 := Lib.hid (og03_11.out.chg ig03 (by omega) hcc12 (fun x hx e => by have hx0 := ig03 x hx; simp only [List.mem_append] at e; rcases e with (((e | e) | e) | e) <;> first | (have h2 := iunw0 x e; omega) | (have h2 := iunw1 x e; omega) | (have h2 := iunw2 x e; omega) | (have h2 := iunw3 x e; omega)))
  clear hcc12
  have kounw0_12 := Lib.hid munw0
  clear munw0
  have kounw1_12 := Lib.hid munw1
  clear munw1
  have kounw2_12 := Lib.hid munw2
  clear munw2
  have kounw3_12 := Lib.hid munw3
  clear munw3
  go_wp2_with fail
  refine (mark_Int64S list _ fulist0 (1 + cnt (DSite.sT nw.sites) + cnt (DSector.sT nw.sectors) + cnt (DAntenna.sT nw.antennas) + cnt (DRadio.sT nw.radios)) _ _ oulist0_12.out (iulist0.mono (Nat.le_refl _) (by first | omega | (simp; done) | (simp; omega))) (by omega) (by omega)).mono ?_
  rintro e w13 ⟨rfl, mulist0, hc13⟩
  have hcc13 : Chg fulist0 w12 w13 := hc13
  have z13 := hcc13.size
  have hkAnw13 := hc13.block (w.heap.size) (by first | omega | (simp; done) | (simp; omega)) (fun e => by have h2 := iulist0 _ e; omega)
  have qAnw13 : ∀ o, w13.cell? ⟨w.heap.size, o, none⟩ = _ := fun o => World.cell?_of_block (a := ⟨w.heap.size, o, none⟩) hkAnw13
  have yAnw13 : w.heap.size < w13.heap.size := by first | omega | (have := hc13.size; simp at this; omega)
  clear hkAnw13
  have hkS013 := hc13.block (w4.heap.size) (by first | omega | (simp; done) | (simp; omega)) (fun e => by have h2 := iulist0 _ e; omega)
  have qS013 : ∀ o, w13.cell? ⟨w4.heap.size, o, none⟩ = _ := fun o => World.cell?_of_block (a := ⟨w4.heap.size, o, none⟩) hkS013
  have yS013 : w4.heap.size < w13.heap.size := by first | omega | (have := hc13.size; simp at this; omega)
  clear hkS013
  have hkUnw13 := hc13.block (w5.heap.size) (by first | omega | (simp; done) | (simp; omega)) (fun e => by have h2 := iulist0 _ e; omega)
  have qUnw13 : ∀ o, w13.cell? ⟨w5.heap.size, o, none⟩ = _ := fun o => World.cell?_of_block (a := ⟨w5.heap.size, o, none⟩) hkUnw13
  have yUnw13 : w5.heap.size < w13.heap.size := by first | omega | (have := hc13.size; simp at this; omega)
  clear hkUnw13
  have hkG013 := hc13.block (w7.heap.size) (by first | omega | (simp; done) | (simp; omega)) (fun e => by have h2 := iulist0 _ e; omega)
  have qG013 : ∀ o, w13.cell? ⟨w7.heap.size, o, none⟩ = _ := fun o => World.cell?_of_block (a := ⟨w7.heap.size, o, none⟩) hkG013
  have yG013 : w7.heap.size < w13.heap.size := by first | omega | (have := hc13.size; simp at this; omega)
  clear hkG013
  have BB13 := Lib.hid (BB12.out.trans (hcc13.below (by omega) (fun x hx => by have h2 := iulist0 x hx; omega)))
  have os00_13 := Lib.hid (os00_12.out.chg is00 (by omega) hcc13 (fun x hx e => by have hx0 := is00 x hx; have h2 := iulist0 x e; omega))
  have os01_13 := Lib.hid (os01_12.out.chg is01 (by omega) hcc13 (fun x hx e => by have hx0 := is01 x hx; have h2 := iulist0 x e; omega))
  have os02_13 := Lib.hid (os02_12.out.chg is02 (by omega) hcc13 (fun x hx e => by have hx0 := is02 x hx; have h2 := iulist0 x e; omega))
  have os03_13 := Lib.hid (os03_12.out.chg is03 (by omega) hcc13 (fun x hx e => by have hx0 := is03 x hx; have h2 := iulist0 x e; omega))
  have og00_13 := Lib.hid (og00_12.out.chg ig00 (by omega) hcc13 (fun x hx e => by have hx0 := ig00 x hx; have h2 := iulist0 x e; omega))
  have og01_13 := Lib.hid (og01_12.out.chg ig01 (by omega) hcc13 (fun x hx e => by have hx0 := ig01 x hx; have h2 := iulist0 x e; omega))
  have og02_13 := Lib.hid (og02_12.out.chg ig02 (by omega) hcc13 (fun x hx e => by have hx0 := ig02 x hx; have h2 := iulist0 x e; omega))
  have og03_13 := Lib.hid (og03_12.out.chg ig03 (by omega) hcc13 (fun x hx e => by have hx0 := ig03 x hx; have h2 := iulist0 x e; omega))
  clear hcc13
  have koulist0_13 := Lib.hid mulist0
  clear mulist0
  have kd13 : decide (((1 + cnt (DSite.sT nw.sites) + cnt (DSector.sT nw.sectors) + cnt (DAntenna.sT nw.antennas) + cnt (DRadio.sT nw.radios) + cnt (intsT list) : Nat) : Int) < 0) = false := by simp; omega
  go_wp2_with fail
  refine ((eq_Network R.1 _ _ _ _ _ _ _ _ w13.heap.size _ ((og00_13.out.rd ig00).mono (by omega)) ((os00_13.out.rd is00).mono (by omega)) ((og01_13.out.rd ig01).mono (by omega)) ((os01_13.out.rd is01).mono (by omega)) ((og02_13.out.rd ig02).mono (by omega)) ((os02_13.out.rd is02).mono (by omega)) ((og03_13.out.rd ig03).mono (by omega)) ((os03_13.out.rd is03).mono (by omega)) (Nat.le_refl _) (by omega))).mono ?_
  rintro e w14 ⟨rfl, hb14⟩
  have hbb14 : Below w13.heap.size w13 w14 := hb14
  have z14 := hbb14.size
  obtain ⟨qAnw14, _, yAnw14⟩ := bcellAt hb14 (b := w.heap.size) (by first | omega | (simp; done) | (simp; omega))
  obtain ⟨qS014, _, yS014⟩ := bcellAt hb14 (b := w4.heap.size) (by first | omega | (simp; done) | (simp; omega))
  obtain ⟨qUnw14, _, yUnw14⟩ := bcellAt hb14 (b := w5.heap.size) (by first | omega | (simp; done) | (simp; omega))
  obtain ⟨qG014, _, yG014⟩ := bcellAt hb14 (b := w7.heap.size) (by first | omega | (simp; done) | (simp; omega))
  have BB14 := Lib.hid (BB13.out.trans (hbb14.mono (by omega)))
  have os00_14 := Lib.hid (os00_13.out.below is00 (by omega) hbb14)
  have os01_14 := Lib.hid (os01_13.out.below is01 (by omega) hbb14)
  have os02_14 := Lib.hid (os02_13.out.below is02 (by omega) hbb14)
  have os03_14 := Lib.hid (os03_13.out.below is03 (by omega) hbb14)
  have og00_14 := Lib.hid (og00_13.out.below ig00 (by omega) hbb14)
  have og01_14 := Lib.hid (og01_13.out.below ig01 (by omega) hbb14)
  have og02_14 := Lib.hid (og02_13.out.below ig02 (by omega) hbb14)
  have og03_14 := Lib.hid (og03_13.out.below ig03 (by omega) hbb14)
  clear hbb14
  go_wp2_with fail
  refine (mark_Network R.1 _ _ _ _ g7_0 g7_1 g7_2 g7_3 (1) _ _ _ _ _ _ _ _ _ og00_14.out ig00 (by first | omega | (simp; done) | (simp; omega)) og01_14.out ig01 (by first | omega | (simp; done) | (simp; omega)) og02_14.out ig02 (by first | omega | (simp; done) | (simp; omega)) og03_14.out ig03 (by first | omega | (simp; done) | (simp; omega)) djg00_1 djg00_2 djg00_3 djg01_2 djg01_3 djg02_3 (by omega) (by omega) (by omega)).mono ?_
  rintro e w15 ⟨rfl, mg00, mg01, mg02, mg03, hc15⟩
  have hcc15 : Chg (g7_0 ++ g7_1 ++ g7_2 ++ g7_3) w14 w15 := hc15
  have z15 := hcc15.size
  have hkAnw15 := hc15.block (w.heap.size) (by first | omega | (simp; done) | (simp; omega)) (fun e => by simp only [List.mem_append] at e; rcases e with (((e | e) | e) | e) <;> first | (have h2 := ig00 _ e; omega) | (have h2 := ig01 _ e; omega) | (have h2 := ig02 _ e; omega) | (have h2 := ig03 _ e; omega))
  have qAnw15 : ∀ o, w15.cell? ⟨w.heap.size, o, none⟩ = _ := fun o => World.cell?_of_block (a := ⟨w.heap.size, o, none⟩) hkAnw15
  have yAnw15 : w.heap.size < w15.heap.size := by first | omega | (have := hc15.size; simp at this; omega)
  clear hkAnw15
  have hkS015 := hc15.block (w4.heap.size) (by first | omega | (simp; done) | (simp; omega)) (fun e => by simp only [List.mem_append] at e; rcases e with (((e | e) | e) | e) <;> first | (have h2 := ig00 _ e; omega) | (have h2 := ig01 _ e; omega) | (have h2 := ig02 _ e; omega) | (have h2 := ig03 _ e; omega))
  have qS015 : ∀ o, w15.cell? ⟨w4.heap.size, o, none⟩ = _ := fun o => World.cell?_of_block (a := ⟨w4.heap.size, o, none⟩) hkS015
  have yS015 : w4.heap.size < w15.heap.size := by first | omega | (have := hc15.size; simp at this; omega)
  clear hkS015
  have hkUnw15 := hc15.block (w5.heap.size) (by first | omega | (simp; done) | (simp; omega)) (fun e => by simp only [List.mem_append] at e; rcases e with (((e | e) | e) | e) <;> first | (have h2 := ig00 _ e; omega) | (have h2 := ig01 _ e; omega) | (have h2 := ig02 _ e; omega) | (have h2 := ig03 _ e; omega))
  have qUnw15 : ∀ o, w15.cell? ⟨w5.heap.size, o, none⟩ = _ := fun o => World.cell?_of_block (a := ⟨w5.heap.size, o, none⟩) hkUnw15
  have yUnw15 : w5.heap.size < w15.heap.size := by first | omega | (have := hc15.size; simp at this; omega)
  clear hkUnw15
  have hkG015 := hc15.block (w7.heap.size) (by first | omega | (simp; done) | (simp; omega)) (fun e => by simp only [List.mem_append] at e; rcases e with (((e | e) | e) | e) <;> first | (have h2 := ig00 _ e; omega) | (have h2 := ig01 _ e; omega) | (have h2 := ig02 _ e; omega) | (have h2 := ig03 _ e; omega))
  have qG015 : ∀ o, w15.cell? ⟨w7.heap.size, o, none⟩ = _ := fun o => World.cell?_of_block (a := ⟨w7.heap.size, o, none⟩) hkG015
  have yG015 : w7.heap.size < w15.heap.size := by first | omega | (have := hc15.size; simp at this; omega)
  clear hkG015
  have BB15 := Lib.hid (BB14.out.trans (hcc15.below (by omega) (fun x hx => by simp only [List.mem_append] at hx; rcases hx with (((hx | hx) | hx) | hx) <;> first | (have h2 := ig00 x hx; omega) | (have h2 := ig01 x hx; omega) | (have h2 := ig02 x hx; omega) | (have h2 := ig03 x hx; omega))))
  have os00_15 := Lib.hid (os00_14.out.chg is00 (by omega) hcc15 (fun x hx e => by have hx0 := is00 x hx; simp only [List.mem_append] at e; rcases e with (((e | e) | e) | e) <;> first | (have h2 := ig00 x e; omega) | (have h2 := ig01 x e; omega) | (have h2 := ig02 x e; omega) | (have h2 := ig03 x e; omega)))
  have os01_15 := Lib.hid (os01_14.out.chg is01 (by omega) hcc15 (fun x hx e => by have hx0 := is01 x hx; simp only [List.mem_append] at e; rcases e with (((e | e) | e) | e) <;> first | (have h2 := ig00 x e; omega) | (have h2 := ig01 x e; omega) | (have h2 := ig02 x e; omega) | (have h2 := ig03 x e; omega)))
  have os02_15 := Lib.hid (os02_14.out.chg is02 (by omega) hcc15 (fun x hx e => by have hx0 := is02 x hx; simp only [List.mem_append] at e; rcases e with (((e | e) | e) | e) <;> first | (have h2 := ig00 x e; omega) | (have h2 := ig01 x e; omega) | (have h2 := ig02 x e; omega) | (have h2 := ig03 x e; omega)))
  have os03_15 := Lib.hid (os03_14.out.chg is03 (by omega) hcc15 (fun x hx e => by have hx0 := is03 x hx; simp only [List.mem_append] at e; rcases e with (((e | e) | e) | e) <;> first | (have h2 := ig00 x e; omega) | (have h2 := ig01 x e; omega) | (have h2 := ig02 x e; omega) | (have h2 := ig03 x e; omega)))
  clear hcc15
  have kog00_15 := Lib.hid mg00
  clear mg00
  have kog01_15 := Lib.hid mg01
  clear mg01
  have kog02_15 := Lib.hid mg02
  clear mg02
  have kog03_15 := Lib.hid mg03
  clear mg03
  go_wp2_with fail
  refine (held_Network R.1 _ _ _ _ w15.heap.size (1) _ ((kog00_15.out.rd ig00).mono (by omega)) ((kog01_15.out.rd ig01).mono (by omega)) ((kog02_15.out.rd ig02).mono (by omega)) ((kog03_15.out.rd ig03).mono (by omega)) (Nat.le_refl _) (by omega) (by omega) (by omega)).mono ?_
  rintro e w16 ⟨rfl, hb16⟩
  have hbb16 : Below w15.heap.size w15 w16 := hb16
  have z16 := hbb16.size
  obtain ⟨qAnw16, _, yAnw16⟩ := bcellAt hb16 (b := w.heap.size) (by first | omega | (simp; done) | (simp; omega))
  obtain ⟨qS016, _, yS016⟩ := bcellAt hb16 (b := w4.heap.size) (by first | omega | (simp; done) | (simp; omega))
  obtain ⟨qUnw16, _, yUnw16⟩ := bcellAt hb16 (b := w5.heap.size) (by first | omega | (simp; done) | (simp; omega))
  obtain ⟨qG016, _, yG016⟩ := bcellAt hb16 (b := w7.heap.size) (by first | omega | (simp; done) | (simp; omega))
  have BB16 := Lib.hid (BB15.out.trans (hbb16.mono (by omega)))
  have os00_16 := Lib.hid (os00_15.out.below is00 (by omega) hbb16)
  have os01_16 := Lib.hid (os01_15.out.below is01 (by omega) hbb16)
  have os02_16 := Lib.hid (os02_15.out.below is02 (by omega) hbb16)
  have os03_16 := Lib.hid (os03_15.out.below is03 (by omega) hbb16)
  have kog00_16 := Lib.hid (kog00_15.out.below ig00 (by omega) hbb16)
  have kog01_16 := Lib.hid (kog01_15.out.below ig01 (by omega) hbb16)
  have kog02_16 := Lib.hid (kog02_15.out.below ig02 (by omega) hbb16)
  have kog03_16 := Lib.hid (kog03_15.out.below ig03 (by omega) hbb16)
  clear hbb16
  go_wp2_with fail
  have BX17 : Hid (Below w.heap.size w w16) := BB16.out
  have zx17 := BX17.out.size
  refine (to_Network nw _ _ _ _ _ ((Hnw0.out.below BX17.out).mono zx17) ((Hnw1.out.below BX17.out).mono zx17) ((Hnw2.out.below BX17.out).mono zx17) ((Hnw3.out.below BX17.out).mono zx17) (by omega)).mono ?_
  rintro e w17 ⟨amnw0, cmnw0, amnw1, cmnw1, amnw2, cmnw2, amnw3, cmnw3, fmnw, rfl, hb17, ov17, iv17⟩
  have hbb17 : Below w16.heap.size w16 w17 := hb17
  have z17 := hbb17.size
  obtain ⟨qAnw17, _, yAnw17⟩ := bcellAt hb17 (b := w.heap.size) (by first | omega | (simp; done) | (simp; omega))
  obtain ⟨qS017, _, yS017⟩ := bcellAt hb17 (b := w4.heap.size) (by first | omega | (simp; done) | (simp; omega))
  obtain ⟨qUnw17, _, yUnw17⟩ := bcellAt hb17 (b := w5.heap.size) (by first | omega | (simp; done) | (simp; omega))
  obtain ⟨qG017, _, yG017⟩ := bcellAt hb17 (b := w7.heap.size) (by first | omega | (simp; done) | (simp; omega))
  have BB17 := Lib.hid (BB16.out.trans (hbb17.mono (by omega)))
  have os00_17 := Lib.hid (os00_16.out.below is00 (by omega) hbb17)
  have os01_17 := Lib.hid (os01_16.out.below is01 (by omega) hbb17)
  have os02_17 := Lib.hid (os02_16.out.below is02 (by omega) hbb17)
  have os03_17 := Lib.hid (os03_16.out.below is03 (by omega) hbb17)
  have kog00_17 := Lib.hid (kog00_16.out.below ig00 (by omega) hbb17)
  have kog01_17 := Lib.hid (kog01_16.out.below ig01 (by omega) hbb17)
  have kog02_17 := Lib.hid (kog02_16.out.below ig02 (by omega) hbb17)
  have kog03_17 := Lib.hid (kog03_16.out.below ig03 (by omega) hbb17)
  clear hbb17
  obtain ⟨g17_0, r17_0, e17_0, p17_0, ov17_0, d17_0⟩ := OwnV.uncons ov17
  obtain ⟨g17_1, r17_1, e17_1, p17_1, ov17_1, d17_1⟩ := OwnV.uncons ov17_0
  obtain ⟨g17_2, r17_2, e17_2, p17_2, ov17_2, d17_2⟩ := OwnV.uncons ov17_1
  obtain ⟨g17_3, r17_3, e17_3, p17_3, ov17_3, d17_3⟩ := OwnV.uncons ov17_2
  have iw17 := iv17.mono (lo' := w16.heap.size + 0) (by first | omega | (simp; done) | (simp; omega)) (Nat.le_refl _)
  have hnil17 := ov17_3.rep
  change r17_3 = [] at hnil17
  subst hnil17
  subst e17_3
  subst e17_2
  subst e17_1
  subst e17_0
  have imnw0 : In _ _ g17_0 := fun y hy => iw17 y (by simp [hy])
  have omnw0_17 := Lib.hid p17_0
  have imnw1 : In _ _ g17_1 := fun y hy => iw17 y (by simp [hy])
  have omnw1_17 := Lib.hid p17_1
  have imnw2 : In _ _ g17_2 := fun y hy => iw17 y (by simp [hy])
  have omnw2_17 := Lib.hid p17_2
  have imnw3 : In _ _ g17_3 := fun y hy => iw17 y (by simp [hy])
  have omnw3_17 := Lib.hid p17_3
  have djmnw0_1 : ∀ y ∈ g17_0, y ∉ g17_1 := fun y hy e => d17_0 y hy (by simp [e])
  have djmnw0_2 : ∀ y ∈ g17_0, y ∉ g17_2 := fun y hy e => d17_0 y hy (by simp [e])
  have djmnw0_3 : ∀ y ∈ g17_0, y ∉ g17_3 := fun y hy e => d17_0 y hy (by simp [e])
  have djmnw1_2 : ∀ y ∈ g17_1, y ∉ g17_2 := fun y hy e => d17_1 y hy (by simp [e])
  have djmnw1_3 : ∀ y ∈ g17_1, y ∉ g17_3 := fun y hy e => d17_1 y hy (by simp [e])
  have djmnw2_3 : ∀ y ∈ g17_2, y ∉ g17_3 := fun y hy e => d17_2 y hy (by simp [e])
  clear p17_0 ov17_0 d17_0 p17_1 ov17_1 d17_1 p17_2 ov17_2 d17_2 p17_3 ov17_3 d17_3 ov17 iv17 iw17
  go_wp2_with fail
  have BX18 : Hid (Below w.heap.size w w17) := BB17.out
  have zx18 := BX18.out.size
  refine (to_Int64S list _ _ ((Hlist0.out.below BX18.out).mono zx18) (by omega)).mono ?_
  rintro e w18 ⟨amlist0, cmlist0, fmlist0, rfl, hb18, ov18, iqmlist0⟩
  have imlist0 := iqmlist0.mono (lo' := w17.heap.size + 0) (by first | omega | (simp; done) | (simp; omega)) (Nat.le_refl _)
  clear iqmlist0
  have hbb18 : Below w17.heap.size w17 w18 := hb18
  have z18 := hbb18.size
  obtain ⟨qAnw18, _, yAnw18⟩ := bcellAt hb18 (b := w.heap.size) (by first | omega | (simp; done) | (simp; omega))
  obtain ⟨qS018, _, yS018⟩ := bcellAt hb18 (b := w4.heap.size) (by first | omega | (simp; done) | (simp; omega))
  obtain ⟨qUnw18, _, yUnw18⟩ := bcellAt hb18 (b := w5.heap.size) (by first | omega | (simp; done) | (simp; omega))
  obtain ⟨qG018, _, yG018⟩ := bcellAt hb18 (b := w7.heap.size) (by first | omega | (simp; done) | (simp; omega))
  have BB18 := Lib.hid (BB17.out.trans (hbb18.mono (by omega)))
  have os00_18 := Lib.hid (os00_17.out.below is00 (by omega) hbb18)
  have os01_18 := Lib.hid (os01_17.out.below is01 (by omega) hbb18)
  have os02_18 := Lib.hid (os02_17.out.below is02 (by omega) hbb18)
  have os03_18 := Lib.hid (os03_17.out.below is03 (by omega) hbb18)
  have kog00_18 := Lib.hid (kog00_17.out.below ig00 (by omega) hbb18)
  have kog01_18 := Lib.hid (kog01_17.out.below ig01 (by omega) hbb18)
  have kog02_18 := Lib.hid (kog02_17.out.below ig02 (by omega) hbb18)
  have kog03_18 := Lib.hid (kog03_17.out.below ig03 (by omega) hbb18)
  have omnw0_18 := Lib.hid (omnw0_17.out.below imnw0 (by omega) hbb18)
  have omnw1_18 := Lib.hid (omnw1_17.out.below imnw1 (by omega) hbb18)
  have omnw2_18 := Lib.hid (omnw2_17.out.below imnw2 (by omega) hbb18)
  have omnw3_18 := Lib.hid (omnw3_17.out.below imnw3 (by omega) hbb18)
  clear hbb18
  have omlist0_18 := Lib.hid ov18
  clear ov18
  go_wp2_with fail
  refine (HI.out _ _ _ _ _ _ ((omnw0_18.out.rd imnw0).mono (by omega)) ((omnw1_18.out.rd imnw1).mono (by omega)) ((omnw2_18.out.rd imnw2).mono (by omega)) ((omnw3_18.out.rd imnw3).mono (by omega)) ((omlist0_18.out.rd imlist0).mono (by omega)) (by omega) (by omega)).mono ?_
  rintro e w19 ⟨ah00, ch00, ah01, ch01, ah02, ch02, ah03, ch03, fh0, rfl, hb19, ov19, iv19⟩
  have hbb19 : Below w18.heap.size w18 w19 := hb19
  have z19 := hbb19.size
  obtain ⟨qAnw19, _, yAnw19⟩ := bcellAt hb19 (b := w.heap.size) (by first | omega | (simp; done) | (simp; omega))
  obtain ⟨qS019, _, yS019⟩ := bcellAt hb19 (b := w4.heap.size) (by first | omega | (simp; done) | (simp; omega))
  obtain ⟨qUnw19, _, yUnw19⟩ := bcellAt hb19 (b := w5.heap.size) (by first | omega | (simp; done) | (simp; omega))
  obtain ⟨qG019, _, yG019⟩ := bcellAt hb19 (b := w7.heap.size) (by first | omega | (simp; done) | (simp; omega))
  have BB19 := Lib.hid (BB18.out.trans (hbb19.mono (by omega)))
  have os00_19 := Lib.hid (os00_18.out.below is00 (by omega) hbb19)
  have os01_19 := Lib.hid (os01_18.out.below is01 (by omega) hbb19)
  have os02_19 := Lib.hid (os02_18.out.below is02 (by omega) hbb19)
  have os03_19 := Lib.hid (os03_18.out.below is03 (by omega) hbb19)
  have kog00_19 := Lib.hid (kog00_18.out.below ig00 (by omega) hbb19)
  have kog01_19 := Lib.hid (kog01_18.out.below ig01 (by omega) hbb19)
  have kog02_19 := Lib.hid (kog02_18.out.below ig02 (by omega) hbb19)
  have kog03_19 := Lib.hid (kog03_18.out.below ig03 (by omega) hbb19)
  have omnw0_19 := Lib.hid (omnw0_18.out.below imnw0 (by omega) hbb19)
  have omnw1_19 := Lib.hid (omnw1_18.out.below imnw1 (by omega) hbb19)
  have omnw2_19 := Lib.hid (omnw2_18.out.below imnw2 (by omega) hbb19)
  have omnw3_19 := Lib.hid (omnw3_18.out.below imnw3 (by omega) hbb19)
  have omlist0_19 := Lib.hid (omlist0_18.out.below imlist0 (by omega) hbb19)
  clear hbb19
  obtain ⟨g19_0, r19_0, e19_0, p19_0, ov19_0, d19_0⟩ := OwnV.uncons ov19
  obtain ⟨g19_1, r19_1, e19_1, p19_1, ov19_1, d19_1⟩ := OwnV.uncons ov19_0
  obtain ⟨g19_2, r19_2, e19_2, p19_2, ov19_2, d19_2⟩ := OwnV.uncons ov19_1
  obtain ⟨g19_3, r19_3, e19_3, p19_3, ov19_3, d19_3⟩ := OwnV.uncons ov19_2
  have iw19 := iv19.mono (lo' := w18.heap.size + 0) (by first | omega | (simp; done) | (simp; omega)) (Nat.le_refl _)
  have hnil19 := ov19_3.rep
  change r19_3 = [] at hnil19
  subst hnil19
  subst e19_3
  subst e19_2
  subst e19_1
  subst e19_0
  have ih00 : In _ _ g19_0 := fun y hy => iw19 y (by simp [hy])
  have oh00_19 := Lib.hid p19_0
  have ih01 : In _ _ g19_1 := fun y hy => iw19 y (by simp [hy])
  have oh01_19 := Lib.hid p19_1
  have ih02 : In _ _ g19_2 := fun y hy => iw19 y (by simp [hy])
  have oh02_19 := Lib.hid p19_2
  have ih03 : In _ _ g19_3 := fun y hy => iw19 y (by simp [hy])
  have oh03_19 := Lib.hid p19_3
  have djh00_1 : ∀ y ∈ g19_0, y ∉ g19_1 := fun y hy e => d19_0 y hy (by simp [e])
  have djh00_2 : ∀ y ∈ g19_0, y ∉ g19_2 := fun y hy e => d19_0 y hy (by simp [e])
  have djh00_3 : ∀ y ∈ g19_0, y ∉ g19_3 := fun y hy e => d19_0 y hy (by simp [e])
  have djh01_2 : ∀ y ∈ g19_1, y ∉ g19_2 := fun y hy e => d19_1 y hy (by simp [e])
  have djh01_3 : ∀ y ∈ g19_1, y ∉ g19_3 := fun y hy e => d19_1 y hy (by simp [e])
  have djh02_3 : ∀ y ∈ g19_2, y ∉ g19_3 := fun y hy e => d19_2 y hy (by simp [e])
  clear p19_0 ov19_0 d19_0 p19_1 ov19_1 d19_1 p19_2 ov19_2 d19_2 p19_3 ov19_3 d19_3 ov19 iv19 iw19
  go_wp2_with fail
  refine ((eq_Network R.1 _ _ _ _ _ _ _ _ (w19.alloc (.cells #[.slice ah00 R.1.sites.length ch00, .slice ah01 R.1.sectors.length ch01, .slice ah02 R.1.antennas.length ch02, .slice ah03 R.1.radios.length ch03] 35)).heap.size _ (((oh00_19.out.below ih00 (by omega) ((Below.refl _ _).alloc (Nat.le_refl _) _)).rd ih00).mono (by first | omega | (simp; done) | (simp; omega))) (((os00_19.out.below is00 (by omega) ((Below.refl _ _).alloc (Nat.le_refl _) _)).rd is00).mono (by first | omega | (simp; done) | (simp; omega))) (((oh01_19.out.below ih01 (by omega) ((Below.refl _ _).alloc (Nat.le_refl _) _)).rd ih01).mono (by first | omega | (simp; done) | (simp; omega))) (((os01_19.out.below is01 (by omega) ((Below.refl _ _).alloc (Nat.le_refl _) _)).rd is01).mono (by first | omega | (simp; done) | (simp; omega))) (((oh02_19.out.below ih02 (by omega) ((Below.refl _ _).alloc (Nat.le_refl _) _)).rd ih02).mono (by first | omega | (simp; done) | (simp; omega))) (((os02_19.out.below is02 (by omega) ((Below.refl _ _).alloc (Nat.le_refl _) _)).rd is02).mono (by first | omega | (simp; done) | (simp; omega))) (((oh03_19.out.below ih03 (by omega) ((Below.refl _ _).alloc (Nat.le_refl _) _)).rd ih03).mono (by first | omega | (simp; done) | (simp; omega))) (((os03_19.out.below is03 (by omega) ((Below.refl _ _).alloc (Nat.le_refl _) _)).rd is03).mono (by first | omega | (simp; done) | (simp; omega))) (Nat.le_refl _) (by omega))).mono ?_
  rintro e w20 ⟨rfl, hb20⟩
  have hx20 : Below w19.heap.size w19 (w19.alloc (.cells #[.slice ah00 R.1.sites.length ch00, .slice ah01 R.1.sectors.length ch01, .slice ah02 R.1.antennas.length ch02, .slice ah03 R.1.radios.length ch03] 35)) := ((Below.refl _ _).alloc (Nat.le_refl _) _)
  have hbb20 : Below w19.heap.size w19 w20 := hx20.trans (hb20.mono (by first | (simp; done) | (simp; omega)))
  have z20 := hbb20.size
  obtain ⟨qAnw20, _, yAnw20⟩ := bcellAt hb20 (b := w.heap.size) (by first | omega | (simp; done) | (simp; omega))
  obtain ⟨qS020, _, yS020⟩ := bcellAt hb20 (b := w4.heap.size) (by first | omega | (simp; done) | (simp; omega))
  obtain ⟨qUnw20, _, yUnw20⟩ := bcellAt hb20 (b := w5.heap.size) (by first | omega | (simp; done) | (simp; omega))
  obtain ⟨qG020, _, yG020⟩ := bcellAt hb20 (b := w7.heap.size) (by first | omega | (simp; done) | (simp; omega))
  obtain ⟨qH020, _, yH020⟩ := bcellAt hb20 (b := w19.heap.size) (by first | omega | (simp; done) | (simp; omega))
  have BB20 := Lib.hid (BB19.out.trans (hbb20.mono (by omega)))
  have os00_20 := Lib.hid (os00_19.out.below is00 (by omega) hbb20)
  have os01_20 := Lib.hid (os01_19.out.below is01 (by omega) hbb20)
  have os02_20 := Lib.hid (os02_19.out.below is02 (by omega) hbb20)
  have os03_20 := Lib.hid (os03_19.out.below is03 (by omega) hbb20)
  have kog00_20 := Lib.hid (kog00_19.out.below ig00 (by omega) hbb20)
  have kog01_20 := Lib.hid (kog01_19.out.below ig01 (by omega) hbb20)
  have kog02_20 := Lib.hid (kog02_19.out.below ig02 (by omega) hbb20)
  have kog03_20 := Lib.hid (kog03_19.out.below ig03 (by omega) hbb20)
  have oh00_20 := Lib.hid (oh00_19.out.below ih00 (by omega) hbb20)
  have oh01_20 := Lib.hid (oh01_19.out.below ih01 (by omega) hbb20)
  have oh02_20 := Lib.hid (oh02_19.out.below ih02 (by omega) hbb20)
  have oh03_20 := Lib.hid (oh03_19.out.below ih03 (by omega) hbb20)
  clear hx20
  clear hb20 hbb20
  go_wp2_with fail
  refine (held_Network R.1 _ _ _ _ w20.heap.size (1) _ ((kog00_20.out.rd ig00).mono (by omega)) ((kog01_20.out.rd ig01).mono (by omega)) ((kog02_20.out.rd ig02).mono (by omega)) ((kog03_20.out.rd ig03).mono (by omega)) (Nat.le_refl _) (by omega) (by omega) (by omega)).mono ?_
  rintro e w21 ⟨rfl, hb21⟩
  have hbb21 : Below w20.heap.size w20 w21 := hb21
  have z21 := hbb21.size
  obtain ⟨qAnw21, _, yAnw21⟩ := bcellAt hb21 (b := w.heap.size) (by first | omega | (simp; done) | (simp; omega))
  obtain ⟨qS021, _, yS021⟩ := bcellAt hb21 (b := w4.heap.size) (by first | omega | (simp; done) | (simp; omega))
  obtain ⟨qUnw21, _, yUnw21⟩ := bcellAt hb21 (b := w5.heap.size) (by first | omega | (simp; done) | (simp; omega))
  obtain ⟨qG021, _, yG021⟩ := bcellAt hb21 (b := w7.heap.size) (by first | omega | (simp; done) | (simp; omega))
  obtain ⟨qH021, _, yH021⟩ := bcellAt hb21 (b := w19.heap.size) (by first | omega | (simp; done) | (simp; omega))
  have BB21 := Lib.hid (BB20.out.trans (hbb21.mono (by omega)))
  have kog00_21 := Lib.hid (kog00_20.out.below ig00 (by omega) hbb21)
  have kog01_21 := Lib.hid (kog01_20.out.below ig01 (by omega) hbb21)
  have kog02_21 := Lib.hid (kog02_20.out.below ig02 (by omega) hbb21)
  have kog03_21 := Lib.hid (kog03_20.out.below ig03 (by omega) hbb21)
  clear hbb21
  go_wp2
  go_ret
  exact ⟨rfl, BB21.out⟩
end Go.Proofs.YtppgcgopnchbcaaGreat.fnExactSetChannels
