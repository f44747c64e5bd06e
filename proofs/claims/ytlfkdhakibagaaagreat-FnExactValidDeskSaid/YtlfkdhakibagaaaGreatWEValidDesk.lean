/- The walk of the law FnExactValidDesk: it returns true. -/
import Derived.Test.YtlfkdhakibagaaaGreatPl11
import Derived.Test.YtlfkdhakibagaaaGreatHDesk
import Derived.Deep.RegionHeld3
namespace Go.Proofs.YtlfkdhakibagaaaGreat.fnExactValidDesk
open Go.RowKit
set_option linter.unusedVariables false
set_option maxHeartbeats 4000000 in
set_option maxRecDepth 100000 in
theorem walk (d : DDesk) (vd3 vd4 vd5 vd6 vd7 vd8 vd9 vd10 vd11 vd12 vd14 : Value) (w : World) (rd3 : Rd w.heap.size w (intsT d.plan.terrain.heights) vd3) (rd4 : Rd w.heap.size w (intsT d.plan.terrain.clutter) vd4) (rd5 : Rd w.heap.size w (DSite.sT d.plan.network.sites) vd5) (rd6 : Rd w.heap.size w (DSector.sT d.plan.network.sectors) vd6) (rd7 : Rd w.heap.size w (DAntenna.sT d.plan.network.antennas) vd7) (rd8 : Rd w.heap.size w (DRadio.sT d.plan.network.radios) vd8) (rd9 : Rd w.heap.size w (DBand.sT d.plan.bands) vd9) (rd10 : Rd w.heap.size w (DLicence.sT d.plan.licences) vd10) (rd11 : Rd w.heap.size w (DProtected.sT d.plan.protected_) vd11) (rd12 : Rd w.heap.size w (intssT d.plan.apart) vd12) (rd14 : Rd w.heap.size w (DRequest.sT d.requests) vd14) (hk_d : d.ok) :
    Calls Tryz.prog 5 #[.agg #[.int .i64 d.plan.terrain.step, .int .i64 d.plan.terrain.width, .int .i64 d.plan.terrain.height, vd3, vd4, vd5, vd6, vd7, vd8, vd9, vd10, vd11, vd12, .int .i64 d.plan.day, vd14]] w fun e w' => e = .returned (.bool true) ∧ Below w.heap.size w w' := by
  have Hd3 := Lib.hid rd3
  have Hd4 := Lib.hid rd4
  have Hd5 := Lib.hid rd5
  have Hd6 := Lib.hid rd6
  have Hd7 := Lib.hid rd7
  have Hd8 := Lib.hid rd8
  have Hd9 := Lib.hid rd9
  have Hd10 := Lib.hid rd10
  have Hd11 := Lib.hid rd11
  have Hd12 := Lib.hid rd12
  have Hd14 := Lib.hid rd14
  clear rd3 rd4 rd5 rd6 rd7 rd8 rd9 rd10 rd11 rd12 rd14
  have hq_d := DDesk.siz_tr d
  have BB0 : Hid (Below w.heap.size w w) := Below.refl _ _
  generalize hR : deskB d = R at *
  have HR := Lib.hid hR
  clear hR
  have HS : Hid (∀ (W : World) (xd3 xd4 xd5 xd6 xd7 xd8 xd9 xd10 xd11 xd12 xd14 : Value), Rd W.heap.size W (intsT d.plan.terrain.heights) xd3 → Rd W.heap.size W (intsT d.plan.terrain.clutter) xd4 → Rd W.heap.size W (DSite.sT d.plan.network.sites) xd5 → Rd W.heap.size W (DSector.sT d.plan.network.sectors) xd6 → Rd W.heap.size W (DAntenna.sT d.plan.network.antennas) xd7 → Rd W.heap.size W (DRadio.sT d.plan.network.radios) xd8 → Rd W.heap.size W (DBand.sT d.plan.bands) xd9 → Rd W.heap.size W (DLicence.sT d.plan.licences) xd10 → Rd W.heap.size W (DProtected.sT d.plan.protected_) xd11 → Rd W.heap.size W (intssT d.plan.apart) xd12 → Rd W.heap.size W (DRequest.sT d.requests) xd14 → sizL d.tr ≤ 1048576 → Calls Tryz.prog 18 #[.agg #[.int .i64 d.plan.terrain.step, .int .i64 d.plan.terrain.width, .int .i64 d.plan.terrain.height, xd3, xd4, xd5, xd6, xd7, xd8, xd9, xd10, xd11, xd12, .int .i64 d.plan.day, xd14]] W (fun e w' => e = .returned (.bool R) ∧ Below W.heap.size W w')) := fun W xd3 xd4 xd5 xd6 xd7 xd8 xd9 xd10 xd11 xd12 xd14 yd3 yd4 yd5 yd6 yd7 yd8 yd9 yd10 yd11 yd12 yd14 z0 => by rw [← HR.out]; exact sValidDesk_std d xd3 xd4 xd5 xd6 xd7 xd8 xd9 xd10 xd11 xd12 xd14 W yd3 yd4 yd5 yd6 yd7 yd8 yd9 yd10 yd11 yd12 yd14 z0 hk_d
  have HI : Hid (∀ (W : World) (xd3 xd4 xd5 xd6 xd7 xd8 xd9 xd10 xd11 xd12 xd14 : Value), Rd W.heap.size W (intsT d.plan.terrain.heights) xd3 → Rd W.heap.size W (intsT d.plan.terrain.clutter) xd4 → Rd W.heap.size W (DSite.sT d.plan.network.sites) xd5 → Rd W.heap.size W (DSector.sT d.plan.network.sectors) xd6 → Rd W.heap.size W (DAntenna.sT d.plan.network.antennas) xd7 → Rd W.heap.size W (DRadio.sT d.plan.network.radios) xd8 → Rd W.heap.size W (DBand.sT d.plan.bands) xd9 → Rd W.heap.size W (DLicence.sT d.plan.licences) xd10 → Rd W.heap.size W (DProtected.sT d.plan.protected_) xd11 → Rd W.heap.size W (intssT d.plan.apart) xd12 → Rd W.heap.size W (DRequest.sT d.requests) xd14 → sizL d.tr ≤ 1048576 → Calls Tryz.prog 19 #[.agg #[.int .i64 d.plan.terrain.step, .int .i64 d.plan.terrain.width, .int .i64 d.plan.terrain.height, xd3, xd4, xd5, xd6, xd7, xd8, xd9, xd10, xd11, xd12, .int .i64 d.plan.day, xd14]] W (fun e w' => e = .returned (.bool R) ∧ Below W.heap.size W w')) := fun W xd3 xd4 xd5 xd6 xd7 xd8 xd9 xd10 xd11 xd12 xd14 yd3 yd4 yd5 yd6 yd7 yd8 yd9 yd10 yd11 yd12 yd14 z0 => by rw [← HR.out]; exact iValidDesk_std d xd3 xd4 xd5 xd6 xd7 xd8 xd9 xd10 xd11 xd12 xd14 W yd3 yd4 yd5 yd6 yd7 yd8 yd9 yd10 yd11 yd12 yd14 z0 hk_d
  go_enter Tryz.func5, Tryz.ntmps5
  go_wp2_with fail
  have BX1 : Hid (Below w.heap.size w (w.alloc (.cells #[.int .i64 d.plan.terrain.step, .int .i64 d.plan.terrain.width, .int .i64 d.plan.terrain.height, vd3, vd4, vd5, vd6, vd7, vd8, vd9, vd10, vd11, vd12, .int .i64 d.plan.day, vd14] 39))) := (BB0.out.alloc (by first | omega | (simp; done) | (simp; omega)) _)
  have zx1 := BX1.out.size
  refine (sz_Desk d vd3 vd4 vd5 vd6 vd7 vd8 vd9 vd10 vd11 vd12 vd14 w.heap.size _ _ (Hd3.out.below BX1.out) (Hd4.out.below BX1.out) (Hd5.out.below BX1.out) (Hd6.out.below BX1.out) (Hd7.out.below BX1.out) (Hd8.out.below BX1.out) (Hd9.out.below BX1.out) (Hd10.out.below BX1.out) (Hd11.out.below BX1.out) (Hd12.out.below BX1.out) (Hd14.out.below BX1.out) (by omega) (by omega) (by omega) hk_d).mono ?_
  rintro e w1 ⟨⟨cz1, rfl⟩ | ⟨cz1, rfl⟩, hb1⟩
  case inr =>
    go_wp2
    go_ret
    exact ⟨rfl, BX1.out.trans (hb1.mono (by omega))⟩
  have cy1 : decide ((1048576 : Int) - sizL d.tr < 0) = false := by simp; omega
  have hx1 : Below w.heap.size w (w.alloc (.cells #[.int .i64 d.plan.terrain.step, .int .i64 d.plan.terrain.width, .int .i64 d.plan.terrain.height, vd3, vd4, vd5, vd6, vd7, vd8, vd9, vd10, vd11, vd12, .int .i64 d.plan.day, vd14] 39)) := ((Below.refl _ _).alloc (Nat.le_refl _) _)
  have hbb1 : Below w.heap.size w w1 := hx1.trans (hb1.mono (by first | (simp; done) | (simp; omega)))
  have z1 := hbb1.size
  obtain ⟨qAd1, _, yAd1⟩ := bcellAt hb1 (b := w.heap.size) (by first | omega | (simp; done) | (simp; omega))
  have BB1 := Lib.hid (BB0.out.trans (hbb1.mono (by omega)))
  clear hx1
  clear hb1 hbb1
  have CZ1 := Lib.hid cy1
  go_wp2_with fail
  have BX2 : Hid (Below w.heap.size w w1) := BB1.out
  have zx2 := BX2.out.size
  refine (to_Desk d _ _ _ _ _ _ _ _ _ _ _ _ ((Hd3.out.below BX2.out).mono zx2) ((Hd4.out.below BX2.out).mono zx2) ((Hd5.out.below BX2.out).mono zx2) ((Hd6.out.below BX2.out).mono zx2) ((Hd7.out.below BX2.out).mono zx2) ((Hd8.out.below BX2.out).mono zx2) ((Hd9.out.below BX2.out).mono zx2) ((Hd10.out.below BX2.out).mono zx2) ((Hd11.out.below BX2.out).mono zx2) ((Hd12.out.below BX2.out).mono zx2) ((Hd14.out.below BX2.out).mono zx2) (by omega)).mono ?_
  rintro e w2 ⟨atd3, ctd3, atd4, ctd4, atd5, ctd5, atd6, ctd6, atd7, ctd7, atd8, ctd8, atd9, ctd9, atd10, ctd10, atd11, ctd11, atd12, ctd12, atd14, ctd14, ftd, rfl, hb2, ov2, iv2⟩
  have hbb2 : Below w1.heap.size w1 w2 := hb2
  have z2 := hbb2.size
  obtain ⟨qAd2, _, yAd2⟩ := bcellAt hb2 (b := w.heap.size) (by first | omega | (simp; done) | (simp; omega))
  have BB2 := Lib.hid (BB1.out.trans (hbb2.mono (by omega)))
  clear hbb2
  obtain ⟨g2_0, r2_0, e2_0, p2_0, ov2_0, d2_0⟩ := OwnV.uncons ov2
  obtain ⟨_, hz2_0⟩ := Rep_lit.1 p2_0.rep
  subst hz2_0
  obtain ⟨g2_1, r2_1, e2_1, p2_1, ov2_1, d2_1⟩ := OwnV.uncons ov2_0
  obtain ⟨_, hz2_1⟩ := Rep_lit.1 p2_1.rep
  subst hz2_1
  obtain ⟨g2_2, r2_2, e2_2, p2_2, ov2_2, d2_2⟩ := OwnV.uncons ov2_1
  obtain ⟨_, hz2_2⟩ := Rep_lit.1 p2_2.rep
  subst hz2_2
  obtain ⟨g2_3, r2_3, e2_3, p2_3, ov2_3, d2_3⟩ := OwnV.uncons ov2_2
  obtain ⟨g2_4, r2_4, e2_4, p2_4, ov2_4, d2_4⟩ := OwnV.uncons ov2_3
  obtain ⟨g2_5, r2_5, e2_5, p2_5, ov2_5, d2_5⟩ := OwnV.uncons ov2_4
  obtain ⟨g2_6, r2_6, e2_6, p2_6, ov2_6, d2_6⟩ := OwnV.uncons ov2_5
  obtain ⟨g2_7, r2_7, e2_7, p2_7, ov2_7, d2_7⟩ := OwnV.uncons ov2_6
  obtain ⟨g2_8, r2_8, e2_8, p2_8, ov2_8, d2_8⟩ := OwnV.uncons ov2_7
  obtain ⟨g2_9, r2_9, e2_9, p2_9, ov2_9, d2_9⟩ := OwnV.uncons ov2_8
  obtain ⟨g2_10, r2_10, e2_10, p2_10, ov2_10, d2_10⟩ := OwnV.uncons ov2_9
  obtain ⟨g2_11, r2_11, e2_11, p2_11, ov2_11, d2_11⟩ := OwnV.uncons ov2_10
  obtain ⟨g2_12, r2_12, e2_12, p2_12, ov2_12, d2_12⟩ := OwnV.uncons ov2_11
  obtain ⟨g2_13, r2_13, e2_13, p2_13, ov2_13, d2_13⟩ := OwnV.uncons ov2_12
  obtain ⟨_, hz2_13⟩ := Rep_lit.1 p2_13.rep
  subst hz2_13
  obtain ⟨g2_14, r2_14, e2_14, p2_14, ov2_14, d2_14⟩ := OwnV.uncons ov2_13
  have iw2 := iv2.mono (lo' := w1.heap.size + 0) (by first | omega | (simp; done) | (simp; omega)) (Nat.le_refl _)
  have hnil2 := ov2_14.rep
  change r2_14 = [] at hnil2
  subst hnil2
  subst e2_14
  subst e2_13
  subst e2_12
  subst e2_11
  subst e2_10
  subst e2_9
  subst e2_8
  subst e2_7
  subst e2_6
  subst e2_5
  subst e2_4
  subst e2_3
  subst e2_2
  subst e2_1
  subst e2_0
  have itd3 : In _ _ g2_3 := fun y hy => iw2 y (by simp [hy])
  have otd3_2 := Lib.hid p2_3
  have itd4 : In _ _ g2_4 := fun y hy => iw2 y (by simp [hy])
  have otd4_2 := Lib.hid p2_4
  have itd5 : In _ _ g2_5 := fun y hy => iw2 y (by simp [hy])
  have otd5_2 := Lib.hid p2_5
  have itd6 : In _ _ g2_6 := fun y hy => iw2 y (by simp [hy])
  have otd6_2 := Lib.hid p2_6
  have itd7 : In _ _ g2_7 := fun y hy => iw2 y (by simp [hy])
  have otd7_2 := Lib.hid p2_7
  have itd8 : In _ _ g2_8 := fun y hy => iw2 y (by simp [hy])
  have otd8_2 := Lib.hid p2_8
  have itd9 : In _ _ g2_9 := fun y hy => iw2 y (by simp [hy])
  have otd9_2 := Lib.hid p2_9
  have itd10 : In _ _ g2_10 := fun y hy => iw2 y (by simp [hy])
  have otd10_2 := Lib.hid p2_10
  have itd11 : In _ _ g2_11 := fun y hy => iw2 y (by simp [hy])
  have otd11_2 := Lib.hid p2_11
  have itd12 : In _ _ g2_12 := fun y hy => iw2 y (by simp [hy])
  have otd12_2 := Lib.hid p2_12
  have itd14 : In _ _ g2_14 := fun y hy => iw2 y (by simp [hy])
  have otd14_2 := Lib.hid p2_14
  have djtd3_4 : ∀ y ∈ g2_3, y ∉ g2_4 := fun y hy e => d2_3 y hy (by simp [e])
  have djtd3_5 : ∀ y ∈ g2_3, y ∉ g2_5 := fun y hy e => d2_3 y hy (by simp [e])
  have djtd3_6 : ∀ y ∈ g2_3, y ∉ g2_6 := fun y hy e => d2_3 y hy (by simp [e])
  have djtd3_7 : ∀ y ∈ g2_3, y ∉ g2_7 := fun y hy e => d2_3 y hy (by simp [e])
  have djtd3_8 : ∀ y ∈ g2_3, y ∉ g2_8 := fun y hy e => d2_3 y hy (by simp [e])
  have djtd3_9 : ∀ y ∈ g2_3, y ∉ g2_9 := fun y hy e => d2_3 y hy (by simp [e])
  have djtd3_10 : ∀ y ∈ g2_3, y ∉ g2_10 := fun y hy e => d2_3 y hy (by simp [e])
  have djtd3_11 : ∀ y ∈ g2_3, y ∉ g2_11 := fun y hy e => d2_3 y hy (by simp [e])
  have djtd3_12 : ∀ y ∈ g2_3, y ∉ g2_12 := fun y hy e => d2_3 y hy (by simp [e])
  have djtd3_14 : ∀ y ∈ g2_3, y ∉ g2_14 := fun y hy e => d2_3 y hy (by simp [e])
  have djtd4_5 : ∀ y ∈ g2_4, y ∉ g2_5 := fun y hy e => d2_4 y hy (by simp [e])
  have djtd4_6 : ∀ y ∈ g2_4, y ∉ g2_6 := fun y hy e => d2_4 y hy (by simp [e])
  have djtd4_7 : ∀ y ∈ g2_4, y ∉ g2_7 := fun y hy e => d2_4 y hy (by simp [e])
  have djtd4_8 : ∀ y ∈ g2_4, y ∉ g2_8 := fun y hy e => d2_4 y hy (by simp [e])
  have djtd4_9 : ∀ y ∈ g2_4, y ∉ g2_9 := fun y hy e => d2_4 y hy (by simp [e])
  have djtd4_10 : ∀ y ∈ g2_4, y ∉ g2_10 := fun y hy e => d2_4 y hy (by simp [e])
  have djtd4_11 : ∀ y ∈ g2_4, y ∉ g2_11 := fun y hy e => d2_4 y hy (by simp [e])
  have djtd4_12 : ∀ y ∈ g2_4, y ∉ g2_12 := fun y hy e => d2_4 y hy (by simp [e])
  have djtd4_14 : ∀ y ∈ g2_4, y ∉ g2_14 := fun y hy e => d2_4 y hy (by simp [e])
  have djtd5_6 : ∀ y ∈ g2_5, y ∉ g2_6 := fun y hy e => d2_5 y hy (by simp [e])
  have djtd5_7 : ∀ y ∈ g2_5, y ∉ g2_7 := fun y hy e => d2_5 y hy (by simp [e])
  have djtd5_8 : ∀ y ∈ g2_5, y ∉ g2_8 := fun y hy e => d2_5 y hy (by simp [e])
  have djtd5_9 : ∀ y ∈ g2_5, y ∉ g2_9 := fun y hy e => d2_5 y hy (by simp [e])
  have djtd5_10 : ∀ y ∈ g2_5, y ∉ g2_10 := fun y hy e => d2_5 y hy (by simp [e])
  have djtd5_11 : ∀ y ∈ g2_5, y ∉ g2_11 := fun y hy e => d2_5 y hy (by simp [e])
  have djtd5_12 : ∀ y ∈ g2_5, y ∉ g2_12 := fun y hy e => d2_5 y hy (by simp [e])
  have djtd5_14 : ∀ y ∈ g2_5, y ∉ g2_14 := fun y hy e => d2_5 y hy (by simp [e])
  have djtd6_7 : ∀ y ∈ g2_6, y ∉ g2_7 := fun y hy e => d2_6 y hy (by simp [e])
  have djtd6_8 : ∀ y ∈ g2_6, y ∉ g2_8 := fun y hy e => d2_6 y hy (by simp [e])
  have djtd6_9 : ∀ y ∈ g2_6, y ∉ g2_9 := fun y hy e => d2_6 y hy (by simp [e])
  have djtd6_10 : ∀ y ∈ g2_6, y ∉ g2_10 := fun y hy e => d2_6 y hy (by simp [e])
  have djtd6_11 : ∀ y ∈ g2_6, y ∉ g2_11 := fun y hy e => d2_6 y hy (by simp [e])
  have djtd6_12 : ∀ y ∈ g2_6, y ∉ g2_12 := fun y hy e => d2_6 y hy (by simp [e])
  have djtd6_14 : ∀ y ∈ g2_6, y ∉ g2_14 := fun y hy e => d2_6 y hy (by simp [e])
  have djtd7_8 : ∀ y ∈ g2_7, y ∉ g2_8 := fun y hy e => d2_7 y hy (by simp [e])
  have djtd7_9 : ∀ y ∈ g2_7, y ∉ g2_9 := fun y hy e => d2_7 y hy (by simp [e])
  have djtd7_10 : ∀ y ∈ g2_7, y ∉ g2_10 := fun y hy e => d2_7 y hy (by simp [e])
  have djtd7_11 : ∀ y ∈ g2_7, y ∉ g2_11 := fun y hy e => d2_7 y hy (by simp [e])
  have djtd7_12 : ∀ y ∈ g2_7, y ∉ g2_12 := fun y hy e => d2_7 y hy (by simp [e])
  have djtd7_14 : ∀ y ∈ g2_7, y ∉ g2_14 := fun y hy e => d2_7 y hy (by simp [e])
  have djtd8_9 : ∀ y ∈ g2_8, y ∉ g2_9 := fun y hy e => d2_8 y hy (by simp [e])
  have djtd8_10 : ∀ y ∈ g2_8, y ∉ g2_10 := fun y hy e => d2_8 y hy (by simp [e])
  have djtd8_11 : ∀ y ∈ g2_8, y ∉ g2_11 := fun y hy e => d2_8 y hy (by simp [e])
  have djtd8_12 : ∀ y ∈ g2_8, y ∉ g2_12 := fun y hy e => d2_8 y hy (by simp [e])
  have djtd8_14 : ∀ y ∈ g2_8, y ∉ g2_14 := fun y hy e => d2_8 y hy (by simp [e])
  have djtd9_10 : ∀ y ∈ g2_9, y ∉ g2_10 := fun y hy e => d2_9 y hy (by simp [e])
  have djtd9_11 : ∀ y ∈ g2_9, y ∉ g2_11 := fun y hy e => d2_9 y hy (by simp [e])
  have djtd9_12 : ∀ y ∈ g2_9, y ∉ g2_12 := fun y hy e => d2_9 y hy (by simp [e])
  have djtd9_14 : ∀ y ∈ g2_9, y ∉ g2_14 := fun y hy e => d2_9 y hy (by simp [e])
  have djtd10_11 : ∀ y ∈ g2_10, y ∉ g2_11 := fun y hy e => d2_10 y hy (by simp [e])
  have djtd10_12 : ∀ y ∈ g2_10, y ∉ g2_12 := fun y hy e => d2_10 y hy (by simp [e])
  have djtd10_14 : ∀ y ∈ g2_10, y ∉ g2_14 := fun y hy e => d2_10 y hy (by simp [e])
  have djtd11_12 : ∀ y ∈ g2_11, y ∉ g2_12 := fun y hy e => d2_11 y hy (by simp [e])
  have djtd11_14 : ∀ y ∈ g2_11, y ∉ g2_14 := fun y hy e => d2_11 y hy (by simp [e])
  have djtd12_14 : ∀ y ∈ g2_12, y ∉ g2_14 := fun y hy e => d2_12 y hy (by simp [e])
  clear p2_0 ov2_0 d2_0 p2_1 ov2_1 d2_1 p2_2 ov2_2 d2_2 p2_3 ov2_3 d2_3 p2_4 ov2_4 d2_4 p2_5 ov2_5 d2_5 p2_6 ov2_6 d2_6 p2_7 ov2_7 d2_7 p2_8 ov2_8 d2_8 p2_9 ov2_9 d2_9 p2_10 ov2_10 d2_10 p2_11 ov2_11 d2_11 p2_12 ov2_12 d2_12 p2_13 ov2_13 d2_13 p2_14 ov2_14 d2_14 ov2 iv2 iw2
  go_wp2_with fail
  refine (HS.out _ _ _ _ _ _ _ _ _ _ _ _ ((otd3_2.out.rd itd3).mono (by omega)) ((otd4_2.out.rd itd4).mono (by omega)) ((otd5_2.out.rd itd5).mono (by omega)) ((otd6_2.out.rd itd6).mono (by omega)) ((otd7_2.out.rd itd7).mono (by omega)) ((otd8_2.out.rd itd8).mono (by omega)) ((otd9_2.out.rd itd9).mono (by omega)) ((otd10_2.out.rd itd10).mono (by omega)) ((otd11_2.out.rd itd11).mono (by omega)) ((otd12_2.out.rd itd12).mono (by omega)) ((otd14_2.out.rd itd14).mono (by omega)) (by omega)).mono ?_
  rintro e w3 ⟨rfl, hb3⟩
  have hbb3 : Below w2.heap.size w2 w3 := hb3
  have z3 := hbb3.size
  obtain ⟨qAd3, _, yAd3⟩ := bcellAt hb3 (b := w.heap.size) (by first | omega | (simp; done) | (simp; omega))
  have BB3 := Lib.hid (BB2.out.trans (hbb3.mono (by omega)))
  have otd3_3 := Lib.hid (otd3_2.out.below itd3 (by omega) hbb3)
  have otd4_3 := Lib.hid (otd4_2.out.below itd4 (by omega) hbb3)
  have otd5_3 := Lib.hid (otd5_2.out.below itd5 (by omega) hbb3)
  have otd6_3 := Lib.hid (otd6_2.out.below itd6 (by omega) hbb3)
  have otd7_3 := Lib.hid (otd7_2.out.below itd7 (by omega) hbb3)
  have otd8_3 := Lib.hid (otd8_2.out.below itd8 (by omega) hbb3)
  have otd9_3 := Lib.hid (otd9_2.out.below itd9 (by omega) hbb3)
  have otd10_3 := Lib.hid (otd10_2.out.below itd10 (by omega) hbb3)
  have otd11_3 := Lib.hid (otd11_2.out.below itd11 (by omega) hbb3)
  have otd12_3 := Lib.hid (otd12_2.out.below itd12 (by omega) hbb3)
  have otd14_3 := Lib.hid (otd14_2.out.below itd14 (by omega) hbb3)
  clear hbb3
  go_wp2_with fail
  have BX4 : Hid (Below w.heap.size w w3) := BB3.out
  have zx4 := BX4.out.size
  refine (to_Desk d _ _ _ _ _ _ _ _ _ _ _ _ ((Hd3.out.below BX4.out).mono zx4) ((Hd4.out.below BX4.out).mono zx4) ((Hd5.out.below BX4.out).mono zx4) ((Hd6.out.below BX4.out).mono zx4) ((Hd7.out.below BX4.out).mono zx4) ((Hd8.out.below BX4.out).mono zx4) ((Hd9.out.below BX4.out).mono zx4) ((Hd10.out.below BX4.out).mono zx4) ((Hd11.out.below BX4.out).mono zx4) ((Hd12.out.below BX4.out).mono zx4) ((Hd14.out.below BX4.out).mono zx4) (by omega)).mono ?_
  rintro e w4 ⟨aud3, cud3, aud4, cud4, aud5, cud5, aud6, cud6, aud7, cud7, aud8, cud8, aud9, cud9, aud10, cud10, aud11, cud11, aud12, cud12, aud14, cud14, fud, rfl, hb4, ov4, iv4⟩
  have hbb4 : Below w3.heap.size w3 w4 := hb4
  have z4 := hbb4.size
  obtain ⟨qAd4, _, yAd4⟩ := bcellAt hb4 (b := w.heap.size) (by first | omega | (simp; done) | (simp; omega))
  have BB4 := Lib.hid (BB3.out.trans (hbb4.mono (by omega)))
  clear hbb4
  obtain ⟨g4_0, r4_0, e4_0, p4_0, ov4_0, d4_0⟩ := OwnV.uncons ov4
  obtain ⟨_, hz4_0⟩ := Rep_lit.1 p4_0.rep
  subst hz4_0
  obtain ⟨g4_1, r4_1, e4_1, p4_1, ov4_1, d4_1⟩ := OwnV.uncons ov4_0
  obtain ⟨_, hz4_1⟩ := Rep_lit.1 p4_1.rep
  subst hz4_1
  obtain ⟨g4_2, r4_2, e4_2, p4_2, ov4_2, d4_2⟩ := OwnV.uncons ov4_1
  obtain ⟨_, hz4_2⟩ := Rep_lit.1 p4_2.rep
  subst hz4_2
  obtain ⟨g4_3, r4_3, e4_3, p4_3, ov4_3, d4_3⟩ := OwnV.uncons ov4_2
  obtain ⟨g4_4, r4_4, e4_4, p4_4, ov4_4, d4_4⟩ := OwnV.uncons ov4_3
  obtain ⟨g4_5, r4_5, e4_5, p4_5, ov4_5, d4_5⟩ := OwnV.uncons ov4_4
  obtain ⟨g4_6, r4_6, e4_6, p4_6, ov4_6, d4_6⟩ := OwnV.uncons ov4_5
  obtain ⟨g4_7, r4_7, e4_7, p4_7, ov4_7, d4_7⟩ := OwnV.uncons ov4_6
  obtain ⟨g4_8, r4_8, e4_8, p4_8, ov4_8, d4_8⟩ := OwnV.uncons ov4_7
  obtain ⟨g4_9, r4_9, e4_9, p4_9, ov4_9, d4_9⟩ := OwnV.uncons ov4_8
  obtain ⟨g4_10, r4_10, e4_10, p4_10, ov4_10, d4_10⟩ := OwnV.uncons ov4_9
  obtain ⟨g4_11, r4_11, e4_11, p4_11, ov4_11, d4_11⟩ := OwnV.uncons ov4_10
  obtain ⟨g4_12, r4_12, e4_12, p4_12, ov4_12, d4_12⟩ := OwnV.uncons ov4_11
  obtain ⟨g4_13, r4_13, e4_13, p4_13, ov4_13, d4_13⟩ := OwnV.uncons ov4_12
  obtain ⟨_, hz4_13⟩ := Rep_lit.1 p4_13.rep
  subst hz4_13
  obtain ⟨g4_14, r4_14, e4_14, p4_14, ov4_14, d4_14⟩ := OwnV.uncons ov4_13
  have iw4 := iv4.mono (lo' := w3.heap.size + 0) (by first | omega | (simp; done) | (simp; omega)) (Nat.le_refl _)
  have hnil4 := ov4_14.rep
  change r4_14 = [] at hnil4
  subst hnil4
  subst e4_14
  subst e4_13
  subst e4_12
  subst e4_11
  subst e4_10
  subst e4_9
  subst e4_8
  subst e4_7
  subst e4_6
  subst e4_5
  subst e4_4
  subst e4_3
  subst e4_2
  subst e4_1
  subst e4_0
  have iud3 : In _ _ g4_3 := fun y hy => iw4 y (by simp [hy])
  have oud3_4 := Lib.hid p4_3
  have iud4 : In _ _ g4_4 := fun y hy => iw4 y (by simp [hy])
  have oud4_4 := Lib.hid p4_4
  have iud5 : In _ _ g4_5 := fun y hy => iw4 y (by simp [hy])
  have oud5_4 := Lib.hid p4_5
  have iud6 : In _ _ g4_6 := fun y hy => iw4 y (by simp [hy])
  have oud6_4 := Lib.hid p4_6
  have iud7 : In _ _ g4_7 := fun y hy => iw4 y (by simp [hy])
  have oud7_4 := Lib.hid p4_7
  have iud8 : In _ _ g4_8 := fun y hy => iw4 y (by simp [hy])
  have oud8_4 := Lib.hid p4_8
  have iud9 : In _ _ g4_9 := fun y hy => iw4 y (by simp [hy])
  have oud9_4 := Lib.hid p4_9
  have iud10 : In _ _ g4_10 := fun y hy => iw4 y (by simp [hy])
  have oud10_4 := Lib.hid p4_10
  have iud11 : In _ _ g4_11 := fun y hy => iw4 y (by simp [hy])
  have oud11_4 := Lib.hid p4_11
  have iud12 : In _ _ g4_12 := fun y hy => iw4 y (by simp [hy])
  have oud12_4 := Lib.hid p4_12
  have iud14 : In _ _ g4_14 := fun y hy => iw4 y (by simp [hy])
  have oud14_4 := Lib.hid p4_14
  have djud3_4 : ∀ y ∈ g4_3, y ∉ g4_4 := fun y hy e => d4_3 y hy (by simp [e])
  have djud3_5 : ∀ y ∈ g4_3, y ∉ g4_5 := fun y hy e => d4_3 y hy (by simp [e])
  have djud3_6 : ∀ y ∈ g4_3, y ∉ g4_6 := fun y hy e => d4_3 y hy (by simp [e])
  have djud3_7 : ∀ y ∈ g4_3, y ∉ g4_7 := fun y hy e => d4_3 y hy (by simp [e])
  have djud3_8 : ∀ y ∈ g4_3, y ∉ g4_8 := fun y hy e => d4_3 y hy (by simp [e])
  have djud3_9 : ∀ y ∈ g4_3, y ∉ g4_9 := fun y hy e => d4_3 y hy (by simp [e])
  have djud3_10 : ∀ y ∈ g4_3, y ∉ g4_10 := fun y hy e => d4_3 y hy (by simp [e])
  have djud3_11 : ∀ y ∈ g4_3, y ∉ g4_11 := fun y hy e => d4_3 y hy (by simp [e])
  have djud3_12 : ∀ y ∈ g4_3, y ∉ g4_12 := fun y hy e => d4_3 y hy (by simp [e])
  have djud3_14 : ∀ y ∈ g4_3, y ∉ g4_14 := fun y hy e => d4_3 y hy (by simp [e])
  have djud4_5 : ∀ y ∈ g4_4, y ∉ g4_5 := fun y hy e => d4_4 y hy (by simp [e])
  have djud4_6 : ∀ y ∈ g4_4, y ∉ g4_6 := fun y hy e => d4_4 y hy (by simp [e])
  have djud4_7 : ∀ y ∈ g4_4, y ∉ g4_7 := fun y hy e => d4_4 y hy (by simp [e])
  have djud4_8 : ∀ y ∈ g4_4, y ∉ g4_8 := fun y hy e => d4_4 y hy (by simp [e])
  have djud4_9 : ∀ y ∈ g4_4, y ∉ g4_9 := fun y hy e => d4_4 y hy (by simp [e])
  have djud4_10 : ∀ y ∈ g4_4, y ∉ g4_10 := fun y hy e => d4_4 y hy (by simp [e])
  have djud4_11 : ∀ y ∈ g4_4, y ∉ g4_11 := fun y hy e => d4_4 y hy (by simp [e])
  have djud4_12 : ∀ y ∈ g4_4, y ∉ g4_12 := fun y hy e => d4_4 y hy (by simp [e])
  have djud4_14 : ∀ y ∈ g4_4, y ∉ g4_14 := fun y hy e => d4_4 y hy (by simp [e])
  have djud5_6 : ∀ y ∈ g4_5, y ∉ g4_6 := fun y hy e => d4_5 y hy (by simp [e])
  have djud5_7 : ∀ y ∈ g4_5, y ∉ g4_7 := fun y hy e => d4_5 y hy (by simp [e])
  have djud5_8 : ∀ y ∈ g4_5, y ∉ g4_8 := fun y hy e => d4_5 y hy (by simp [e])
  have djud5_9 : ∀ y ∈ g4_5, y ∉ g4_9 := fun y hy e => d4_5 y hy (by simp [e])
  have djud5_10 : ∀ y ∈ g4_5, y ∉ g4_10 := fun y hy e => d4_5 y hy (by simp [e])
  have djud5_11 : ∀ y ∈ g4_5, y ∉ g4_11 := fun y hy e => d4_5 y hy (by simp [e])
  have djud5_12 : ∀ y ∈ g4_5, y ∉ g4_12 := fun y hy e => d4_5 y hy (by simp [e])
  have djud5_14 : ∀ y ∈ g4_5, y ∉ g4_14 := fun y hy e => d4_5 y hy (by simp [e])
  have djud6_7 : ∀ y ∈ g4_6, y ∉ g4_7 := fun y hy e => d4_6 y hy (by simp [e])
  have djud6_8 : ∀ y ∈ g4_6, y ∉ g4_8 := fun y hy e => d4_6 y hy (by simp [e])
  have djud6_9 : ∀ y ∈ g4_6, y ∉ g4_9 := fun y hy e => d4_6 y hy (by simp [e])
  have djud6_10 : ∀ y ∈ g4_6, y ∉ g4_10 := fun y hy e => d4_6 y hy (by simp [e])
  have djud6_11 : ∀ y ∈ g4_6, y ∉ g4_11 := fun y hy e => d4_6 y hy (by simp [e])
  have djud6_12 : ∀ y ∈ g4_6, y ∉ g4_12 := fun y hy e => d4_6 y hy (by simp [e])
  have djud6_14 : ∀ y ∈ g4_6, y ∉ g4_14 := fun y hy e => d4_6 y hy (by simp [e])
  have djud7_8 : ∀ y ∈ g4_7, y ∉ g4_8 := fun y hy e => d4_7 y hy (by simp [e])
  have djud7_9 : ∀ y ∈ g4_7, y ∉ g4_9 := fun y hy e => d4_7 y hy (by simp [e])
  have djud7_10 : ∀ y ∈ g4_7, y ∉ g4_10 := fun y hy e => d4_7 y hy (by simp [e])
  have djud7_11 : ∀ y ∈ g4_7, y ∉ g4_11 := fun y hy e => d4_7 y hy (by simp [e])
  have djud7_12 : ∀ y ∈ g4_7, y ∉ g4_12 := fun y hy e => d4_7 y hy (by simp [e])
  have djud7_14 : ∀ y ∈ g4_7, y ∉ g4_14 := fun y hy e => d4_7 y hy (by simp [e])
  have djud8_9 : ∀ y ∈ g4_8, y ∉ g4_9 := fun y hy e => d4_8 y hy (by simp [e])
  have djud8_10 : ∀ y ∈ g4_8, y ∉ g4_10 := fun y hy e => d4_8 y hy (by simp [e])
  have djud8_11 : ∀ y ∈ g4_8, y ∉ g4_11 := fun y hy e => d4_8 y hy (by simp [e])
  have djud8_12 : ∀ y ∈ g4_8, y ∉ g4_12 := fun y hy e => d4_8 y hy (by simp [e])
  have djud8_14 : ∀ y ∈ g4_8, y ∉ g4_14 := fun y hy e => d4_8 y hy (by simp [e])
  have djud9_10 : ∀ y ∈ g4_9, y ∉ g4_10 := fun y hy e => d4_9 y hy (by simp [e])
  have djud9_11 : ∀ y ∈ g4_9, y ∉ g4_11 := fun y hy e => d4_9 y hy (by simp [e])
  have djud9_12 : ∀ y ∈ g4_9, y ∉ g4_12 := fun y hy e => d4_9 y hy (by simp [e])
  have djud9_14 : ∀ y ∈ g4_9, y ∉ g4_14 := fun y hy e => d4_9 y hy (by simp [e])
  have djud10_11 : ∀ y ∈ g4_10, y ∉ g4_11 := fun y hy e => d4_10 y hy (by simp [e])
  have djud10_12 : ∀ y ∈ g4_10, y ∉ g4_12 := fun y hy e => d4_10 y hy (by simp [e])
  have djud10_14 : ∀ y ∈ g4_10, y ∉ g4_14 := fun y hy e => d4_10 y hy (by simp [e])
  have djud11_12 : ∀ y ∈ g4_11, y ∉ g4_12 := fun y hy e => d4_11 y hy (by simp [e])
  have djud11_14 : ∀ y ∈ g4_11, y ∉ g4_14 := fun y hy e => d4_11 y hy (by simp [e])
  have djud12_14 : ∀ y ∈ g4_12, y ∉ g4_14 := fun y hy e => d4_12 y hy (by simp [e])
  clear p4_0 ov4_0 d4_0 p4_1 ov4_1 d4_1 p4_2 ov4_2 d4_2 p4_3 ov4_3 d4_3 p4_4 ov4_4 d4_4 p4_5 ov4_5 d4_5 p4_6 ov4_6 d4_6 p4_7 ov4_7 d4_7 p4_8 ov4_8 d4_8 p4_9 ov4_9 d4_9 p4_10 ov4_10 d4_10 p4_11 ov4_11 d4_11 p4_12 ov4_12 d4_12 p4_13 ov4_13 d4_13 p4_14 ov4_14 d4_14 ov4 iv4 iw4
  go_wp2_with fail
  refine (HI.out _ _ _ _ _ _ _ _ _ _ _ _ (((oud3_4.out.below iud3 (by omega) ((Below.refl _ _).alloc (Nat.le_refl _) _)).rd iud3).mono (by first | omega | (simp; done) | (simp; omega))) (((oud4_4.out.below iud4 (by omega) ((Below.refl _ _).alloc (Nat.le_refl _) _)).rd iud4).mono (by first | omega | (simp; done) | (simp; omega))) (((oud5_4.out.below iud5 (by omega) ((Below.refl _ _).alloc (Nat.le_refl _) _)).rd iud5).mono (by first | omega | (simp; done) | (simp; omega))) (((oud6_4.out.below iud6 (by omega) ((Below.refl _ _).alloc (Nat.le_refl _) _)).rd iud6).mono (by first | omega | (simp; done) | (simp; omega))) (((oud7_4.out.below iud7 (by omega) ((Below.refl _ _).alloc (Nat.le_refl _) _)).rd iud7).mono (by first | omega | (simp; done) | (simp; omega))) (((oud8_4.out.below iud8 (by omega) ((Below.refl _ _).alloc (Nat.le_refl _) _)).rd iud8).mono (by first | omega | (simp; done) | (simp; omega))) (((oud9_4.out.below iud9 (by omega) ((Below.refl _ _).alloc (Nat.le_refl _) _)).rd iud9).mono (by first | omega | (simp; done) | (simp; omega))) (((oud10_4.out.below iud10 (by omega) ((Below.refl _ _).alloc (Nat.le_refl _) _)).rd iud10).mono (by first | omega | (simp; done) | (simp; omega))) (((oud11_4.out.below iud11 (by omega) ((Below.refl _ _).alloc (Nat.le_refl _) _)).rd iud11).mono (by first | omega | (simp; done) | (simp; omega))) (((oud12_4.out.below iud12 (by omega) ((Below.refl _ _).alloc (Nat.le_refl _) _)).rd iud12).mono (by first | omega | (simp; done) | (simp; omega))) (((oud14_4.out.below iud14 (by omega) ((Below.refl _ _).alloc (Nat.le_refl _) _)).rd iud14).mono (by first | omega | (simp; done) | (simp; omega))) (by omega)).mono ?_
  rintro e w5 ⟨rfl, hb5⟩
  have hx5 : Below w4.heap.size w4 (w4.alloc (.cells #[.int .i64 d.plan.terrain.step, .int .i64 d.plan.terrain.width, .int .i64 d.plan.terrain.height, .slice aud3 d.plan.terrain.heights.length cud3, .slice aud4 d.plan.terrain.clutter.length cud4, .slice aud5 d.plan.network.sites.length cud5, .slice aud6 d.plan.network.sectors.length cud6, .slice aud7 d.plan.network.antennas.length cud7, .slice aud8 d.plan.network.radios.length cud8, .slice aud9 d.plan.bands.length cud9, .slice aud10 d.plan.licences.length cud10, .slice aud11 d.plan.protected_.length cud11, .slice aud12 d.plan.apart.length cud12, .int .i64 d.plan.day, .slice aud14 d.requests.length cud14] 56)) := ((Below.refl _ _).alloc (Nat.le_refl _) _)
  have hbb5 : Below w4.heap.size w4 w5 := hx5.trans (hb5.mono (by first | (simp; done) | (simp; omega)))
  have z5 := hbb5.size
  obtain ⟨qAd5, _, yAd5⟩ := bcellAt hb5 (b := w.heap.size) (by first | omega | (simp; done) | (simp; omega))
  obtain ⟨qUd5, _, yUd5⟩ := bcellAt hb5 (b := w4.heap.size) (by first | omega | (simp; done) | (simp; omega))
  have BB5 := Lib.hid (BB4.out.trans (hbb5.mono (by omega)))
  have oud3_5 := Lib.hid (oud3_4.out.below iud3 (by omega) hbb5)
  have oud4_5 := Lib.hid (oud4_4.out.below iud4 (by omega) hbb5)
  have oud5_5 := Lib.hid (oud5_4.out.below iud5 (by omega) hbb5)
  have oud6_5 := Lib.hid (oud6_4.out.below iud6 (by omega) hbb5)
  have oud7_5 := Lib.hid (oud7_4.out.below iud7 (by omega) hbb5)
  have oud8_5 := Lib.hid (oud8_4.out.below iud8 (by omega) hbb5)
  have oud9_5 := Lib.hid (oud9_4.out.below iud9 (by omega) hbb5)
  have oud10_5 := Lib.hid (oud10_4.out.below iud10 (by omega) hbb5)
  have oud11_5 := Lib.hid (oud11_4.out.below iud11 (by omega) hbb5)
  have oud12_5 := Lib.hid (oud12_4.out.below iud12 (by omega) hbb5)
  have oud14_5 := Lib.hid (oud14_4.out.below iud14 (by omega) hbb5)
  clear hx5
  clear hb5 hbb5
  clear cy1
  have hcf : w5.cell? ⟨w4.heap.size, 0, none⟩ = some (.int .i64 d.plan.terrain.step) ∧ w5.cell? ⟨w4.heap.size, 1, none⟩ = some (.int .i64 d.plan.terrain.width) ∧ w5.cell? ⟨w4.heap.size, 2, none⟩ = some (.int .i64 d.plan.terrain.height) ∧ w5.cell? ⟨w4.heap.size, 3, none⟩ = some (.slice aud3 d.plan.terrain.heights.length cud3) ∧ w5.cell? ⟨w4.heap.size, 4, none⟩ = some (.slice aud4 d.plan.terrain.clutter.length cud4) ∧ w5.cell? ⟨w4.heap.size, 5, none⟩ = some (.slice aud5 d.plan.network.sites.length cud5) ∧ w5.cell? ⟨w4.heap.size, 6, none⟩ = some (.slice aud6 d.plan.network.sectors.length cud6) ∧ w5.cell? ⟨w4.heap.size, 7, none⟩ = some (.slice aud7 d.plan.network.antennas.length cud7) ∧ w5.cell? ⟨w4.heap.size, 8, none⟩ = some (.slice aud8 d.plan.network.radios.length cud8) ∧ w5.cell? ⟨w4.heap.size, 9, none⟩ = some (.slice aud9 d.plan.bands.length cud9) ∧ w5.cell? ⟨w4.heap.size, 10, none⟩ = some (.slice aud10 d.plan.licences.length cud10) ∧ w5.cell? ⟨w4.heap.size, 11, none⟩ = some (.slice aud11 d.plan.protected_.length cud11) ∧ w5.cell? ⟨w4.heap.size, 12, none⟩ = some (.slice aud12 d.plan.apart.length cud12) ∧ w5.cell? ⟨w4.heap.size, 13, none⟩ = some (.int .i64 d.plan.day) ∧ w5.cell? ⟨w4.heap.size, 14, none⟩ = some (.slice aud14 d.requests.length cud14) ∧ w5.cell? ⟨w.heap.size, 0, none⟩ = some (.int .i64 d.plan.terrain.step) ∧ w5.cell? ⟨w.heap.size, 1, none⟩ = some (.int .i64 d.plan.terrain.width) ∧ w5.cell? ⟨w.heap.size, 2, none⟩ = some (.int .i64 d.plan.terrain.height) ∧ w5.cell? ⟨w.heap.size, 3, none⟩ = some (vd3) ∧ w5.cell? ⟨w.heap.size, 4, none⟩ = some (vd4) ∧ w5.cell? ⟨w.heap.size, 5, none⟩ = some (vd5) ∧ w5.cell? ⟨w.heap.size, 6, none⟩ = some (vd6) ∧ w5.cell? ⟨w.heap.size, 7, none⟩ = some (vd7) ∧ w5.cell? ⟨w.heap.size, 8, none⟩ = some (vd8) ∧ w5.cell? ⟨w.heap.size, 9, none⟩ = some (vd9) ∧ w5.cell? ⟨w.heap.size, 10, none⟩ = some (vd10) ∧ w5.cell? ⟨w.heap.size, 11, none⟩ = some (vd11) ∧ w5.cell? ⟨w.heap.size, 12, none⟩ = some (vd12) ∧ w5.cell? ⟨w.heap.size, 13, none⟩ = some (.int .i64 d.plan.day) ∧ w5.cell? ⟨w.heap.size, 14, none⟩ = some (vd14) := by refine ⟨?_, ?_, ?_, ?_, ?_, ?_, ?_, ?_, ?_, ?_, ?_, ?_, ?_, ?_, ?_, ?_, ?_, ?_, ?_, ?_, ?_, ?_, ?_, ?_, ?_, ?_, ?_, ?_, ?_, ?_⟩ <;> simp [go_sem, *]
  go_wp2
  have hsame : Below w5.heap.size w5 w5.drew := ⟨rfl, rfl, rfl, Nat.le_refl _, fun _ _ => rfl⟩
  have BBd := Lib.hid BB5.out.drew
  have HTO := Lib.hid (to_Desk d vd3 vd4 vd5 vd6 vd7 vd8 vd9 vd10 vd11 vd12 vd14 w5.drew ((Hd3.out.below BBd.out).mono (by show w.heap.size ≤ w5.heap.size; omega)) ((Hd4.out.below BBd.out).mono (by show w.heap.size ≤ w5.heap.size; omega)) ((Hd5.out.below BBd.out).mono (by show w.heap.size ≤ w5.heap.size; omega)) ((Hd6.out.below BBd.out).mono (by show w.heap.size ≤ w5.heap.size; omega)) ((Hd7.out.below BBd.out).mono (by show w.heap.size ≤ w5.heap.size; omega)) ((Hd8.out.below BBd.out).mono (by show w.heap.size ≤ w5.heap.size; omega)) ((Hd9.out.below BBd.out).mono (by show w.heap.size ≤ w5.heap.size; omega)) ((Hd10.out.below BBd.out).mono (by show w.heap.size ≤ w5.heap.size; omega)) ((Hd11.out.below BBd.out).mono (by show w.heap.size ≤ w5.heap.size; omega)) ((Hd12.out.below BBd.out).mono (by show w.heap.size ≤ w5.heap.size; omega)) ((Hd14.out.below BBd.out).mono (by show w.heap.size ≤ w5.heap.size; omega)) (by omega))
  have HEQ : Hid (∀ (W : World) (p3 p4 p5 p6 p7 p8 p9 p10 p11 p12 p14 q3 q4 q5 q6 q7 q8 q9 q10 q11 q12 q14 : Value), Below w5.heap.size w5 W → RdV W.heap.size W d.tr [.int .i64 d.plan.terrain.step, .int .i64 d.plan.terrain.width, .int .i64 d.plan.terrain.height, q3, q4, q5, q6, q7, q8, q9, q10, q11, q12, .int .i64 d.plan.day, q14] → p3 = .slice aud3 d.plan.terrain.heights.length cud3 → p4 = .slice aud4 d.plan.terrain.clutter.length cud4 → p5 = .slice aud5 d.plan.network.sites.length cud5 → p6 = .slice aud6 d.plan.network.sectors.length cud6 → p7 = .slice aud7 d.plan.network.antennas.length cud7 → p8 = .slice aud8 d.plan.network.radios.length cud8 → p9 = .slice aud9 d.plan.bands.length cud9 → p10 = .slice aud10 d.plan.licences.length cud10 → p11 = .slice aud11 d.plan.protected_.length cud11 → p12 = .slice aud12 d.plan.apart.length cud12 → p14 = .slice aud14 d.requests.length cud14 → Calls Tryz.prog 12 #[.agg #[.int .i64 d.plan.terrain.step, .int .i64 d.plan.terrain.width, .int .i64 d.plan.terrain.height, p3, p4, p5, p6, p7, p8, p9, p10, p11, p12, .int .i64 d.plan.day, p14], .agg #[.int .i64 d.plan.terrain.step, .int .i64 d.plan.terrain.width, .int .i64 d.plan.terrain.height, q3, q4, q5, q6, q7, q8, q9, q10, q11, q12, .int .i64 d.plan.day, q14]] W fun e w' => e = .returned (.bool true) ∧ Below W.heap.size W w') := fun W p3 p4 p5 p6 p7 p8 p9 p10 p11 p12 p14 q3 q4 q5 q6 q7 q8 q9 q10 q11 q12 q14 hW hr e3 e4 e5 e6 e7 e8 e9 e10 e11 e12 e14 => by
    subst e3 e4 e5 e6 e7 e8 e9 e10 e11 e12 e14
    have hzW := hW.size
    exact eq_Desk d _ _ _ _ _ _ _ _ _ _ _ _ _ _ _ _ _ _ _ _ _ _ W.heap.size W (((oud3_5.out.below iud3 (by omega) hW).rd iud3).mono (by omega)) hr.2.2.2.1 (((oud4_5.out.below iud4 (by omega) hW).rd iud4).mono (by omega)) hr.2.2.2.2.1 (((oud5_5.out.below iud5 (by omega) hW).rd iud5).mono (by omega)) hr.2.2.2.2.2.1 (((oud6_5.out.below iud6 (by omega) hW).rd iud6).mono (by omega)) hr.2.2.2.2.2.2.1 (((oud7_5.out.below iud7 (by omega) hW).rd iud7).mono (by omega)) hr.2.2.2.2.2.2.2.1 (((oud8_5.out.below iud8 (by omega) hW).rd iud8).mono (by omega)) hr.2.2.2.2.2.2.2.2.1 (((oud9_5.out.below iud9 (by omega) hW).rd iud9).mono (by omega)) hr.2.2.2.2.2.2.2.2.2.1 (((oud10_5.out.below iud10 (by omega) hW).rd iud10).mono (by omega)) hr.2.2.2.2.2.2.2.2.2.2.1 (((oud11_5.out.below iud11 (by omega) hW).rd iud11).mono (by omega)) hr.2.2.2.2.2.2.2.2.2.2.2.1 (((oud12_5.out.below iud12 (by omega) hW).rd iud12).mono (by omega)) hr.2.2.2.2.2.2.2.2.2.2.2.2.1 (((oud14_5.out.below iud14 (by omega) hW).rd iud14).mono (by omega)) hr.2.2.2.2.2.2.2.2.2.2.2.2.2.2.1 (Nat.le_refl _) (by omega)
  go_region_held3 (fun W => W.cell? ⟨w4.heap.size, 0, none⟩ = some (.int .i64 d.plan.terrain.step) ∧ W.cell? ⟨w4.heap.size, 1, none⟩ = some (.int .i64 d.plan.terrain.width) ∧ W.cell? ⟨w4.heap.size, 2, none⟩ = some (.int .i64 d.plan.terrain.height) ∧ W.cell? ⟨w4.heap.size, 3, none⟩ = some (.slice aud3 d.plan.terrain.heights.length cud3) ∧ W.cell? ⟨w4.heap.size, 4, none⟩ = some (.slice aud4 d.plan.terrain.clutter.length cud4) ∧ W.cell? ⟨w4.heap.size, 5, none⟩ = some (.slice aud5 d.plan.network.sites.length cud5) ∧ W.cell? ⟨w4.heap.size, 6, none⟩ = some (.slice aud6 d.plan.network.sectors.length cud6) ∧ W.cell? ⟨w4.heap.size, 7, none⟩ = some (.slice aud7 d.plan.network.antennas.length cud7) ∧ W.cell? ⟨w4.heap.size, 8, none⟩ = some (.slice aud8 d.plan.network.radios.length cud8) ∧ W.cell? ⟨w4.heap.size, 9, none⟩ = some (.slice aud9 d.plan.bands.length cud9) ∧ W.cell? ⟨w4.heap.size, 10, none⟩ = some (.slice aud10 d.plan.licences.length cud10) ∧ W.cell? ⟨w4.heap.size, 11, none⟩ = some (.slice aud11 d.plan.protected_.length cud11) ∧ W.cell? ⟨w4.heap.size, 12, none⟩ = some (.slice aud12 d.plan.apart.length cud12) ∧ W.cell? ⟨w4.heap.size, 13, none⟩ = some (.int .i64 d.plan.day) ∧ W.cell? ⟨w4.heap.size, 14, none⟩ = some (.slice aud14 d.requests.length cud14) ∧ W.cell? ⟨w.heap.size, 0, none⟩ = some (.int .i64 d.plan.terrain.step) ∧ W.cell? ⟨w.heap.size, 1, none⟩ = some (.int .i64 d.plan.terrain.width) ∧ W.cell? ⟨w.heap.size, 2, none⟩ = some (.int .i64 d.plan.terrain.height) ∧ W.cell? ⟨w.heap.size, 3, none⟩ = some (vd3) ∧ W.cell? ⟨w.heap.size, 4, none⟩ = some (vd4) ∧ W.cell? ⟨w.heap.size, 5, none⟩ = some (vd5) ∧ W.cell? ⟨w.heap.size, 6, none⟩ = some (vd6) ∧ W.cell? ⟨w.heap.size, 7, none⟩ = some (vd7) ∧ W.cell? ⟨w.heap.size, 8, none⟩ = some (vd8) ∧ W.cell? ⟨w.heap.size, 9, none⟩ = some (vd9) ∧ W.cell? ⟨w.heap.size, 10, none⟩ = some (vd10) ∧ W.cell? ⟨w.heap.size, 11, none⟩ = some (vd11) ∧ W.cell? ⟨w.heap.size, 12, none⟩ = some (vd12) ∧ W.cell? ⟨w.heap.size, 13, none⟩ = some (.int .i64 d.plan.day) ∧ W.cell? ⟨w.heap.size, 14, none⟩ = some (vd14)) (first | exact hcf | (refine ⟨?_, ?_, ?_, ?_, ?_, ?_, ?_, ?_, ?_, ?_, ?_, ?_, ?_, ?_, ?_, ?_, ?_, ?_, ?_, ?_, ?_, ?_, ?_, ?_, ?_, ?_, ?_, ?_, ?_, ?_⟩ <;> simp [go_sem, *]))
    (first
      | (go_at_call 10; refine (HTO.out).mono ?_; rintro e wt ⟨at3, ct3, at4, ct4, at5, ct5, at6, ct6, at7, ct7, at8, ct8, at9, ct9, at10, ct10, at11, ct11, at12, ct12, at14, ct14, ft, rfl, hbt, ovt, ivt⟩; obtain ⟨qUt, _, yUt⟩ := bcellAt hbt (b := w4.heap.size) (by show w4.heap.size < w5.heap.size; omega); obtain ⟨qAt, _, yAt⟩ := bcellAt hbt (b := w.heap.size) (by show w.heap.size < w5.heap.size; omega))
      | (go_at_call 12; refine (HEQ.out _ _ _ _ _ _ _ _ _ _ _ _ _ _ _ _ _ _ _ _ _ _ _ (hsame.trans hbt) (ovt.rd ivt) rfl rfl rfl rfl rfl rfl rfl rfl rfl rfl rfl).mono ?_; rintro e w6 ⟨rfl, hbe⟩; obtain ⟨qUe, _, yUe⟩ := bcellAt hbe (b := w4.heap.size) yUt; obtain ⟨qAe, _, yAe⟩ := bcellAt hbe (b := w.heap.size) yAt))
  have hb6 : Below w5.heap.size w5 w6 := (hsame.trans hbt).trans (hbe.mono (hsame.trans hbt).size)
  clear HEQ HTO BBd hcf qUt qAt qUe qAe yUt yAt yUe yAe hbe hbt ovt ivt hsame
  have hbb6 : Below w5.heap.size w5 w6 := hb6
  have z6 := hbb6.size
  obtain ⟨qAd6, _, yAd6⟩ := bcellAt hb6 (b := w.heap.size) (by first | omega | (simp; done) | (simp; omega))
  obtain ⟨qUd6, _, yUd6⟩ := bcellAt hb6 (b := w4.heap.size) (by first | omega | (simp; done) | (simp; omega))
  have BB6 := Lib.hid (BB5.out.trans (hbb6.mono (by omega)))
  have oud3_6 := Lib.hid (oud3_5.out.below iud3 (by omega) hbb6)
  have oud4_6 := Lib.hid (oud4_5.out.below iud4 (by omega) hbb6)
  have oud5_6 := Lib.hid (oud5_5.out.below iud5 (by omega) hbb6)
  have oud6_6 := Lib.hid (oud6_5.out.below iud6 (by omega) hbb6)
  have oud7_6 := Lib.hid (oud7_5.out.below iud7 (by omega) hbb6)
  have oud8_6 := Lib.hid (oud8_5.out.below iud8 (by omega) hbb6)
  have oud9_6 := Lib.hid (oud9_5.out.below iud9 (by omega) hbb6)
  have oud10_6 := Lib.hid (oud10_5.out.below iud10 (by omega) hbb6)
  have oud11_6 := Lib.hid (oud11_5.out.below iud11 (by omega) hbb6)
  have oud12_6 := Lib.hid (oud12_5.out.below iud12 (by omega) hbb6)
  have oud14_6 := Lib.hid (oud14_5.out.below iud14 (by omega) hbb6)
  clear hbb6
  go_wp2
  go_ret
  exact ⟨rfl, BB6.out⟩
end Go.Proofs.YtlfkdhakibagaaaGreat.fnExactValidDesk
