/- The walk of the law FnExactLicenceOf: it returns true. -/
import Derived.Test.YtlfkdhakibagaaaGreatPl19
import Derived.Test.YtlfkdhakibagaaaGreatHPlan
import Derived.Test.YtlfkdhakibagaaaGreatHLicence
import Derived.Deep.RegionHeld3
namespace Go.Proofs.YtlfkdhakibagaaaGreat.fnExactLicenceOf
open Go.RowKit
set_option linter.unusedVariables false
set_option maxHeartbeats 4000000 in
set_option maxRecDepth 100000 in
theorem walk (p : DPlan) (nm : ByteArray) (vp3 vp4 vp5 vp6 vp7 vp8 vp9 vp10 vp11 vp12 : Value) (w : World) (rp3 : Rd w.heap.size w (intsT p.terrain.heights) vp3) (rp4 : Rd w.heap.size w (intsT p.terrain.clutter) vp4) (rp5 : Rd w.heap.size w (DSite.sT p.network.sites) vp5) (rp6 : Rd w.heap.size w (DSector.sT p.network.sectors) vp6) (rp7 : Rd w.heap.size w (DAntenna.sT p.network.antennas) vp7) (rp8 : Rd w.heap.size w (DRadio.sT p.network.radios) vp8) (rp9 : Rd w.heap.size w (DBand.sT p.bands) vp9) (rp10 : Rd w.heap.size w (DLicence.sT p.licences) vp10) (rp11 : Rd w.heap.size w (DProtected.sT p.protected_) vp11) (rp12 : Rd w.heap.size w (intssT p.apart) vp12) (hk_p : p.ok) (hk_nm : nm.size ≤ maxLen) :
    Calls Tryz.prog 7 #[.agg #[.int .i64 p.terrain.step, .int .i64 p.terrain.width, .int .i64 p.terrain.height, vp3, vp4, vp5, vp6, vp7, vp8, vp9, vp10, vp11, vp12, .int .i64 p.day], .string nm] w fun e w' => e = .returned (.bool true) ∧ Below w.heap.size w w' := by
  have Hp3 := Lib.hid rp3
  have Hp4 := Lib.hid rp4
  have Hp5 := Lib.hid rp5
  have Hp6 := Lib.hid rp6
  have Hp7 := Lib.hid rp7
  have Hp8 := Lib.hid rp8
  have Hp9 := Lib.hid rp9
  have Hp10 := Lib.hid rp10
  have Hp11 := Lib.hid rp11
  have Hp12 := Lib.hid rp12
  clear rp3 rp4 rp5 rp6 rp7 rp8 rp9 rp10 rp11 rp12
  unfold maxLen at hk_nm
  have hq_p := DPlan.siz_tr p
  have BB0 : Hid (Below w.heap.size w w) := Below.refl _ _
  generalize hR : licR p nm = R at *
  have HR := Lib.hid hR
  clear hR
  have HS : Hid (∀ (W : World) (xp3 xp4 xp5 xp6 xp7 xp8 xp9 xp10 xp11 xp12 : Value), Rd W.heap.size W (intsT p.terrain.heights) xp3 → Rd W.heap.size W (intsT p.terrain.clutter) xp4 → Rd W.heap.size W (DSite.sT p.network.sites) xp5 → Rd W.heap.size W (DSector.sT p.network.sectors) xp6 → Rd W.heap.size W (DAntenna.sT p.network.antennas) xp7 → Rd W.heap.size W (DRadio.sT p.network.radios) xp8 → Rd W.heap.size W (DBand.sT p.bands) xp9 → Rd W.heap.size W (DLicence.sT p.licences) xp10 → Rd W.heap.size W (DProtected.sT p.protected_) xp11 → Rd W.heap.size W (intssT p.apart) xp12 → sizL p.tr ≤ 1048576 → nm.size ≤ 1048576 → Calls Tryz.prog 22 #[.agg #[.int .i64 p.terrain.step, .int .i64 p.terrain.width, .int .i64 p.terrain.height, xp3, xp4, xp5, xp6, xp7, xp8, xp9, xp10, xp11, xp12, .int .i64 p.day], .string nm] W (fun e w' => e = .returned (.tuple #[.agg #[.string R.1.id, .string R.1.holder, .int .i64 R.1.low, .int .i64 R.1.high, .int .i64 R.1.area.west, .int .i64 R.1.area.south, .int .i64 R.1.area.east, .int .i64 R.1.area.north, .int .i64 R.1.from_, .int .i64 R.1.until_, .int .i64 R.1.power], .int .i64 R.2]) ∧ Below W.heap.size W w')) := fun W xp3 xp4 xp5 xp6 xp7 xp8 xp9 xp10 xp11 xp12 yp3 yp4 yp5 yp6 yp7 yp8 yp9 yp10 yp11 yp12 z0 z1 => by rw [← HR.out]; exact sLicenceOf_std p nm xp3 xp4 xp5 xp6 xp7 xp8 xp9 xp10 xp11 xp12 W yp3 yp4 yp5 yp6 yp7 yp8 yp9 yp10 yp11 yp12 z0 hk_p z1
  have HI : Hid (∀ (W : World) (xp3 xp4 xp5 xp6 xp7 xp8 xp9 xp10 xp11 xp12 : Value), Rd W.heap.size W (intsT p.terrain.heights) xp3 → Rd W.heap.size W (intsT p.terrain.clutter) xp4 → Rd W.heap.size W (DSite.sT p.network.sites) xp5 → Rd W.heap.size W (DSector.sT p.network.sectors) xp6 → Rd W.heap.size W (DAntenna.sT p.network.antennas) xp7 → Rd W.heap.size W (DRadio.sT p.network.radios) xp8 → Rd W.heap.size W (DBand.sT p.bands) xp9 → Rd W.heap.size W (DLicence.sT p.licences) xp10 → Rd W.heap.size W (DProtected.sT p.protected_) xp11 → Rd W.heap.size W (intssT p.apart) xp12 → sizL p.tr ≤ 1048576 → nm.size ≤ 1048576 → Calls Tryz.prog 23 #[.agg #[.int .i64 p.terrain.step, .int .i64 p.terrain.width, .int .i64 p.terrain.height, xp3, xp4, xp5, xp6, xp7, xp8, xp9, xp10, xp11, xp12, .int .i64 p.day], .string nm] W (fun e w' => e = .returned (.tuple #[.agg #[.string R.1.id, .string R.1.holder, .int .i64 R.1.low, .int .i64 R.1.high, .int .i64 R.1.area.west, .int .i64 R.1.area.south, .int .i64 R.1.area.east, .int .i64 R.1.area.north, .int .i64 R.1.from_, .int .i64 R.1.until_, .int .i64 R.1.power], .int .i64 R.2]) ∧ Below W.heap.size W w')) := fun W xp3 xp4 xp5 xp6 xp7 xp8 xp9 xp10 xp11 xp12 yp3 yp4 yp5 yp6 yp7 yp8 yp9 yp10 yp11 yp12 z0 z1 => by rw [← HR.out]; exact iLicenceOf_std p nm xp3 xp4 xp5 xp6 xp7 xp8 xp9 xp10 xp11 xp12 W yp3 yp4 yp5 yp6 yp7 yp8 yp9 yp10 yp11 yp12 z0 hk_p z1
  by_cases hl_nm : nm.size ≤ 1048576
  case neg =>
    have hl1_nm : (1048576 : Int) < ((nm.size : Nat) : Int) := by omega
    have hl2_nm : 1048576 < nm.size := by omega
    go_enter Tryz.func7, Tryz.ntmps7
    go_wp2
    go_ret
    exact ⟨rfl, Below.alloc (Below.refl _ _) (by first | exact Nat.le_refl _ | (simp; done) | (simp; omega)) _⟩
  have hl1_nm : ((nm.size : Nat) : Int) ≤ 1048576 := by omega
  go_enter Tryz.func7, Tryz.ntmps7
  go_wp2_with fail
  have BX1 : Hid (Below w.heap.size w (w.alloc (.cells #[.int .i64 p.terrain.step, .int .i64 p.terrain.width, .int .i64 p.terrain.height, vp3, vp4, vp5, vp6, vp7, vp8, vp9, vp10, vp11, vp12, .int .i64 p.day] 36))) := (BB0.out.alloc (by first | omega | (simp; done) | (simp; omega)) _)
  have zx1 := BX1.out.size
  refine (sz_Plan p vp3 vp4 vp5 vp6 vp7 vp8 vp9 vp10 vp11 vp12 w.heap.size _ _ (Hp3.out.below BX1.out) (Hp4.out.below BX1.out) (Hp5.out.below BX1.out) (Hp6.out.below BX1.out) (Hp7.out.below BX1.out) (Hp8.out.below BX1.out) (Hp9.out.below BX1.out) (Hp10.out.below BX1.out) (Hp11.out.below BX1.out) (Hp12.out.below BX1.out) (by omega) (by omega) (by omega) hk_p).mono ?_
  rintro e w1 ⟨⟨cz1, rfl⟩ | ⟨cz1, rfl⟩, hb1⟩
  case inr =>
    go_wp2
    go_ret
    exact ⟨rfl, BX1.out.trans (hb1.mono (by omega))⟩
  have cy1 : decide ((1048576 : Int) - sizL p.tr < 0) = false := by simp; omega
  have hx1 : Below w.heap.size w (w.alloc (.cells #[.int .i64 p.terrain.step, .int .i64 p.terrain.width, .int .i64 p.terrain.height, vp3, vp4, vp5, vp6, vp7, vp8, vp9, vp10, vp11, vp12, .int .i64 p.day] 36)) := ((Below.refl _ _).alloc (Nat.le_refl _) _)
  have hbb1 : Below w.heap.size w w1 := hx1.trans (hb1.mono (by first | (simp; done) | (simp; omega)))
  have z1 := hbb1.size
  obtain ⟨qAp1, _, yAp1⟩ := bcellAt hb1 (b := w.heap.size) (by first | omega | (simp; done) | (simp; omega))
  have BB1 := Lib.hid (BB0.out.trans (hbb1.mono (by omega)))
  clear hx1
  clear hb1 hbb1
  have CZ1 := Lib.hid cy1
  go_wp2_with fail
  have BX2 : Hid (Below w.heap.size w w1) := BB1.out
  have zx2 := BX2.out.size
  refine (to_Plan p _ _ _ _ _ _ _ _ _ _ _ ((Hp3.out.below BX2.out).mono zx2) ((Hp4.out.below BX2.out).mono zx2) ((Hp5.out.below BX2.out).mono zx2) ((Hp6.out.below BX2.out).mono zx2) ((Hp7.out.below BX2.out).mono zx2) ((Hp8.out.below BX2.out).mono zx2) ((Hp9.out.below BX2.out).mono zx2) ((Hp10.out.below BX2.out).mono zx2) ((Hp11.out.below BX2.out).mono zx2) ((Hp12.out.below BX2.out).mono zx2) (by omega)).mono ?_
  rintro e w2 ⟨atp3, ctp3, atp4, ctp4, atp5, ctp5, atp6, ctp6, atp7, ctp7, atp8, ctp8, atp9, ctp9, atp10, ctp10, atp11, ctp11, atp12, ctp12, ftp, rfl, hb2, ov2, iv2⟩
  have hbb2 : Below w1.heap.size w1 w2 := hb2
  have z2 := hbb2.size
  obtain ⟨qAp2, _, yAp2⟩ := bcellAt hb2 (b := w.heap.size) (by first | omega | (simp; done) | (simp; omega))
  have BB2 := Lib.hid (BB1.out.trans (hbb2.mono (by omega)))
  clear hbb2
  obtain ⟨g2_0, r2_0, e2_0, p2_0, ov2_0, d2_0⟩ := OwnV.uncons ov2
  obtain ⟨_, hz2_0⟩ := Rep_lit.1 p2_0.rep
  subst hz2_0
  obtain ⟨g2_1, r2_1, e2_1, p2_1, ov2_1, d2_1⟩ := OwnV.uncons ov2_0
  obtain ⟨_, hz2_1⟩ := Rep_lit.1 p2_1.rep
  subst hz2_1
  obtain ⟨g2_2, r2_2, e2_2, p2_2, ov2_2, d2_2⟩ := OwnV.uncons ov2_1
  obtain ⟨_, hz2_2⟩ := Rep_lit.1 p2_2.rep
  subst hz2_2
  obtain ⟨g2_3, r2_3, e2_3, p2_3, ov2_3, d2_3⟩ := OwnV.uncons ov2_2
  obtain ⟨g2_4, r2_4, e2_4, p2_4, ov2_4, d2_4⟩ := OwnV.uncons ov2_3
  obtain ⟨g2_5, r2_5, e2_5, p2_5, ov2_5, d2_5⟩ := OwnV.uncons ov2_4
  obtain ⟨g2_6, r2_6, e2_6, p2_6, ov2_6, d2_6⟩ := OwnV.uncons ov2_5
  obtain ⟨g2_7, r2_7, e2_7, p2_7, ov2_7, d2_7⟩ := OwnV.uncons ov2_6
  obtain ⟨g2_8, r2_8, e2_8, p2_8, ov2_8, d2_8⟩ := OwnV.uncons ov2_7
  obtain ⟨g2_9, r2_9, e2_9, p2_9, ov2_9, d2_9⟩ := OwnV.uncons ov2_8
  obtain ⟨g2_10, r2_10, e2_10, p2_10, ov2_10, d2_10⟩ := OwnV.uncons ov2_9
  obtain ⟨g2_11, r2_11, e2_11, p2_11, ov2_11, d2_11⟩ := OwnV.uncons ov2_10
  obtain ⟨g2_12, r2_12, e2_12, p2_12, ov2_12, d2_12⟩ := OwnV.uncons ov2_11
  obtain ⟨g2_13, r2_13, e2_13, p2_13, ov2_13, d2_13⟩ := OwnV.uncons ov2_12
  obtain ⟨_, hz2_13⟩ := Rep_lit.1 p2_13.rep
  subst hz2_13
  have iw2 := iv2.mono (lo' := w1.heap.size + 0) (by first | omega | (simp; done) | (simp; omega)) (Nat.le_refl _)
  have hnil2 := ov2_13.rep
  change r2_13 = [] at hnil2
  subst hnil2
  subst e2_13
  subst e2_12
  subst e2_11
  subst e2_10
  subst e2_9
  subst e2_8
  subst e2_7
  subst e2_6
  subst e2_5
  subst e2_4
  subst e2_3
  subst e2_2
  subst e2_1
  subst e2_0
  have itp3 : In _ _ g2_3 := fun y hy => iw2 y (by simp [hy])
  have otp3_2 := Lib.hid p2_3
  have itp4 : In _ _ g2_4 := fun y hy => iw2 y (by simp [hy])
  have otp4_2 := Lib.hid p2_4
  have itp5 : In _ _ g2_5 := fun y hy => iw2 y (by simp [hy])
  have otp5_2 := Lib.hid p2_5
  have itp6 : In _ _ g2_6 := fun y hy => iw2 y (by simp [hy])
  have otp6_2 := Lib.hid p2_6
  have itp7 : In _ _ g2_7 := fun y hy => iw2 y (by simp [hy])
  have otp7_2 := Lib.hid p2_7
  have itp8 : In _ _ g2_8 := fun y hy => iw2 y (by simp [hy])
  have otp8_2 := Lib.hid p2_8
  have itp9 : In _ _ g2_9 := fun y hy => iw2 y (by simp [hy])
  have otp9_2 := Lib.hid p2_9
  have itp10 : In _ _ g2_10 := fun y hy => iw2 y (by simp [hy])
  have otp10_2 := Lib.hid p2_10
  have itp11 : In _ _ g2_11 := fun y hy => iw2 y (by simp [hy])
  have otp11_2 := Lib.hid p2_11
  have itp12 : In _ _ g2_12 := fun y hy => iw2 y (by simp [hy])
  have otp12_2 := Lib.hid p2_12
  have djtp3_4 : ∀ y ∈ g2_3, y ∉ g2_4 := fun y hy e => d2_3 y hy (by simp [e])
  have djtp3_5 : ∀ y ∈ g2_3, y ∉ g2_5 := fun y hy e => d2_3 y hy (by simp [e])
  have djtp3_6 : ∀ y ∈ g2_3, y ∉ g2_6 := fun y hy e => d2_3 y hy (by simp [e])
  have djtp3_7 : ∀ y ∈ g2_3, y ∉ g2_7 := fun y hy e => d2_3 y hy (by simp [e])
  have djtp3_8 : ∀ y ∈ g2_3, y ∉ g2_8 := fun y hy e => d2_3 y hy (by simp [e])
  have djtp3_9 : ∀ y ∈ g2_3, y ∉ g2_9 := fun y hy e => d2_3 y hy (by simp [e])
  have djtp3_10 : ∀ y ∈ g2_3, y ∉ g2_10 := fun y hy e => d2_3 y hy (by simp [e])
  have djtp3_11 : ∀ y ∈ g2_3, y ∉ g2_11 := fun y hy e => d2_3 y hy (by simp [e])
  have djtp3_12 : ∀ y ∈ g2_3, y ∉ g2_12 := fun y hy e => d2_3 y hy (by simp [e])
  have djtp4_5 : ∀ y ∈ g2_4, y ∉ g2_5 := fun y hy e => d2_4 y hy (by simp [e])
  have djtp4_6 : ∀ y ∈ g2_4, y ∉ g2_6 := fun y hy e => d2_4 y hy (by simp [e])
  have djtp4_7 : ∀ y ∈ g2_4, y ∉ g2_7 := fun y hy e => d2_4 y hy (by simp [e])
  have djtp4_8 : ∀ y ∈ g2_4, y ∉ g2_8 := fun y hy e => d2_4 y hy (by simp [e])
  have djtp4_9 : ∀ y ∈ g2_4, y ∉ g2_9 := fun y hy e => d2_4 y hy (by simp [e])
  have djtp4_10 : ∀ y ∈ g2_4, y ∉ g2_10 := fun y hy e => d2_4 y hy (by simp [e])
  have djtp4_11 : ∀ y ∈ g2_4, y ∉ g2_11 := fun y hy e => d2_4 y hy (by simp [e])
  have djtp4_12 : ∀ y ∈ g2_4, y ∉ g2_12 := fun y hy e => d2_4 y hy (by simp [e])
  have djtp5_6 : ∀ y ∈ g2_5, y ∉ g2_6 := fun y hy e => d2_5 y hy (by simp [e])
  have djtp5_7 : ∀ y ∈ g2_5, y ∉ g2_7 := fun y hy e => d2_5 y hy (by simp [e])
  have djtp5_8 : ∀ y ∈ g2_5, y ∉ g2_8 := fun y hy e => d2_5 y hy (by simp [e])
  have djtp5_9 : ∀ y ∈ g2_5, y ∉ g2_9 := fun y hy e => d2_5 y hy (by simp [e])
  have djtp5_10 : ∀ y ∈ g2_5, y ∉ g2_10 := fun y hy e => d2_5 y hy (by simp [e])
  have djtp5_11 : ∀ y ∈ g2_5, y ∉ g2_11 := fun y hy e => d2_5 y hy (by simp [e])
  have djtp5_12 : ∀ y ∈ g2_5, y ∉ g2_12 := fun y hy e => d2_5 y hy (by simp [e])
  have djtp6_7 : ∀ y ∈ g2_6, y ∉ g2_7 := fun y hy e => d2_6 y hy (by simp [e])
  have djtp6_8 : ∀ y ∈ g2_6, y ∉ g2_8 := fun y hy e => d2_6 y hy (by simp [e])
  have djtp6_9 : ∀ y ∈ g2_6, y ∉ g2_9 := fun y hy e => d2_6 y hy (by simp [e])
  have djtp6_10 : ∀ y ∈ g2_6, y ∉ g2_10 := fun y hy e => d2_6 y hy (by simp [e])
  have djtp6_11 : ∀ y ∈ g2_6, y ∉ g2_11 := fun y hy e => d2_6 y hy (by simp [e])
  have djtp6_12 : ∀ y ∈ g2_6, y ∉ g2_12 := fun y hy e => d2_6 y hy (by simp [e])
  have djtp7_8 : ∀ y ∈ g2_7, y ∉ g2_8 := fun y hy e => d2_7 y hy (by simp [e])
  have djtp7_9 : ∀ y ∈ g2_7, y ∉ g2_9 := fun y hy e => d2_7 y hy (by simp [e])
  have djtp7_10 : ∀ y ∈ g2_7, y ∉ g2_10 := fun y hy e => d2_7 y hy (by simp [e])
  have djtp7_11 : ∀ y ∈ g2_7, y ∉ g2_11 := fun y hy e => d2_7 y hy (by simp [e])
  have djtp7_12 : ∀ y ∈ g2_7, y ∉ g2_12 := fun y hy e => d2_7 y hy (by simp [e])
  have djtp8_9 : ∀ y ∈ g2_8, y ∉ g2_9 := fun y hy e => d2_8 y hy (by simp [e])
  have djtp8_10 : ∀ y ∈ g2_8, y ∉ g2_10 := fun y hy e => d2_8 y hy (by simp [e])
  have djtp8_11 : ∀ y ∈ g2_8, y ∉ g2_11 := fun y hy e => d2_8 y hy (by simp [e])
  have djtp8_12 : ∀ y ∈ g2_8, y ∉ g2_12 := fun y hy e => d2_8 y hy (by simp [e])
  have djtp9_10 : ∀ y ∈ g2_9, y ∉ g2_10 := fun y hy e => d2_9 y hy (by simp [e])
  have djtp9_11 : ∀ y ∈ g2_9, y ∉ g2_11 := fun y hy e => d2_9 y hy (by simp [e])
  have djtp9_12 : ∀ y ∈ g2_9, y ∉ g2_12 := fun y hy e => d2_9 y hy (by simp [e])
  have djtp10_11 : ∀ y ∈ g2_10, y ∉ g2_11 := fun y hy e => d2_10 y hy (by simp [e])
  have djtp10_12 : ∀ y ∈ g2_10, y ∉ g2_12 := fun y hy e => d2_10 y hy (by simp [e])
  have djtp11_12 : ∀ y ∈ g2_11, y ∉ g2_12 := fun y hy e => d2_11 y hy (by simp [e])
  clear p2_0 ov2_0 d2_0 p2_1 ov2_1 d2_1 p2_2 ov2_2 d2_2 p2_3 ov2_3 d2_3 p2_4 ov2_4 d2_4 p2_5 ov2_5 d2_5 p2_6 ov2_6 d2_6 p2_7 ov2_7 d2_7 p2_8 ov2_8 d2_8 p2_9 ov2_9 d2_9 p2_10 ov2_10 d2_10 p2_11 ov2_11 d2_11 p2_12 ov2_12 d2_12 p2_13 ov2_13 d2_13 ov2 iv2 iw2
  go_wp2_with fail
  refine (HS.out _ _ _ _ _ _ _ _ _ _ _ ((otp3_2.out.rd itp3).mono (by omega)) ((otp4_2.out.rd itp4).mono (by omega)) ((otp5_2.out.rd itp5).mono (by omega)) ((otp6_2.out.rd itp6).mono (by omega)) ((otp7_2.out.rd itp7).mono (by omega)) ((otp8_2.out.rd itp8).mono (by omega)) ((otp9_2.out.rd itp9).mono (by omega)) ((otp10_2.out.rd itp10).mono (by omega)) ((otp11_2.out.rd itp11).mono (by omega)) ((otp12_2.out.rd itp12).mono (by omega)) (by omega) (by omega)).mono ?_
  rintro e w3 ⟨rfl, hb3⟩
  have hbb3 : Below w2.heap.size w2 w3 := hb3
  have z3 := hbb3.size
  obtain ⟨qAp3, _, yAp3⟩ := bcellAt hb3 (b := w.heap.size) (by first | omega | (simp; done) | (simp; omega))
  have BB3 := Lib.hid (BB2.out.trans (hbb3.mono (by omega)))
  have otp3_3 := Lib.hid (otp3_2.out.below itp3 (by omega) hbb3)
  have otp4_3 := Lib.hid (otp4_2.out.below itp4 (by omega) hbb3)
  have otp5_3 := Lib.hid (otp5_2.out.below itp5 (by omega) hbb3)
  have otp6_3 := Lib.hid (otp6_2.out.below itp6 (by omega) hbb3)
  have otp7_3 := Lib.hid (otp7_2.out.below itp7 (by omega) hbb3)
  have otp8_3 := Lib.hid (otp8_2.out.below itp8 (by omega) hbb3)
  have otp9_3 := Lib.hid (otp9_2.out.below itp9 (by omega) hbb3)
  have otp10_3 := Lib.hid (otp10_2.out.below itp10 (by omega) hbb3)
  have otp11_3 := Lib.hid (otp11_2.out.below itp11 (by omega) hbb3)
  have otp12_3 := Lib.hid (otp12_2.out.below itp12 (by omega) hbb3)
  clear hbb3
  go_wp2_with fail
  have BX4 : Hid (Below w.heap.size w (w3.alloc (.cells #[.string R.1.id, .string R.1.holder, .int .i64 R.1.low, .int .i64 R.1.high, .int .i64 R.1.area.west, .int .i64 R.1.area.south, .int .i64 R.1.area.east, .int .i64 R.1.area.north, .int .i64 R.1.from_, .int .i64 R.1.until_, .int .i64 R.1.power] 72))) := (BB3.out.alloc (by first | omega | (simp; done) | (simp; omega)) _)
  have zx4 := BX4.out.size
  refine (to_Plan p _ _ _ _ _ _ _ _ _ _ _ ((Hp3.out.below BX4.out).mono zx4) ((Hp4.out.below BX4.out).mono zx4) ((Hp5.out.below BX4.out).mono zx4) ((Hp6.out.below BX4.out).mono zx4) ((Hp7.out.below BX4.out).mono zx4) ((Hp8.out.below BX4.out).mono zx4) ((Hp9.out.below BX4.out).mono zx4) ((Hp10.out.below BX4.out).mono zx4) ((Hp11.out.below BX4.out).mono zx4) ((Hp12.out.below BX4.out).mono zx4) (by omega)).mono ?_
  rintro e w4 ⟨aup3, cup3, aup4, cup4, aup5, cup5, aup6, cup6, aup7, cup7, aup8, cup8, aup9, cup9, aup10, cup10, aup11, cup11, aup12, cup12, fup, rfl, hb4, ov4, iv4⟩
  have hx4 : Below w3.heap.size w3 (w3.alloc (.cells #[.string R.1.id, .string R.1.holder, .int .i64 R.1.low, .int .i64 R.1.high, .int .i64 R.1.area.west, .int .i64 R.1.area.south, .int .i64 R.1.area.east, .int .i64 R.1.area.north, .int .i64 R.1.from_, .int .i64 R.1.until_, .int .i64 R.1.power] 72)) := ((Below.refl _ _).alloc (Nat.le_refl _) _)
  have hbb4 : Below w3.heap.size w3 w4 := hx4.trans (hb4.mono (by first | (simp; done) | (simp; omega)))
  have z4 := hbb4.size
  obtain ⟨qAp4, _, yAp4⟩ := bcellAt hb4 (b := w.heap.size) (by first | omega | (simp; done) | (simp; omega))
  obtain ⟨qS04, _, yS04⟩ := bcellAt hb4 (b := w3.heap.size) (by first | omega | (simp; done) | (simp; omega))
  have BB4 := Lib.hid (BB3.out.trans (hbb4.mono (by omega)))
  clear hx4
  clear hb4 hbb4
  obtain ⟨g4_0, r4_0, e4_0, p4_0, ov4_0, d4_0⟩ := OwnV.uncons ov4
  obtain ⟨_, hz4_0⟩ := Rep_lit.1 p4_0.rep
  subst hz4_0
  obtain ⟨g4_1, r4_1, e4_1, p4_1, ov4_1, d4_1⟩ := OwnV.uncons ov4_0
  obtain ⟨_, hz4_1⟩ := Rep_lit.1 p4_1.rep
  subst hz4_1
  obtain ⟨g4_2, r4_2, e4_2, p4_2, ov4_2, d4_2⟩ := OwnV.uncons ov4_1
  obtain ⟨_, hz4_2⟩ := Rep_lit.1 p4_2.rep
  subst hz4_2
  obtain ⟨g4_3, r4_3, e4_3, p4_3, ov4_3, d4_3⟩ := OwnV.uncons ov4_2
  obtain ⟨g4_4, r4_4, e4_4, p4_4, ov4_4, d4_4⟩ := OwnV.uncons ov4_3
  obtain ⟨g4_5, r4_5, e4_5, p4_5, ov4_5, d4_5⟩ := OwnV.uncons ov4_4
  obtain ⟨g4_6, r4_6, e4_6, p4_6, ov4_6, d4_6⟩ := OwnV.uncons ov4_5
  obtain ⟨g4_7, r4_7, e4_7, p4_7, ov4_7, d4_7⟩ := OwnV.uncons ov4_6
  obtain ⟨g4_8, r4_8, e4_8, p4_8, ov4_8, d4_8⟩ := OwnV.uncons ov4_7
  obtain ⟨g4_9, r4_9, e4_9, p4_9, ov4_9, d4_9⟩ := OwnV.uncons ov4_8
  obtain ⟨g4_10, r4_10, e4_10, p4_10, ov4_10, d4_10⟩ := OwnV.uncons ov4_9
  obtain ⟨g4_11, r4_11, e4_11, p4_11, ov4_11, d4_11⟩ := OwnV.uncons ov4_10
  obtain ⟨g4_12, r4_12, e4_12, p4_12, ov4_12, d4_12⟩ := OwnV.uncons ov4_11
  obtain ⟨g4_13, r4_13, e4_13, p4_13, ov4_13, d4_13⟩ := OwnV.uncons ov4_12
  obtain ⟨_, hz4_13⟩ := Rep_lit.1 p4_13.rep
  subst hz4_13
  have iw4 := iv4.mono (lo' := w3.heap.size + 1) (by first | omega | (simp; done) | (simp; omega)) (Nat.le_refl _)
  have hnil4 := ov4_13.rep
  change r4_13 = [] at hnil4
  subst hnil4
  subst e4_13
  subst e4_12
  subst e4_11
  subst e4_10
  subst e4_9
  subst e4_8
  subst e4_7
  subst e4_6
  subst e4_5
  subst e4_4
  subst e4_3
  subst e4_2
  subst e4_1
  subst e4_0
  have iup3 : In _ _ g4_3 := fun y hy => iw4 y (by simp [hy])
  have oup3_4 := Lib.hid p4_3
  have iup4 : In _ _ g4_4 := fun y hy => iw4 y (by simp [hy])
  have oup4_4 := Lib.hid p4_4
  have iup5 : In _ _ g4_5 := fun y hy => iw4 y (by simp [hy])
  have oup5_4 := Lib.hid p4_5
  have iup6 : In _ _ g4_6 := fun y hy => iw4 y (by simp [hy])
  have oup6_4 := Lib.hid p4_6
  have iup7 : In _ _ g4_7 := fun y hy => iw4 y (by simp [hy])
  have oup7_4 := Lib.hid p4_7
  have iup8 : In _ _ g4_8 := fun y hy => iw4 y (by simp [hy])
  have oup8_4 := Lib.hid p4_8
  have iup9 : In _ _ g4_9 := fun y hy => iw4 y (by simp [hy])
  have oup9_4 := Lib.hid p4_9
  have iup10 : In _ _ g4_10 := fun y hy => iw4 y (by simp [hy])
  have oup10_4 := Lib.hid p4_10
  have iup11 : In _ _ g4_11 := fun y hy => iw4 y (by simp [hy])
  have oup11_4 := Lib.hid p4_11
  have iup12 : In _ _ g4_12 := fun y hy => iw4 y (by simp [hy])
  have oup12_4 := Lib.hid p4_12
  have djup3_4 : ∀ y ∈ g4_3, y ∉ g4_4 := fun y hy e => d4_3 y hy (by simp [e])
  have djup3_5 : ∀ y ∈ g4_3, y ∉ g4_5 := fun y hy e => d4_3 y hy (by simp [e])
  have djup3_6 : ∀ y ∈ g4_3, y ∉ g4_6 := fun y hy e => d4_3 y hy (by simp [e])
  have djup3_7 : ∀ y ∈ g4_3, y ∉ g4_7 := fun y hy e => d4_3 y hy (by simp [e])
  have djup3_8 : ∀ y ∈ g4_3, y ∉ g4_8 := fun y hy e => d4_3 y hy (by simp [e])
  have djup3_9 : ∀ y ∈ g4_3, y ∉ g4_9 := fun y hy e => d4_3 y hy (by simp [e])
  have djup3_10 : ∀ y ∈ g4_3, y ∉ g4_10 := fun y hy e => d4_3 y hy (by simp [e])
  have djup3_11 : ∀ y ∈ g4_3, y ∉ g4_11 := fun y hy e => d4_3 y hy (by simp [e])
  have djup3_12 : ∀ y ∈ g4_3, y ∉ g4_12 := fun y hy e => d4_3 y hy (by simp [e])
  have djup4_5 : ∀ y ∈ g4_4, y ∉ g4_5 := fun y hy e => d4_4 y hy (by simp [e])
  have djup4_6 : ∀ y ∈ g4_4, y ∉ g4_6 := fun y hy e => d4_4 y hy (by simp [e])
  have djup4_7 : ∀ y ∈ g4_4, y ∉ g4_7 := fun y hy e => d4_4 y hy (by simp [e])
  have djup4_8 : ∀ y ∈ g4_4, y ∉ g4_8 := fun y hy e => d4_4 y hy (by simp [e])
  have djup4_9 : ∀ y ∈ g4_4, y ∉ g4_9 := fun y hy e => d4_4 y hy (by simp [e])
  have djup4_10 : ∀ y ∈ g4_4, y ∉ g4_10 := fun y hy e => d4_4 y hy (by simp [e])
  have djup4_11 : ∀ y ∈ g4_4, y ∉ g4_11 := fun y hy e => d4_4 y hy (by simp [e])
  have djup4_12 : ∀ y ∈ g4_4, y ∉ g4_12 := fun y hy e => d4_4 y hy (by simp [e])
  have djup5_6 : ∀ y ∈ g4_5, y ∉ g4_6 := fun y hy e => d4_5 y hy (by simp [e])
  have djup5_7 : ∀ y ∈ g4_5, y ∉ g4_7 := fun y hy e => d4_5 y hy (by simp [e])
  have djup5_8 : ∀ y ∈ g4_5, y ∉ g4_8 := fun y hy e => d4_5 y hy (by simp [e])
  have djup5_9 : ∀ y ∈ g4_5, y ∉ g4_9 := fun y hy e => d4_5 y hy (by simp [e])
  have djup5_10 : ∀ y ∈ g4_5, y ∉ g4_10 := fun y hy e => d4_5 y hy (by simp [e])
  have djup5_11 : ∀ y ∈ g4_5, y ∉ g4_11 := fun y hy e => d4_5 y hy (by simp [e])
  have djup5_12 : ∀ y ∈ g4_5, y ∉ g4_12 := fun y hy e => d4_5 y hy (by simp [e])
  have djup6_7 : ∀ y ∈ g4_6, y ∉ g4_7 := fun y hy e => d4_6 y hy (by simp [e])
  have djup6_8 : ∀ y ∈ g4_6, y ∉ g4_8 := fun y hy e => d4_6 y hy (by simp [e])
  have djup6_9 : ∀ y ∈ g4_6, y ∉ g4_9 := fun y hy e => d4_6 y hy (by simp [e])
  have djup6_10 : ∀ y ∈ g4_6, y ∉ g4_10 := fun y hy e => d4_6 y hy (by simp [e])
  have djup6_11 : ∀ y ∈ g4_6, y ∉ g4_11 := fun y hy e => d4_6 y hy (by simp [e])
  have djup6_12 : ∀ y ∈ g4_6, y ∉ g4_12 := fun y hy e => d4_6 y hy (by simp [e])
  have djup7_8 : ∀ y ∈ g4_7, y ∉ g4_8 := fun y hy e => d4_7 y hy (by simp [e])
  have djup7_9 : ∀ y ∈ g4_7, y ∉ g4_9 := fun y hy e => d4_7 y hy (by simp [e])
  have djup7_10 : ∀ y ∈ g4_7, y ∉ g4_10 := fun y hy e => d4_7 y hy (by simp [e])
  have djup7_11 : ∀ y ∈ g4_7, y ∉ g4_11 := fun y hy e => d4_7 y hy (by simp [e])
  have djup7_12 : ∀ y ∈ g4_7, y ∉ g4_12 := fun y hy e => d4_7 y hy (by simp [e])
  have djup8_9 : ∀ y ∈ g4_8, y ∉ g4_9 := fun y hy e => d4_8 y hy (by simp [e])
  have djup8_10 : ∀ y ∈ g4_8, y ∉ g4_10 := fun y hy e => d4_8 y hy (by simp [e])
  have djup8_11 : ∀ y ∈ g4_8, y ∉ g4_11 := fun y hy e => d4_8 y hy (by simp [e])
  have djup8_12 : ∀ y ∈ g4_8, y ∉ g4_12 := fun y hy e => d4_8 y hy (by simp [e])
  have djup9_10 : ∀ y ∈ g4_9, y ∉ g4_10 := fun y hy e => d4_9 y hy (by simp [e])
  have djup9_11 : ∀ y ∈ g4_9, y ∉ g4_11 := fun y hy e => d4_9 y hy (by simp [e])
  have djup9_12 : ∀ y ∈ g4_9, y ∉ g4_12 := fun y hy e => d4_9 y hy (by simp [e])
  have djup10_11 : ∀ y ∈ g4_10, y ∉ g4_11 := fun y hy e => d4_10 y hy (by simp [e])
  have djup10_12 : ∀ y ∈ g4_10, y ∉ g4_12 := fun y hy e => d4_10 y hy (by simp [e])
  have djup11_12 : ∀ y ∈ g4_11, y ∉ g4_12 := fun y hy e => d4_11 y hy (by simp [e])
  clear p4_0 ov4_0 d4_0 p4_1 ov4_1 d4_1 p4_2 ov4_2 d4_2 p4_3 ov4_3 d4_3 p4_4 ov4_4 d4_4 p4_5 ov4_5 d4_5 p4_6 ov4_6 d4_6 p4_7 ov4_7 d4_7 p4_8 ov4_8 d4_8 p4_9 ov4_9 d4_9 p4_10 ov4_10 d4_10 p4_11 ov4_11 d4_11 p4_12 ov4_12 d4_12 p4_13 ov4_13 d4_13 ov4 iv4 iw4
  go_wp2_with fail
  refine (HI.out _ _ _ _ _ _ _ _ _ _ _ (((oup3_4.out.below iup3 (by omega) ((Below.refl _ _).alloc (Nat.le_refl _) _)).rd iup3).mono (by first | omega | (simp; done) | (simp; omega))) (((oup4_4.out.below iup4 (by omega) ((Below.refl _ _).alloc (Nat.le_refl _) _)).rd iup4).mono (by first | omega | (simp; done) | (simp; omega))) (((oup5_4.out.below iup5 (by omega) ((Below.refl _ _).alloc (Nat.le_refl _) _)).rd iup5).mono (by first | omega | (simp; done) | (simp; omega))) (((oup6_4.out.below iup6 (by omega) ((Below.refl _ _).alloc (Nat.le_refl _) _)).rd iup6).mono (by first | omega | (simp; done) | (simp; omega))) (((oup7_4.out.below iup7 (by omega) ((Below.refl _ _).alloc (Nat.le_refl _) _)).rd iup7).mono (by first | omega | (simp; done) | (simp; omega))) (((oup8_4.out.below iup8 (by omega) ((Below.refl _ _).alloc (Nat.le_refl _) _)).rd iup8).mono (by first | omega | (simp; done) | (simp; omega))) (((oup9_4.out.below iup9 (by omega) ((Below.refl _ _).alloc (Nat.le_refl _) _)).rd iup9).mono (by first | omega | (simp; done) | (simp; omega))) (((oup10_4.out.below iup10 (by omega) ((Below.refl _ _).alloc (Nat.le_refl _) _)).rd iup10).mono (by first | omega | (simp; done) | (simp; omega))) (((oup11_4.out.below iup11 (by omega) ((Below.refl _ _).alloc (Nat.le_refl _) _)).rd iup11).mono (by first | omega | (simp; done) | (simp; omega))) (((oup12_4.out.below iup12 (by omega) ((Below.refl _ _).alloc (Nat.le_refl _) _)).rd iup12).mono (by first | omega | (simp; done) | (simp; omega))) (by omega) (by omega)).mono ?_
  rintro e w5 ⟨rfl, hb5⟩
  have hx5 : Below w4.heap.size w4 (w4.alloc (.cells #[.int .i64 p.terrain.step, .int .i64 p.terrain.width, .int .i64 p.terrain.height, .slice aup3 p.terrain.heights.length cup3, .slice aup4 p.terrain.clutter.length cup4, .slice aup5 p.network.sites.length cup5, .slice aup6 p.network.sectors.length cup6, .slice aup7 p.network.antennas.length cup7, .slice aup8 p.network.radios.length cup8, .slice aup9 p.bands.length cup9, .slice aup10 p.licences.length cup10, .slice aup11 p.protected_.length cup11, .slice aup12 p.apart.length cup12, .int .i64 p.day] 53)) := ((Below.refl _ _).alloc (Nat.le_refl _) _)
  have hbb5 : Below w4.heap.size w4 w5 := hx5.trans (hb5.mono (by first | (simp; done) | (simp; omega)))
  have z5 := hbb5.size
  obtain ⟨qAp5, _, yAp5⟩ := bcellAt hb5 (b := w.heap.size) (by first | omega | (simp; done) | (simp; omega))
  obtain ⟨qS05, _, yS05⟩ := bcellAt hb5 (b := w3.heap.size) (by first | omega | (simp; done) | (simp; omega))
  obtain ⟨qUp5, _, yUp5⟩ := bcellAt hb5 (b := w4.heap.size) (by first | omega | (simp; done) | (simp; omega))
  have BB5 := Lib.hid (BB4.out.trans (hbb5.mono (by omega)))
  have oup3_5 := Lib.hid (oup3_4.out.below iup3 (by omega) hbb5)
  have oup4_5 := Lib.hid (oup4_4.out.below iup4 (by omega) hbb5)
  have oup5_5 := Lib.hid (oup5_4.out.below iup5 (by omega) hbb5)
  have oup6_5 := Lib.hid (oup6_4.out.below iup6 (by omega) hbb5)
  have oup7_5 := Lib.hid (oup7_4.out.below iup7 (by omega) hbb5)
  have oup8_5 := Lib.hid (oup8_4.out.below iup8 (by omega) hbb5)
  have oup9_5 := Lib.hid (oup9_4.out.below iup9 (by omega) hbb5)
  have oup10_5 := Lib.hid (oup10_4.out.below iup10 (by omega) hbb5)
  have oup11_5 := Lib.hid (oup11_4.out.below iup11 (by omega) hbb5)
  have oup12_5 := Lib.hid (oup12_4.out.below iup12 (by omega) hbb5)
  clear hx5
  clear hb5 hbb5
  go_wp2_with fail
  refine (eq_Licence R.1 _).mono ?_
  rintro e w6 ⟨rfl, hb6⟩
  have hx6 : Below w5.heap.size w5 (w5.alloc (.cells #[.string R.1.id, .string R.1.holder, .int .i64 R.1.low, .int .i64 R.1.high, .int .i64 R.1.area.west, .int .i64 R.1.area.south, .int .i64 R.1.area.east, .int .i64 R.1.area.north, .int .i64 R.1.from_, .int .i64 R.1.until_, .int .i64 R.1.power] 72)) := ((Below.refl _ _).alloc (Nat.le_refl _) _)
  have hbb6 : Below w5.heap.size w5 w6 := hx6.trans (hb6.mono (by first | (simp; done) | (simp; omega)))
  have z6 := hbb6.size
  obtain ⟨qAp6, _, yAp6⟩ := bcellAt hb6 (b := w.heap.size) (by first | omega | (simp; done) | (simp; omega))
  obtain ⟨qS06, _, yS06⟩ := bcellAt hb6 (b := w3.heap.size) (by first | omega | (simp; done) | (simp; omega))
  obtain ⟨qUp6, _, yUp6⟩ := bcellAt hb6 (b := w4.heap.size) (by first | omega | (simp; done) | (simp; omega))
  obtain ⟨qG06, _, yG06⟩ := bcellAt hb6 (b := w5.heap.size) (by first | omega | (simp; done) | (simp; omega))
  have BB6 := Lib.hid (BB5.out.trans (hbb6.mono (by omega)))
  have oup3_6 := Lib.hid (oup3_5.out.below iup3 (by omega) hbb6)
  have oup4_6 := Lib.hid (oup4_5.out.below iup4 (by omega) hbb6)
  have oup5_6 := Lib.hid (oup5_5.out.below iup5 (by omega) hbb6)
  have oup6_6 := Lib.hid (oup6_5.out.below iup6 (by omega) hbb6)
  have oup7_6 := Lib.hid (oup7_5.out.below iup7 (by omega) hbb6)
  have oup8_6 := Lib.hid (oup8_5.out.below iup8 (by omega) hbb6)
  have oup9_6 := Lib.hid (oup9_5.out.below iup9 (by omega) hbb6)
  have oup10_6 := Lib.hid (oup10_5.out.below iup10 (by omega) hbb6)
  have oup11_6 := Lib.hid (oup11_5.out.below iup11 (by omega) hbb6)
  have oup12_6 := Lib.hid (oup12_5.out.below iup12 (by omega) hbb6)
  clear hx6
  clear hb6 hbb6
  clear cy1
  have hcf : w6.cell? ⟨w4.heap.size, 0, none⟩ = some (.int .i64 p.terrain.step) ∧ w6.cell? ⟨w4.heap.size, 1, none⟩ = some (.int .i64 p.terrain.width) ∧ w6.cell? ⟨w4.heap.size, 2, none⟩ = some (.int .i64 p.terrain.height) ∧ w6.cell? ⟨w4.heap.size, 3, none⟩ = some (.slice aup3 p.terrain.heights.length cup3) ∧ w6.cell? ⟨w4.heap.size, 4, none⟩ = some (.slice aup4 p.terrain.clutter.length cup4) ∧ w6.cell? ⟨w4.heap.size, 5, none⟩ = some (.slice aup5 p.network.sites.length cup5) ∧ w6.cell? ⟨w4.heap.size, 6, none⟩ = some (.slice aup6 p.network.sectors.length cup6) ∧ w6.cell? ⟨w4.heap.size, 7, none⟩ = some (.slice aup7 p.network.antennas.length cup7) ∧ w6.cell? ⟨w4.heap.size, 8, none⟩ = some (.slice aup8 p.network.radios.length cup8) ∧ w6.cell? ⟨w4.heap.size, 9, none⟩ = some (.slice aup9 p.bands.length cup9) ∧ w6.cell? ⟨w4.heap.size, 10, none⟩ = some (.slice aup10 p.licences.length cup10) ∧ w6.cell? ⟨w4.heap.size, 11, none⟩ = some (.slice aup11 p.protected_.length cup11) ∧ w6.cell? ⟨w4.heap.size, 12, none⟩ = some (.slice aup12 p.apart.length cup12) ∧ w6.cell? ⟨w4.heap.size, 13, none⟩ = some (.int .i64 p.day) ∧ w6.cell? ⟨w.heap.size, 0, none⟩ = some (.int .i64 p.terrain.step) ∧ w6.cell? ⟨w.heap.size, 1, none⟩ = some (.int .i64 p.terrain.width) ∧ w6.cell? ⟨w.heap.size, 2, none⟩ = some (.int .i64 p.terrain.height) ∧ w6.cell? ⟨w.heap.size, 3, none⟩ = some (vp3) ∧ w6.cell? ⟨w.heap.size, 4, none⟩ = some (vp4) ∧ w6.cell? ⟨w.heap.size, 5, none⟩ = some (vp5) ∧ w6.cell? ⟨w.heap.size, 6, none⟩ = some (vp6) ∧ w6.cell? ⟨w.heap.size, 7, none⟩ = some (vp7) ∧ w6.cell? ⟨w.heap.size, 8, none⟩ = some (vp8) ∧ w6.cell? ⟨w.heap.size, 9, none⟩ = some (vp9) ∧ w6.cell? ⟨w.heap.size, 10, none⟩ = some (vp10) ∧ w6.cell? ⟨w.heap.size, 11, none⟩ = some (vp11) ∧ w6.cell? ⟨w.heap.size, 12, none⟩ = some (vp12) ∧ w6.cell? ⟨w.heap.size, 13, none⟩ = some (.int .i64 p.day) := by refine ⟨?_, ?_, ?_, ?_, ?_, ?_, ?_, ?_, ?_, ?_, ?_, ?_, ?_, ?_, ?_, ?_, ?_, ?_, ?_, ?_, ?_, ?_, ?_, ?_, ?_, ?_, ?_, ?_⟩ <;> simp [go_sem, *]
  go_wp2
  have hsame : Below w6.heap.size w6 w6.drew := ⟨rfl, rfl, rfl, Nat.le_refl _, fun _ _ => rfl⟩
  have BBd := Lib.hid BB6.out.drew
  have HTO := Lib.hid (to_Plan p vp3 vp4 vp5 vp6 vp7 vp8 vp9 vp10 vp11 vp12 w6.drew ((Hp3.out.below BBd.out).mono (by show w.heap.size ≤ w6.heap.size; omega)) ((Hp4.out.below BBd.out).mono (by show w.heap.size ≤ w6.heap.size; omega)) ((Hp5.out.below BBd.out).mono (by show w.heap.size ≤ w6.heap.size; omega)) ((Hp6.out.below BBd.out).mono (by show w.heap.size ≤ w6.heap.size; omega)) ((Hp7.out.below BBd.out).mono (by show w.heap.size ≤ w6.heap.size; omega)) ((Hp8.out.below BBd.out).mono (by show w.heap.size ≤ w6.heap.size; omega)) ((Hp9.out.below BBd.out).mono (by show w.heap.size ≤ w6.heap.size; omega)) ((Hp10.out.below BBd.out).mono (by show w.heap.size ≤ w6.heap.size; omega)) ((Hp11.out.below BBd.out).mono (by show w.heap.size ≤ w6.heap.size; omega)) ((Hp12.out.below BBd.out).mono (by show w.heap.size ≤ w6.heap.size; omega)) (by omega))
  have HEQ : Hid (∀ (W : World) (p3 p4 p5 p6 p7 p8 p9 p10 p11 p12 q3 q4 q5 q6 q7 q8 q9 q10 q11 q12 : Value), Below w6.heap.size w6 W → RdV W.heap.size W p.tr [.int .i64 p.terrain.step, .int .i64 p.terrain.width, .int .i64 p.terrain.height, q3, q4, q5, q6, q7, q8, q9, q10, q11, q12, .int .i64 p.day] → p3 = .slice aup3 p.terrain.heights.length cup3 → p4 = .slice aup4 p.terrain.clutter.length cup4 → p5 = .slice aup5 p.network.sites.length cup5 → p6 = .slice aup6 p.network.sectors.length cup6 → p7 = .slice aup7 p.network.antennas.length cup7 → p8 = .slice aup8 p.network.radios.length cup8 → p9 = .slice aup9 p.bands.length cup9 → p10 = .slice aup10 p.licences.length cup10 → p11 = .slice aup11 p.protected_.length cup11 → p12 = .slice aup12 p.apart.length cup12 → Calls Tryz.prog 17 #[.agg #[.int .i64 p.terrain.step, .int .i64 p.terrain.width, .int .i64 p.terrain.height, p3, p4, p5, p6, p7, p8, p9, p10, p11, p12, .int .i64 p.day], .agg #[.int .i64 p.terrain.step, .int .i64 p.terrain.width, .int .i64 p.terrain.height, q3, q4, q5, q6, q7, q8, q9, q10, q11, q12, .int .i64 p.day]] W fun e w' => e = .returned (.bool true) ∧ Below W.heap.size W w') := fun W p3 p4 p5 p6 p7 p8 p9 p10 p11 p12 q3 q4 q5 q6 q7 q8 q9 q10 q11 q12 hW hr e3 e4 e5 e6 e7 e8 e9 e10 e11 e12 => by
    subst e3 e4 e5 e6 e7 e8 e9 e10 e11 e12
    have hzW := hW.size
    exact eq_Plan p _ _ _ _ _ _ _ _ _ _ _ _ _ _ _ _ _ _ _ _ W.heap.size W (((oup3_6.out.below iup3 (by omega) hW).rd iup3).mono (by omega)) hr.2.2.2.1 (((oup4_6.out.below iup4 (by omega) hW).rd iup4).mono (by omega)) hr.2.2.2.2.1 (((oup5_6.out.below iup5 (by omega) hW).rd iup5).mono (by omega)) hr.2.2.2.2.2.1 (((oup6_6.out.below iup6 (by omega) hW).rd iup6).mono (by omega)) hr.2.2.2.2.2.2.1 (((oup7_6.out.below iup7 (by omega) hW).rd iup7).mono (by omega)) hr.2.2.2.2.2.2.2.1 (((oup8_6.out.below iup8 (by omega) hW).rd iup8).mono (by omega)) hr.2.2.2.2.2.2.2.2.1 (((oup9_6.out.below iup9 (by omega) hW).rd iup9).mono (by omega)) hr.2.2.2.2.2.2.2.2.2.1 (((oup10_6.out.below iup10 (by omega) hW).rd iup10).mono (by omega)) hr.2.2.2.2.2.2.2.2.2.2.1 (((oup11_6.out.below iup11 (by omega) hW).rd iup11).mono (by omega)) hr.2.2.2.2.2.2.2.2.2.2.2.1 (((oup12_6.out.below iup12 (by omega) hW).rd iup12).mono (by omega)) hr.2.2.2.2.2.2.2.2.2.2.2.2.1 (Nat.le_refl _) (by omega)
  go_region_held3 (fun W => W.cell? ⟨w4.heap.size, 0, none⟩ = some (.int .i64 p.terrain.step) ∧ W.cell? ⟨w4.heap.size, 1, none⟩ = some (.int .i64 p.terrain.width) ∧ W.cell? ⟨w4.heap.size, 2, none⟩ = some (.int .i64 p.terrain.height) ∧ W.cell? ⟨w4.heap.size, 3, none⟩ = some (.slice aup3 p.terrain.heights.length cup3) ∧ W.cell? ⟨w4.heap.size, 4, none⟩ = some (.slice aup4 p.terrain.clutter.length cup4) ∧ W.cell? ⟨w4.heap.size, 5, none⟩ = some (.slice aup5 p.network.sites.length cup5) ∧ W.cell? ⟨w4.heap.size, 6, none⟩ = some (.slice aup6 p.network.sectors.length cup6) ∧ W.cell? ⟨w4.heap.size, 7, none⟩ = some (.slice aup7 p.network.antennas.length cup7) ∧ W.cell? ⟨w4.heap.size, 8, none⟩ = some (.slice aup8 p.network.radios.length cup8) ∧ W.cell? ⟨w4.heap.size, 9, none⟩ = some (.slice aup9 p.bands.length cup9) ∧ W.cell? ⟨w4.heap.size, 10, none⟩ = some (.slice aup10 p.licences.length cup10) ∧ W.cell? ⟨w4.heap.size, 11, none⟩ = some (.slice aup11 p.protected_.length cup11) ∧ W.cell? ⟨w4.heap.size, 12, none⟩ = some (.slice aup12 p.apart.length cup12) ∧ W.cell? ⟨w4.heap.size, 13, none⟩ = some (.int .i64 p.day) ∧ W.cell? ⟨w.heap.size, 0, none⟩ = some (.int .i64 p.terrain.step) ∧ W.cell? ⟨w.heap.size, 1, none⟩ = some (.int .i64 p.terrain.width) ∧ W.cell? ⟨w.heap.size, 2, none⟩ = some (.int .i64 p.terrain.height) ∧ W.cell? ⟨w.heap.size, 3, none⟩ = some (vp3) ∧ W.cell? ⟨w.heap.size, 4, none⟩ = some (vp4) ∧ W.cell? ⟨w.heap.size, 5, none⟩ = some (vp5) ∧ W.cell? ⟨w.heap.size, 6, none⟩ = some (vp6) ∧ W.cell? ⟨w.heap.size, 7, none⟩ = some (vp7) ∧ W.cell? ⟨w.heap.size, 8, none⟩ = some (vp8) ∧ W.cell? ⟨w.heap.size, 9, none⟩ = some (vp9) ∧ W.cell? ⟨w.heap.size, 10, none⟩ = some (vp10) ∧ W.cell? ⟨w.heap.size, 11, none⟩ = some (vp11) ∧ W.cell? ⟨w.heap.size, 12, none⟩ = some (vp12) ∧ W.cell? ⟨w.heap.size, 13, none⟩ = some (.int .i64 p.day)) (first | exact hcf | (refine ⟨?_, ?_, ?_, ?_, ?_, ?_, ?_, ?_, ?_, ?_, ?_, ?_, ?_, ?_, ?_, ?_, ?_, ?_, ?_, ?_, ?_, ?_, ?_, ?_, ?_, ?_, ?_, ?_⟩ <;> simp [go_sem, *]))
    (first
      | (go_at_call 15; refine (HTO.out).mono ?_; rintro e wt ⟨at3, ct3, at4, ct4, at5, ct5, at6, ct6, at7, ct7, at8, ct8, at9, ct9, at10, ct10, at11, ct11, at12, ct12, ft, rfl, hbt, ovt, ivt⟩; obtain ⟨qUt, _, yUt⟩ := bcellAt hbt (b := w4.heap.size) (by show w4.heap.size < w6.heap.size; omega); obtain ⟨qAt, _, yAt⟩ := bcellAt hbt (b := w.heap.size) (by show w.heap.size < w6.heap.size; omega))
      | (go_at_call 17; refine (HEQ.out _ _ _ _ _ _ _ _ _ _ _ _ _ _ _ _ _ _ _ _ _ (hsame.trans hbt) (ovt.rd ivt) rfl rfl rfl rfl rfl rfl rfl rfl rfl rfl).mono ?_; rintro e w7 ⟨rfl, hbe⟩; obtain ⟨qUe, _, yUe⟩ := bcellAt hbe (b := w4.heap.size) yUt; obtain ⟨qAe, _, yAe⟩ := bcellAt hbe (b := w.heap.size) yAt))
  have hb7 : Below w6.heap.size w6 w7 := (hsame.trans hbt).trans (hbe.mono (hsame.trans hbt).size)
  clear HEQ HTO BBd hcf qUt qAt qUe qAe yUt yAt yUe yAe hbe hbt ovt ivt hsame
  have hbb7 : Below w6.heap.size w6 w7 := hb7
  have z7 := hbb7.size
  obtain ⟨qAp7, _, yAp7⟩ := bcellAt hb7 (b := w.heap.size) (by first | omega | (simp; done) | (simp; omega))
  obtain ⟨qS07, _, yS07⟩ := bcellAt hb7 (b := w3.heap.size) (by first | omega | (simp; done) | (simp; omega))
  obtain ⟨qUp7, _, yUp7⟩ := bcellAt hb7 (b := w4.heap.size) (by first | omega | (simp; done) | (simp; omega))
  obtain ⟨qG07, _, yG07⟩ := bcellAt hb7 (b := w5.heap.size) (by first | omega | (simp; done) | (simp; omega))
  have BB7 := Lib.hid (BB6.out.trans (hbb7.mono (by omega)))
  have oup3_7 := Lib.hid (oup3_6.out.below iup3 (by omega) hbb7)
  have oup4_7 := Lib.hid (oup4_6.out.below iup4 (by omega) hbb7)
  have oup5_7 := Lib.hid (oup5_6.out.below iup5 (by omega) hbb7)
  have oup6_7 := Lib.hid (oup6_6.out.below iup6 (by omega) hbb7)
  have oup7_7 := Lib.hid (oup7_6.out.below iup7 (by omega) hbb7)
  have oup8_7 := Lib.hid (oup8_6.out.below iup8 (by omega) hbb7)
  have oup9_7 := Lib.hid (oup9_6.out.below iup9 (by omega) hbb7)
  have oup10_7 := Lib.hid (oup10_6.out.below iup10 (by omega) hbb7)
  have oup11_7 := Lib.hid (oup11_6.out.below iup11 (by omega) hbb7)
  have oup12_7 := Lib.hid (oup12_6.out.below iup12 (by omega) hbb7)
  clear hbb7
  go_wp2
  go_ret
  exact ⟨rfl, BB7.out⟩
end Go.Proofs.YtlfkdhakibagaaaGreat.fnExactLicenceOf
