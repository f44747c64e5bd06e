/- Contracts of the laws' helpers over the type Desk and slices of it. Conditions: bounded lengths. -/
import Derived.Test.YtjfmkmcefnidcaaGreatInts2
import Derived.Test.YtjfmkmcefnidcaaGreatTypes
import Derived.Test.YtjfmkmcefnidcaaGreatText
import Derived.Test.YtjfmkmcefnidcaaGreatOver
import Derived.Test.YtjfmkmcefnidcaaGreatHPlan
import Derived.Test.YtjfmkmcefnidcaaGreatHRequest
namespace Go.Proofs.YtjfmkmcefnidcaaGreat
open Go.RowKit
set_option linter.unusedVariables false

theorem DDesk.siz_tr (x : DDesk) : sizL x.tr = sizL (x.plan).tr + siz (DRequest.sT x.requests) := by
  simp only [DDesk.tr, DPlan.tr, sizL, siz, intT]
  omega
set_option maxHeartbeats 4000000 in
set_option maxRecDepth 100000 in
theorem sz_Desk (x : DDesk) (v3 v4 v5 v6 v7 v8 v9 v10 v11 v12 v14 : Value) (B : Nat) (left : Int) (w : World) (h3 : Rd B w (intsT x.plan.terrain.heights) v3) (h4 : Rd B w (intsT x.plan.terrain.clutter) v4) (h5 : Rd B w (DSite.sT x.plan.network.sites) v5) (h6 : Rd B w (DSector.sT x.plan.network.sectors) v6) (h7 : Rd B w (DAntenna.sT x.plan.network.antennas) v7) (h8 : Rd B w (DRadio.sT x.plan.network.radios) v8) (h9 : Rd B w (DBand.sT x.plan.bands) v9) (h10 : Rd B w (DLicence.sT x.plan.licences) v10) (h11 : Rd B w (DProtected.sT x.plan.protected_) v11) (h12 : Rd B w (intssT x.plan.apart) v12) (h14 : Rd B w (DRequest.sT x.requests) v14) (hB : B ≤ w.heap.size) (hl : 0 ≤ left) (hl2 : left ≤ 1048576) (hok : x.ok) :
    Calls Tryz.prog 6 #[.agg #[.int .i64 x.plan.terrain.step, .int .i64 x.plan.terrain.width, .int .i64 x.plan.terrain.height, v3, v4, v5, v6, v7, v8, v9, v10, v11, v12, .int .i64 x.plan.day, v14], .int .i64 left] w (SzPost (sizL x.tr) left w) := by
  have hsum := DDesk.siz_tr x
  have b0 : Below w.heap.size w (w.alloc (.cells #[.int .i64 x.plan.terrain.step, .int .i64 x.plan.terrain.width, .int .i64 x.plan.terrain.height, v3, v4, v5, v6, v7, v8, v9, v10, v11, v12, .int .i64 x.plan.day, v14] 39)) := (Below.refl _ _).alloc (Nat.le_refl _) _
  have B0 := Lib.hid b0
  have z0 : w.heap.size ≤ (w.alloc (.cells #[.int .i64 x.plan.terrain.step, .int .i64 x.plan.terrain.width, .int .i64 x.plan.terrain.height, v3, v4, v5, v6, v7, v8, v9, v10, v11, v12, .int .i64 x.plan.day, v14] 39)).heap.size := b0.size
  have y0 : w.heap.size < (w.alloc (.cells #[.int .i64 x.plan.terrain.step, .int .i64 x.plan.terrain.width, .int .i64 x.plan.terrain.height, v3, v4, v5, v6, v7, v8, v9, v10, v11, v12, .int .i64 x.plan.day, v14] 39)).heap.size := by simp
  have R0_3 := Lib.hid (h3.below (b0.mono hB))
  have R0_4 := Lib.hid (h4.below (b0.mono hB))
  have R0_5 := Lib.hid (h5.below (b0.mono hB))
  have R0_6 := Lib.hid (h6.below (b0.mono hB))
  have R0_7 := Lib.hid (h7.below (b0.mono hB))
  have R0_8 := Lib.hid (h8.below (b0.mono hB))
  have R0_9 := Lib.hid (h9.below (b0.mono hB))
  have R0_10 := Lib.hid (h10.below (b0.mono hB))
  have R0_11 := Lib.hid (h11.below (b0.mono hB))
  have R0_12 := Lib.hid (h12.below (b0.mono hB))
  have R0_14 := Lib.hid (h14.below (b0.mono hB))
  clear b0 h3 h4 h5 h6 h7 h8 h9 h10 h11 h12 h14
  go_enter Tryz.func6, Tryz.ntmps6
  go_wp2_with fail
  refine (sz_Plan x.plan v3 v4 v5 v6 v7 v8 v9 v10 v11 v12 B _ _ R0_3.out R0_4.out R0_5.out R0_6.out R0_7.out R0_8.out R0_9.out R0_10.out R0_11.out R0_12.out (by omega) (by omega) (by omega) hok.plan).mono ?_
  rintro e w1 ⟨⟨c0, rfl⟩ | ⟨c0, rfl⟩, hb1⟩
  case inr =>
    go_wp2
    go_ret
    exact ⟨Or.inr ⟨by omega, rfl⟩, B0.out.trans (hb1.mono z0)⟩
  obtain ⟨q1, _, y1⟩ := bcellAt hb1 (b := w.heap.size) y0
  have z1 : w.heap.size ≤ w1.heap.size := by omega
  have B1 := Lib.hid (B0.out.trans (hb1.mono z0))
  have R1_3 := Lib.hid (R0_3.out.below (hb1.mono (by omega)))
  have R1_4 := Lib.hid (R0_4.out.below (hb1.mono (by omega)))
  have R1_5 := Lib.hid (R0_5.out.below (hb1.mono (by omega)))
  have R1_6 := Lib.hid (R0_6.out.below (hb1.mono (by omega)))
  have R1_7 := Lib.hid (R0_7.out.below (hb1.mono (by omega)))
  have R1_8 := Lib.hid (R0_8.out.below (hb1.mono (by omega)))
  have R1_9 := Lib.hid (R0_9.out.below (hb1.mono (by omega)))
  have R1_10 := Lib.hid (R0_10.out.below (hb1.mono (by omega)))
  have R1_11 := Lib.hid (R0_11.out.below (hb1.mono (by omega)))
  have R1_12 := Lib.hid (R0_12.out.below (hb1.mono (by omega)))
  have R1_14 := Lib.hid (R0_14.out.below (hb1.mono (by omega)))
  clear hb1
  have d0 : decide (left - (sizL (x.plan).tr : Int) < 0) = false := by simp; omega
  go_wp2_with fail
  refine (sz_RequestS x.requests v14 B _ _ R1_14.out (by omega) (by omega) (by omega) (hok.requests)).mono ?_
  rintro e w2 ⟨⟨c1, rfl⟩ | ⟨c1, rfl⟩, hb2⟩
  case inr =>
    go_wp2
    go_ret
    exact ⟨Or.inr ⟨by omega, rfl⟩, B1.out.trans (hb2.mono z1)⟩
  obtain ⟨q2, _, y2⟩ := bcellAt hb2 (b := w.heap.size) y1
  have z2 : w.heap.size ≤ w2.heap.size := by omega
  have B2 := Lib.hid (B1.out.trans (hb2.mono z1))
  have R2_3 := Lib.hid (R1_3.out.below (hb2.mono (by omega)))
  have R2_4 := Lib.hid (R1_4.out.below (hb2.mono (by omega)))
  have R2_5 := Lib.hid (R1_5.out.below (hb2.mono (by omega)))
  have R2_6 := Lib.hid (R1_6.out.below (hb2.mono (by omega)))
  have R2_7 := Lib.hid (R1_7.out.below (hb2.mono (by omega)))
  have R2_8 := Lib.hid (R1_8.out.below (hb2.mono (by omega)))
  have R2_9 := Lib.hid (R1_9.out.below (hb2.mono (by omega)))
  have R2_10 := Lib.hid (R1_10.out.below (hb2.mono (by omega)))
  have R2_11 := Lib.hid (R1_11.out.below (hb2.mono (by omega)))
  have R2_12 := Lib.hid (R1_12.out.below (hb2.mono (by omega)))
  have R2_14 := Lib.hid (R1_14.out.below (hb2.mono (by omega)))
  clear hb2
  have d1 : decide (left - (sizL (x.plan).tr : Int) - (siz (DRequest.sT x.requests) : Int) < 0) = false := by simp; omega
  go_wp2
  go_ret
  exact ⟨Or.inl ⟨by omega, ret_int (by omega)⟩, B2.out⟩
set_option maxHeartbeats 4000000 in
set_option maxRecDepth 100000 in
theorem to_Desk (x : DDesk) (v3 v4 v5 v6 v7 v8 v9 v10 v11 v12 v14 : Value) (w : World) (h3 : Rd w.heap.size w (intsT x.plan.terrain.heights) v3) (h4 : Rd w.heap.size w (intsT x.plan.terrain.clutter) v4) (h5 : Rd w.heap.size w (DSite.sT x.plan.network.sites) v5) (h6 : Rd w.heap.size w (DSector.sT x.plan.network.sectors) v6) (h7 : Rd w.heap.size w (DAntenna.sT x.plan.network.antennas) v7) (h8 : Rd w.heap.size w (DRadio.sT x.plan.network.radios) v8) (h9 : Rd w.heap.size w (DBand.sT x.plan.bands) v9) (h10 : Rd w.heap.size w (DLicence.sT x.plan.licences) v10) (h11 : Rd w.heap.size w (DProtected.sT x.plan.protected_) v11) (h12 : Rd w.heap.size w (intssT x.plan.apart) v12) (h14 : Rd w.heap.size w (DRequest.sT x.requests) v14) (hn : sizL x.tr ≤ 1048576) :
    Calls Tryz.prog 8 #[.agg #[.int .i64 x.plan.terrain.step, .int .i64 x.plan.terrain.width, .int .i64 x.plan.terrain.height, v3, v4, v5, v6, v7, v8, v9, v10, v11, v12, .int .i64 x.plan.day, v14]] w fun e w' => ∃ a3 c3 a4 c4 a5 c5 a6 c6 a7 c7 a8 c8 a9 c9 a10 c10 a11 c11 a12 c12 a14 c14 fp, e = .returned (.agg #[.int .i64 x.plan.terrain.step, .int .i64 x.plan.terrain.width, .int .i64 x.plan.terrain.height, .slice a3 x.plan.terrain.heights.length c3, .slice a4 x.plan.terrain.clutter.length c4, .slice a5 x.plan.network.sites.length c5, .slice a6 x.plan.network.sectors.length c6, .slice a7 x.plan.network.antennas.length c7, .slice a8 x.plan.network.radios.length c8, .slice a9 x.plan.bands.length c9, .slice a10 x.plan.licences.length c10, .slice a11 x.plan.protected_.length c11, .slice a12 x.plan.apart.length c12, .int .i64 x.plan.day, .slice a14 x.requests.length c14]) ∧ Below w.heap.size w w' ∧ OwnV w' x.tr [.int .i64 x.plan.terrain.step, .int .i64 x.plan.terrain.width, .int .i64 x.plan.terrain.height, .slice a3 x.plan.terrain.heights.length c3, .slice a4 x.plan.terrain.clutter.length c4, .slice a5 x.plan.network.sites.length c5, .slice a6 x.plan.network.sectors.length c6, .slice a7 x.plan.network.antennas.length c7, .slice a8 x.plan.network.radios.length c8, .slice a9 x.plan.bands.length c9, .slice a10 x.plan.licences.length c10, .slice a11 x.plan.protected_.length c11, .slice a12 x.plan.apart.length c12, .int .i64 x.plan.day, .slice a14 x.requests.length c14] fp ∧ In w.heap.size w'.heap.size fp := by
  have hsum := DDesk.siz_tr x
  go_enter Tryz.func8, Tryz.ntmps8
  have bX0 : Below w.heap.size w (((w.alloc (.cells #[.int .i64 x.plan.terrain.step, .int .i64 x.plan.terrain.width, .int .i64 x.plan.terrain.height, v3, v4, v5, v6, v7, v8, v9, v10, v11, v12, .int .i64 x.plan.day, v14] 39)).alloc (.cells #[.int .i64 0, .int .i64 0, .int .i64 0, .slice none 0 0, .slice none 0 0, .slice none 0 0, .slice none 0 0, .slice none 0 0, .slice none 0 0, .slice none 0 0, .slice none 0 0, .slice none 0 0, .slice none 0 0, .int .i64 0, .slice none 0 0] 56)).alloc (.cells #[.int .i64 0, .int .i64 0, .int .i64 0, .slice none 0 0, .slice none 0 0, .slice none 0 0, .slice none 0 0, .slice none 0 0, .slice none 0 0, .slice none 0 0, .slice none 0 0, .slice none 0 0, .slice none 0 0, .int .i64 0, .slice none 0 0] 56)) := (((Below.refl _ _).alloc (Nat.le_refl _) _).alloc (by simp) _).alloc (by first | (simp; done) | (simp; omega)) _
  have BX0 := Lib.hid bX0
  have zX0 : w.heap.size + 3 ≤ (((w.alloc (.cells #[.int .i64 x.plan.terrain.step, .int .i64 x.plan.terrain.width, .int .i64 x.plan.terrain.height, v3, v4, v5, v6, v7, v8, v9, v10, v11, v12, .int .i64 x.plan.day, v14] 39)).alloc (.cells #[.int .i64 0, .int .i64 0, .int .i64 0, .slice none 0 0, .slice none 0 0, .slice none 0 0, .slice none 0 0, .slice none 0 0, .slice none 0 0, .slice none 0 0, .slice none 0 0, .slice none 0 0, .slice none 0 0, .int .i64 0, .slice none 0 0] 56)).alloc (.cells #[.int .i64 0, .int .i64 0, .int .i64 0, .slice none 0 0, .slice none 0 0, .slice none 0 0, .slice none 0 0, .slice none 0 0, .slice none 0 0, .slice none 0 0, .slice none 0 0, .slice none 0 0, .slice none 0 0, .int .i64 0, .slice none 0 0] 56)).heap.size := by first | (simp; done) | (simp; omega)
  clear bX0
  go_wp2_with fail
  refine (to_Plan x.plan v3 v4 v5 v6 v7 v8 v9 v10 v11 v12 (((w.alloc (.cells #[.int .i64 x.plan.terrain.step, .int .i64 x.plan.terrain.width, .int .i64 x.plan.terrain.height, v3, v4, v5, v6, v7, v8, v9, v10, v11, v12, .int .i64 x.plan.day, v14] 39)).alloc (.cells #[.int .i64 0, .int .i64 0, .int .i64 0, .slice none 0 0, .slice none 0 0, .slice none 0 0, .slice none 0 0, .slice none 0 0, .slice none 0 0, .slice none 0 0, .slice none 0 0, .slice none 0 0, .slice none 0 0, .int .i64 0, .slice none 0 0] 56)).alloc (.cells #[.int .i64 0, .int .i64 0, .int .i64 0, .slice none 0 0, .slice none 0 0, .slice none 0 0, .slice none 0 0, .slice none 0 0, .slice none 0 0, .slice none 0 0, .slice none 0 0, .slice none 0 0, .slice none 0 0, .int .i64 0, .slice none 0 0] 56)) ((h3.below BX0.out).mono (by omega)) ((h4.below BX0.out).mono (by omega)) ((h5.below BX0.out).mono (by omega)) ((h6.below BX0.out).mono (by omega)) ((h7.below BX0.out).mono (by omega)) ((h8.below BX0.out).mono (by omega)) ((h9.below BX0.out).mono (by omega)) ((h10.below BX0.out).mono (by omega)) ((h11.below BX0.out).mono (by omega)) ((h12.below BX0.out).mono (by omega)) (by omega)).mono ?_
  rintro e w1 ⟨a3, c3, a4, c4, a5, c5, a6, c6, a7, c7, a8, c8, a9, c9, a10, c10, a11, c11, a12, c12, fp1, rfl, hb1, o1, i1⟩
  obtain ⟨qa1, _, ya1⟩ := bcellAt hb1 (b := w.heap.size) (by omega)
  obtain ⟨qb1, qf1, yb1⟩ := bcellAt hb1 (b := w.heap.size + 1) (by omega)
  obtain ⟨qc1, qg1, yc1⟩ := bcellAt hb1 (b := w.heap.size + 1 + 1) (by omega)
  have z1 := hb1.size
  have B1 := Lib.hid (BX0.out.trans (hb1.mono (by omega)))
  have y1 : w.heap.size + 3 ≤ w1.heap.size := by omega
  have j1 : In (w.heap.size + 3) w1.heap.size fp1 := i1.mono (by omega) (Nat.le_refl _)
  have P1_1 := Lib.hid o1
  clear hb1 o1 i1
  have BX1 := Lib.hid ((((((((((((((B1.out.setCell (p := ⟨w.heap.size + 1 + 1, 0, none⟩) (by show w.heap.size ≤ w.heap.size + 1 + 1; omega) (.int .i64 x.plan.terrain.step)).setCell (p := ⟨w.heap.size + 1 + 1, 1, none⟩) (by show w.heap.size ≤ w.heap.size + 1 + 1; omega) (.int .i64 x.plan.terrain.width)).setCell (p := ⟨w.heap.size + 1 + 1, 2, none⟩) (by show w.heap.size ≤ w.heap.size + 1 + 1; omega) (.int .i64 x.plan.terrain.height)).setCell (p := ⟨w.heap.size + 1 + 1, 3, none⟩) (by show w.heap.size ≤ w.heap.size + 1 + 1; omega) (.slice a3 x.plan.terrain.heights.length c3)).setCell (p := ⟨w.heap.size + 1 + 1, 4, none⟩) (by show w.heap.size ≤ w.heap.size + 1 + 1; omega) (.slice a4 x.plan.terrain.clutter.length c4)).setCell (p := ⟨w.heap.size + 1 + 1, 5, none⟩) (by show w.heap.size ≤ w.heap.size + 1 + 1; omega) (.slice a5 x.plan.network.sites.length c5)).setCell (p := ⟨w.heap.size + 1 + 1, 6, none⟩) (by show w.heap.size ≤ w.heap.size + 1 + 1; omega) (.slice a6 x.plan.network.sectors.length c6)).setCell (p := ⟨w.heap.size + 1 + 1, 7, none⟩) (by show w.heap.size ≤ w.heap.size + 1 + 1; omega) (.slice a7 x.plan.network.antennas.length c7)).setCell (p := ⟨w.heap.size + 1 + 1, 8, none⟩) (by show w.heap.size ≤ w.heap.size + 1 + 1; omega) (.slice a8 x.plan.network.radios.length c8)).setCell (p := ⟨w.heap.size + 1 + 1, 9, none⟩) (by show w.heap.size ≤ w.heap.size + 1 + 1; omega) (.slice a9 x.plan.bands.length c9)).setCell (p := ⟨w.heap.size + 1 + 1, 10, none⟩) (by show w.heap.size ≤ w.heap.size + 1 + 1; omega) (.slice a10 x.plan.licences.length c10)).setCell (p := ⟨w.heap.size + 1 + 1, 11, none⟩) (by show w.heap.size ≤ w.heap.size + 1 + 1; omega) (.slice a11 x.plan.protected_.length c11)).setCell (p := ⟨w.heap.size + 1 + 1, 12, none⟩) (by show w.heap.size ≤ w.heap.size + 1 + 1; omega) (.slice a12 x.plan.apart.length c12)).setCell (p := ⟨w.heap.size + 1 + 1, 13, none⟩) (by show w.heap.size ≤ w.heap.size + 1 + 1; omega) (.int .i64 x.plan.day))
  have zX1 : w.heap.size + 3 ≤ (((((((((((((((w1.setCell ⟨w.heap.size + 1 + 1, 0, none⟩ (.int .i64 x.plan.terrain.step)).setCell ⟨w.heap.size + 1 + 1, 1, none⟩ (.int .i64 x.plan.terrain.width)).setCell ⟨w.heap.size + 1 + 1, 2, none⟩ (.int .i64 x.plan.terrain.height)).setCell ⟨w.heap.size + 1 + 1, 3, none⟩ (.slice a3 x.plan.terrain.heights.length c3)).setCell ⟨w.heap.size + 1 + 1, 4, none⟩ (.slice a4 x.plan.terrain.clutter.length c4)).setCell ⟨w.heap.size + 1 + 1, 5, none⟩ (.slice a5 x.plan.network.sites.length c5)).setCell ⟨w.heap.size + 1 + 1, 6, none⟩ (.slice a6 x.plan.network.sectors.length c6)).setCell ⟨w.heap.size + 1 + 1, 7, none⟩ (.slice a7 x.plan.network.antennas.length c7)).setCell ⟨w.heap.size + 1 + 1, 8, none⟩ (.slice a8 x.plan.network.radios.length c8)).setCell ⟨w.heap.size + 1 + 1, 9, none⟩ (.slice a9 x.plan.bands.length c9)).setCell ⟨w.heap.size + 1 + 1, 10, none⟩ (.slice a10 x.plan.licences.length c10)).setCell ⟨w.heap.size + 1 + 1, 11, none⟩ (.slice a11 x.plan.protected_.length c11)).setCell ⟨w.heap.size + 1 + 1, 12, none⟩ (.slice a12 x.plan.apart.length c12)).setCell ⟨w.heap.size + 1 + 1, 13, none⟩ (.int .i64 x.plan.day))).heap.size := by simp only [size_setCell]; omega
  go_wp2_with fail
  refine (to_RequestS x.requests v14 (((((((((((((((w1.setCell ⟨w.heap.size + 1 + 1, 0, none⟩ (.int .i64 x.plan.terrain.step)).setCell ⟨w.heap.size + 1 + 1, 1, none⟩ (.int .i64 x.plan.terrain.width)).setCell ⟨w.heap.size + 1 + 1, 2, none⟩ (.int .i64 x.plan.terrain.height)).setCell ⟨w.heap.size + 1 + 1, 3, none⟩ (.slice a3 x.plan.terrain.heights.length c3)).setCell ⟨w.heap.size + 1 + 1, 4, none⟩ (.slice a4 x.plan.terrain.clutter.length c4)).setCell ⟨w.heap.size + 1 + 1, 5, none⟩ (.slice a5 x.plan.network.sites.length c5)).setCell ⟨w.heap.size + 1 + 1, 6, none⟩ (.slice a6 x.plan.network.sectors.length c6)).setCell ⟨w.heap.size + 1 + 1, 7, none⟩ (.slice a7 x.plan.network.antennas.length c7)).setCell ⟨w.heap.size + 1 + 1, 8, none⟩ (.slice a8 x.plan.network.radios.length c8)).setCell ⟨w.heap.size + 1 + 1, 9, none⟩ (.slice a9 x.plan.bands.length c9)).setCell ⟨w.heap.size + 1 + 1, 10, none⟩ (.slice a10 x.plan.licences.length c10)).setCell ⟨w.heap.size + 1 + 1, 11, none⟩ (.slice a11 x.plan.protected_.length c11)).setCell ⟨w.heap.size + 1 + 1, 12, none⟩ (.slice a12 x.plan.apart.length c12)).setCell ⟨w.heap.size + 1 + 1, 13, none⟩ (.int .i64 x.plan.day))) ((h14.below BX1.out).mono (by omega)) (by omega)).mono ?_
  rintro e w2 ⟨a14, c14, fp2, rfl, hb2, o2, i2⟩
  obtain ⟨qa2, _, ya2⟩ := bcellAt hb2 (b := w.heap.size) (by omega)
  obtain ⟨qb2, qf2, yb2⟩ := bcellAt hb2 (b := w.heap.size + 1) (by omega)
  obtain ⟨qc2, qg2, yc2⟩ := bcellAt hb2 (b := w.heap.size + 1 + 1) (by omega)
  have z2 := hb2.size
  simp only [size_setCell] at z2
  have B2 := Lib.hid (BX1.out.trans (hb2.mono (by omega)))
  have y2 : w.heap.size + 3 ≤ w2.heap.size := by omega
  have P1_2 := Lib.hid (((((((((((((((P1_1.out.setFar (p := ⟨w.heap.size + 1 + 1, 0, none⟩) (fun e => by have := (j1 _ e).1; simp only at this; omega) (.int .i64 x.plan.terrain.step)).setFar (p := ⟨w.heap.size + 1 + 1, 1, none⟩) (fun e => by have := (j1 _ e).1; simp only at this; omega) (.int .i64 x.plan.terrain.width)).setFar (p := ⟨w.heap.size + 1 + 1, 2, none⟩) (fun e => by have := (j1 _ e).1; simp only at this; omega) (.int .i64 x.plan.terrain.height)).setFar (p := ⟨w.heap.size + 1 + 1, 3, none⟩) (fun e => by have := (j1 _ e).1; simp only at this; omega) (.slice a3 x.plan.terrain.heights.length c3)).setFar (p := ⟨w.heap.size + 1 + 1, 4, none⟩) (fun e => by have := (j1 _ e).1; simp only at this; omega) (.slice a4 x.plan.terrain.clutter.length c4)).setFar (p := ⟨w.heap.size + 1 + 1, 5, none⟩) (fun e => by have := (j1 _ e).1; simp only at this; omega) (.slice a5 x.plan.network.sites.length c5)).setFar (p := ⟨w.heap.size + 1 + 1, 6, none⟩) (fun e => by have := (j1 _ e).1; simp only at this; omega) (.slice a6 x.plan.network.sectors.length c6)).setFar (p := ⟨w.heap.size + 1 + 1, 7, none⟩) (fun e => by have := (j1 _ e).1; simp only at this; omega) (.slice a7 x.plan.network.antennas.length c7)).setFar (p := ⟨w.heap.size + 1 + 1, 8, none⟩) (fun e => by have := (j1 _ e).1; simp only at this; omega) (.slice a8 x.plan.network.radios.length c8)).setFar (p := ⟨w.heap.size + 1 + 1, 9, none⟩) (fun e => by have := (j1 _ e).1; simp only at this; omega) (.slice a9 x.plan.bands.length c9)).setFar (p := ⟨w.heap.size + 1 + 1, 10, none⟩) (fun e => by have := (j1 _ e).1; simp only at this; omega) (.slice a10 x.plan.licences.length c10)).setFar (p := ⟨w.heap.size + 1 + 1, 11, none⟩) (fun e => by have := (j1 _ e).1; simp only at this; omega) (.slice a11 x.plan.protected_.length c11)).setFar (p := ⟨w.heap.size + 1 + 1, 12, none⟩) (fun e => by have := (j1 _ e).1; simp only at this; omega) (.slice a12 x.plan.apart.length c12)).setFar (p := ⟨w.heap.size + 1 + 1, 13, none⟩) (fun e => by have := (j1 _ e).1; simp only at this; omega) (.int .i64 x.plan.day)).below j1 (by first | omega | (simp only [size_setCell]; omega)) hb2)
  have j2 : In (w1.heap.size) w2.heap.size fp2 := i2.mono (by simp only [size_setCell]; omega) (Nat.le_refl _)
  have P2_2 := Lib.hid o2
  clear hb2 o2 i2
  go_wp2
  have F1 := Lib.hid ((((((((((((((((P1_2.out.setFar (p := ⟨w.heap.size + 1 + 1, 14, none⟩) (fun e => by have := (j1 _ e).1; simp only at this; omega) (.slice a14 x.requests.length c14)).setFar (p := ⟨w.heap.size + 1, 0, none⟩) (fun e => by have := (j1 _ e).1; simp only at this; omega) (.int .i64 x.plan.terrain.step)).setFar (p := ⟨w.heap.size + 1, 1, none⟩) (fun e => by have := (j1 _ e).1; simp only at this; omega) (.int .i64 x.plan.terrain.width)).setFar (p := ⟨w.heap.size + 1, 2, none⟩) (fun e => by have := (j1 _ e).1; simp only at this; omega) (.int .i64 x.plan.terrain.height)).setFar (p := ⟨w.heap.size + 1, 3, none⟩) (fun e => by have := (j1 _ e).1; simp only at this; omega) (.slice a3 x.plan.terrain.heights.length c3)).setFar (p := ⟨w.heap.size + 1, 4, none⟩) (fun e => by have := (j1 _ e).1; simp only at this; omega) (.slice a4 x.plan.terrain.clutter.length c4)).setFar (p := ⟨w.heap.size + 1, 5, none⟩) (fun e => by have := (j1 _ e).1; simp only at this; omega) (.slice a5 x.plan.network.sites.length c5)).setFar (p := ⟨w.heap.size + 1, 6, none⟩) (fun e => by have := (j1 _ e).1; simp only at this; omega) (.slice a6 x.plan.network.sectors.length c6)).setFar (p := ⟨w.heap.size + 1, 7, none⟩) (fun e => by have := (j1 _ e).1; simp only at this; omega) (.slice a7 x.plan.network.antennas.length c7)).setFar (p := ⟨w.heap.size + 1, 8, none⟩) (fun e => by have := (j1 _ e).1; simp only at this; omega) (.slice a8 x.plan.network.radios.length c8)).setFar (p := ⟨w.heap.size + 1, 9, none⟩) (fun e => by have := (j1 _ e).1; simp only at this; omega) (.slice a9 x.plan.bands.length c9)).setFar (p := ⟨w.heap.size + 1, 10, none⟩) (fun e => by have := (j1 _ e).1; simp only at this; omega) (.slice a10 x.plan.licences.length c10)).setFar (p := ⟨w.heap.size + 1, 11, none⟩) (fun e => by have := (j1 _ e).1; simp only at this; omega) (.slice a11 x.plan.protected_.length c11)).setFar (p := ⟨w.heap.size + 1, 12, none⟩) (fun e => by have := (j1 _ e).1; simp only at this; omega) (.slice a12 x.plan.apart.length c12)).setFar (p := ⟨w.heap.size + 1, 13, none⟩) (fun e => by have := (j1 _ e).1; simp only at this; omega) (.int .i64 x.plan.day)).setFar (p := ⟨w.heap.size + 1, 14, none⟩) (fun e => by have := (j1 _ e).1; simp only at this; omega) (.slice a14 x.requests.length c14))
  have F2 := Lib.hid ((((((((((((((((P2_2.out.setFar (p := ⟨w.heap.size + 1 + 1, 14, none⟩) (fun e => by have := (j2 _ e).1; simp only at this; omega) (.slice a14 x.requests.length c14)).setFar (p := ⟨w.heap.size + 1, 0, none⟩) (fun e => by have := (j2 _ e).1; simp only at this; omega) (.int .i64 x.plan.terrain.step)).setFar (p := ⟨w.heap.size + 1, 1, none⟩) (fun e => by have := (j2 _ e).1; simp only at this; omega) (.int .i64 x.plan.terrain.width)).setFar (p := ⟨w.heap.size + 1, 2, none⟩) (fun e => by have := (j2 _ e).1; simp only at this; omega) (.int .i64 x.plan.terrain.height)).setFar (p := ⟨w.heap.size + 1, 3, none⟩) (fun e => by have := (j2 _ e).1; simp only at this; omega) (.slice a3 x.plan.terrain.heights.length c3)).setFar (p := ⟨w.heap.size + 1, 4, none⟩) (fun e => by have := (j2 _ e).1; simp only at this; omega) (.slice a4 x.plan.terrain.clutter.length c4)).setFar (p := ⟨w.heap.size + 1, 5, none⟩) (fun e => by have := (j2 _ e).1; simp only at this; omega) (.slice a5 x.plan.network.sites.length c5)).setFar (p := ⟨w.heap.size + 1, 6, none⟩) (fun e => by have := (j2 _ e).1; simp only at this; omega) (.slice a6 x.plan.network.sectors.length c6)).setFar (p := ⟨w.heap.size + 1, 7, none⟩) (fun e => by have := (j2 _ e).1; simp only at this; omega) (.slice a7 x.plan.network.antennas.length c7)).setFar (p := ⟨w.heap.size + 1, 8, none⟩) (fun e => by have := (j2 _ e).1; simp only at this; omega) (.slice a8 x.plan.network.radios.length c8)).setFar (p := ⟨w.heap.size + 1, 9, none⟩) (fun e => by have := (j2 _ e).1; simp only at this; omega) (.slice a9 x.plan.bands.length c9)).setFar (p := ⟨w.heap.size + 1, 10, none⟩) (fun e => by have := (j2 _ e).1; simp only at this; omega) (.slice a10 x.plan.licences.length c10)).setFar (p := ⟨w.heap.size + 1, 11, none⟩) (fun e => by have := (j2 _ e).1; simp only at this; omega) (.slice a11 x.plan.protected_.length c11)).setFar (p := ⟨w.heap.size + 1, 12, none⟩) (fun e => by have := (j2 _ e).1; simp only at this; omega) (.slice a12 x.plan.apart.length c12)).setFar (p := ⟨w.heap.size + 1, 13, none⟩) (fun e => by have := (j2 _ e).1; simp only at this; omega) (.int .i64 x.plan.day)).setFar (p := ⟨w.heap.size + 1, 14, none⟩) (fun e => by have := (j2 _ e).1; simp only at this; omega) (.slice a14 x.requests.length c14))
  have BF := Lib.hid ((((((((((((((((B2.out.setCell (p := ⟨w.heap.size + 1 + 1, 14, none⟩) (by show w.heap.size ≤ w.heap.size + 1 + 1; omega) (.slice a14 x.requests.length c14)).setCell (p := ⟨w.heap.size + 1, 0, none⟩) (by show w.heap.size ≤ w.heap.size + 1; omega) (.int .i64 x.plan.terrain.step)).setCell (p := ⟨w.heap.size + 1, 1, none⟩) (by show w.heap.size ≤ w.heap.size + 1; omega) (.int .i64 x.plan.terrain.width)).setCell (p := ⟨w.heap.size + 1, 2, none⟩) (by show w.heap.size ≤ w.heap.size + 1; omega) (.int .i64 x.plan.terrain.height)).setCell (p := ⟨w.heap.size + 1, 3, none⟩) (by show w.heap.size ≤ w.heap.size + 1; omega) (.slice a3 x.plan.terrain.heights.length c3)).setCell (p := ⟨w.heap.size + 1, 4, none⟩) (by show w.heap.size ≤ w.heap.size + 1; omega) (.slice a4 x.plan.terrain.clutter.length c4)).setCell (p := ⟨w.heap.size + 1, 5, none⟩) (by show w.heap.size ≤ w.heap.size + 1; omega) (.slice a5 x.plan.network.sites.length c5)).setCell (p := ⟨w.heap.size + 1, 6, none⟩) (by show w.heap.size ≤ w.heap.size + 1; omega) (.slice a6 x.plan.network.sectors.length c6)).setCell (p := ⟨w.heap.size + 1, 7, none⟩) (by show w.heap.size ≤ w.heap.size + 1; omega) (.slice a7 x.plan.network.antennas.length c7)).setCell (p := ⟨w.heap.size + 1, 8, none⟩) (by show w.heap.size ≤ w.heap.size + 1; omega) (.slice a8 x.plan.network.radios.length c8)).setCell (p := ⟨w.heap.size + 1, 9, none⟩) (by show w.heap.size ≤ w.heap.size + 1; omega) (.slice a9 x.plan.bands.length c9)).setCell (p := ⟨w.heap.size + 1, 10, none⟩) (by show w.heap.size ≤ w.heap.size + 1; omega) (.slice a10 x.plan.licences.length c10)).setCell (p := ⟨w.heap.size + 1, 11, none⟩) (by show w.heap.size ≤ w.heap.size + 1; omega) (.slice a11 x.plan.protected_.length c11)).setCell (p := ⟨w.heap.size + 1, 12, none⟩) (by show w.heap.size ≤ w.heap.size + 1; omega) (.slice a12 x.plan.apart.length c12)).setCell (p := ⟨w.heap.size + 1, 13, none⟩) (by show w.heap.size ≤ w.heap.size + 1; omega) (.int .i64 x.plan.day)).setCell (p := ⟨w.heap.size + 1, 14, none⟩) (by show w.heap.size ≤ w.heap.size + 1; omega) (.slice a14 x.requests.length c14))
  refine bodyPost_ret (v := .agg #[.int .i64 x.plan.terrain.step, .int .i64 x.plan.terrain.width, .int .i64 x.plan.terrain.height, .slice a3 x.plan.terrain.heights.length c3, .slice a4 x.plan.terrain.clutter.length c4, .slice a5 x.plan.network.sites.length c5, .slice a6 x.plan.network.sectors.length c6, .slice a7 x.plan.network.antennas.length c7, .slice a8 x.plan.network.radios.length c8, .slice a9 x.plan.bands.length c9, .slice a10 x.plan.licences.length c10, .slice a11 x.plan.protected_.length c11, .slice a12 x.plan.apart.length c12, .int .i64 x.plan.day, .slice a14 x.requests.length c14]) (by simp [results, Tryz.results8, go_sem, *]) rfl ⟨a3, c3, a4, c4, a5, c5, a6, c6, a7, c7, a8, c8, a9, c9, a10, c10, a11, c11, a12, c12, a14, c14, fp1 ++ (fp2 ++ []), rfl, BF.out, ?_, ?_⟩
  · exact (OwnV.append F1.out (OwnV.cons F2.out OwnV.nil (fun x hx e => by have h1 := j2 x hx; simp at e)) (fun x hx e => by have h1 := j1 x hx; simp only [List.mem_append, List.not_mem_nil, or_false] at e; have h2 := j2 x e; omega))
  · simp only [size_setCell]
    exact ((j1.mono (by omega) (by omega)).append ((j2.mono (by omega) (by omega)).append In.nil))
set_option maxHeartbeats 4000000 in
set_option maxRecDepth 100000 in
theorem eq_Desk (x : DDesk) (v3 u3 v4 u4 v5 u5 v6 u6 v7 u7 v8 u8 v9 u9 v10 u10 v11 u11 v12 u12 v14 u14 : Value) (B : Nat) (w : World) (h3 : Rd B w (intsT x.plan.terrain.heights) v3) (g3 : Rd B w (intsT x.plan.terrain.heights) u3) (h4 : Rd B w (intsT x.plan.terrain.clutter) v4) (g4 : Rd B w (intsT x.plan.terrain.clutter) u4) (h5 : Rd B w (DSite.sT x.plan.network.sites) v5) (g5 : Rd B w (DSite.sT x.plan.network.sites) u5) (h6 : Rd B w (DSector.sT x.plan.network.sectors) v6) (g6 : Rd B w (DSector.sT x.plan.network.sectors) u6) (h7 : Rd B w (DAntenna.sT x.plan.network.antennas) v7) (g7 : Rd B w (DAntenna.sT x.plan.network.antennas) u7) (h8 : Rd B w (DRadio.sT x.plan.network.radios) v8) (g8 : Rd B w (DRadio.sT x.plan.network.radios) u8) (h9 : Rd B w (DBand.sT x.plan.bands) v9) (g9 : Rd B w (DBand.sT x.plan.bands) u9) (h10 : Rd B w (DLicence.sT x.plan.licences) v10) (g10 : Rd B w (DLicence.sT x.plan.licences) u10) (h11 : Rd B w (DProtected.sT x.plan.protected_) v11) (g11 : Rd B w (DProtected.sT x.plan.protected_) u11) (h12 : Rd B w (intssT x.plan.apart) v12) (g12 : Rd B w (intssT x.plan.apart) u12) (h14 : Rd B w (DRequest.sT x.requests) v14) (g14 : Rd B w (DRequest.sT x.requests) u14) (hB : B ≤ w.heap.size) (hn : sizL x.tr ≤ 1099511627776) :
    Calls Tryz.prog 10 #[.agg #[.int .i64 x.plan.terrain.step, .int .i64 x.plan.terrain.width, .int .i64 x.plan.terrain.height, v3, v4, v5, v6, v7, v8, v9, v10, v11, v12, .int .i64 x.plan.day, v14], .agg #[.int .i64 x.plan.terrain.step, .int .i64 x.plan.terrain.width, .int .i64 x.plan.terrain.height, u3, u4, u5, u6, u7, u8, u9, u10, u11, u12, .int .i64 x.plan.day, u14]] w fun e w' => e = .returned (.bool true) ∧ Below w.heap.size w w' := by
  have hsum := DDesk.siz_tr x
  have b0 : Below w.heap.size w ((w.alloc (.cells #[.int .i64 x.plan.terrain.step, .int .i64 x.plan.terrain.width, .int .i64 x.plan.terrain.height, v3, v4, v5, v6, v7, v8, v9, v10, v11, v12, .int .i64 x.plan.day, v14] 56)).alloc (.cells #[.int .i64 x.plan.terrain.step, .int .i64 x.plan.terrain.width, .int .i64 x.plan.terrain.height, u3, u4, u5, u6, u7, u8, u9, u10, u11, u12, .int .i64 x.plan.day, u14] 56)) := ((Below.refl _ _).alloc (Nat.le_refl _) _).alloc (by simp) _
  have B0 := Lib.hid b0
  have y0 : w.heap.size + 2 ≤ ((w.alloc (.cells #[.int .i64 x.plan.terrain.step, .int .i64 x.plan.terrain.width, .int .i64 x.plan.terrain.height, v3, v4, v5, v6, v7, v8, v9, v10, v11, v12, .int .i64 x.plan.day, v14] 56)).alloc (.cells #[.int .i64 x.plan.terrain.step, .int .i64 x.plan.terrain.width, .int .i64 x.plan.terrain.height, u3, u4, u5, u6, u7, u8, u9, u10, u11, u12, .int .i64 x.plan.day, u14] 56)).heap.size := by first | (simp; done) | (simp; omega)
  clear b0
  go_enter Tryz.func10, Tryz.ntmps10
  go_wp2_with fail
  refine (eq_Plan x.plan v3 u3 v4 u4 v5 u5 v6 u6 v7 u7 v8 u8 v9 u9 v10 u10 v11 u11 v12 u12 B _ (h3.below (B0.out.mono hB)) (g3.below (B0.out.mono hB)) (h4.below (B0.out.mono hB)) (g4.below (B0.out.mono hB)) (h5.below (B0.out.mono hB)) (g5.below (B0.out.mono hB)) (h6.below (B0.out.mono hB)) (g6.below (B0.out.mono hB)) (h7.below (B0.out.mono hB)) (g7.below (B0.out.mono hB)) (h8.below (B0.out.mono hB)) (g8.below (B0.out.mono hB)) (h9.below (B0.out.mono hB)) (g9.below (B0.out.mono hB)) (h10.below (B0.out.mono hB)) (g10.below (B0.out.mono hB)) (h11.below (B0.out.mono hB)) (g11.below (B0.out.mono hB)) (h12.below (B0.out.mono hB)) (g12.below (B0.out.mono hB)) (by omega) (by omega)).mono ?_
  rintro e w1 ⟨rfl, hb1⟩
  obtain ⟨qa1, _, ya1⟩ := bcellAt hb1 (b := w.heap.size) (by omega)
  obtain ⟨qb1, _, yb1⟩ := bcellAt hb1 (b := w.heap.size + 1) (by omega)
  have y1 : w.heap.size + 2 ≤ w1.heap.size := by have := hb1.size; omega
  have B1 := Lib.hid (B0.out.trans (hb1.mono (by omega)))
  clear hb1
  go_wp2_with fail
  refine (eq_RequestS x.requests v14 u14 B _ (h14.below (B1.out.mono hB)) (g14.below (B1.out.mono hB)) (by omega) (by omega)).mono ?_
  rintro e w2 ⟨rfl, hb2⟩
  obtain ⟨qa2, _, ya2⟩ := bcellAt hb2 (b := w.heap.size) (by omega)
  obtain ⟨qb2, _, yb2⟩ := bcellAt hb2 (b := w.heap.size + 1) (by omega)
  have y2 : w.heap.size + 2 ≤ w2.heap.size := by have := hb2.size; omega
  have B2 := Lib.hid (B1.out.trans (hb2.mono (by omega)))
  clear hb2
  go_wp2
  go_ret
  exact ⟨rfl, B2.out⟩
end Go.Proofs.YtjfmkmcefnidcaaGreat
