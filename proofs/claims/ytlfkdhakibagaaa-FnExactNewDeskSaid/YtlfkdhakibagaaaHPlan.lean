/- Contracts of the laws' helpers over the type Plan and slices of it. Conditions: bounded lengths. -/
import Derived.Test.YtlfkdhakibagaaaInts2
import Derived.Test.YtlfkdhakibagaaaTypes
import Derived.Test.YtlfkdhakibagaaaText
import Derived.Test.YtlfkdhakibagaaaOver
import Derived.Test.YtlfkdhakibagaaaHTerrain
import Derived.Test.YtlfkdhakibagaaaHNetwork
import Derived.Test.YtlfkdhakibagaaaHBand
import Derived.Test.YtlfkdhakibagaaaHLicence
import Derived.Test.YtlfkdhakibagaaaHProtected
namespace Go.Proofs.Ytlfkdhakibagaaa
open Go.RowKit
set_option linter.unusedVariables false

theorem DPlan.siz_tr (x : DPlan) : sizL x.tr = sizL (x.terrain).tr + sizL (x.network).tr + siz (DBand.sT x.bands) + siz (DLicence.sT x.licences) + siz (DProtected.sT x.protected_) + siz (intssT x.apart) := by
  simp only [DPlan.tr, DTerrain.tr, DNetwork.tr, sizL, siz, intT]
  omega
set_option maxHeartbeats 4000000 in
set_option maxRecDepth 100000 in
theorem eq_Plan (x : DPlan) (v3 u3 v4 u4 v5 u5 v6 u6 v7 u7 v8 u8 v9 u9 v10 u10 v11 u11 v12 u12 : Value) (B : Nat) (w : World) (h3 : Rd B w (intsT x.terrain.heights) v3) (g3 : Rd B w (intsT x.terrain.heights) u3) (h4 : Rd B w (intsT x.terrain.clutter) v4) (g4 : Rd B w (intsT x.terrain.clutter) u4) (h5 : Rd B w (DSite.sT x.network.sites) v5) (g5 : Rd B w (DSite.sT x.network.sites) u5) (h6 : Rd B w (DSector.sT x.network.sectors) v6) (g6 : Rd B w (DSector.sT x.network.sectors) u6) (h7 : Rd B w (DAntenna.sT x.network.antennas) v7) (g7 : Rd B w (DAntenna.sT x.network.antennas) u7) (h8 : Rd B w (DRadio.sT x.network.radios) v8) (g8 : Rd B w (DRadio.sT x.network.radios) u8) (h9 : Rd B w (DBand.sT x.bands) v9) (g9 : Rd B w (DBand.sT x.bands) u9) (h10 : Rd B w (DLicence.sT x.licences) v10) (g10 : Rd B w (DLicence.sT x.licences) u10) (h11 : Rd B w (DProtected.sT x.protected_) v11) (g11 : Rd B w (DProtected.sT x.protected_) u11) (h12 : Rd B w (intssT x.apart) v12) (g12 : Rd B w (intssT x.apart) u12) (hB : B ≤ w.heap.size) (hn : sizL x.tr ≤ 1099511627776) :
    Calls Try.prog 11 #[.agg #[.int .i64 x.terrain.step, .int .i64 x.terrain.width, .int .i64 x.terrain.height, v3, v4, v5, v6, v7, v8, v9, v10, v11, v12, .int .i64 x.day], .agg #[.int .i64 x.terrain.step, .int .i64 x.terrain.width, .int .i64 x.terrain.height, u3, u4, u5, u6, u7, u8, u9, u10, u11, u12, .int .i64 x.day]] w fun e w' => e = .returned (.bool true) ∧ Below w.heap.size w w' := by
  have hsum := DPlan.siz_tr x
  have b0 : Below w.heap.size w ((w.alloc (.cells #[.int .i64 x.terrain.step, .int .i64 x.terrain.width, .int .i64 x.terrain.height, v3, v4, v5, v6, v7, v8, v9, v10, v11, v12, .int .i64 x.day] 36)).alloc (.cells #[.int .i64 x.terrain.step, .int .i64 x.terrain.width, .int .i64 x.terrain.height, u3, u4, u5, u6, u7, u8, u9, u10, u11, u12, .int .i64 x.day] 36)) := ((Below.refl _ _).alloc (Nat.le_refl _) _).alloc (by simp) _
  have B0 := Lib.hid b0
  have y0 : w.heap.size + 2 ≤ ((w.alloc (.cells #[.int .i64 x.terrain.step, .int .i64 x.terrain.width, .int .i64 x.terrain.height, v3, v4, v5, v6, v7, v8, v9, v10, v11, v12, .int .i64 x.day] 36)).alloc (.cells #[.int .i64 x.terrain.step, .int .i64 x.terrain.width, .int .i64 x.terrain.height, u3, u4, u5, u6, u7, u8, u9, u10, u11, u12, .int .i64 x.day] 36)).heap.size := by first | (simp; done) | (simp; omega)
  clear b0
  go_enter Try.func11, Try.ntmps11
  go_wp2_with fail
  refine (eq_Terrain x.terrain v3 u3 v4 u4 B _ (h3.below (B0.out.mono hB)) (g3.below (B0.out.mono hB)) (h4.below (B0.out.mono hB)) (g4.below (B0.out.mono hB)) (by omega) (by omega)).mono ?_
  rintro e w1 ⟨rfl, hb1⟩
  obtain ⟨qa1, _, ya1⟩ := bcellAt hb1 (b := w.heap.size) (by omega)
  obtain ⟨qb1, _, yb1⟩ := bcellAt hb1 (b := w.heap.size + 1) (by omega)
  have y1 : w.heap.size + 2 ≤ w1.heap.size := by have := hb1.size; omega
  have B1 := Lib.hid (B0.out.trans (hb1.mono (by omega)))
  clear hb1
  go_wp2_with fail
  refine (eq_Network x.network v5 u5 v6 u6 v7 u7 v8 u8 B _ (h5.below (B1.out.mono hB)) (g5.below (B1.out.mono hB)) (h6.below (B1.out.mono hB)) (g6.below (B1.out.mono hB)) (h7.below (B1.out.mono hB)) (g7.below (B1.out.mono hB)) (h8.below (B1.out.mono hB)) (g8.below (B1.out.mono hB)) (by omega) (by omega)).mono ?_
  rintro e w2 ⟨rfl, hb2⟩
  obtain ⟨qa2, _, ya2⟩ := bcellAt hb2 (b := w.heap.size) (by omega)
  obtain ⟨qb2, _, yb2⟩ := bcellAt hb2 (b := w.heap.size + 1) (by omega)
  have y2 : w.heap.size + 2 ≤ w2.heap.size := by have := hb2.size; omega
  have B2 := Lib.hid (B1.out.trans (hb2.mono (by omega)))
  clear hb2
  go_wp2_with fail
  refine (eq_BandS x.bands v9 u9 B _ (h9.below (B2.out.mono hB)) (g9.below (B2.out.mono hB)) (by omega) (by omega)).mono ?_
  rintro e w3 ⟨rfl, hb3⟩
  obtain ⟨qa3, _, ya3⟩ := bcellAt hb3 (b := w.heap.size) (by omega)
  obtain ⟨qb3, _, yb3⟩ := bcellAt hb3 (b := w.heap.size + 1) (by omega)
  have y3 : w.heap.size + 2 ≤ w3.heap.size := by have := hb3.size; omega
  have B3 := Lib.hid (B2.out.trans (hb3.mono (by omega)))
  clear hb3
  go_wp2_with fail
  refine (eq_LicenceS x.licences v10 u10 B _ (h10.below (B3.out.mono hB)) (g10.below (B3.out.mono hB)) (by omega) (by omega)).mono ?_
  rintro e w4 ⟨rfl, hb4⟩
  obtain ⟨qa4, _, ya4⟩ := bcellAt hb4 (b := w.heap.size) (by omega)
  obtain ⟨qb4, _, yb4⟩ := bcellAt hb4 (b := w.heap.size + 1) (by omega)
  have y4 : w.heap.size + 2 ≤ w4.heap.size := by have := hb4.size; omega
  have B4 := Lib.hid (B3.out.trans (hb4.mono (by omega)))
  clear hb4
  go_wp2_with fail
  refine (eq_ProtectedS x.protected_ v11 u11 B _ (h11.below (B4.out.mono hB)) (g11.below (B4.out.mono hB)) (by omega) (by omega)).mono ?_
  rintro e w5 ⟨rfl, hb5⟩
  obtain ⟨qa5, _, ya5⟩ := bcellAt hb5 (b := w.heap.size) (by omega)
  obtain ⟨qb5, _, yb5⟩ := bcellAt hb5 (b := w.heap.size + 1) (by omega)
  have y5 : w.heap.size + 2 ≤ w5.heap.size := by have := hb5.size; omega
  have B5 := Lib.hid (B4.out.trans (hb5.mono (by omega)))
  clear hb5
  go_wp2_with fail
  refine (eq_Int64SS x.apart v12 u12 B _ (h12.below (B5.out.mono hB)) (g12.below (B5.out.mono hB)) (by omega) (by omega)).mono ?_
  rintro e w6 ⟨rfl, hb6⟩
  obtain ⟨qa6, _, ya6⟩ := bcellAt hb6 (b := w.heap.size) (by omega)
  obtain ⟨qb6, _, yb6⟩ := bcellAt hb6 (b := w.heap.size + 1) (by omega)
  have y6 : w.heap.size + 2 ≤ w6.heap.size := by have := hb6.size; omega
  have B6 := Lib.hid (B5.out.trans (hb6.mono (by omega)))
  clear hb6
  go_wp2
  go_ret
  exact ⟨rfl, B6.out⟩
end Go.Proofs.Ytlfkdhakibagaaa
