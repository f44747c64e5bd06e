/- Contracts of the laws' helpers over the type Desk and slices of it. Conditions: bounded lengths. -/
import Derived.Test.YtlfkdhakibagaaaInts2
import Derived.Test.YtlfkdhakibagaaaTypes
import Derived.Test.YtlfkdhakibagaaaText
import Derived.Test.YtlfkdhakibagaaaOver
import Derived.Test.YtlfkdhakibagaaaHPlan
import Derived.Test.YtlfkdhakibagaaaHRequest
namespace Go.Proofs.Ytlfkdhakibagaaa
open Go.RowKit
set_option linter.unusedVariables false

theorem DDesk.siz_tr (x : DDesk) : sizL x.tr = sizL (x.plan).tr + siz (DRequest.sT x.requests) := by
  simp only [DDesk.tr, DPlan.tr, sizL, siz, intT]
  omega
set_option maxHeartbeats 4000000 in
set_option maxRecDepth 100000 in
theorem eq_Desk (x : DDesk) (v3 u3 v4 u4 v5 u5 v6 u6 v7 u7 v8 u8 v9 u9 v10 u10 v11 u11 v12 u12 v14 u14 : Value) (B : Nat) (w : World) (h3 : Rd B w (intsT x.plan.terrain.heights) v3) (g3 : Rd B w (intsT x.plan.terrain.heights) u3) (h4 : Rd B w (intsT x.plan.terrain.clutter) v4) (g4 : Rd B w (intsT x.plan.terrain.clutter) u4) (h5 : Rd B w (DSite.sT x.plan.network.sites) v5) (g5 : Rd B w (DSite.sT x.plan.network.sites) u5) (h6 : Rd B w (DSector.sT x.plan.network.sectors) v6) (g6 : Rd B w (DSector.sT x.plan.network.sectors) u6) (h7 : Rd B w (DAntenna.sT x.plan.network.antennas) v7) (g7 : Rd B w (DAntenna.sT x.plan.network.antennas) u7) (h8 : Rd B w (DRadio.sT x.plan.network.radios) v8) (g8 : Rd B w (DRadio.sT x.plan.network.radios) u8) (h9 : Rd B w (DBand.sT x.plan.bands) v9) (g9 : Rd B w (DBand.sT x.plan.bands) u9) (h10 : Rd B w (DLicence.sT x.plan.licences) v10) (g10 : Rd B w (DLicence.sT x.plan.licences) u10) (h11 : Rd B w (DProtected.sT x.plan.protected_) v11) (g11 : Rd B w (DProtected.sT x.plan.protected_) u11) (h12 : Rd B w (intssT x.plan.apart) v12) (g12 : Rd B w (intssT x.plan.apart) u12) (h14 : Rd B w (DRequest.sT x.requests) v14) (g14 : Rd B w (DRequest.sT x.requests) u14) (hB : B ≤ w.heap.size) (hn : sizL x.tr ≤ 1099511627776) :
    Calls Try.prog 6 #[.agg #[.int .i64 x.plan.terrain.step, .int .i64 x.plan.terrain.width, .int .i64 x.plan.terrain.height, v3, v4, v5, v6, v7, v8, v9, v10, v11, v12, .int .i64 x.plan.day, v14], .agg #[.int .i64 x.plan.terrain.step, .int .i64 x.plan.terrain.width, .int .i64 x.plan.terrain.height, u3, u4, u5, u6, u7, u8, u9, u10, u11, u12, .int .i64 x.plan.day, u14]] w fun e w' => e = .returned (.bool true) ∧ Below w.heap.size w w' := by
  have hsum := DDesk.siz_tr x
  have b0 : Below w.heap.size w ((w.alloc (.cells #[.int .i64 x.plan.terrain.step, .int .i64 x.plan.terrain.width, .int .i64 x.plan.terrain.height, v3, v4, v5, v6, v7, v8, v9, v10, v11, v12, .int .i64 x.plan.day, v14] 39)).alloc (.cells #[.int .i64 x.plan.terrain.step, .int .i64 x.plan.terrain.width, .int .i64 x.plan.terrain.height, u3, u4, u5, u6, u7, u8, u9, u10, u11, u12, .int .i64 x.plan.day, u14] 39)) := ((Below.refl _ _).alloc (Nat.le_refl _) _).alloc (by simp) _
  have B0 := Lib.hid b0
  have y0 : w.heap.size + 2 ≤ ((w.alloc (.cells #[.int .i64 x.plan.terrain.step, .int .i64 x.plan.terrain.width, .int .i64 x.plan.terrain.height, v3, v4, v5, v6, v7, v8, v9, v10, v11, v12, .int .i64 x.plan.day, v14] 39)).alloc (.cells #[.int .i64 x.plan.terrain.step, .int .i64 x.plan.terrain.width, .int .i64 x.plan.terrain.height, u3, u4, u5, u6, u7, u8, u9, u10, u11, u12, .int .i64 x.plan.day, u14] 39)).heap.size := by first | (simp; done) | (simp; omega)
  clear b0
  go_enter Try.func6, Try.ntmps6
  go_wp2_with fail
  refine (eq_Plan x.plan v3 u3 v4 u4 v5 u5 v6 u6 v7 u7 v8 u8 v9 u9 v10 u10 v11 u11 v12 u12 B _ (h3.below (B0.out.mono hB)) (g3.below (B0.out.mono hB)) (h4.below (B0.out.mono hB)) (g4.below (B0.out.mono hB)) (h5.below (B0.out.mono hB)) (g5.below (B0.out.mono hB)) (h6.below (B0.out.mono hB)) (g6.below (B0.out.mono hB)) (h7.below (B0.out.mono hB)) (g7.below (B0.out.mono hB)) (h8.below (B0.out.mono hB)) (g8.below (B0.out.mono hB)) (h9.below (B0.out.mono hB)) (g9.below (B0.out.mono hB)) (h10.below (B0.out.mono hB)) (g10.below (B0.out.mono hB)) (h11.below (B0.out.mono hB)) (g11.below (B0.out.mono hB)) (h12.below (B0.out.mono hB)) (g12.below (B0.out.mono hB)) (by omega) (by omega)).mono ?_
  rintro e w1 ⟨rfl, hb1⟩
  obtain ⟨qa1, _, ya1⟩ := bcellAt hb1 (b := w.heap.size) (by omega)
  obtain ⟨qb1, _, yb1⟩ := bcellAt hb1 (b := w.heap.size + 1) (by omega)
  have y1 : w.heap.size + 2 ≤ w1.heap.size := by have := hb1.size; omega
  have B1 := Lib.hid (B0.out.trans (hb1.mono (by omega)))
  clear hb1
  go_wp2_with fail
  refine (eq_RequestS x.requests v14 u14 B _ (h14.below (B1.out.mono hB)) (g14.below (B1.out.mono hB)) (by omega) (by omega)).mono ?_
  rintro e w2 ⟨rfl, hb2⟩
  obtain ⟨qa2, _, ya2⟩ := bcellAt hb2 (b := w.heap.size) (by omega)
  obtain ⟨qb2, _, yb2⟩ := bcellAt hb2 (b := w.heap.size + 1) (by omega)
  have y2 : w.heap.size + 2 ≤ w2.heap.size := by have := hb2.size; omega
  have B2 := Lib.hid (B1.out.trans (hb2.mono (by omega)))
  clear hb2
  go_wp2
  go_ret
  exact ⟨rfl, B2.out⟩
end Go.Proofs.Ytlfkdhakibagaaa
