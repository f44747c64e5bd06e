/- Contracts: desks are valid, for the program and for the reference. Conditions: bounded sizes. -/
import Derived.Test.YtlfkdhakibagaaaGreatPl10
import Derived.Test.YtlfkdhakibagaaaGreatHDesk
namespace Go.Proofs.YtlfkdhakibagaaaGreat
open Go.RowKit
set_option linter.unusedVariables false
set_option linter.unusedSimpArgs false

def deskB (d : DDesk) : Bool := planB d.plan && reqsB d.requests
set_option maxHeartbeats 4000000 in
set_option maxRecDepth 100000 in
theorem l31Ok_any (d : DDesk) (v3 v4 v5 v6 v7 v8 v9 v10 v11 v12 v14 : Value) (b : Nat) (w : World) (h : PlanRd w.heap.size w d.plan v3 v4 v5 v6 v7 v8 v9 v10 v11 v12) (h14 : Rd w.heap.size w (DRequest.sT d.requests) v14) (hs : sizL d.plan.tr ≤ 1099511627776) (hn : d.requests.length ≤ 1099511627776) (hk : d.ok) (c0 : w.cell? ⟨b, 0, none⟩ = some (.int .i64 d.plan.terrain.step)) (c1 : w.cell? ⟨b, 1, none⟩ = some (.int .i64 d.plan.terrain.width)) (c2 : w.cell? ⟨b, 2, none⟩ = some (.int .i64 d.plan.terrain.height)) (c3 : w.cell? ⟨b, 3, none⟩ = some (v3)) (c4 : w.cell? ⟨b, 4, none⟩ = some (v4)) (c5 : w.cell? ⟨b, 5, none⟩ = some (v5)) (c6 : w.cell? ⟨b, 6, none⟩ = some (v6)) (c7 : w.cell? ⟨b, 7, none⟩ = some (v7)) (c8 : w.cell? ⟨b, 8, none⟩ = some (v8)) (c9 : w.cell? ⟨b, 9, none⟩ = some (v9)) (c10 : w.cell? ⟨b, 10, none⟩ = some (v10)) (c11 : w.cell? ⟨b, 11, none⟩ = some (v11)) (c12 : w.cell? ⟨b, 12, none⟩ = some (v12)) (c13 : w.cell? ⟨b, 13, none⟩ = some (.int .i64 d.plan.day)) (c14 : w.cell? ⟨b, 14, none⟩ = some (v14)) :
    Calls Tryz.prog 67 #[.pointer (some ⟨b, 0, none⟩)] w fun e w' => e = .returned (.bool (deskB d)) ∧ Below w.heap.size w w' := by
  have H := Lib.hid h
  have H14 := Lib.hid h14
  have hb := cell_lt c0
  dsimp only at hb
  have C0 := Lib.hid (l30Ok_any d.plan v3 v4 v5 v6 v7 v8 v9 v10 v11 v12 b 0 w h hs hk.plan c0 c1 c2 c3 c4 c5 c6 c7 c8 c9 c10 c11 c12 c13)
  clear h h14
  have C1 : Hid (∀ W : World, Below w.heap.size w W → Calls Tryz.prog 132 #[v14] W fun e w' => e = .returned (.bool (reqsB d.requests)) ∧ Below W.heap.size W w') := fun W hW => sl27Ok_any d.requests v14 w.heap.size W (H14.out.below hW) hW.size hk.requests hn
  have HC : Hid (∀ W : World, Below w.heap.size w W → W.cell? ⟨b, 14, none⟩ = some v14) := fun W hW => (hW.cell (p := ⟨b, 14, none⟩) hb).trans c14
  clear c0 c1 c2 c3 c4 c5 c6 c7 c8 c9 c10 c11 c12 c13
  by_cases h0 : planB d.plan = true
  case neg =>
    replace h0 : planB d.plan = false := Bool.eq_false_iff.2 h0
    rw [h0] at C0
    have HE : Hid (deskB d = false) := by show _ = _; unfold deskB; rw [h0]; rfl
    go_enter Tryz.func67, Tryz.ntmps67
    go_wp2_with (go_at_call 47; refine (C0.out).mono ?_; rintro e w2 ⟨rfl, hb2⟩; have B2 := Lib.hid hb2; clear hb2)
    go_ret
    exact ⟨by rw [HE.out]; rfl, B2.out⟩
  rw [h0] at C0
  have HE : Hid (deskB d = reqsB d.requests) := by show _ = _; unfold deskB; rw [h0]; rfl
  generalize reqsB d.requests = r at *
  go_enter Tryz.func67, Tryz.ntmps67
  go_wp2_with (first | (go_at_call 47; refine (C0.out).mono ?_; rintro e w2 ⟨rfl, hb2⟩; clear c14; have B2 := Lib.hid hb2; have t14 := HC.out _ hb2; clear hb2) | (go_at_call 132; refine (C1.out _ B2.out).mono ?_; rintro e w3 ⟨rfl, hb3⟩))
  go_ret
  exact ⟨by rw [HE.out]; rfl, B2.out.trans (hb3.mono B2.out.size)⟩
set_option maxHeartbeats 2000000 in
set_option maxRecDepth 100000 in
theorem sValidDesk_any (d : DDesk) (v3 v4 v5 v6 v7 v8 v9 v10 v11 v12 v14 : Value) (w : World) (h : PlanRd w.heap.size w d.plan v3 v4 v5 v6 v7 v8 v9 v10 v11 v12) (h14 : Rd w.heap.size w (DRequest.sT d.requests) v14) (hs : sizL d.plan.tr ≤ 1099511627776) (hn : d.requests.length ≤ 1099511627776) (hk : d.ok) :
    Calls Tryz.prog 18 #[.agg #[.int .i64 d.plan.terrain.step, .int .i64 d.plan.terrain.width, .int .i64 d.plan.terrain.height, v3, v4, v5, v6, v7, v8, v9, v10, v11, v12, .int .i64 d.plan.day, v14]] w fun e w' => e = .returned (.bool (deskB d)) ∧ Below w.heap.size w w' := by
  have b0 := below_alloc w (.cells #[.int .i64 d.plan.terrain.step, .int .i64 d.plan.terrain.width, .int .i64 d.plan.terrain.height, v3, v4, v5, v6, v7, v8, v9, v10, v11, v12, .int .i64 d.plan.day, v14] 56)
  have k0 := bkN w #[.int .i64 d.plan.terrain.step, .int .i64 d.plan.terrain.width, .int .i64 d.plan.terrain.height, v3, v4, v5, v6, v7, v8, v9, v10, v11, v12, .int .i64 d.plan.day, v14] 56
  have z0 : w.heap.size + 1 ≤ (w.alloc (.cells #[.int .i64 d.plan.terrain.step, .int .i64 d.plan.terrain.width, .int .i64 d.plan.terrain.height, v3, v4, v5, v6, v7, v8, v9, v10, v11, v12, .int .i64 d.plan.day, v14] 56)).heap.size := by simp
  generalize hW0 : (w.alloc (.cells #[.int .i64 d.plan.terrain.step, .int .i64 d.plan.terrain.width, .int .i64 d.plan.terrain.height, v3, v4, v5, v6, v7, v8, v9, v10, v11, v12, .int .i64 d.plan.day, v14] 56)) = W0 at b0 k0 z0
  have HW0 := Lib.hid hW0
  clear hW0
  have B0 := Lib.hid b0
  have K0 := Lib.hid k0
  clear b0 k0
  have H := Lib.hid h
  have H14 := Lib.hid h14
  clear h h14
  have HC := Lib.hid (l31Ok_any d v3 v4 v5 v6 v7 v8 v9 v10 v11 v12 v14 w.heap.size W0 ((H.out.below B0.out).mono (by omega)) ((H14.out.below B0.out).mono (by omega)) hs hn hk (bkC K0.out 0 rfl) (bkC K0.out 1 rfl) (bkC K0.out 2 rfl) (bkC K0.out 3 rfl) (bkC K0.out 4 rfl) (bkC K0.out 5 rfl) (bkC K0.out 6 rfl) (bkC K0.out 7 rfl) (bkC K0.out 8 rfl) (bkC K0.out 9 rfl) (bkC K0.out 10 rfl) (bkC K0.out 11 rfl) (bkC K0.out 12 rfl) (bkC K0.out 13 rfl) (bkC K0.out 14 rfl))
  go_enter Tryz.func18, Tryz.ntmps18
  go_upto_region 1 with (fail)
  rw [HW0.out]
  go_wp2_with fail
  refine (HC.out).mono ?_
  rintro e w1 ⟨rfl, hb1⟩
  have B1 := Lib.hid (B0.out.trans (hb1.mono (by omega)))
  go_wp2
  go_ret
  exact ⟨rfl, B1.out⟩
set_option maxHeartbeats 4000000 in
set_option maxRecDepth 100000 in
theorem iValidDesk_any (d : DDesk) (v3 v4 v5 v6 v7 v8 v9 v10 v11 v12 v14 : Value) (w : World) (h : PlanRd w.heap.size w d.plan v3 v4 v5 v6 v7 v8 v9 v10 v11 v12) (h14 : Rd w.heap.size w (DRequest.sT d.requests) v14) (hs : sizL d.plan.tr ≤ 1099511627776) (hn : d.requests.length ≤ 1099511627776) (hk : d.ok) :
    Calls Tryz.prog 19 #[.agg #[.int .i64 d.plan.terrain.step, .int .i64 d.plan.terrain.width, .int .i64 d.plan.terrain.height, v3, v4, v5, v6, v7, v8, v9, v10, v11, v12, .int .i64 d.plan.day, v14]] w fun e w' => e = .returned (.bool (deskB d)) ∧ Below w.heap.size w w' := by
  have b0 := below_alloc w (.cells #[.int .i64 d.plan.terrain.step, .int .i64 d.plan.terrain.width, .int .i64 d.plan.terrain.height, v3, v4, v5, v6, v7, v8, v9, v10, v11, v12, .int .i64 d.plan.day, v14] 56)
  have k0 := bkN w #[.int .i64 d.plan.terrain.step, .int .i64 d.plan.terrain.width, .int .i64 d.plan.terrain.height, v3, v4, v5, v6, v7, v8, v9, v10, v11, v12, .int .i64 d.plan.day, v14] 56
  have z0 : w.heap.size + 1 ≤ (w.alloc (.cells #[.int .i64 d.plan.terrain.step, .int .i64 d.plan.terrain.width, .int .i64 d.plan.terrain.height, v3, v4, v5, v6, v7, v8, v9, v10, v11, v12, .int .i64 d.plan.day, v14] 56)).heap.size := by simp
  generalize hW0 : (w.alloc (.cells #[.int .i64 d.plan.terrain.step, .int .i64 d.plan.terrain.width, .int .i64 d.plan.terrain.height, v3, v4, v5, v6, v7, v8, v9, v10, v11, v12, .int .i64 d.plan.day, v14] 56)) = W0 at b0 k0 z0
  have HW0 := Lib.hid hW0
  clear hW0
  have B0 := Lib.hid b0
  have K0 := Lib.hid k0
  clear b0 k0
  have H := Lib.hid h
  have H14 := Lib.hid h14
  clear h h14
  have HD : Hid (∀ W : World, Below W0.heap.size W0 W → (W.cell? ⟨w.heap.size, 0, none⟩ = some (.int .i64 d.plan.terrain.step) ∧ W.cell? ⟨w.heap.size, 1, none⟩ = some (.int .i64 d.plan.terrain.width) ∧ W.cell? ⟨w.heap.size, 2, none⟩ = some (.int .i64 d.plan.terrain.height) ∧ W.cell? ⟨w.heap.size, 3, none⟩ = some (v3) ∧ W.cell? ⟨w.heap.size, 4, none⟩ = some (v4) ∧ W.cell? ⟨w.heap.size, 5, none⟩ = some (v5) ∧ W.cell? ⟨w.heap.size, 6, none⟩ = some (v6) ∧ W.cell? ⟨w.heap.size, 7, none⟩ = some (v7) ∧ W.cell? ⟨w.heap.size, 8, none⟩ = some (v8) ∧ W.cell? ⟨w.heap.size, 9, none⟩ = some (v9) ∧ W.cell? ⟨w.heap.size, 10, none⟩ = some (v10) ∧ W.cell? ⟨w.heap.size, 11, none⟩ = some (v11) ∧ W.cell? ⟨w.heap.size, 12, none⟩ = some (v12) ∧ W.cell? ⟨w.heap.size, 13, none⟩ = some (.int .i64 d.plan.day) ∧ W.cell? ⟨w.heap.size, 14, none⟩ = some (v14))) := fun W hW => ⟨bkC (bkB K0.out hW (by omega)) 0 rfl, bkC (bkB K0.out hW (by omega)) 1 rfl, bkC (bkB K0.out hW (by omega)) 2 rfl, bkC (bkB K0.out hW (by omega)) 3 rfl, bkC (bkB K0.out hW (by omega)) 4 rfl, bkC (bkB K0.out hW (by omega)) 5 rfl, bkC (bkB K0.out hW (by omega)) 6 rfl, bkC (bkB K0.out hW (by omega)) 7 rfl, bkC (bkB K0.out hW (by omega)) 8 rfl, bkC (bkB K0.out hW (by omega)) 9 rfl, bkC (bkB K0.out hW (by omega)) 10 rfl, bkC (bkB K0.out hW (by omega)) 11 rfl, bkC (bkB K0.out hW (by omega)) 12 rfl, bkC (bkB K0.out hW (by omega)) 13 rfl, bkC (bkB K0.out hW (by omega)) 14 rfl⟩
  have HB : Hid (Below W0.heap.size W0 W0) := Below.refl _ _
  have HH : Hid (∀ W : World, Below W0.heap.size W0 W → Below w.heap.size w W) := fun W hW => B0.out.trans (hW.mono (by omega))
  have C0 : Hid (∀ W : World, Below W0.heap.size W0 W → Calls Tryz.prog 16 #[.agg #[.int .i64 d.plan.terrain.step, .int .i64 d.plan.terrain.width, .int .i64 d.plan.terrain.height, v3, v4, v5, v6, v7, v8, v9, v10, v11, v12, .int .i64 d.plan.day]] W fun e w' => e = .returned (.bool (planB d.plan)) ∧ Below W.heap.size W w') := fun W hW => iValidPlan_any d.plan v3 v4 v5 v6 v7 v8 v9 v10 v11 v12 W ((H.out.below (HH.out W hW)).mono (HH.out W hW).size) hs hk.plan
  have C1 : Hid (∀ W : World, Below W0.heap.size W0 W → Calls Tryz.prog 68 #[v14] W fun e w' => e = .returned (.bool (reqsB d.requests)) ∧ Below W.heap.size W w') := fun W hW => iValidRequests_any d.requests v14 w.heap.size W (H14.out.below (HH.out W hW)) (HH.out W hW).size hk.requests hn
  by_cases h0 : planB d.plan = true
  case neg =>
    replace h0 : planB d.plan = false := Bool.eq_false_iff.2 h0
    rw [h0] at C0
    have HE : Hid (deskB d = false) := by show _ = _; unfold deskB; rw [h0]; rfl
    go_enter Tryz.func19, Tryz.ntmps19
    go_upto_region 1 with (fail)
    rw [HW0.out]
    obtain ⟨t0, t1, t2, t3, t4, t5, t6, t7, t8, t9, t10, t11, t12, t13, t14⟩ := HD.out _ HB.out
    go_wp2_with (go_at_call 16; with_reducible refine (C0.out _ HB.out).mono ?_; rintro e w2 ⟨rfl, hb2⟩; (try clear t0 t1 t2 t3 t4 t5 t6 t7 t8 t9 t10 t11 t12 t13 t14); replace HB := Lib.hid (HB.out.trans (hb2.mono HB.out.size)); clear hb2; obtain ⟨t0, t1, t2, t3, t4, t5, t6, t7, t8, t9, t10, t11, t12, t13, t14⟩ := HD.out _ HB.out)
    go_ret
    exact ⟨by rw [HE.out]; rfl, HH.out _ HB.out⟩
  rw [h0] at C0
  have HE : Hid (deskB d = reqsB d.requests) := by show _ = _; unfold deskB; rw [h0]; rfl
  generalize reqsB d.requests = r at *
  go_enter Tryz.func19, Tryz.ntmps19
  go_upto_region 1 with (fail)
  rw [HW0.out]
  obtain ⟨t0, t1, t2, t3, t4, t5, t6, t7, t8, t9, t10, t11, t12, t13, t14⟩ := HD.out _ HB.out
  go_wp2_with (first | (go_at_call 16; with_reducible refine (C0.out _ HB.out).mono ?_; rintro e w2 ⟨rfl, hb2⟩; (try clear t0 t1 t2 t3 t4 t5 t6 t7 t8 t9 t10 t11 t12 t13 t14); replace HB := Lib.hid (HB.out.trans (hb2.mono HB.out.size)); clear hb2; obtain ⟨t0, t1, t2, t3, t4, t5, t6, t7, t8, t9, t10, t11, t12, t13, t14⟩ := HD.out _ HB.out) | (go_at_call 68; with_reducible refine (C1.out _ HB.out).mono ?_; rintro e w2 ⟨rfl, hb2⟩; (try clear t0 t1 t2 t3 t4 t5 t6 t7 t8 t9 t10 t11 t12 t13 t14); replace HB := Lib.hid (HB.out.trans (hb2.mono HB.out.size)); clear hb2; obtain ⟨t0, t1, t2, t3, t4, t5, t6, t7, t8, t9, t10, t11, t12, t13, t14⟩ := HD.out _ HB.out))
  go_ret
  exact ⟨by rw [HE.out]; rfl, HH.out _ HB.out⟩
theorem sValidDesk_std (d : DDesk) (vd3 vd4 vd5 vd6 vd7 vd8 vd9 vd10 vd11 vd12 vd14 : Value) (w : World) (rd3 : Rd w.heap.size w (intsT d.plan.terrain.heights) vd3) (rd4 : Rd w.heap.size w (intsT d.plan.terrain.clutter) vd4) (rd5 : Rd w.heap.size w (DSite.sT d.plan.network.sites) vd5) (rd6 : Rd w.heap.size w (DSector.sT d.plan.network.sectors) vd6) (rd7 : Rd w.heap.size w (DAntenna.sT d.plan.network.antennas) vd7) (rd8 : Rd w.heap.size w (DRadio.sT d.plan.network.radios) vd8) (rd9 : Rd w.heap.size w (DBand.sT d.plan.bands) vd9) (rd10 : Rd w.heap.size w (DLicence.sT d.plan.licences) vd10) (rd11 : Rd w.heap.size w (DProtected.sT d.plan.protected_) vd11) (rd12 : Rd w.heap.size w (intssT d.plan.apart) vd12) (rd14 : Rd w.heap.size w (DRequest.sT d.requests) vd14) (hs_d : sizL d.tr ≤ 1048576) (hk_d : d.ok) :
    Calls Tryz.prog 18 #[.agg #[.int .i64 d.plan.terrain.step, .int .i64 d.plan.terrain.width, .int .i64 d.plan.terrain.height, vd3, vd4, vd5, vd6, vd7, vd8, vd9, vd10, vd11, vd12, .int .i64 d.plan.day, vd14]] w (fun e w' => e = .returned (.bool (deskB d)) ∧ Below w.heap.size w w') := by
  have h1 := DDesk.siz_tr d
  rw [DRequest.siz_s] at h1
  exact sValidDesk_any d vd3 vd4 vd5 vd6 vd7 vd8 vd9 vd10 vd11 vd12 vd14 w ⟨rd3, rd4, rd5, rd6, rd7, rd8, rd9, rd10, rd11, rd12⟩ rd14 (by omega) (by omega) hk_d
theorem iValidDesk_std (d : DDesk) (vd3 vd4 vd5 vd6 vd7 vd8 vd9 vd10 vd11 vd12 vd14 : Value) (w : World) (rd3 : Rd w.heap.size w (intsT d.plan.terrain.heights) vd3) (rd4 : Rd w.heap.size w (intsT d.plan.terrain.clutter) vd4) (rd5 : Rd w.heap.size w (DSite.sT d.plan.network.sites) vd5) (rd6 : Rd w.heap.size w (DSector.sT d.plan.network.sectors) vd6) (rd7 : Rd w.heap.size w (DAntenna.sT d.plan.network.antennas) vd7) (rd8 : Rd w.heap.size w (DRadio.sT d.plan.network.radios) vd8) (rd9 : Rd w.heap.size w (DBand.sT d.plan.bands) vd9) (rd10 : Rd w.heap.size w (DLicence.sT d.plan.licences) vd10) (rd11 : Rd w.heap.size w (DProtected.sT d.plan.protected_) vd11) (rd12 : Rd w.heap.size w (intssT d.plan.apart) vd12) (rd14 : Rd w.heap.size w (DRequest.sT d.requests) vd14) (hs_d : sizL d.tr ≤ 1048576) (hk_d : d.ok) :
    Calls Tryz.prog 19 #[.agg #[.int .i64 d.plan.terrain.step, .int .i64 d.plan.terrain.width, .int .i64 d.plan.terrain.height, vd3, vd4, vd5, vd6, vd7, vd8, vd9, vd10, vd11, vd12, .int .i64 d.plan.day, vd14]] w (fun e w' => e = .returned (.bool (deskB d)) ∧ Below w.heap.size w w') := by
  have h1 := DDesk.siz_tr d
  rw [DRequest.siz_s] at h1
  exact iValidDesk_any d vd3 vd4 vd5 vd6 vd7 vd8 vd9 vd10 vd11 vd12 vd14 w ⟨rd3, rd4, rd5, rd6, rd7, rd8, rd9, rd10, rd11, rd12⟩ rd14 (by omega) (by omega) hk_d
end Go.Proofs.YtlfkdhakibagaaaGreat
