/- Contract: plans are valid, for the program. Conditions: bounded sizes. -/
import Derived.Test.YtlfkdhakibagaaaGreatPl9
namespace Go.Proofs.YtlfkdhakibagaaaGreat
open Go.RowKit
set_option linter.unusedVariables false
set_option linter.unusedSimpArgs false

set_option maxHeartbeats 16000000 in
set_option maxRecDepth 100000 in
theorem iValidPlan_any (p : DPlan) (v3 v4 v5 v6 v7 v8 v9 v10 v11 v12 : Value) (w : World) (h : PlanRd w.heap.size w p v3 v4 v5 v6 v7 v8 v9 v10 v11 v12) (hs : sizL p.tr ≤ 1099511627776) (hk : p.ok) :
    Calls Tryz.prog 16 #[.agg #[.int .i64 p.terrain.step, .int .i64 p.terrain.width, .int .i64 p.terrain.height, v3, v4, v5, v6, v7, v8, v9, v10, v11, v12, .int .i64 p.day]] w fun e w' => e = .returned (.bool (planB p)) ∧ Below w.heap.size w w' := by
  have H := Lib.hid h
  clear h
  have Z := Lib.hid (PlanSz.of hs)
  obtain ⟨a6, k6, e6, _, _, _⟩ := DSector.rd H.out.r6
  subst e6
  obtain ⟨ap, cp, ep, _, _, _⟩ := Rd.intss H.out.r12
  subst ep
  have m0 : (p.apart.length : Int) ≤ 1099511627776 := by have := Z.out.apart; omega
  have m1 : (p.network.sectors.length : Int) ≤ 1099511627776 := by have := Z.out.sectors; omega
  have b0 := below_alloc w (.cells #[.int .i64 p.terrain.step, .int .i64 p.terrain.width, .int .i64 p.terrain.height, v3, v4, v5, .slice a6 p.network.sectors.length k6, v7, v8, v9, v10, v11, .slice ap p.apart.length cp, .int .i64 p.day] 53)
  have k0 := bkN w #[.int .i64 p.terrain.step, .int .i64 p.terrain.width, .int .i64 p.terrain.height, v3, v4, v5, .slice a6 p.network.sectors.length k6, v7, v8, v9, v10, v11, .slice ap p.apart.length cp, .int .i64 p.day] 53
  have z0 : w.heap.size + 1 ≤ (w.alloc (.cells #[.int .i64 p.terrain.step, .int .i64 p.terrain.width, .int .i64 p.terrain.height, v3, v4, v5, .slice a6 p.network.sectors.length k6, v7, v8, v9, v10, v11, .slice ap p.apart.length cp, .int .i64 p.day] 53)).heap.size := by simp
  generalize hW0 : (w.alloc (.cells #[.int .i64 p.terrain.step, .int .i64 p.terrain.width, .int .i64 p.terrain.height, v3, v4, v5, .slice a6 p.network.sectors.length k6, v7, v8, v9, v10, v11, .slice ap p.apart.length cp, .int .i64 p.day] 53)) = W0 at b0 k0 z0
  have HW0 := Lib.hid hW0
  clear hW0
  have B0 := Lib.hid b0
  have K0 := Lib.hid k0
  clear b0 k0
  have HD : Hid (∀ W : World, Below W0.heap.size W0 W → (W.cell? ⟨w.heap.size, 0, none⟩ = some (.int .i64 p.terrain.step) ∧ W.cell? ⟨w.heap.size, 1, none⟩ = some (.int .i64 p.terrain.width) ∧ W.cell? ⟨w.heap.size, 2, none⟩ = some (.int .i64 p.terrain.height) ∧ W.cell? ⟨w.heap.size, 3, none⟩ = some (v3) ∧ W.cell? ⟨w.heap.size, 4, none⟩ = some (v4) ∧ W.cell? ⟨w.heap.size, 5, none⟩ = some (v5) ∧ W.cell? ⟨w.heap.size, 6, none⟩ = some (.slice a6 p.network.sectors.length k6) ∧ W.cell? ⟨w.heap.size, 7, none⟩ = some (v7) ∧ W.cell? ⟨w.heap.size, 8, none⟩ = some (v8) ∧ W.cell? ⟨w.heap.size, 9, none⟩ = some (v9) ∧ W.cell? ⟨w.heap.size, 10, none⟩ = some (v10) ∧ W.cell? ⟨w.heap.size, 11, none⟩ = some (v11) ∧ W.cell? ⟨w.heap.size, 12, none⟩ = some (.slice ap p.apart.length cp) ∧ W.cell? ⟨w.heap.size, 13, none⟩ = some (.int .i64 p.day))) := fun W hW => ⟨bkC (bkB K0.out hW (by omega)) 0 rfl, bkC (bkB K0.out hW (by omega)) 1 rfl, bkC (bkB K0.out hW (by omega)) 2 rfl, bkC (bkB K0.out hW (by omega)) 3 rfl, bkC (bkB K0.out hW (by omega)) 4 rfl, bkC (bkB K0.out hW (by omega)) 5 rfl, bkC (bkB K0.out hW (by omega)) 6 rfl, bkC (bkB K0.out hW (by omega)) 7 rfl, bkC (bkB K0.out hW (by omega)) 8 rfl, bkC (bkB K0.out hW (by omega)) 9 rfl, bkC (bkB K0.out hW (by omega)) 10 rfl, bkC (bkB K0.out hW (by omega)) 11 rfl, bkC (bkB K0.out hW (by omega)) 12 rfl, bkC (bkB K0.out hW (by omega)) 13 rfl⟩
  have HP : Hid (∀ W : World, Below W0.heap.size W0 W → W.cell? ⟨w.heap.size, 12, none⟩ = some (.slice ap p.apart.length cp)) := fun W hW => bkC (bkB K0.out hW (by omega)) 12 rfl
  have HH : Hid (∀ W : World, Below W0.heap.size W0 W → Below w.heap.size w W) := fun W hW => B0.out.trans (hW.mono (by omega))
  have HB : Hid (Below W0.heap.size W0 W0) := Below.refl _ _
  have C0 : Hid (∀ W : World, Below W0.heap.size W0 W → Calls Tryz.prog 54 #[.agg #[.int .i64 p.terrain.step, .int .i64 p.terrain.width, .int .i64 p.terrain.height, v3, v4]] W fun e w' => e = .returned (.bool (terrB p.terrain)) ∧ Below W.heap.size W w') := fun W hW => validTerrain_any p.terrain v3 v4 w.heap.size W (H.out.r3.below (HH.out W hW)) (H.out.r4.below (HH.out W hW)) (HH.out W hW).size Z.out.heights Z.out.clutter
  have C1 : Hid (∀ W : World, Below W0.heap.size W0 W → Calls Tryz.prog 55 #[.agg #[v5, .slice a6 p.network.sectors.length k6, v7, v8]] W fun e w' => e = .returned (.bool (netB p.network)) ∧ Below W.heap.size W w') := fun W hW => validNetwork_any p.network v5 _ v7 v8 W ((H.out.r5.below (HH.out W hW)).mono (HH.out W hW).size) ((H.out.r6.below (HH.out W hW)).mono (HH.out W hW).size) ((H.out.r7.below (HH.out W hW)).mono (HH.out W hW).size) ((H.out.r8.below (HH.out W hW)).mono (HH.out W hW).size) Z.out.net hk.network
  have C2 : Hid (∀ W : World, Below W0.heap.size W0 W → Calls Tryz.prog 56 #[v9] W fun e w' => e = .returned (.bool (bandsB p.bands)) ∧ Below W.heap.size W w') := fun W hW => iValidBands_any p.bands v9 w.heap.size W (H.out.r9.below (HH.out W hW)) (HH.out W hW).size hk.bands Z.out.bands
  have C3 : Hid (∀ W : World, Below W0.heap.size W0 W → Calls Tryz.prog 57 #[v10] W fun e w' => e = .returned (.bool (holdB p.licences)) ∧ Below W.heap.size W w') := fun W hW => iValidHoldings_any p.licences v10 w.heap.size W (H.out.r10.below (HH.out W hW)) (HH.out W hW).size hk.licences Z.out.licences
  have C4 : Hid (∀ W : World, Below W0.heap.size W0 W → Calls Tryz.prog 58 #[v11] W fun e w' => e = .returned (.bool (protsB p.protected_)) ∧ Below W.heap.size W w') := fun W hW => iValidProtected_any p.protected_ v11 w.heap.size W (H.out.r11.below (HH.out W hW)) (HH.out W hW).size hk.protected_ Z.out.prot
  have C5 : Hid (∀ W : World, Below W0.heap.size W0 W → Calls Tryz.prog 59 #[.int .i64 p.day] W fun e w' => e = .returned (.bool (inB p.day 0 99999)) ∧ W = w') := fun W hW => dayOk_any p.day W
  by_cases h0 : terrB p.terrain = true
  case neg =>
    replace h0 : terrB p.terrain = false := Bool.eq_false_iff.2 h0
    rw [h0] at C0
    have HE : Hid (planB p = false) := by show _ = _; unfold planB; simp only [h0, Bool.and_false, Bool.false_and, Bool.and_true, Bool.true_and, Bool.and_self]
    go_enter Tryz.func16, Tryz.ntmps16
    go_upto_region 1 with (fail)
    rw [HW0.out]
    obtain ⟨t0, t1, t2, t3, t4, t5, t6, t7, t8, t9, t10, t11, t12, t13⟩ := HD.out _ HB.out
    go_wp2_with (first | (go_at_call 54; with_reducible refine (C0.out _ HB.out).mono ?_; rintro e w2 ⟨rfl, hb2⟩; (try clear t0 t1 t2 t3 t4 t5 t6 t7 t8 t9 t10 t11 t12 t13); replace HB := Lib.hid (HB.out.trans (hb2.mono HB.out.size)); clear hb2; obtain ⟨t0, t1, t2, t3, t4, t5, t6, t7, t8, t9, t10, t11, t12, t13⟩ := HD.out _ HB.out) | (go_at_call 55; with_reducible refine (C1.out _ HB.out).mono ?_; rintro e w2 ⟨rfl, hb2⟩; (try clear t0 t1 t2 t3 t4 t5 t6 t7 t8 t9 t10 t11 t12 t13); replace HB := Lib.hid (HB.out.trans (hb2.mono HB.out.size)); clear hb2; obtain ⟨t0, t1, t2, t3, t4, t5, t6, t7, t8, t9, t10, t11, t12, t13⟩ := HD.out _ HB.out) | (go_at_call 56; with_reducible refine (C2.out _ HB.out).mono ?_; rintro e w2 ⟨rfl, hb2⟩; (try clear t0 t1 t2 t3 t4 t5 t6 t7 t8 t9 t10 t11 t12 t13); replace HB := Lib.hid (HB.out.trans (hb2.mono HB.out.size)); clear hb2; obtain ⟨t0, t1, t2, t3, t4, t5, t6, t7, t8, t9, t10, t11, t12, t13⟩ := HD.out _ HB.out) | (go_at_call 57; with_reducible refine (C3.out _ HB.out).mono ?_; rintro e w2 ⟨rfl, hb2⟩; (try clear t0 t1 t2 t3 t4 t5 t6 t7 t8 t9 t10 t11 t12 t13); replace HB := Lib.hid (HB.out.trans (hb2.mono HB.out.size)); clear hb2; obtain ⟨t0, t1, t2, t3, t4, t5, t6, t7, t8, t9, t10, t11, t12, t13⟩ := HD.out _ HB.out) | (go_at_call 58; with_reducible refine (C4.out _ HB.out).mono ?_; rintro e w2 ⟨rfl, hb2⟩; (try clear t0 t1 t2 t3 t4 t5 t6 t7 t8 t9 t10 t11 t12 t13); replace HB := Lib.hid (HB.out.trans (hb2.mono HB.out.size)); clear hb2; obtain ⟨t0, t1, t2, t3, t4, t5, t6, t7, t8, t9, t10, t11, t12, t13⟩ := HD.out _ HB.out) | (go_at_call 59; with_reducible refine (C5.out _ HB.out).mono ?_; rintro e w1 ⟨rfl, rfl⟩))
    go_ret
    exact ⟨by rw [HE.out]; rfl, HH.out _ HB.out⟩
  rw [h0] at C0
  by_cases h1 : netB p.network = true
  case neg =>
    replace h1 : netB p.network = false := Bool.eq_false_iff.2 h1
    rw [h1] at C1
    have HE : Hid (planB p = false) := by show _ = _; unfold planB; simp only [h0, h1, Bool.and_false, Bool.false_and, Bool.and_true, Bool.true_and, Bool.and_self]
    go_enter Tryz.func16, Tryz.ntmps16
    go_upto_region 1 with (fail)
    rw [HW0.out]
    obtain ⟨t0, t1, t2, t3, t4, t5, t6, t7, t8, t9, t10, t11, t12, t13⟩ := HD.out _ HB.out
    go_wp2_with (first | (go_at_call 54; with_reducible refine (C0.out _ HB.out).mono ?_; rintro e w2 ⟨rfl, hb2⟩; (try clear t0 t1 t2 t3 t4 t5 t6 t7 t8 t9 t10 t11 t12 t13); replace HB := Lib.hid (HB.out.trans (hb2.mono HB.out.size)); clear hb2; obtain ⟨t0, t1, t2, t3, t4, t5, t6, t7, t8, t9, t10, t11, t12, t13⟩ := HD.out _ HB.out) | (go_at_call 55; with_reducible refine (C1.out _ HB.out).mono ?_; rintro e w2 ⟨rfl, hb2⟩; (try clear t0 t1 t2 t3 t4 t5 t6 t7 t8 t9 t10 t11 t12 t13); replace HB := Lib.hid (HB.out.trans (hb2.mono HB.out.size)); clear hb2; obtain ⟨t0, t1, t2, t3, t4, t5, t6, t7, t8, t9, t10, t11, t12, t13⟩ := HD.out _ HB.out) | (go_at_call 56; with_reducible refine (C2.out _ HB.out).mono ?_; rintro e w2 ⟨rfl, hb2⟩; (try clear t0 t1 t2 t3 t4 t5 t6 t7 t8 t9 t10 t11 t12 t13); replace HB := Lib.hid (HB.out.trans (hb2.mono HB.out.size)); clear hb2; obtain ⟨t0, t1, t2, t3, t4, t5, t6, t7, t8, t9, t10, t11, t12, t13⟩ := HD.out _ HB.out) | (go_at_call 57; with_reducible refine (C3.out _ HB.out).mono ?_; rintro e w2 ⟨rfl, hb2⟩; (try clear t0 t1 t2 t3 t4 t5 t6 t7 t8 t9 t10 t11 t12 t13); replace HB := Lib.hid (HB.out.trans (hb2.mono HB.out.size)); clear hb2; obtain ⟨t0, t1, t2, t3, t4, t5, t6, t7, t8, t9, t10, t11, t12, t13⟩ := HD.out _ HB.out) | (go_at_call 58; with_reducible refine (C4.out _ HB.out).mono ?_; rintro e w2 ⟨rfl, hb2⟩; (try clear t0 t1 t2 t3 t4 t5 t6 t7 t8 t9 t10 t11 t12 t13); replace HB := Lib.hid (HB.out.trans (hb2.mono HB.out.size)); clear hb2; obtain ⟨t0, t1, t2, t3, t4, t5, t6, t7, t8, t9, t10, t11, t12, t13⟩ := HD.out _ HB.out) | (go_at_call 59; with_reducible refine (C5.out _ HB.out).mono ?_; rintro e w1 ⟨rfl, rfl⟩))
    go_ret
    exact ⟨by rw [HE.out]; rfl, HH.out _ HB.out⟩
  rw [h1] at C1
  by_cases h2 : bandsB p.bands = true
  case neg =>
    replace h2 : bandsB p.bands = false := Bool.eq_false_iff.2 h2
    rw [h2] at C2
    have HE : Hid (planB p = false) := by show _ = _; unfold planB; simp only [h0, h1, h2, Bool.and_false, Bool.false_and, Bool.and_true, Bool.true_and, Bool.and_self]
    go_enter Tryz.func16, Tryz.ntmps16
    go_upto_region 1 with (fail)
    rw [HW0.out]
    obtain ⟨t0, t1, t2, t3, t4, t5, t6, t7, t8, t9, t10, t11, t12, t13⟩ := HD.out _ HB.out
    go_wp2_with (first | (go_at_call 54; with_reducible refine (C0.out _ HB.out).mono ?_; rintro e w2 ⟨rfl, hb2⟩; (try clear t0 t1 t2 t3 t4 t5 t6 t7 t8 t9 t10 t11 t12 t13); replace HB := Lib.hid (HB.out.trans (hb2.mono HB.out.size)); clear hb2; obtain ⟨t0, t1, t2, t3, t4, t5, t6, t7, t8, t9, t10, t11, t12, t13⟩ := HD.out _ HB.out) | (go_at_call 55; with_reducible refine (C1.out _ HB.out).mono ?_; rintro e w2 ⟨rfl, hb2⟩; (try clear t0 t1 t2 t3 t4 t5 t6 t7 t8 t9 t10 t11 t12 t13); replace HB := Lib.hid (HB.out.trans (hb2.mono HB.out.size)); clear hb2; obtain ⟨t0, t1, t2, t3, t4, t5, t6, t7, t8, t9, t10, t11, t12, t13⟩ := HD.out _ HB.out) | (go_at_call 56; with_reducible refine (C2.out _ HB.out).mono ?_; rintro e w2 ⟨rfl, hb2⟩; (try clear t0 t1 t2 t3 t4 t5 t6 t7 t8 t9 t10 t11 t12 t13); replace HB := Lib.hid (HB.out.trans (hb2.mono HB.out.size)); clear hb2; obtain ⟨t0, t1, t2, t3, t4, t5, t6, t7, t8, t9, t10, t11, t12, t13⟩ := HD.out _ HB.out) | (go_at_call 57; with_reducible refine (C3.out _ HB.out).mono ?_; rintro e w2 ⟨rfl, hb2⟩; (try clear t0 t1 t2 t3 t4 t5 t6 t7 t8 t9 t10 t11 t12 t13); replace HB := Lib.hid (HB.out.trans (hb2.mono HB.out.size)); clear hb2; obtain ⟨t0, t1, t2, t3, t4, t5, t6, t7, t8, t9, t10, t11, t12, t13⟩ := HD.out _ HB.out) | (go_at_call 58; with_reducible refine (C4.out _ HB.out).mono ?_; rintro e w2 ⟨rfl, hb2⟩; (try clear t0 t1 t2 t3 t4 t5 t6 t7 t8 t9 t10 t11 t12 t13); replace HB := Lib.hid (HB.out.trans (hb2.mono HB.out.size)); clear hb2; obtain ⟨t0, t1, t2, t3, t4, t5, t6, t7, t8, t9, t10, t11, t12, t13⟩ := HD.out _ HB.out) | (go_at_call 59; with_reducible refine (C5.out _ HB.out).mono ?_; rintro e w1 ⟨rfl, rfl⟩))
    go_ret
    exact ⟨by rw [HE.out]; rfl, HH.out _ HB.out⟩
  rw [h2] at C2
  by_cases h3 : holdB p.licences = true
  case neg =>
    replace h3 : holdB p.licences = false := Bool.eq_false_iff.2 h3
    rw [h3] at C3
    have HE : Hid (planB p = false) := by show _ = _; unfold planB; simp only [h0, h1, h2, h3, Bool.and_false, Bool.false_and, Bool.and_true, Bool.true_and, Bool.and_self]
    go_enter Tryz.func16, Tryz.ntmps16
    go_upto_region 1 with (fail)
    rw [HW0.out]
    obtain ⟨t0, t1, t2, t3, t4, t5, t6, t7, t8, t9, t10, t11, t12, t13⟩ := HD.out _ HB.out
    go_wp2_with (first | (go_at_call 54; with_reducible refine (C0.out _ HB.out).mono ?_; rintro e w2 ⟨rfl, hb2⟩; (try clear t0 t1 t2 t3 t4 t5 t6 t7 t8 t9 t10 t11 t12 t13); replace HB := Lib.hid (HB.out.trans (hb2.mono HB.out.size)); clear hb2; obtain ⟨t0, t1, t2, t3, t4, t5, t6, t7, t8, t9, t10, t11, t12, t13⟩ := HD.out _ HB.out) | (go_at_call 55; with_reducible refine (C1.out _ HB.out).mono ?_; rintro e w2 ⟨rfl, hb2⟩; (try clear t0 t1 t2 t3 t4 t5 t6 t7 t8 t9 t10 t11 t12 t13); replace HB := Lib.hid (HB.out.trans (hb2.mono HB.out.size)); clear hb2; obtain ⟨t0, t1, t2, t3, t4, t5, t6, t7, t8, t9, t10, t11, t12, t13⟩ := HD.out _ HB.out) | (go_at_call 56; with_reducible refine (C2.out _ HB.out).mono ?_; rintro e w2 ⟨rfl, hb2⟩; (try clear t0 t1 t2 t3 t4 t5 t6 t7 t8 t9 t10 t11 t12 t13); replace HB := Lib.hid (HB.out.trans (hb2.mono HB.out.size)); clear hb2; obtain ⟨t0, t1, t2, t3, t4, t5, t6, t7, t8, t9, t10, t11, t12, t13⟩ := HD.out _ HB.out) | (go_at_call 57; with_reducible refine (C3.out _ HB.out).mono ?_; rintro e w2 ⟨rfl, hb2⟩; (try clear t0 t1 t2 t3 t4 t5 t6 t7 t8 t9 t10 t11 t12 t13); replace HB := Lib.hid (HB.out.trans (hb2.mono HB.out.size)); clear hb2; obtain ⟨t0, t1, t2, t3, t4, t5, t6, t7, t8, t9, t10, t11, t12, t13⟩ := HD.out _ HB.out) | (go_at_call 58; with_reducible refine (C4.out _ HB.out).mono ?_; rintro e w2 ⟨rfl, hb2⟩; (try clear t0 t1 t2 t3 t4 t5 t6 t7 t8 t9 t10 t11 t12 t13); replace HB := Lib.hid (HB.out.trans (hb2.mono HB.out.size)); clear hb2; obtain ⟨t0, t1, t2, t3, t4, t5, t6, t7, t8, t9, t10, t11, t12, t13⟩ := HD.out _ HB.out) | (go_at_call 59; with_reducible refine (C5.out _ HB.out).mono ?_; rintro e w1 ⟨rfl, rfl⟩))
    go_ret
    exact ⟨by rw [HE.out]; rfl, HH.out _ HB.out⟩
  rw [h3] at C3
  by_cases h4 : protsB p.protected_ = true
  case neg =>
    replace h4 : protsB p.protected_ = false := Bool.eq_false_iff.2 h4
    rw [h4] at C4
    have HE : Hid (planB p = false) := by show _ = _; unfold planB; simp only [h0, h1, h2, h3, h4, Bool.and_false, Bool.false_and, Bool.and_true, Bool.true_and, Bool.and_self]
    go_enter Tryz.func16, Tryz.ntmps16
    go_upto_region 1 with (fail)
    rw [HW0.out]
    obtain ⟨t0, t1, t2, t3, t4, t5, t6, t7, t8, t9, t10, t11, t12, t13⟩ := HD.out _ HB.out
    go_wp2_with (first | (go_at_call 54; with_reducible refine (C0.out _ HB.out).mono ?_; rintro e w2 ⟨rfl, hb2⟩; (try clear t0 t1 t2 t3 t4 t5 t6 t7 t8 t9 t10 t11 t12 t13); replace HB := Lib.hid (HB.out.trans (hb2.mono HB.out.size)); clear hb2; obtain ⟨t0, t1, t2, t3, t4, t5, t6, t7, t8, t9, t10, t11, t12, t13⟩ := HD.out _ HB.out) | (go_at_call 55; with_reducible refine (C1.out _ HB.out).mono ?_; rintro e w2 ⟨rfl, hb2⟩; (try clear t0 t1 t2 t3 t4 t5 t6 t7 t8 t9 t10 t11 t12 t13); replace HB := Lib.hid (HB.out.trans (hb2.mono HB.out.size)); clear hb2; obtain ⟨t0, t1, t2, t3, t4, t5, t6, t7, t8, t9, t10, t11, t12, t13⟩ := HD.out _ HB.out) | (go_at_call 56; with_reducible refine (C2.out _ HB.out).mono ?_; rintro e w2 ⟨rfl, hb2⟩; (try clear t0 t1 t2 t3 t4 t5 t6 t7 t8 t9 t10 t11 t12 t13); replace HB := Lib.hid (HB.out.trans (hb2.mono HB.out.size)); clear hb2; obtain ⟨t0, t1, t2, t3, t4, t5, t6, t7, t8, t9, t10, t11, t12, t13⟩ := HD.out _ HB.out) | (go_at_call 57; with_reducible refine (C3.out _ HB.out).mono ?_; rintro e w2 ⟨rfl, hb2⟩; (try clear t0 t1 t2 t3 t4 t5 t6 t7 t8 t9 t10 t11 t12 t13); replace HB := Lib.hid (HB.out.trans (hb2.mono HB.out.size)); clear hb2; obtain ⟨t0, t1, t2, t3, t4, t5, t6, t7, t8, t9, t10, t11, t12, t13⟩ := HD.out _ HB.out) | (go_at_call 58; with_reducible refine (C4.out _ HB.out).mono ?_; rintro e w2 ⟨rfl, hb2⟩; (try clear t0 t1 t2 t3 t4 t5 t6 t7 t8 t9 t10 t11 t12 t13); replace HB := Lib.hid (HB.out.trans (hb2.mono HB.out.size)); clear hb2; obtain ⟨t0, t1, t2, t3, t4, t5, t6, t7, t8, t9, t10, t11, t12, t13⟩ := HD.out _ HB.out) | (go_at_call 59; with_reducible refine (C5.out _ HB.out).mono ?_; rintro e w1 ⟨rfl, rfl⟩))
    go_ret
    exact ⟨by rw [HE.out]; rfl, HH.out _ HB.out⟩
  rw [h4] at C4
  by_cases h5 : inB p.day 0 99999 = true
  case neg =>
    replace h5 : inB p.day 0 99999 = false := Bool.eq_false_iff.2 h5
    rw [h5] at C5
    have HE : Hid (planB p = false) := by show _ = _; unfold planB; simp only [h0, h1, h2, h3, h4, h5, Bool.and_false, Bool.false_and, Bool.and_true, Bool.true_and, Bool.and_self]
    go_enter Tryz.func16, Tryz.ntmps16
    go_upto_region 1 with (fail)
    rw [HW0.out]
    obtain ⟨t0, t1, t2, t3, t4, t5, t6, t7, t8, t9, t10, t11, t12, t13⟩ := HD.out _ HB.out
    go_wp2_with (first | (go_at_call 54; with_reducible refine (C0.out _ HB.out).mono ?_; rintro e w2 ⟨rfl, hb2⟩; (try clear t0 t1 t2 t3 t4 t5 t6 t7 t8 t9 t10 t11 t12 t13); replace HB := Lib.hid (HB.out.trans (hb2.mono HB.out.size)); clear hb2; obtain ⟨t0, t1, t2, t3, t4, t5, t6, t7, t8, t9, t10, t11, t12, t13⟩ := HD.out _ HB.out) | (go_at_call 55; with_reducible refine (C1.out _ HB.out).mono ?_; rintro e w2 ⟨rfl, hb2⟩; (try clear t0 t1 t2 t3 t4 t5 t6 t7 t8 t9 t10 t11 t12 t13); replace HB := Lib.hid (HB.out.trans (hb2.mono HB.out.size)); clear hb2; obtain ⟨t0, t1, t2, t3, t4, t5, t6, t7, t8, t9, t10, t11, t12, t13⟩ := HD.out _ HB.out) | (go_at_call 56; with_reducible refine (C2.out _ HB.out).mono ?_; rintro e w2 ⟨rfl, hb2⟩; (try clear t0 t1 t2 t3 t4 t5 t6 t7 t8 t9 t10 t11 t12 t13); replace HB := Lib.hid (HB.out.trans (hb2.mono HB.out.size)); clear hb2; obtain ⟨t0, t1, t2, t3, t4, t5, t6, t7, t8, t9, t10, t11, t12, t13⟩ := HD.out _ HB.out) | (go_at_call 57; with_reducible refine (C3.out _ HB.out).mono ?_; rintro e w2 ⟨rfl, hb2⟩; (try clear t0 t1 t2 t3 t4 t5 t6 t7 t8 t9 t10 t11 t12 t13); replace HB := Lib.hid (HB.out.trans (hb2.mono HB.out.size)); clear hb2; obtain ⟨t0, t1, t2, t3, t4, t5, t6, t7, t8, t9, t10, t11, t12, t13⟩ := HD.out _ HB.out) | (go_at_call 58; with_reducible refine (C4.out _ HB.out).mono ?_; rintro e w2 ⟨rfl, hb2⟩; (try clear t0 t1 t2 t3 t4 t5 t6 t7 t8 t9 t10 t11 t12 t13); replace HB := Lib.hid (HB.out.trans (hb2.mono HB.out.size)); clear hb2; obtain ⟨t0, t1, t2, t3, t4, t5, t6, t7, t8, t9, t10, t11, t12, t13⟩ := HD.out _ HB.out) | (go_at_call 59; with_reducible refine (C5.out _ HB.out).mono ?_; rintro e w1 ⟨rfl, rfl⟩))
    go_ret
    exact ⟨by rw [HE.out]; rfl, HH.out _ HB.out⟩
  rw [h5] at C5
  by_cases h6 : p.apart.length = p.network.sectors.length
  case neg =>
    have hap : apS p.apart p.network.sectors.length = false := by unfold apS; rw [decide_eq_false h6]; rfl
    have hne : ((p.apart.length : Int) != (p.network.sectors.length : Int)) = true := by simp; omega
    have HE : Hid (planB p = false) := by show _ = _; unfold planB; simp only [h0, h1, h2, h3, h4, h5, hap, Bool.and_false, Bool.false_and, Bool.and_true, Bool.true_and, Bool.and_self]
    go_enter Tryz.func16, Tryz.ntmps16
    go_upto_region 1 with (fail)
    rw [HW0.out]
    obtain ⟨t0, t1, t2, t3, t4, t5, t6, t7, t8, t9, t10, t11, t12, t13⟩ := HD.out _ HB.out
    go_wp2_with (first | (go_at_call 54; with_reducible refine (C0.out _ HB.out).mono ?_; rintro e w2 ⟨rfl, hb2⟩; (try clear t0 t1 t2 t3 t4 t5 t6 t7 t8 t9 t10 t11 t12 t13); replace HB := Lib.hid (HB.out.trans (hb2.mono HB.out.size)); clear hb2; obtain ⟨t0, t1, t2, t3, t4, t5, t6, t7, t8, t9, t10, t11, t12, t13⟩ := HD.out _ HB.out) | (go_at_call 55; with_reducible refine (C1.out _ HB.out).mono ?_; rintro e w2 ⟨rfl, hb2⟩; (try clear t0 t1 t2 t3 t4 t5 t6 t7 t8 t9 t10 t11 t12 t13); replace HB := Lib.hid (HB.out.trans (hb2.mono HB.out.size)); clear hb2; obtain ⟨t0, t1, t2, t3, t4, t5, t6, t7, t8, t9, t10, t11, t12, t13⟩ := HD.out _ HB.out) | (go_at_call 56; with_reducible refine (C2.out _ HB.out).mono ?_; rintro e w2 ⟨rfl, hb2⟩; (try clear t0 t1 t2 t3 t4 t5 t6 t7 t8 t9 t10 t11 t12 t13); replace HB := Lib.hid (HB.out.trans (hb2.mono HB.out.size)); clear hb2; obtain ⟨t0, t1, t2, t3, t4, t5, t6, t7, t8, t9, t10, t11, t12, t13⟩ := HD.out _ HB.out) | (go_at_call 57; with_reducible refine (C3.out _ HB.out).mono ?_; rintro e w2 ⟨rfl, hb2⟩; (try clear t0 t1 t2 t3 t4 t5 t6 t7 t8 t9 t10 t11 t12 t13); replace HB := Lib.hid (HB.out.trans (hb2.mono HB.out.size)); clear hb2; obtain ⟨t0, t1, t2, t3, t4, t5, t6, t7, t8, t9, t10, t11, t12, t13⟩ := HD.out _ HB.out) | (go_at_call 58; with_reducible refine (C4.out _ HB.out).mono ?_; rintro e w2 ⟨rfl, hb2⟩; (try clear t0 t1 t2 t3 t4 t5 t6 t7 t8 t9 t10 t11 t12 t13); replace HB := Lib.hid (HB.out.trans (hb2.mono HB.out.size)); clear hb2; obtain ⟨t0, t1, t2, t3, t4, t5, t6, t7, t8, t9, t10, t11, t12, t13⟩ := HD.out _ HB.out) | (go_at_call 59; with_reducible refine (C5.out _ HB.out).mono ?_; rintro e w1 ⟨rfl, rfl⟩))
    go_ret
    exact ⟨by rw [HE.out]; rfl, HH.out _ HB.out⟩
  have hne : ((p.apart.length : Int) != (p.network.sectors.length : Int)) = false := by simp; omega
  have HE : Hid (planB p = (List.range p.apart.length).all (apAtI p.apart p.apart.length)) := by
    show _ = _
    unfold planB
    rw [← apI_eq]
    unfold apI
    simp only [h0, h1, h2, h3, h4, h5, decide_eq_true h6, Bool.true_and]
  have hrows := Z.out.rows
  have HRD := Lib.hid H.out.r12
  clear h6
  go_enter Tryz.func16, Tryz.ntmps16
  go_upto_region 1 with (fail)
  rw [HW0.out]
  obtain ⟨t0, t1, t2, t3, t4, t5, t6, t7, t8, t9, t10, t11, t12, t13⟩ := HD.out _ HB.out
  go_wp2_with (first | (go_at_call 54; with_reducible refine (C0.out _ HB.out).mono ?_; rintro e w2 ⟨rfl, hb2⟩; (try clear t0 t1 t2 t3 t4 t5 t6 t7 t8 t9 t10 t11 t12 t13); replace HB := Lib.hid (HB.out.trans (hb2.mono HB.out.size)); clear hb2; obtain ⟨t0, t1, t2, t3, t4, t5, t6, t7, t8, t9, t10, t11, t12, t13⟩ := HD.out _ HB.out) | (go_at_call 55; with_reducible refine (C1.out _ HB.out).mono ?_; rintro e w2 ⟨rfl, hb2⟩; (try clear t0 t1 t2 t3 t4 t5 t6 t7 t8 t9 t10 t11 t12 t13); replace HB := Lib.hid (HB.out.trans (hb2.mono HB.out.size)); clear hb2; obtain ⟨t0, t1, t2, t3, t4, t5, t6, t7, t8, t9, t10, t11, t12, t13⟩ := HD.out _ HB.out) | (go_at_call 56; with_reducible refine (C2.out _ HB.out).mono ?_; rintro e w2 ⟨rfl, hb2⟩; (try clear t0 t1 t2 t3 t4 t5 t6 t7 t8 t9 t10 t11 t12 t13); replace HB := Lib.hid (HB.out.trans (hb2.mono HB.out.size)); clear hb2; obtain ⟨t0, t1, t2, t3, t4, t5, t6, t7, t8, t9, t10, t11, t12, t13⟩ := HD.out _ HB.out) | (go_at_call 57; with_reducible refine (C3.out _ HB.out).mono ?_; rintro e w2 ⟨rfl, hb2⟩; (try clear t0 t1 t2 t3 t4 t5 t6 t7 t8 t9 t10 t11 t12 t13); replace HB := Lib.hid (HB.out.trans (hb2.mono HB.out.size)); clear hb2; obtain ⟨t0, t1, t2, t3, t4, t5, t6, t7, t8, t9, t10, t11, t12, t13⟩ := HD.out _ HB.out) | (go_at_call 58; with_reducible refine (C4.out _ HB.out).mono ?_; rintro e w2 ⟨rfl, hb2⟩; (try clear t0 t1 t2 t3 t4 t5 t6 t7 t8 t9 t10 t11 t12 t13); replace HB := Lib.hid (HB.out.trans (hb2.mono HB.out.size)); clear hb2; obtain ⟨t0, t1, t2, t3, t4, t5, t6, t7, t8, t9, t10, t11, t12, t13⟩ := HD.out _ HB.out) | (go_at_call 59; with_reducible refine (C5.out _ HB.out).mono ?_; rintro e w1 ⟨rfl, rfl⟩))
  clear hne
  have HBW := Lib.hid HB.out
  clear t0 t1 t2 t3 t4 t5 t6 t7 t8 t9 t10 t11 t12 t13
  go_loopw [53] (fun i wr => ∃ (k : Nat), k ≤ p.apart.length ∧ i = .int .i64 k ∧ (∀ j, j < k → apAtI p.apart p.apart.length j = true) ∧ Below W0.heap.size W0 wr) (fun i wr => p.apart.length - (intOf i).toNat)
  case atStart => exact ⟨0, Nat.zero_le _, rfl, fun j hj => absurd hj (by omega), HBW.out⟩
  case round =>
    obtain ⟨k, hk1, rfl, hno, hb⟩ := hrel
    have HN := Lib.hid hno
    have HBR := Lib.hid hb
    have zb := hb.size
    clear hno hb
    by_cases hlt : k < p.apart.length
    · obtain ⟨b, off, ea, hbl, hat⟩ := HRD.out.rows (by omega)
      subst ea
      have HAT := Lib.hid hat
      obtain ⟨ak, ck, sk, hrd, hck⟩ := hat k hlt
      have HRK := Lib.hid hrd
      have hrk := hrows k hlt
      clear hat hrd
      have hbw := HH.out _ HBR.out
      have hzw := hbw.size
      rw [← bat hbw b _ hbl] at sk
      have t12 := HP.out _ HBR.out
      have i1 : (0 : Int) ≤ (k : Int) := by omega
      have i3 : (k : Int) < (p.apart.length : Int) := by omega
      have HA : Hid (apAtI p.apart p.apart.length k = (decide ((rowI p.apart k).length = p.apart.length) && (((rowI p.apart k).all fun x => inB x 0 100) && ((gi (rowI p.apart k) k == 0) && (List.range k).all (fun q => gi (rowI p.apart k) q == gi (rowI p.apart q) k))))) := rfl
      have CA : Hid (∀ W : World, Below wr.heap.size wr W → Calls Tryz.prog 60 #[.slice ak (rowI p.apart k).length ck, .int .i64 0, .int .i64 100] W fun e w' => e = .returned (.bool ((rowI p.apart k).all fun x => inB x 0 100)) ∧ Below W.heap.size W w') := fun W hW => allWithin_any _ _ _ _ w.heap.size W (HRK.out.below (hbw.trans (hW.mono hzw))) (Nat.le_trans hzw hW.size) hrk
      have HF : Hid (apAtI p.apart p.apart.length k = false → planB p = false) := fun e => by rw [HE.out]; exact allR_false hlt e
      by_cases a0 : (rowI p.apart k).length = p.apart.length
      case neg =>
        have hn1 : (((rowI p.apart k).length : Int) != (p.apart.length : Int)) = true := by simp; omega
        have HQ : Hid (planB p = false) := HF.out (by rw [HA.out, decide_eq_false a0]; rfl)
        clear hck hbw
        go_wp2
        go_ret
        exact ⟨by rw [HQ.out]; rfl, HH.out _ HBR.out⟩
      have hn1 : (((rowI p.apart k).length : Int) != (p.apart.length : Int)) = false := by simp; omega
      have i4 : (k : Int) < ((rowI p.apart k).length : Int) := by omega
      have HA0 := Lib.hid a0
      clear a0
      obtain ⟨bk, ok, ea, hbk, hcz⟩ := hck (by omega)
      subst ea
      have HTK := Lib.hid hcz
      have tk := hcz k (by omega)
      clear hck hcz
      rw [← bat hbw bk _ (by omega)] at tk
      have hbw2 := Lib.hid hbw
      clear hbw
      have hbkr : bk < wr.heap.size := by omega
      by_cases a1 : ((rowI p.apart k).all fun x => inB x 0 100) = true
      case neg =>
        replace a1 : ((rowI p.apart k).all fun x => inB x 0 100) = false := Bool.eq_false_iff.2 a1
        have HQ : Hid (planB p = false) := HF.out (by rw [HA.out, a1]; simp)
        rw [a1] at CA
        go_wp2_with (go_at_call 60; with_reducible refine (CA.out _ (Below.refl _ _)).mono ?_; rintro e w3 ⟨rfl, hb3⟩)
        go_ret
        exact ⟨by rw [HQ.out]; rfl, HH.out _ (HBR.out.trans (hb3.mono zb))⟩
      have HA1 := Lib.hid a1
      rw [a1] at CA
      have hbo : b < wr.heap.size := by omega
      have ARM : Hid (∀ W : World, Below wr.heap.size wr W → (W.cell? ⟨bk, ok + k, none⟩ = some (.int .i64 (gi (rowI p.apart k) k)) ∧ W.cell? ⟨w.heap.size, 12, none⟩ = some (.slice (some ⟨b, off, none⟩) p.apart.length cp))) := fun W hW => ⟨(bat hW bk _ hbkr).trans tk, (bat hW w.heap.size _ (by omega)).trans t12⟩
      by_cases a2 : (gi (rowI p.apart k) k == 0) = true
      case neg =>
        replace a2 : (gi (rowI p.apart k) k == 0) = false := Bool.eq_false_iff.2 a2
        have hn2 : (gi (rowI p.apart k) k != 0) = true := by rw [bne, a2]; rfl
        have HQ : Hid (planB p = false) := HF.out (by rw [HA.out, a2]; simp)
        generalize gi (rowI p.apart k) k = x at *
        clear a1
        go_wp2_with (go_at_call 60; with_reducible refine (CA.out _ (Below.refl _ _)).mono ?_; rintro e w3 ⟨rfl, hb3⟩; clear tk t12 sk; obtain ⟨tk, t12⟩ := ARM.out _ hb3)
        go_ret
        exact ⟨by rw [HQ.out]; rfl, HH.out _ (HBR.out.trans (hb3.mono zb))⟩
      have hn2 : (gi (rowI p.apart k) k != 0) = false := by rw [bne, a2]; rfl
      have HX : Hid ((List.range k).all (fun q => gi (rowI p.apart k) q == gi (rowI p.apart q) k) = true → apAtI p.apart p.apart.length k = true) := fun e => by rw [HA.out, decide_eq_true HA0.out, HA1.out, a2, e]; rfl
      have HY : Hid ((List.range k).all (fun q => gi (rowI p.apart k) q == gi (rowI p.apart q) k) = false → planB p = false) := fun e => HF.out (by rw [HA.out, e]; simp)
      clear a2 a1
      have ARM2 : Hid (∀ W : World, Below wr.heap.size wr W → ∃ x : Int, (x != 0) = false ∧ W.cell? ⟨bk, ok + k, none⟩ = some (.int .i64 x) ∧ W.cell? ⟨w.heap.size, 12, none⟩ = some (.slice (some ⟨b, off, none⟩) p.apart.length cp)) := fun W hW => ⟨_, hn2, ARM.out W hW⟩
      obtain ⟨x0, hx0, tk0, t120⟩ := ARM2.out _ (Below.refl _ _)
      clear tk t12 hn2
      go_wp2_with (go_at_call 60; with_reducible refine (CA.out _ (Below.refl _ _)).mono ?_; rintro e w3 ⟨rfl, hb3⟩; clear tk0 t120 sk; have HB3 := Lib.hid hb3; obtain ⟨x1, hx1, tk, t12⟩ := ARM2.out _ hb3)
      have HBS := Lib.hid (HBR.out.trans (HB3.out.mono zb))
      clear tk t12 hx0 hn1 hx1 hb3
      go_loopw [77] (fun i wr => ∃ (q : Nat), q ≤ k ∧ i = .int .i64 q ∧ (∀ j, j < q → (gi (rowI p.apart k) j == gi (rowI p.apart j) k) = true) ∧ Below W0.heap.size W0 wr) (fun i wr => k - (intOf i).toNat)
      case atStart => exact ⟨0, Nat.zero_le _, rfl, fun j hj => absurd hj (by omega), HBS.out⟩
      case round =>
        obtain ⟨q, hq, rfl, hno2, hb2⟩ := hrel
        have HN2 := Lib.hid hno2
        have HB2 := Lib.hid hb2
        have zb2 := hb2.size
        clear hno2 hb2
        by_cases hqk : q < k
        · have hqm : q < p.apart.length := by omega
          have hbw3 := HH.out _ HB2.out
          have hzw3 := hbw3.size
          obtain ⟨aq, cq, sq, _, hcq⟩ := HAT.out q hqm
          have hlq : (rowI p.apart q).length = p.apart.length := by
            have := HN.out q hqk
            unfold apAtI at this
            rw [Bool.and_eq_true] at this
            exact of_decide_eq_true this.1
          obtain ⟨bq, oq, eaq, hbq, hcq2⟩ := hcq (by omega)
          subst eaq
          have uq := hcq2 k (by omega)
          have tq := HTK.out q (by omega)
          clear hcq hcq2
          rw [← bat hbw3 b _ hbl] at sq
          rw [← bat hbw3 bk _ (by omega)] at tq
          rw [← bat hbw3 bq _ (by omega)] at uq
          have t12 := HP.out _ HB2.out
          have j0 : (0 : Int) ≤ (q : Int) := by omega
          have j1 : (q : Int) < (p.apart.length : Int) := by omega
          have j2 : (q : Int) < ((rowI p.apart k).length : Int) := by omega
          have j3 : (k : Int) < ((rowI p.apart q).length : Int) := by omega
          have j4 : (q : Int) < (k : Int) := by omega
          clear hlq
          have HC : Hid ((gi (rowI p.apart k) q == gi (rowI p.apart q) k) = (gi (rowI p.apart k) q == gi (rowI p.apart q) k)) := rfl
          have HCT : Hid ((gi (rowI p.apart k) q == gi (rowI p.apart q) k) = false → planB p = false) := fun e => HY.out (allR_false hqk e)
          have HCS : Hid ((gi (rowI p.apart k) q == gi (rowI p.apart q) k) = true → ∀ j, j < q + 1 → (gi (rowI p.apart k) j == gi (rowI p.apart j) k) = true) := fun e => upTo_succ (p := fun j => gi (rowI p.apart k) j == gi (rowI p.apart j) k) HN2.out e
          clear HC
          generalize gi (rowI p.apart k) q = x at *
          generalize gi (rowI p.apart q) k = y at *
          clear hbw3
          go_wp2
          have o1 := overC (w0 := wr) (show b < wr.heap.size by omega)
          have o2 := overC (w0 := wr) (show bk < wr.heap.size by omega)
          have o3 := overC (w0 := wr) (show bq < wr.heap.size by omega)
          have o4 := overC (w0 := wr) (show w.heap.size < wr.heap.size by omega)
          by_cases e1 : (x == y) = true
          case neg =>
            replace e1 : (x == y) = false := Bool.eq_false_iff.2 e1
            have en : (x != y) = true := by rw [bne, e1]; rfl
            have HQ : Hid (planB p = false) := HCT.out e1
            refine wp_region_over wr.heap.size wr (Below.refl _ _) (by kernel_rfl) (by kernel_rfl) ?_
            repeat (go_big_quiet_step (fail))
            refine wpQuiet_nil ?_
            rintro _ ⟨X, rfl⟩
            have hX := over_below wr.heap.size wr X
            clear o1 o2 o3 o4
            generalize over wr.heap.size wr X = w4 at *
            have BG := Lib.hid (HB2.out.trans (hX.mono (by omega)))
            clear hX
            go_wp2
            go_ret
            exact ⟨by rw [HQ.out]; rfl, HH.out _ BG.out⟩
          have en : (x != y) = false := by rw [bne, e1]; rfl
          refine wp_region_over wr.heap.size wr (Below.refl _ _) (by kernel_rfl) (by kernel_rfl) ?_
          repeat (go_big_quiet_step (fail))
          refine wpQuiet_nil ?_
          rintro _ ⟨X, rfl⟩
          have hX := over_below wr.heap.size wr X
          clear o1 o2 o3 o4
          generalize over wr.heap.size wr X = w4 at *
          have BG := Lib.hid (HB2.out.trans (hX.mono (by omega)))
          clear hX
          go_wp2
          go_roundw
          case rel => exact ⟨q + 1, by omega, by go_num, HCS.out e1, BG.out⟩
          case measure => simp [intOf]; omega
        · obtain rfl : q = k := by omega
          have HG : Hid (apAtI p.apart p.apart.length q = true) := HX.out (allR_true HN2.out)
          have j4 : (q : Int) < 1099511627776 := by omega
          go_wp2
          go_roundw
          case rel => exact ⟨q + 1, by omega, by go_num, upTo_succ HN.out HG.out, HB2.out⟩
          case measure => simp [intOf]; omega
    · obtain rfl : k = p.apart.length := by omega
      have HQ : Hid (planB p = true) := by show _ = _; rw [HE.out]; exact allR_true HN.out
      go_wp2
      go_ret
      exact ⟨by rw [HQ.out]; rfl, HH.out _ HBR.out⟩
end Go.Proofs.YtlfkdhakibagaaaGreat
