/- Contract: a flat terrain of the reference. No condition. -/
import Derived.Test.YtlfkdhakibagaaaNewC
namespace Go.Proofs.Ytlfkdhakibagaaa
open Go.RowKit
set_option linter.unusedVariables false
set_option linter.unusedSimpArgs false

set_option maxHeartbeats 4000000 in
set_option maxRecDepth 100000 in
theorem l04Flat_desk (w : World) : Calls Try.prog 17 #[.int .i64 100, .int .i64 10, .int .i64 10, .int .i64 0] w fun e w' => ∃ g h, e = .returned (.agg #[.int .i64 100, .int .i64 10, .int .i64 10, .slice (some ⟨g, 0, none⟩) 100 100, .slice (some ⟨h, 0, none⟩) 100 100]) ∧ TwoZ w w' g h 2 := by
  obtain ⟨i0, hi0, hz0, hz1, hz2⟩ := info_parts infoI
  have hmk : ∀ W : World, (Instr.makeSlice 22 (.int .i64 100) (.int .i64 100)).run Try.prog W = .ok (.slice (some ⟨W.heap.size, 0, none⟩) 100 100) (W.alloc (.cells zrow 2)) := fun W => by
    have h := run_make_rowN (P := Try.prog) 22 2 i0 _ Try.underlying22 hi0 hz0 .i64 .i64 100 100 (Nat.le_refl _) (by rw [hz2]; omega) (by omega) W
    rw [hz1] at h
    exact h
  clear hi0 hz0 hz1 hz2
  have HW100 : Hid (IntKind.i64.wrap 100 = 100) := by show _ = _; decide
  have hb0 : Below w.heap.size w (w.alloc (.cells #[.int .i64 0, .int .i64 0, .int .i64 0, .slice none 0 0, .slice none 0 0] 24)) := below_alloc _ _
  have k0 := bkN w #[.int .i64 0, .int .i64 0, .int .i64 0, .slice none 0 0, .slice none 0 0] 24
  have z0 : w.heap.size + 1 ≤ (w.alloc (.cells #[.int .i64 0, .int .i64 0, .int .i64 0, .slice none 0 0, .slice none 0 0] 24)).heap.size := by simp
  go_enter Try.func17, Try.ntmps17
  go_upto_region 1 with (fail)
  generalize w.alloc (.cells #[.int .i64 0, .int .i64 0, .int .i64 0, .slice none 0 0, .slice none 0 0] 24) = W0 at *
  have B0 := Lib.hid hb0
  have K0 := Lib.hid k0
  clear k0 hb0
  go_cut [9] (fun s0 wx => ∃ (tb g h : Nat), s0 = .pointer (some ⟨tb, 0, none⟩) ∧ wx.heap[tb]? = some (.cells #[.int .i64 100, .int .i64 10, .int .i64 10, .slice (some ⟨g, 0, none⟩) 100 100, .slice (some ⟨h, 0, none⟩) 100 100] 24 (0, 0)) ∧ W0.heap.size ≤ tb ∧ tb < wx.heap.size ∧ TwoZ W0 wx g h 2 ∧ tb ≠ g ∧ tb ≠ h)
  case first =>
    refine wp_region_tree 13 (.read 0 (.read 1 (.read 2 (.read 3 (.read 4 (.read 5 (.read 7 (.read 8 (.read 9 (.three 6 10 12 (.two 10 12 (.read 11 (.one 12 .nil)) (.one 10 (.read 11 .nil))) (.two 6 12 (.read 11 (.one 12 .nil)) (.one 6 (.read 11 .nil))) (.two 6 10 (.one 10 (.read 11 .nil)) (.one 6 (.read 11 .nil))))))))))))) (fun W => True) (by kernel_rfl) (by kernel_rfl) trivial ?_
    have BBd : Hid (Below W0.heap.size W0 W0.drew) := below_drew1 W0
    have zd : W0.heap.size ≤ W0.drew.heap.size := Nat.le_refl _
    generalize W0.drew = Y at *
    
    refine wpTree_read (v := ?_) rfl (fun _ _ _ h => h) ?_ ?_
    rotate_left
    · (intro W hSW; (try dsimp only at hSW); (go_simp <;> with_reducible rfl))
    (try simp only [Act.put, List.setIfInBounds_toArray, List.set_cons_zero, List.set_cons_succ])
    refine wpTree_read (v := ?_) rfl (fun _ _ _ h => h) ?_ ?_
    rotate_left
    · (intro W hSW; (try dsimp only at hSW); (go_simp <;> with_reducible rfl))
    (try simp only [Act.put, List.setIfInBounds_toArray, List.set_cons_zero, List.set_cons_succ])
    refine wpTree_read (v := ?_) rfl (fun _ _ _ h => h) ?_ ?_
    rotate_left
    · (intro W hSW; (try dsimp only at hSW); (go_simp <;> with_reducible rfl))
    (try simp only [Act.put, List.setIfInBounds_toArray, List.set_cons_zero, List.set_cons_succ])
    refine wpTree_read (v := ?_) rfl (fun _ _ _ h => h) ?_ ?_
    rotate_left
    · (intro W hSW; (try dsimp only at hSW); (go_simp <;> with_reducible rfl))
    (try simp only [Act.put, List.setIfInBounds_toArray, List.set_cons_zero, List.set_cons_succ])
    refine wpTree_read (v := ?_) rfl (fun _ _ _ h => h) ?_ ?_
    rotate_left
    · (intro W hSW; (try dsimp only at hSW); (go_simp <;> with_reducible rfl))
    (try simp only [Act.put, List.setIfInBounds_toArray, List.set_cons_zero, List.set_cons_succ])
    refine wpTree_read (v := ?_) rfl (fun _ _ _ h => h) ?_ ?_
    rotate_left
    · (intro W hSW; (try dsimp only at hSW); (go_simp <;> with_reducible rfl))
    (try simp only [Act.put, List.setIfInBounds_toArray, List.set_cons_zero, List.set_cons_succ])
    refine wpTree_read (v := ?_) rfl (fun _ _ _ h => h) ?_ ?_
    rotate_left
    · (intro W hSW; (try dsimp only at hSW); (go_simp <;> with_reducible rfl))
    (try simp only [Act.put, List.setIfInBounds_toArray, List.set_cons_zero, List.set_cons_succ])
    refine wpTree_read (v := ?_) rfl (fun _ _ _ h => h) ?_ ?_
    rotate_left
    · (intro W hSW; (try dsimp only at hSW); (go_simp <;> with_reducible rfl))
    (try simp only [Act.put, List.setIfInBounds_toArray, List.set_cons_zero, List.set_cons_succ])
    refine wpTree_read (v := ?_) rfl (fun _ _ _ h => h) ?_ ?_
    rotate_left
    · (intro W hSW; (try dsimp only at hSW); (go_simp <;> with_reducible rfl))
    (try simp only [Act.put, List.setIfInBounds_toArray, List.set_cons_zero, List.set_cons_succ])
    (try rw [HW100.out])
    refine wpTree_three ?_ ?_ ?_
    · refine stepT_mk rfl (fun K hK => ?_)
      go_simp
      have hb1 : Below Y.heap.size Y (Y.alloc (.cells zrow 2)) := below_alloc _ _
      have kk1 := Lib.hid (bkN Y zrow 2)
      have zl1 : Y.heap.size + 1 ≤ (Y.alloc (.cells zrow 2)).heap.size := by simp
      refine hK.out _ _ trivial ?_
      clear hK K
      (try simp only [Act.put, List.setIfInBounds_toArray, List.set_cons_zero, List.set_cons_succ])
      generalize (Y.alloc (.cells zrow 2)) = Y1 at *
      have bs1 : Y.heap.size ≤ Y1.heap.size := hb1.size
      have BY1 := Lib.hid (BBd.out.trans (hb1.mono (by omega)))
      clear hb1
      (try rw [HW100.out])
      refine wpTree_two ?_ ?_
      · refine stepT_mk rfl (fun K hK => ?_)
        go_simp
        have hb2 : Below Y1.heap.size Y1 (Y1.alloc (.cells zrow 2)) := below_alloc _ _
        have kk2 := Lib.hid (bkN Y1 zrow 2)
        have zl2 : Y1.heap.size + 1 ≤ (Y1.alloc (.cells zrow 2)).heap.size := by simp
        refine hK.out _ _ trivial ?_
        clear hK K
        (try simp only [Act.put, List.setIfInBounds_toArray, List.set_cons_zero, List.set_cons_succ])
        generalize (Y1.alloc (.cells zrow 2)) = Y2 at *
        have bs2 : Y1.heap.size ≤ Y2.heap.size := hb2.size
        have BY2 := Lib.hid (BY1.out.trans (hb2.mono (by omega)))
        have kmk12 := Lib.hid (bkB kk1.out hb2 (by omega))
        clear hb2
        refine wpTree_read (v := ?_) rfl (fun _ _ _ h => h) ?_ ?_
        rotate_left
        · (intro W hSW; (try dsimp only at hSW); (go_simp <;> with_reducible rfl))
        (try simp only [Act.put, List.setIfInBounds_toArray, List.set_cons_zero, List.set_cons_succ])
        (try rw [HW100.out])
        refine wpTree_one ?_
        refine stepT_mk rfl (fun K hK => ?_)
        go_simp
        have hb3 : Below Y2.heap.size Y2 (Y2.alloc (.cells #[.int .i64 0, .int .i64 0, .int .i64 0, .slice none 0 0, .slice none 0 0] 24)) := below_alloc _ _
        have kk3 := Lib.hid (bkN Y2 #[.int .i64 0, .int .i64 0, .int .i64 0, .slice none 0 0, .slice none 0 0] 24)
        have zl3 : Y2.heap.size + 1 ≤ (Y2.alloc (.cells #[.int .i64 0, .int .i64 0, .int .i64 0, .slice none 0 0, .slice none 0 0] 24)).heap.size := by simp
        refine hK.out _ _ trivial ?_
        clear hK K
        (try simp only [Act.put, List.setIfInBounds_toArray, List.set_cons_zero, List.set_cons_succ])
        generalize (Y2.alloc (.cells #[.int .i64 0, .int .i64 0, .int .i64 0, .slice none 0 0, .slice none 0 0] 24)) = Y3 at *
        have bs3 : Y2.heap.size ≤ Y3.heap.size := hb3.size
        have BY3 := Lib.hid (BY2.out.trans (hb3.mono (by omega)))
        have kmk13 := Lib.hid (bkB kmk12.out hb3 (by omega))
        have kmk23 := Lib.hid (bkB kk2.out hb3 (by omega))
        clear hb3
        refine wpTree_nil ?_
        simp only [List.drop_succ_cons, List.drop_zero]
        have g0_ := bkC (v := .int .i64 0) kk3.out 0 rfl
        have g1_ := bkC (v := .int .i64 0) kk3.out 1 rfl
        have g2_ := bkC (v := .int .i64 0) kk3.out 2 rfl
        have g3_ := bkC (v := .slice none 0 0) kk3.out 3 rfl
        have g4_ := bkC (v := .slice none 0 0) kk3.out 4 rfl
        have fz := bkF kk3.out
        have kf_ : (((((Y3.setCell ⟨Y2.heap.size, 0, none⟩ (.int .i64 100)).setCell ⟨Y2.heap.size, 1, none⟩ (.int .i64 10)).setCell ⟨Y2.heap.size, 2, none⟩ (.int .i64 10)).setCell ⟨Y2.heap.size, 3, none⟩ (.slice (some ⟨Y.heap.size, 0, none⟩) 100 100)).setCell ⟨Y2.heap.size, 4, none⟩ (.slice (some ⟨Y1.heap.size, 0, none⟩) 100 100)).heap[Y2.heap.size]? = some (.cells #[.int .i64 100, .int .i64 10, .int .i64 10, .slice (some ⟨Y.heap.size, 0, none⟩) 100 100, .slice (some ⟨Y1.heap.size, 0, none⟩) 100 100] 24 (0, 0)) := by
          have h_ := bkS (bkS (bkS (bkS (bkS (kk3.out) 0 (.int .i64 100)) 1 (.int .i64 10)) 2 (.int .i64 10)) 3 (.slice (some ⟨Y.heap.size, 0, none⟩) 100 100)) 4 (.slice (some ⟨Y1.heap.size, 0, none⟩) 100 100)
          simpa using h_
        have KF := Lib.hid kf_
        clear kf_
        have BF := Lib.hid ((((((BY3.out).setCell (p := ⟨Y2.heap.size, 0, none⟩) (by show W0.heap.size ≤ Y2.heap.size; omega) (.int .i64 100)).setCell (p := ⟨Y2.heap.size, 1, none⟩) (by show W0.heap.size ≤ Y2.heap.size; omega) (.int .i64 10)).setCell (p := ⟨Y2.heap.size, 2, none⟩) (by show W0.heap.size ≤ Y2.heap.size; omega) (.int .i64 10)).setCell (p := ⟨Y2.heap.size, 3, none⟩) (by show W0.heap.size ≤ Y2.heap.size; omega) (.slice (some ⟨Y.heap.size, 0, none⟩) 100 100)).setCell (p := ⟨Y2.heap.size, 4, none⟩) (by show W0.heap.size ≤ Y2.heap.size; omega) (.slice (some ⟨Y1.heap.size, 0, none⟩) 100 100))
        have RG := Lib.hid (bkO (bkO (bkO (bkO (bkO (kmk13.out) (p := ⟨Y2.heap.size, 0, none⟩) (by show Y.heap.size ≠ Y2.heap.size; omega) (.int .i64 100)) (p := ⟨Y2.heap.size, 1, none⟩) (by show Y.heap.size ≠ Y2.heap.size; omega) (.int .i64 10)) (p := ⟨Y2.heap.size, 2, none⟩) (by show Y.heap.size ≠ Y2.heap.size; omega) (.int .i64 10)) (p := ⟨Y2.heap.size, 3, none⟩) (by show Y.heap.size ≠ Y2.heap.size; omega) (.slice (some ⟨Y.heap.size, 0, none⟩) 100 100)) (p := ⟨Y2.heap.size, 4, none⟩) (by show Y.heap.size ≠ Y2.heap.size; omega) (.slice (some ⟨Y1.heap.size, 0, none⟩) 100 100))
        have RH := Lib.hid (bkO (bkO (bkO (bkO (bkO (kmk23.out) (p := ⟨Y2.heap.size, 0, none⟩) (by show Y1.heap.size ≠ Y2.heap.size; omega) (.int .i64 100)) (p := ⟨Y2.heap.size, 1, none⟩) (by show Y1.heap.size ≠ Y2.heap.size; omega) (.int .i64 10)) (p := ⟨Y2.heap.size, 2, none⟩) (by show Y1.heap.size ≠ Y2.heap.size; omega) (.int .i64 10)) (p := ⟨Y2.heap.size, 3, none⟩) (by show Y1.heap.size ≠ Y2.heap.size; omega) (.slice (some ⟨Y.heap.size, 0, none⟩) 100 100)) (p := ⟨Y2.heap.size, 4, none⟩) (by show Y1.heap.size ≠ Y2.heap.size; omega) (.slice (some ⟨Y1.heap.size, 0, none⟩) 100 100))
        clear hmk
        go_wp2_with fail
        go_meet
        exact ⟨_, _, _, rfl, KF.out, by omega, by simp only [size_setCell]; omega, ⟨BF.out, by omega, by simp only [size_setCell]; omega, by omega, by simp only [size_setCell]; omega, by omega, RG.out, RH.out⟩, by omega, by omega⟩
      · refine stepT_mk rfl (fun K hK => ?_)
        go_simp
        have hb4 : Below Y1.heap.size Y1 (Y1.alloc (.cells #[.int .i64 0, .int .i64 0, .int .i64 0, .slice none 0 0, .slice none 0 0] 24)) := below_alloc _ _
        have kk4 := Lib.hid (bkN Y1 #[.int .i64 0, .int .i64 0, .int .i64 0, .slice none 0 0, .slice none 0 0] 24)
        have zl4 : Y1.heap.size + 1 ≤ (Y1.alloc (.cells #[.int .i64 0, .int .i64 0, .int .i64 0, .slice none 0 0, .slice none 0 0] 24)).heap.size := by simp
        refine hK.out _ _ trivial ?_
        clear hK K
        (try simp only [Act.put, List.setIfInBounds_toArray, List.set_cons_zero, List.set_cons_succ])
        generalize (Y1.alloc (.cells #[.int .i64 0, .int .i64 0, .int .i64 0, .slice none 0 0, .slice none 0 0] 24)) = Y4 at *
        have bs4 : Y1.heap.size ≤ Y4.heap.size := hb4.size
        have BY4 := Lib.hid (BY1.out.trans (hb4.mono (by omega)))
        have kmk14 := Lib.hid (bkB kk1.out hb4 (by omega))
        clear hb4
        (try rw [HW100.out])
        refine wpTree_one ?_
        refine stepT_mk rfl (fun K hK => ?_)
        go_simp
        have hb5 : Below Y4.heap.size Y4 (Y4.alloc (.cells zrow 2)) := below_alloc _ _
        have kk5 := Lib.hid (bkN Y4 zrow 2)
        have zl5 : Y4.heap.size + 1 ≤ (Y4.alloc (.cells zrow 2)).heap.size := by simp
        refine hK.out _ _ trivial ?_
        clear hK K
        (try simp only [Act.put, List.setIfInBounds_toArray, List.set_cons_zero, List.set_cons_succ])
        generalize (Y4.alloc (.cells zrow 2)) = Y5 at *
        have bs5 : Y4.heap.size ≤ Y5.heap.size := hb5.size
        have BY5 := Lib.hid (BY4.out.trans (hb5.mono (by omega)))
        have kmk15 := Lib.hid (bkB kmk14.out hb5 (by omega))
        have kal5 := Lib.hid (bkB kk4.out hb5 (by omega))
        clear hb5
        refine wpTree_read (v := ?_) rfl (fun _ _ _ h => h) ?_ ?_
        rotate_left
        · (intro W hSW; (try dsimp only at hSW); (go_simp <;> with_reducible rfl))
        (try simp only [Act.put, List.setIfInBounds_toArray, List.set_cons_zero, List.set_cons_succ])
        refine wpTree_nil ?_
        simp only [List.drop_succ_cons, List.drop_zero]
        have g0_ := bkC (v := .int .i64 0) kal5.out 0 rfl
        have g1_ := bkC (v := .int .i64 0) kal5.out 1 rfl
        have g2_ := bkC (v := .int .i64 0) kal5.out 2 rfl
        have g3_ := bkC (v := .slice none 0 0) kal5.out 3 rfl
        have g4_ := bkC (v := .slice none 0 0) kal5.out 4 rfl
        have fz := bkF kal5.out
        have kf_ : (((((Y5.setCell ⟨Y1.heap.size, 0, none⟩ (.int .i64 100)).setCell ⟨Y1.heap.size, 1, none⟩ (.int .i64 10)).setCell ⟨Y1.heap.size, 2, none⟩ (.int .i64 10)).setCell ⟨Y1.heap.size, 3, none⟩ (.slice (some ⟨Y.heap.size, 0, none⟩) 100 100)).setCell ⟨Y1.heap.size, 4, none⟩ (.slice (some ⟨Y4.heap.size, 0, none⟩) 100 100)).heap[Y1.heap.size]? = some (.cells #[.int .i64 100, .int .i64 10, .int .i64 10, .slice (some ⟨Y.heap.size, 0, none⟩) 100 100, .slice (some ⟨Y4.heap.size, 0, none⟩) 100 100] 24 (0, 0)) := by
          have h_ := bkS (bkS (bkS (bkS (bkS (kal5.out) 0 (.int .i64 100)) 1 (.int .i64 10)) 2 (.int .i64 10)) 3 (.slice (some ⟨Y.heap.size, 0, none⟩) 100 100)) 4 (.slice (some ⟨Y4.heap.size, 0, none⟩) 100 100)
          simpa using h_
        have KF := Lib.hid kf_
        clear kf_
        have BF := Lib.hid ((((((BY5.out).setCell (p := ⟨Y1.heap.size, 0, none⟩) (by show W0.heap.size ≤ Y1.heap.size; omega) (.int .i64 100)).setCell (p := ⟨Y1.heap.size, 1, none⟩) (by show W0.heap.size ≤ Y1.heap.size; omega) (.int .i64 10)).setCell (p := ⟨Y1.heap.size, 2, none⟩) (by show W0.heap.size ≤ Y1.heap.size; omega) (.int .i64 10)).setCell (p := ⟨Y1.heap.size, 3, none⟩) (by show W0.heap.size ≤ Y1.heap.size; omega) (.slice (some ⟨Y.heap.size, 0, none⟩) 100 100)).setCell (p := ⟨Y1.heap.size, 4, none⟩) (by show W0.heap.size ≤ Y1.heap.size; omega) (.slice (some ⟨Y4.heap.size, 0, none⟩) 100 100))
        have RG := Lib.hid (bkO (bkO (bkO (bkO (bkO (kmk15.out) (p := ⟨Y1.heap.size, 0, none⟩) (by show Y.heap.size ≠ Y1.heap.size; omega) (.int .i64 100)) (p := ⟨Y1.heap.size, 1, none⟩) (by show Y.heap.size ≠ Y1.heap.size; omega) (.int .i64 10)) (p := ⟨Y1.heap.size, 2, none⟩) (by show Y.heap.size ≠ Y1.heap.size; omega) (.int .i64 10)) (p := ⟨Y1.heap.size, 3, none⟩) (by show Y.heap.size ≠ Y1.heap.size; omega) (.slice (some ⟨Y.heap.size, 0, none⟩) 100 100)) (p := ⟨Y1.heap.size, 4, none⟩) (by show Y.heap.size ≠ Y1.heap.size; omega) (.slice (some ⟨Y4.heap.size, 0, none⟩) 100 100))
        have RH := Lib.hid (bkO (bkO (bkO (bkO (bkO (kk5.out) (p := ⟨Y1.heap.size, 0, none⟩) (by show Y4.heap.size ≠ Y1.heap.size; omega) (.int .i64 100)) (p := ⟨Y1.heap.size, 1, none⟩) (by show Y4.heap.size ≠ Y1.heap.size; omega) (.int .i64 10)) (p := ⟨Y1.heap.size, 2, none⟩) (by show Y4.heap.size ≠ Y1.heap.size; omega) (.int .i64 10)) (p := ⟨Y1.heap.size, 3, none⟩) (by show Y4.heap.size ≠ Y1.heap.size; omega) (.slice (some ⟨Y.heap.size, 0, none⟩) 100 100)) (p := ⟨Y1.heap.size, 4, none⟩) (by show Y4.heap.size ≠ Y1.heap.size; omega) (.slice (some ⟨Y4.heap.size, 0, none⟩) 100 100))
        clear hmk
        go_wp2_with fail
        go_meet
        exact ⟨_, _, _, rfl, KF.out, by omega, by simp only [size_setCell]; omega, ⟨BF.out, by omega, by simp only [size_setCell]; omega, by omega, by simp only [size_setCell]; omega, by omega, RG.out, RH.out⟩, by omega, by omega⟩
    · refine stepT_mk rfl (fun K hK => ?_)
      go_simp
      have hb6 : Below Y.heap.size Y (Y.alloc (.cells zrow 2)) := below_alloc _ _
      have kk6 := Lib.hid (bkN Y zrow 2)
      have zl6 : Y.heap.size + 1 ≤ (Y.alloc (.cells zrow 2)).heap.size := by simp
      refine hK.out _ _ trivial ?_
      clear hK K
      (try simp only [Act.put, List.setIfInBounds_toArray, List.set_cons_zero, List.set_cons_succ])
      generalize (Y.alloc (.cells zrow 2)) = Y6 at *
      have bs6 : Y.heap.size ≤ Y6.heap.size := hb6.size
      have BY6 := Lib.hid (BBd.out.trans (hb6.mono (by omega)))
      clear hb6
      (try rw [HW100.out])
      refine wpTree_two ?_ ?_
      · refine stepT_mk rfl (fun K hK => ?_)
        go_simp
        have hb7 : Below Y6.heap.size Y6 (Y6.alloc (.cells zrow 2)) := below_alloc _ _
        have kk7 := Lib.hid (bkN Y6 zrow 2)
        have zl7 : Y6.heap.size + 1 ≤ (Y6.alloc (.cells zrow 2)).heap.size := by simp
        refine hK.out _ _ trivial ?_
        clear hK K
        (try simp only [Act.put, List.setIfInBounds_toArray, List.set_cons_zero, List.set_cons_succ])
        generalize (Y6.alloc (.cells zrow 2)) = Y7 at *
        have bs7 : Y6.heap.size ≤ Y7.heap.size := hb7.size
        have BY7 := Lib.hid (BY6.out.trans (hb7.mono (by omega)))
        have kmk27 := Lib.hid (bkB kk6.out hb7 (by omega))
        clear hb7
        refine wpTree_read (v := ?_) rfl (fun _ _ _ h => h) ?_ ?_
        rotate_left
        · (intro W hSW; (try dsimp only at hSW); (go_simp <;> with_reducible rfl))
        (try simp only [Act.put, List.setIfInBounds_toArray, List.set_cons_zero, List.set_cons_succ])
        (try rw [HW100.out])
        refine wpTree_one ?_
        refine stepT_mk rfl (fun K hK => ?_)
        go_simp
        have hb8 : Below Y7.heap.size Y7 (Y7.alloc (.cells #[.int .i64 0, .int .i64 0, .int .i64 0, .slice none 0 0, .slice none 0 0] 24)) := below_alloc _ _
        have kk8 := Lib.hid (bkN Y7 #[.int .i64 0, .int .i64 0, .int .i64 0, .slice none 0 0, .slice none 0 0] 24)
        have zl8 : Y7.heap.size + 1 ≤ (Y7.alloc (.cells #[.int .i64 0, .int .i64 0, .int .i64 0, .slice none 0 0, .slice none 0 0] 24)).heap.size := by simp
        refine hK.out _ _ trivial ?_
        clear hK K
        (try simp only [Act.put, List.setIfInBounds_toArray, List.set_cons_zero, List.set_cons_succ])
        generalize (Y7.alloc (.cells #[.int .i64 0, .int .i64 0, .int .i64 0, .slice none 0 0, .slice none 0 0] 24)) = Y8 at *
        have bs8 : Y7.heap.size ≤ Y8.heap.size := hb8.size
        have BY8 := Lib.hid (BY7.out.trans (hb8.mono (by omega)))
        have kmk18 := Lib.hid (bkB kk7.out hb8 (by omega))
        have kmk28 := Lib.hid (bkB kmk27.out hb8 (by omega))
        clear hb8
        refine wpTree_nil ?_
        simp only [List.drop_succ_cons, List.drop_zero]
        have g0_ := bkC (v := .int .i64 0) kk8.out 0 rfl
        have g1_ := bkC (v := .int .i64 0) kk8.out 1 rfl
        have g2_ := bkC (v := .int .i64 0) kk8.out 2 rfl
        have g3_ := bkC (v := .slice none 0 0) kk8.out 3 rfl
        have g4_ := bkC (v := .slice none 0 0) kk8.out 4 rfl
        have fz := bkF kk8.out
        have kf_ : (((((Y8.setCell ⟨Y7.heap.size, 0, none⟩ (.int .i64 100)).setCell ⟨Y7.heap.size, 1, none⟩ (.int .i64 10)).setCell ⟨Y7.heap.size, 2, none⟩ (.int .i64 10)).setCell ⟨Y7.heap.size, 3, none⟩ (.slice (some ⟨Y6.heap.size, 0, none⟩) 100 100)).setCell ⟨Y7.heap.size, 4, none⟩ (.slice (some ⟨Y.heap.size, 0, none⟩) 100 100)).heap[Y7.heap.size]? = some (.cells #[.int .i64 100, .int .i64 10, .int .i64 10, .slice (some ⟨Y6.heap.size, 0, none⟩) 100 100, .slice (some ⟨Y.heap.size, 0, none⟩) 100 100] 24 (0, 0)) := by
          have h_ := bkS (bkS (bkS (bkS (bkS (kk8.out) 0 (.int .i64 100)) 1 (.int .i64 10)) 2 (.int .i64 10)) 3 (.slice (some ⟨Y6.heap.size, 0, none⟩) 100 100)) 4 (.slice (some ⟨Y.heap.size, 0, none⟩) 100 100)
          simpa using h_
        have KF := Lib.hid kf_
        clear kf_
        have BF := Lib.hid ((((((BY8.out).setCell (p := ⟨Y7.heap.size, 0, none⟩) (by show W0.heap.size ≤ Y7.heap.size; omega) (.int .i64 100)).setCell (p := ⟨Y7.heap.size, 1, none⟩) (by show W0.heap.size ≤ Y7.heap.size; omega) (.int .i64 10)).setCell (p := ⟨Y7.heap.size, 2, none⟩) (by show W0.heap.size ≤ Y7.heap.size; omega) (.int .i64 10)).setCell (p := ⟨Y7.heap.size, 3, none⟩) (by show W0.heap.size ≤ Y7.heap.size; omega) (.slice (some ⟨Y6.heap.size, 0, none⟩) 100 100)).setCell (p := ⟨Y7.heap.size, 4, none⟩) (by show W0.heap.size ≤ Y7.heap.size; omega) (.slice (some ⟨Y.heap.size, 0, none⟩) 100 100))
        have RG := Lib.hid (bkO (bkO (bkO (bkO (bkO (kmk18.out) (p := ⟨Y7.heap.size, 0, none⟩) (by show Y6.heap.size ≠ Y7.heap.size; omega) (.int .i64 100)) (p := ⟨Y7.heap.size, 1, none⟩) (by show Y6.heap.size ≠ Y7.heap.size; omega) (.int .i64 10)) (p := ⟨Y7.heap.size, 2, none⟩) (by show Y6.heap.size ≠ Y7.heap.size; omega) (.int .i64 10)) (p := ⟨Y7.heap.size, 3, none⟩) (by show Y6.heap.size ≠ Y7.heap.size; omega) (.slice (some ⟨Y6.heap.size, 0, none⟩) 100 100)) (p := ⟨Y7.heap.size, 4, none⟩) (by show Y6.heap.size ≠ Y7.heap.size; omega) (.slice (some ⟨Y.heap.size, 0, none⟩) 100 100))
        have RH := Lib.hid (bkO (bkO (bkO (bkO (bkO (kmk28.out) (p := ⟨Y7.heap.size, 0, none⟩) (by show Y.heap.size ≠ Y7.heap.size; omega) (.int .i64 100)) (p := ⟨Y7.heap.size, 1, none⟩) (by show Y.heap.size ≠ Y7.heap.size; omega) (.int .i64 10)) (p := ⟨Y7.heap.size, 2, none⟩) (by show Y.heap.size ≠ Y7.heap.size; omega) (.int .i64 10)) (p := ⟨Y7.heap.size, 3, none⟩) (by show Y.heap.size ≠ Y7.heap.size; omega) (.slice (some ⟨Y6.heap.size, 0, none⟩) 100 100)) (p := ⟨Y7.heap.size, 4, none⟩) (by show Y.heap.size ≠ Y7.heap.size; omega) (.slice (some ⟨Y.heap.size, 0, none⟩) 100 100))
        clear hmk
        go_wp2_with fail
        go_meet
        exact ⟨_, _, _, rfl, KF.out, by omega, by simp only [size_setCell]; omega, ⟨BF.out, by omega, by simp only [size_setCell]; omega, by omega, by simp only [size_setCell]; omega, by omega, RG.out, RH.out⟩, by omega, by omega⟩
      · refine stepT_mk rfl (fun K hK => ?_)
        go_simp
        have hb9 : Below Y6.heap.size Y6 (Y6.alloc (.cells #[.int .i64 0, .int .i64 0, .int .i64 0, .slice none 0 0, .slice none 0 0] 24)) := below_alloc _ _
        have kk9 := Lib.hid (bkN Y6 #[.int .i64 0, .int .i64 0, .int .i64 0, .slice none 0 0, .slice none 0 0] 24)
        have zl9 : Y6.heap.size + 1 ≤ (Y6.alloc (.cells #[.int .i64 0, .int .i64 0, .int .i64 0, .slice none 0 0, .slice none 0 0] 24)).heap.size := by simp
        refine hK.out _ _ trivial ?_
        clear hK K
        (try simp only [Act.put, List.setIfInBounds_toArray, List.set_cons_zero, List.set_cons_succ])
        generalize (Y6.alloc (.cells #[.int .i64 0, .int .i64 0, .int .i64 0, .slice none 0 0, .slice none 0 0] 24)) = Y9 at *
        have bs9 : Y6.heap.size ≤ Y9.heap.size := hb9.size
        have BY9 := Lib.hid (BY6.out.trans (hb9.mono (by omega)))
        have kmk29 := Lib.hid (bkB kk6.out hb9 (by omega))
        clear hb9
        (try rw [HW100.out])
        refine wpTree_one ?_
        refine stepT_mk rfl (fun K hK => ?_)
        go_simp
        have hb10 : Below Y9.heap.size Y9 (Y9.alloc (.cells zrow 2)) := below_alloc _ _
        have kk10 := Lib.hid (bkN Y9 zrow 2)
        have zl10 : Y9.heap.size + 1 ≤ (Y9.alloc (.cells zrow 2)).heap.size := by simp
        refine hK.out _ _ trivial ?_
        clear hK K
        (try simp only [Act.put, List.setIfInBounds_toArray, List.set_cons_zero, List.set_cons_succ])
        generalize (Y9.alloc (.cells zrow 2)) = Y10 at *
        have bs10 : Y9.heap.size ≤ Y10.heap.size := hb10.size
        have BY10 := Lib.hid (BY9.out.trans (hb10.mono (by omega)))
        have kmk210 := Lib.hid (bkB kmk29.out hb10 (by omega))
        have kal10 := Lib.hid (bkB kk9.out hb10 (by omega))
        clear hb10
        refine wpTree_read (v := ?_) rfl (fun _ _ _ h => h) ?_ ?_
        rotate_left
        · (intro W hSW; (try dsimp only at hSW); (go_simp <;> with_reducible rfl))
        (try simp only [Act.put, List.setIfInBounds_toArray, List.set_cons_zero, List.set_cons_succ])
        refine wpTree_nil ?_
        simp only [List.drop_succ_cons, List.drop_zero]
        have g0_ := bkC (v := .int .i64 0) kal10.out 0 rfl
        have g1_ := bkC (v := .int .i64 0) kal10.out 1 rfl
        have g2_ := bkC (v := .int .i64 0) kal10.out 2 rfl
        have g3_ := bkC (v := .slice none 0 0) kal10.out 3 rfl
        have g4_ := bkC (v := .slice none 0 0) kal10.out 4 rfl
        have fz := bkF kal10.out
        have kf_ : (((((Y10.setCell ⟨Y6.heap.size, 0, none⟩ (.int .i64 100)).setCell ⟨Y6.heap.size, 1, none⟩ (.int .i64 10)).setCell ⟨Y6.heap.size, 2, none⟩ (.int .i64 10)).setCell ⟨Y6.heap.size, 3, none⟩ (.slice (some ⟨Y9.heap.size, 0, none⟩) 100 100)).setCell ⟨Y6.heap.size, 4, none⟩ (.slice (some ⟨Y.heap.size, 0, none⟩) 100 100)).heap[Y6.heap.size]? = some (.cells #[.int .i64 100, .int .i64 10, .int .i64 10, .slice (some ⟨Y9.heap.size, 0, none⟩) 100 100, .slice (some ⟨Y.heap.size, 0, none⟩) 100 100] 24 (0, 0)) := by
          have h_ := bkS (bkS (bkS (bkS (bkS (kal10.out) 0 (.int .i64 100)) 1 (.int .i64 10)) 2 (.int .i64 10)) 3 (.slice (some ⟨Y9.heap.size, 0, none⟩) 100 100)) 4 (.slice (some ⟨Y.heap.size, 0, none⟩) 100 100)
          simpa using h_
        have KF := Lib.hid kf_
        clear kf_
        have BF := Lib.hid ((((((BY10.out).setCell (p := ⟨Y6.heap.size, 0, none⟩) (by show W0.heap.size ≤ Y6.heap.size; omega) (.int .i64 100)).setCell (p := ⟨Y6.heap.size, 1, none⟩) (by show W0.heap.size ≤ Y6.heap.size; omega) (.int .i64 10)).setCell (p := ⟨Y6.heap.size, 2, none⟩) (by show W0.heap.size ≤ Y6.heap.size; omega) (.int .i64 10)).setCell (p := ⟨Y6.heap.size, 3, none⟩) (by show W0.heap.size ≤ Y6.heap.size; omega) (.slice (some ⟨Y9.heap.size, 0, none⟩) 100 100)).setCell (p := ⟨Y6.heap.size, 4, none⟩) (by show W0.heap.size ≤ Y6.heap.size; omega) (.slice (some ⟨Y.heap.size, 0, none⟩) 100 100))
        have RG := Lib.hid (bkO (bkO (bkO (bkO (bkO (kk10.out) (p := ⟨Y6.heap.size, 0, none⟩) (by show Y9.heap.size ≠ Y6.heap.size; omega) (.int .i64 100)) (p := ⟨Y6.heap.size, 1, none⟩) (by show Y9.heap.size ≠ Y6.heap.size; omega) (.int .i64 10)) (p := ⟨Y6.heap.size, 2, none⟩) (by show Y9.heap.size ≠ Y6.heap.size; omega) (.int .i64 10)) (p := ⟨Y6.heap.size, 3, none⟩) (by show Y9.heap.size ≠ Y6.heap.size; omega) (.slice (some ⟨Y9.heap.size, 0, none⟩) 100 100)) (p := ⟨Y6.heap.size, 4, none⟩) (by show Y9.heap.size ≠ Y6.heap.size; omega) (.slice (some ⟨Y.heap.size, 0, none⟩) 100 100))
        have RH := Lib.hid (bkO (bkO (bkO (bkO (bkO (kmk210.out) (p := ⟨Y6.heap.size, 0, none⟩) (by show Y.heap.size ≠ Y6.heap.size; omega) (.int .i64 100)) (p := ⟨Y6.heap.size, 1, none⟩) (by show Y.heap.size ≠ Y6.heap.size; omega) (.int .i64 10)) (p := ⟨Y6.heap.size, 2, none⟩) (by show Y.heap.size ≠ Y6.heap.size; omega) (.int .i64 10)) (p := ⟨Y6.heap.size, 3, none⟩) (by show Y.heap.size ≠ Y6.heap.size; omega) (.slice (some ⟨Y9.heap.size, 0, none⟩) 100 100)) (p := ⟨Y6.heap.size, 4, none⟩) (by show Y.heap.size ≠ Y6.heap.size; omega) (.slice (some ⟨Y.heap.size, 0, none⟩) 100 100))
        clear hmk
        go_wp2_with fail
        go_meet
        exact ⟨_, _, _, rfl, KF.out, by omega, by simp only [size_setCell]; omega, ⟨BF.out, by omega, by simp only [size_setCell]; omega, by omega, by simp only [size_setCell]; omega, by omega, RG.out, RH.out⟩, by omega, by omega⟩
    · refine stepT_mk rfl (fun K hK => ?_)
      go_simp
      have hb11 : Below Y.heap.size Y (Y.alloc (.cells #[.int .i64 0, .int .i64 0, .int .i64 0, .slice none 0 0, .slice none 0 0] 24)) := below_alloc _ _
      have kk11 := Lib.hid (bkN Y #[.int .i64 0, .int .i64 0, .int .i64 0, .slice none 0 0, .slice none 0 0] 24)
      have zl11 : Y.heap.size + 1 ≤ (Y.alloc (.cells #[.int .i64 0, .int .i64 0, .int .i64 0, .slice none 0 0, .slice none 0 0] 24)).heap.size := by simp
      refine hK.out _ _ trivial ?_
      clear hK K
      (try simp only [Act.put, List.setIfInBounds_toArray, List.set_cons_zero, List.set_cons_succ])
      generalize (Y.alloc (.cells #[.int .i64 0, .int .i64 0, .int .i64 0, .slice none 0 0, .slice none 0 0] 24)) = Y11 at *
      have bs11 : Y.heap.size ≤ Y11.heap.size := hb11.size
      have BY11 := Lib.hid (BBd.out.trans (hb11.mono (by omega)))
      clear hb11
      (try rw [HW100.out])
      refine wpTree_two ?_ ?_
      · refine stepT_mk rfl (fun K hK => ?_)
        go_simp
        have hb12 : Below Y11.heap.size Y11 (Y11.alloc (.cells zrow 2)) := below_alloc _ _
        have kk12 := Lib.hid (bkN Y11 zrow 2)
        have zl12 : Y11.heap.size + 1 ≤ (Y11.alloc (.cells zrow 2)).heap.size := by simp
        refine hK.out _ _ trivial ?_
        clear hK K
        (try simp only [Act.put, List.setIfInBounds_toArray, List.set_cons_zero, List.set_cons_succ])
        generalize (Y11.alloc (.cells zrow 2)) = Y12 at *
        have bs12 : Y11.heap.size ≤ Y12.heap.size := hb12.size
        have BY12 := Lib.hid (BY11.out.trans (hb12.mono (by omega)))
        have kal12 := Lib.hid (bkB kk11.out hb12 (by omega))
        clear hb12
        (try rw [HW100.out])
        refine wpTree_one ?_
        refine stepT_mk rfl (fun K hK => ?_)
        go_simp
        have hb13 : Below Y12.heap.size Y12 (Y12.alloc (.cells zrow 2)) := below_alloc _ _
        have kk13 := Lib.hid (bkN Y12 zrow 2)
        have zl13 : Y12.heap.size + 1 ≤ (Y12.alloc (.cells zrow 2)).heap.size := by simp
        refine hK.out _ _ trivial ?_
        clear hK K
        (try simp only [Act.put, List.setIfInBounds_toArray, List.set_cons_zero, List.set_cons_succ])
        generalize (Y12.alloc (.cells zrow 2)) = Y13 at *
        have bs13 : Y12.heap.size ≤ Y13.heap.size := hb13.size
        have BY13 := Lib.hid (BY12.out.trans (hb13.mono (by omega)))
        have kmk113 := Lib.hid (bkB kk12.out hb13 (by omega))
        have kal13 := Lib.hid (bkB kal12.out hb13 (by omega))
        clear hb13
        refine wpTree_read (v := ?_) rfl (fun _ _ _ h => h) ?_ ?_
        rotate_left
        · (intro W hSW; (try dsimp only at hSW); (go_simp <;> with_reducible rfl))
        (try simp only [Act.put, List.setIfInBounds_toArray, List.set_cons_zero, List.set_cons_succ])
        refine wpTree_nil ?_
        simp only [List.drop_succ_cons, List.drop_zero]
        have g0_ := bkC (v := .int .i64 0) kal13.out 0 rfl
        have g1_ := bkC (v := .int .i64 0) kal13.out 1 rfl
        have g2_ := bkC (v := .int .i64 0) kal13.out 2 rfl
        have g3_ := bkC (v := .slice none 0 0) kal13.out 3 rfl
        have g4_ := bkC (v := .slice none 0 0) kal13.out 4 rfl
        have fz := bkF kal13.out
        have kf_ : (((((Y13.setCell ⟨Y.heap.size, 0, none⟩ (.int .i64 100)).setCell ⟨Y.heap.size, 1, none⟩ (.int .i64 10)).setCell ⟨Y.heap.size, 2, none⟩ (.int .i64 10)).setCell ⟨Y.heap.size, 3, none⟩ (.slice (some ⟨Y11.heap.size, 0, none⟩) 100 100)).setCell ⟨Y.heap.size, 4, none⟩ (.slice (some ⟨Y12.heap.size, 0, none⟩) 100 100)).heap[Y.heap.size]? = some (.cells #[.int .i64 100, .int .i64 10, .int .i64 10, .slice (some ⟨Y11.heap.size, 0, none⟩) 100 100, .slice (some ⟨Y12.heap.size, 0, none⟩) 100 100] 24 (0, 0)) := by
          have h_ := bkS (bkS (bkS (bkS (bkS (kal13.out) 0 (.int .i64 100)) 1 (.int .i64 10)) 2 (.int .i64 10)) 3 (.slice (some ⟨Y11.heap.size, 0, none⟩) 100 100)) 4 (.slice (some ⟨Y12.heap.size, 0, none⟩) 100 100)
          simpa using h_
        have KF := Lib.hid kf_
        clear kf_
        have BF := Lib.hid ((((((BY13.out).setCell (p := ⟨Y.heap.size, 0, none⟩) (by show W0.heap.size ≤ Y.heap.size; omega) (.int .i64 100)).setCell (p := ⟨Y.heap.size, 1, none⟩) (by show W0.heap.size ≤ Y.heap.size; omega) (.int .i64 10)).setCell (p := ⟨Y.heap.size, 2, none⟩) (by show W0.heap.size ≤ Y.heap.size; omega) (.int .i64 10)).setCell (p := ⟨Y.heap.size, 3, none⟩) (by show W0.heap.size ≤ Y.heap.size; omega) (.slice (some ⟨Y11.heap.size, 0, none⟩) 100 100)).setCell (p := ⟨Y.heap.size, 4, none⟩) (by show W0.heap.size ≤ Y.heap.size; omega) (.slice (some ⟨Y12.heap.size, 0, none⟩) 100 100))
        have RG := Lib.hid (bkO (bkO (bkO (bkO (bkO (kmk113.out) (p := ⟨Y.heap.size, 0, none⟩) (by show Y11.heap.size ≠ Y.heap.size; omega) (.int .i64 100)) (p := ⟨Y.heap.size, 1, none⟩) (by show Y11.heap.size ≠ Y.heap.size; omega) (.int .i64 10)) (p := ⟨Y.heap.size, 2, none⟩) (by show Y11.heap.size ≠ Y.heap.size; omega) (.int .i64 10)) (p := ⟨Y.heap.size, 3, none⟩) (by show Y11.heap.size ≠ Y.heap.size; omega) (.slice (some ⟨Y11.heap.size, 0, none⟩) 100 100)) (p := ⟨Y.heap.size, 4, none⟩) (by show Y11.heap.size ≠ Y.heap.size; omega) (.slice (some ⟨Y12.heap.size, 0, none⟩) 100 100))
        have RH := Lib.hid (bkO (bkO (bkO (bkO (bkO (kk13.out) (p := ⟨Y.heap.size, 0, none⟩) (by show Y12.heap.size ≠ Y.heap.size; omega) (.int .i64 100)) (p := ⟨Y.heap.size, 1, none⟩) (by show Y12.heap.size ≠ Y.heap.size; omega) (.int .i64 10)) (p := ⟨Y.heap.size, 2, none⟩) (by show Y12.heap.size ≠ Y.heap.size; omega) (.int .i64 10)) (p := ⟨Y.heap.size, 3, none⟩) (by show Y12.heap.size ≠ Y.heap.size; omega) (.slice (some ⟨Y11.heap.size, 0, none⟩) 100 100)) (p := ⟨Y.heap.size, 4, none⟩) (by show Y12.heap.size ≠ Y.heap.size; omega) (.slice (some ⟨Y12.heap.size, 0, none⟩) 100 100))
        clear hmk
        go_wp2_with fail
        go_meet
        exact ⟨_, _, _, rfl, KF.out, by omega, by simp only [size_setCell]; omega, ⟨BF.out, by omega, by simp only [size_setCell]; omega, by omega, by simp only [size_setCell]; omega, by omega, RG.out, RH.out⟩, by omega, by omega⟩
      · refine stepT_mk rfl (fun K hK => ?_)
        go_simp
        have hb14 : Below Y11.heap.size Y11 (Y11.alloc (.cells zrow 2)) := below_alloc _ _
        have kk14 := Lib.hid (bkN Y11 zrow 2)
        have zl14 : Y11.heap.size + 1 ≤ (Y11.alloc (.cells zrow 2)).heap.size := by simp
        refine hK.out _ _ trivial ?_
        clear hK K
        (try simp only [Act.put, List.setIfInBounds_toArray, List.set_cons_zero, List.set_cons_succ])
        generalize (Y11.alloc (.cells zrow 2)) = Y14 at *
        have bs14 : Y11.heap.size ≤ Y14.heap.size := hb14.size
        have BY14 := Lib.hid (BY11.out.trans (hb14.mono (by omega)))
        have kal14 := Lib.hid (bkB kk11.out hb14 (by omega))
        clear hb14
        (try rw [HW100.out])
        refine wpTree_one ?_
        refine stepT_mk rfl (fun K hK => ?_)
        go_simp
        have hb15 : Below Y14.heap.size Y14 (Y14.alloc (.cells zrow 2)) := below_alloc _ _
        have kk15 := Lib.hid (bkN Y14 zrow 2)
        have zl15 : Y14.heap.size + 1 ≤ (Y14.alloc (.cells zrow 2)).heap.size := by simp
        refine hK.out _ _ trivial ?_
        clear hK K
        (try simp only [Act.put, List.setIfInBounds_toArray, List.set_cons_zero, List.set_cons_succ])
        generalize (Y14.alloc (.cells zrow 2)) = Y15 at *
        have bs15 : Y14.heap.size ≤ Y15.heap.size := hb15.size
        have BY15 := Lib.hid (BY14.out.trans (hb15.mono (by omega)))
        have kmk215 := Lib.hid (bkB kk14.out hb15 (by omega))
        have kal15 := Lib.hid (bkB kal14.out hb15 (by omega))
        clear hb15
        refine wpTree_read (v := ?_) rfl (fun _ _ _ h => h) ?_ ?_
        rotate_left
        · (intro W hSW; (try dsimp only at hSW); (go_simp <;> with_reducible rfl))
        (try simp only [Act.put, List.setIfInBounds_toArray, List.set_cons_zero, List.set_cons_succ])
        refine wpTree_nil ?_
        simp only [List.drop_succ_cons, List.drop_zero]
        have g0_ := bkC (v := .int .i64 0) kal15.out 0 rfl
        have g1_ := bkC (v := .int .i64 0) kal15.out 1 rfl
        have g2_ := bkC (v := .int .i64 0) kal15.out 2 rfl
        have g3_ := bkC (v := .slice none 0 0) kal15.out 3 rfl
        have g4_ := bkC (v := .slice none 0 0) kal15.out 4 rfl
        have fz := bkF kal15.out
        have kf_ : (((((Y15.setCell ⟨Y.heap.size, 0, none⟩ (.int .i64 100)).setCell ⟨Y.heap.size, 1, none⟩ (.int .i64 10)).setCell ⟨Y.heap.size, 2, none⟩ (.int .i64 10)).setCell ⟨Y.heap.size, 3, none⟩ (.slice (some ⟨Y14.heap.size, 0, none⟩) 100 100)).setCell ⟨Y.heap.size, 4, none⟩ (.slice (some ⟨Y11.heap.size, 0, none⟩) 100 100)).heap[Y.heap.size]? = some (.cells #[.int .i64 100, .int .i64 10, .int .i64 10, .slice (some ⟨Y14.heap.size, 0, none⟩) 100 100, .slice (some ⟨Y11.heap.size, 0, none⟩) 100 100] 24 (0, 0)) := by
          have h_ := bkS (bkS (bkS (bkS (bkS (kal15.out) 0 (.int .i64 100)) 1 (.int .i64 10)) 2 (.int .i64 10)) 3 (.slice (some ⟨Y14.heap.size, 0, none⟩) 100 100)) 4 (.slice (some ⟨Y11.heap.size, 0, none⟩) 100 100)
          simpa using h_
        have KF := Lib.hid kf_
        clear kf_
        have BF := Lib.hid ((((((BY15.out).setCell (p := ⟨Y.heap.size, 0, none⟩) (by show W0.heap.size ≤ Y.heap.size; omega) (.int .i64 100)).setCell (p := ⟨Y.heap.size, 1, none⟩) (by show W0.heap.size ≤ Y.heap.size; omega) (.int .i64 10)).setCell (p := ⟨Y.heap.size, 2, none⟩) (by show W0.heap.size ≤ Y.heap.size; omega) (.int .i64 10)).setCell (p := ⟨Y.heap.size, 3, none⟩) (by show W0.heap.size ≤ Y.heap.size; omega) (.slice (some ⟨Y14.heap.size, 0, none⟩) 100 100)).setCell (p := ⟨Y.heap.size, 4, none⟩) (by show W0.heap.size ≤ Y.heap.size; omega) (.slice (some ⟨Y11.heap.size, 0, none⟩) 100 100))
        have RG := Lib.hid (bkO (bkO (bkO (bkO (bkO (kk15.out) (p := ⟨Y.heap.size, 0, none⟩) (by show Y14.heap.size ≠ Y.heap.size; omega) (.int .i64 100)) (p := ⟨Y.heap.size, 1, none⟩) (by show Y14.heap.size ≠ Y.heap.size; omega) (.int .i64 10)) (p := ⟨Y.heap.size, 2, none⟩) (by show Y14.heap.size ≠ Y.heap.size; omega) (.int .i64 10)) (p := ⟨Y.heap.size, 3, none⟩) (by show Y14.heap.size ≠ Y.heap.size; omega) (.slice (some ⟨Y14.heap.size, 0, none⟩) 100 100)) (p := ⟨Y.heap.size, 4, none⟩) (by show Y14.heap.size ≠ Y.heap.size; omega) (.slice (some ⟨Y11.heap.size, 0, none⟩) 100 100))
        have RH := Lib.hid (bkO (bkO (bkO (bkO (bkO (kmk215.out) (p := ⟨Y.heap.size, 0, none⟩) (by show Y11.heap.size ≠ Y.heap.size; omega) (.int .i64 100)) (p := ⟨Y.heap.size, 1, none⟩) (by show Y11.heap.size ≠ Y.heap.size; omega) (.int .i64 10)) (p := ⟨Y.heap.size, 2, none⟩) (by show Y11.heap.size ≠ Y.heap.size; omega) (.int .i64 10)) (p := ⟨Y.heap.size, 3, none⟩) (by show Y11.heap.size ≠ Y.heap.size; omega) (.slice (some ⟨Y14.heap.size, 0, none⟩) 100 100)) (p := ⟨Y.heap.size, 4, none⟩) (by show Y11.heap.size ≠ Y.heap.size; omega) (.slice (some ⟨Y11.heap.size, 0, none⟩) 100 100))
        clear hmk
        go_wp2_with fail
        go_meet
        exact ⟨_, _, _, rfl, KF.out, by omega, by simp only [size_setCell]; omega, ⟨BF.out, by omega, by simp only [size_setCell]; omega, by omega, by simp only [size_setCell]; omega, by omega, RG.out, RH.out⟩, by omega, by omega⟩
  obtain ⟨tb, g, h, rfl, kt, tlo, thi, tz, ne1, ne2⟩ := hcut
  generalize wc = W1 at *
  have KT := Lib.hid kt
  have TZ_ := Lib.hid tz
  have z1 : W0.heap.size ≤ W1.heap.size := tz.below.size
  have zg := tz.ghi
  have zh := tz.hhi
  have glo := tz.glo
  have hlo := tz.hlo
  clear kt tz hmk
  go_wp2
  go_loopw [10] (fun i wr => ∃ (k : Nat), k ≤ 100 ∧ i = .int .i64 k ∧ Below W0.heap.size W0 wr ∧ W1.heap.size ≤ wr.heap.size ∧ wr.heap[tb]? = some (.cells #[.int .i64 100, .int .i64 10, .int .i64 10, .slice (some ⟨g, 0, none⟩) 100 100, .slice (some ⟨h, 0, none⟩) 100 100] 24 (0, 0)) ∧ wr.heap[g]? = some (.cells zrow 2 (0, 0)) ∧ wr.heap[h]? = some (.cells zrow 2 (0, 0))) (fun i wr => 100 - (intOf i).toNat)
  case atStart => exact ⟨0, by omega, rfl, TZ_.out.below, Nat.le_refl _, KT.out, TZ_.out.rg, TZ_.out.rh⟩
  case round =>
    obtain ⟨k, hk, rfl, hb, hz, kt, kg, kh⟩ := hrel
    have HB := Lib.hid hb
    have KT2 := Lib.hid kt
    have KG := Lib.hid kg
    have KH := Lib.hid kh
    clear hb kt kg kh
    have f3 := bkC (v := .slice (some ⟨g, 0, none⟩) 100 100) KT2.out 3 rfl
    have ft := bkF KT2.out
    by_cases hlt : k < 100
    · have s0 := cellZ KG.out hlt
      have fg := bkF KG.out
      have j0 : (0 : Int) ≤ (k : Int) := by omega
      have j1 : (k : Int) < 100 := by omega
      have HSAME := Lib.hid (setCell_same s0)
      go_wp2
      rw [HSAME.out]
      go_roundw
      case rel => exact ⟨k + 1, by omega, by go_num, HB.out, hz, KT2.out, KG.out, KH.out⟩
      case measure => simp [intOf]; omega
    · obtain rfl : k = 100 := by omega
      have f0 := bkC (v := .int .i64 100) KT2.out 0 rfl
      have f1 := bkC (v := .int .i64 10) KT2.out 1 rfl
      have f2 := bkC (v := .int .i64 10) KT2.out 2 rfl
      have f4 := bkC (v := .slice (some ⟨h, 0, none⟩) 100 100) KT2.out 4 rfl
      have KO := Lib.hid (bkB K0.out HB.out (by omega))
      have g0_ := bkC (v := .int .i64 0) KO.out 0 rfl
      have g1_ := bkC (v := .int .i64 0) KO.out 1 rfl
      have g2_ := bkC (v := .int .i64 0) KO.out 2 rfl
      have g3_ := bkC (v := .slice none 0 0) KO.out 3 rfl
      have g4_ := bkC (v := .slice none 0 0) KO.out 4 rfl
      have fz := bkF KO.out
      have hneT : tb ≠ w.heap.size := by omega
      have BF := Lib.hid (((((((B0.out.trans (HB.out.mono (by omega)))).setCell (p := ⟨w.heap.size, 0, none⟩) (Nat.le_refl _) (.int .i64 100)).setCell (p := ⟨w.heap.size, 1, none⟩) (Nat.le_refl _) (.int .i64 10)).setCell (p := ⟨w.heap.size, 2, none⟩) (Nat.le_refl _) (.int .i64 10)).setCell (p := ⟨w.heap.size, 3, none⟩) (Nat.le_refl _) (.slice (some ⟨g, 0, none⟩) 100 100)).setCell (p := ⟨w.heap.size, 4, none⟩) (Nat.le_refl _) (.slice (some ⟨h, 0, none⟩) 100 100))
      have RG := Lib.hid (bkO (bkO (bkO (bkO (bkO (KG.out) (p := ⟨w.heap.size, 0, none⟩) (by show g ≠ w.heap.size; omega) (.int .i64 100)) (p := ⟨w.heap.size, 1, none⟩) (by show g ≠ w.heap.size; omega) (.int .i64 10)) (p := ⟨w.heap.size, 2, none⟩) (by show g ≠ w.heap.size; omega) (.int .i64 10)) (p := ⟨w.heap.size, 3, none⟩) (by show g ≠ w.heap.size; omega) (.slice (some ⟨g, 0, none⟩) 100 100)) (p := ⟨w.heap.size, 4, none⟩) (by show g ≠ w.heap.size; omega) (.slice (some ⟨h, 0, none⟩) 100 100))
      have RH := Lib.hid (bkO (bkO (bkO (bkO (bkO (KH.out) (p := ⟨w.heap.size, 0, none⟩) (by show h ≠ w.heap.size; omega) (.int .i64 100)) (p := ⟨w.heap.size, 1, none⟩) (by show h ≠ w.heap.size; omega) (.int .i64 10)) (p := ⟨w.heap.size, 2, none⟩) (by show h ≠ w.heap.size; omega) (.int .i64 10)) (p := ⟨w.heap.size, 3, none⟩) (by show h ≠ w.heap.size; omega) (.slice (some ⟨g, 0, none⟩) 100 100)) (p := ⟨w.heap.size, 4, none⟩) (by show h ≠ w.heap.size; omega) (.slice (some ⟨h, 0, none⟩) 100 100))
      go_wp2
      refine bodyPost_ret (v := .agg #[.int .i64 100, .int .i64 10, .int .i64 10, .slice (some ⟨g, 0, none⟩) 100 100, .slice (some ⟨h, 0, none⟩) 100 100]) (by simp [results, Try.results17, go_sem, *]) rfl ?_
      exact ⟨g, h, rfl, ⟨BF.out, by omega, by simp only [size_setCell]; omega, by omega, by simp only [size_setCell]; omega, TZ_.out.ne, RG.out, RH.out⟩⟩
end Go.Proofs.Ytlfkdhakibagaaa
