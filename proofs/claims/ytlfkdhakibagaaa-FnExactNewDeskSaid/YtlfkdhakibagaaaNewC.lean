/- Contracts: a flat terrain, and a new desk, of the program and of the reference. No condition. -/
import Derived.Test.YtlfkdhakibagaaaNewB
import Derived.Test.YtlfkdhakibagaaaTree
import Derived.Test.YtlfkdhakibagaaaHDesk
namespace Go.Proofs.Ytlfkdhakibagaaa
open Go.RowKit
set_option linter.unusedVariables false
set_option linter.unusedSimpArgs false

/-- two rows of a hundred zeros, made by a call -/
structure TwoZ (w w' : World) (g h E : Nat) : Prop where
  below : Below w.heap.size w w'
  glo : w.heap.size ≤ g
  ghi : g < w'.heap.size
  hlo : w.heap.size ≤ h
  hhi : h < w'.heap.size
  ne : g ≠ h
  rg : w'.heap[g]? = some (.cells zrow E (0, 0))
  rh : w'.heap[h]? = some (.cells zrow E (0, 0))
theorem sizeOk_desk_dummy : True := trivial
theorem sizeOk_desk (w : World) : Calls Try.prog 18 #[.int .i64 100, .int .i64 10, .int .i64 10] w fun e w' => e = .returned (.bool true) ∧ w = w' := by
  have e1 : inB 100 1 10000 = true := by decide
  have e2 : inB 10 2 24 = true := by decide
  go_enter Try.func18, Try.ntmps18
  go_wp2_with (go_at_call 19; refine (within_any _ _ _ _).mono ?_; rintro e w1 ⟨rfl, rfl⟩)
  go_ret
  exact ⟨rfl, rfl⟩
set_option maxHeartbeats 4000000 in
set_option maxRecDepth 100000 in
theorem flat_desk (w : World) : Calls Try.prog 10 #[.int .i64 100, .int .i64 10, .int .i64 10, .int .i64 0] w fun e w' => ∃ g h, e = .returned (.tuple #[.agg #[.int .i64 100, .int .i64 10, .int .i64 10, .slice (some ⟨g, 0, none⟩) 100 100, .slice (some ⟨h, 0, none⟩) 100 100], .int .i64 0]) ∧ TwoZ w w' g h 2 := by
  obtain ⟨i0, hi0, hz0, hz1, hz2⟩ := info_parts infoI
  have hmk : ∀ W : World, (Instr.makeSlice 22 (.int .i64 100) (.int .i64 100)).run Try.prog W = .ok (.slice (some ⟨W.heap.size, 0, none⟩) 100 100) (W.alloc (.cells zrow 2)) := fun W => by
    have h := run_make_rowN (P := Try.prog) 22 2 i0 _ Try.underlying22 hi0 hz0 .i64 .i64 100 100 (Nat.le_refl _) (by rw [hz2]; omega) (by omega) W
    rw [hz1] at h
    exact h
  clear hi0 hz0 hz1 hz2
  have HW100 : Hid (IntKind.i64.wrap 100 = 100) := by show _ = _; decide
  have hb0 : Below w.heap.size w (w.alloc (.cells #[.int .i64 0, .int .i64 0, .int .i64 0, .slice none 0 0, .slice none 0 0] 24)) := below_alloc _ _
  have k0 := bkN w #[.int .i64 0, .int .i64 0, .int .i64 0, .slice none 0 0, .slice none 0 0] 24
  have z0 : w.heap.size + 1 ≤ (w.alloc (.cells #[.int .i64 0, .int .i64 0, .int .i64 0, .slice none 0 0, .slice none 0 0] 24)).heap.size := by simp
  have e3 : inB 0 0 90000 = true := by decide
  go_enter Try.func10, Try.ntmps10
  go_upto_region 4 with (first | (go_at_call 18; refine (sizeOk_desk _).mono ?_; rintro e w1 ⟨rfl, rfl⟩) | (go_at_call 19; refine (within_any _ _ _ _).mono ?_; rintro e w1 ⟨rfl, rfl⟩))
  generalize w.alloc (.cells #[.int .i64 0, .int .i64 0, .int .i64 0, .slice none 0 0, .slice none 0 0] 24) = W0 at *
  have B0 := Lib.hid hb0
  have K0 := Lib.hid k0
  clear k0 hb0
  refine wp_region_tree 10 (.read 0 (.read 1 (.read 2 (.read 3 (.read 5 (.read 7 (.two 4 8 (.two 6 8 (.one 8 (.read 9 .nil)) (.one 6 (.read 9 .nil))) (.one 4 (.one 6 (.read 9 .nil)))))))))) (fun W => True) (by kernel_rfl) (by kernel_rfl) trivial ?_
  have BBd : Hid (Below W0.heap.size W0 W0.drew) := below_drew1 W0
  have zd : W0.heap.size ≤ W0.drew.heap.size := Nat.le_refl _
  generalize W0.drew = Y at *
  
  refine wpTree_read (v := ?_) rfl (fun _ _ _ h => h) ?_ ?_
  rotate_left
  · (intro W hSW; (try dsimp only at hSW); (go_simp <;> with_reducible rfl))
  (try simp only [Act.put, List.setIfInBounds_toArray, List.set_cons_zero, List.set_cons_succ])
  refine wpTree_read (v := ?_) rfl (fun _ _ _ h => h) ?_ ?_
  rotate_left
  · (intro W hSW; (try dsimp only at hSW); (go_simp <;> with_reducible rfl))
  (try simp only [Act.put, List.setIfInBounds_toArray, List.set_cons_zero, List.set_cons_succ])
  refine wpTree_read (v := ?_) rfl (fun _ _ _ h => h) ?_ ?_
  rotate_left
  · (intro W hSW; (try dsimp only at hSW); (go_simp <;> with_reducible rfl))
  (try simp only [Act.put, List.setIfInBounds_toArray, List.set_cons_zero, List.set_cons_succ])
  refine wpTree_read (v := ?_) rfl (fun _ _ _ h => h) ?_ ?_
  rotate_left
  · (intro W hSW; (try dsimp only at hSW); (go_simp <;> with_reducible rfl))
  (try simp only [Act.put, List.setIfInBounds_toArray, List.set_cons_zero, List.set_cons_succ])
  refine wpTree_read (v := ?_) rfl (fun _ _ _ h => h) ?_ ?_
  rotate_left
  · (intro W hSW; (try dsimp only at hSW); (go_simp <;> with_reducible rfl))
  (try simp only [Act.put, List.setIfInBounds_toArray, List.set_cons_zero, List.set_cons_succ])
  refine wpTree_read (v := ?_) rfl (fun _ _ _ h => h) ?_ ?_
  rotate_left
  · (intro W hSW; (try dsimp only at hSW); (go_simp <;> with_reducible rfl))
  (try simp only [Act.put, List.setIfInBounds_toArray, List.set_cons_zero, List.set_cons_succ])
  (try rw [HW100.out])
  refine wpTree_two ?_ ?_
  · refine stepT_mk rfl (fun K hK => ?_)
    go_simp
    have hb1 : Below Y.heap.size Y (Y.alloc (.cells #[.int .i64 0] 2)) := below_alloc _ _
    have kk1 := Lib.hid (bkN Y #[.int .i64 0] 2)
    have zl1 : Y.heap.size + 1 ≤ (Y.alloc (.cells #[.int .i64 0] 2)).heap.size := by simp
    refine hK.out _ _ trivial ?_
    clear hK K
    (try simp only [Act.put, List.setIfInBounds_toArray, List.set_cons_zero, List.set_cons_succ])
    generalize (Y.alloc (.cells #[.int .i64 0] 2)) = Y1 at *
    have bs1 : Y.heap.size ≤ Y1.heap.size := hb1.size
    have BY1 := Lib.hid (BBd.out.trans (hb1.mono (by omega)))
    clear hb1
    (try rw [HW100.out])
    refine wpTree_two ?_ ?_
    · refine stepT_mk rfl (fun K hK => ?_)
      go_simp
      refine (repeat_desk (Y.heap.size) Y1 kk1.out).mono ?_
      rintro e Y2 ⟨g, rfl, hb2, gl, gh, kg⟩
      refine hK.out _ _ trivial ?_
      clear hK K
      (try simp only [Act.put, List.setIfInBounds_toArray, List.set_cons_zero, List.set_cons_succ])
      have kk2 := Lib.hid kg
      clear kg
      have bs2 : Y1.heap.size ≤ Y2.heap.size := hb2.size
      have BY2 := Lib.hid (BY1.out.trans (hb2.mono (by omega)))
      have kbs2 := Lib.hid (bkB kk1.out hb2 (by omega))
      clear hb2
      (try rw [HW100.out])
      refine wpTree_one ?_
      refine stepT_mk rfl (fun K hK => ?_)
      go_simp
      have hb3 : Below Y2.heap.size Y2 (Y2.alloc (.cells zrow 2)) := below_alloc _ _
      have kk3 := Lib.hid (bkN Y2 zrow 2)
      have zl3 : Y2.heap.size + 1 ≤ (Y2.alloc (.cells zrow 2)).heap.size := by simp
      refine hK.out _ _ trivial ?_
      clear hK K
      (try simp only [Act.put, List.setIfInBounds_toArray, List.set_cons_zero, List.set_cons_succ])
      generalize (Y2.alloc (.cells zrow 2)) = Y3 at *
      have bs3 : Y2.heap.size ≤ Y3.heap.size := hb3.size
      have BY3 := Lib.hid (BY2.out.trans (hb3.mono (by omega)))
      have kbs3 := Lib.hid (bkB kbs2.out hb3 (by omega))
      have krep3 := Lib.hid (bkB kk2.out hb3 (by omega))
      clear hb3
      refine wpTree_read (v := ?_) rfl (fun _ _ _ h => h) ?_ ?_
      rotate_left
      · (intro W hSW; (try dsimp only at hSW); (go_simp <;> with_reducible rfl))
      (try simp only [Act.put, List.setIfInBounds_toArray, List.set_cons_zero, List.set_cons_succ])
      refine wpTree_nil ?_
      simp only [List.drop_succ_cons, List.drop_zero]
      have KO := Lib.hid (bkB K0.out BY3.out (by omega))
      have g0_ := bkC (v := .int .i64 0) KO.out 0 rfl
      have g1_ := bkC (v := .int .i64 0) KO.out 1 rfl
      have g2_ := bkC (v := .int .i64 0) KO.out 2 rfl
      have g3_ := bkC (v := .slice none 0 0) KO.out 3 rfl
      have g4_ := bkC (v := .slice none 0 0) KO.out 4 rfl
      have fz := bkF KO.out
      clear hmk
      go_wp2
      have BF := Lib.hid ((((((((B0.out.trans (BY3.out.mono (by omega))))).setCell (p := ⟨w.heap.size, 0, none⟩) (Nat.le_refl _) (.int .i64 100)).setCell (p := ⟨w.heap.size, 1, none⟩) (Nat.le_refl _) (.int .i64 10)).setCell (p := ⟨w.heap.size, 2, none⟩) (Nat.le_refl _) (.int .i64 10)).setCell (p := ⟨w.heap.size, 3, none⟩) (Nat.le_refl _) (.slice (some ⟨g, 0, none⟩) 100 100)).setCell (p := ⟨w.heap.size, 4, none⟩) (Nat.le_refl _) (.slice (some ⟨Y2.heap.size, 0, none⟩) 100 100))
      have RG := Lib.hid (bkO (bkO (bkO (bkO (bkO (krep3.out) (p := ⟨w.heap.size, 0, none⟩) (by show g ≠ w.heap.size; omega) (.int .i64 100)) (p := ⟨w.heap.size, 1, none⟩) (by show g ≠ w.heap.size; omega) (.int .i64 10)) (p := ⟨w.heap.size, 2, none⟩) (by show g ≠ w.heap.size; omega) (.int .i64 10)) (p := ⟨w.heap.size, 3, none⟩) (by show g ≠ w.heap.size; omega) (.slice (some ⟨g, 0, none⟩) 100 100)) (p := ⟨w.heap.size, 4, none⟩) (by show g ≠ w.heap.size; omega) (.slice (some ⟨Y2.heap.size, 0, none⟩) 100 100))
      have RH := Lib.hid (bkO (bkO (bkO (bkO (bkO (kk3.out) (p := ⟨w.heap.size, 0, none⟩) (by show Y2.heap.size ≠ w.heap.size; omega) (.int .i64 100)) (p := ⟨w.heap.size, 1, none⟩) (by show Y2.heap.size ≠ w.heap.size; omega) (.int .i64 10)) (p := ⟨w.heap.size, 2, none⟩) (by show Y2.heap.size ≠ w.heap.size; omega) (.int .i64 10)) (p := ⟨w.heap.size, 3, none⟩) (by show Y2.heap.size ≠ w.heap.size; omega) (.slice (some ⟨g, 0, none⟩) 100 100)) (p := ⟨w.heap.size, 4, none⟩) (by show Y2.heap.size ≠ w.heap.size; omega) (.slice (some ⟨Y2.heap.size, 0, none⟩) 100 100))
      refine bodyPost_ret (v := .tuple #[.agg #[.int .i64 100, .int .i64 10, .int .i64 10, .slice (some ⟨g, 0, none⟩) 100 100, .slice (some ⟨Y2.heap.size, 0, none⟩) 100 100], .int .i64 0]) (by simp [results, Try.results10, go_sem, *]) rfl ?_
      exact ⟨_, _, rfl, ⟨BF.out, by omega, by simp only [size_setCell]; omega, by omega, by simp only [size_setCell]; omega, by omega, RG.out, RH.out⟩⟩
    · refine stepT_mk rfl (fun K hK => ?_)
      go_simp
      have hb4 : Below Y1.heap.size Y1 (Y1.alloc (.cells zrow 2)) := below_alloc _ _
      have kk4 := Lib.hid (bkN Y1 zrow 2)
      have zl4 : Y1.heap.size + 1 ≤ (Y1.alloc (.cells zrow 2)).heap.size := by simp
      refine hK.out _ _ trivial ?_
      clear hK K
      (try simp only [Act.put, List.setIfInBounds_toArray, List.set_cons_zero, List.set_cons_succ])
      generalize (Y1.alloc (.cells zrow 2)) = Y4 at *
      have bs4 : Y1.heap.size ≤ Y4.heap.size := hb4.size
      have BY4 := Lib.hid (BY1.out.trans (hb4.mono (by omega)))
      have kbs4 := Lib.hid (bkB kk1.out hb4 (by omega))
      clear hb4
      (try rw [HW100.out])
      refine wpTree_one ?_
      refine stepT_mk rfl (fun K hK => ?_)
      go_simp
      refine (repeat_desk (Y.heap.size) Y4 kbs4.out).mono ?_
      rintro e Y5 ⟨g, rfl, hb5, gl, gh, kg⟩
      refine hK.out _ _ trivial ?_
      clear hK K
      (try simp only [Act.put, List.setIfInBounds_toArray, List.set_cons_zero, List.set_cons_succ])
      have kk5 := Lib.hid kg
      clear kg
      have bs5 : Y4.heap.size ≤ Y5.heap.size := hb5.size
      have BY5 := Lib.hid (BY4.out.trans (hb5.mono (by omega)))
      have kbs5 := Lib.hid (bkB kbs4.out hb5 (by omega))
      have kmk15 := Lib.hid (bkB kk4.out hb5 (by omega))
      clear hb5
      refine wpTree_read (v := ?_) rfl (fun _ _ _ h => h) ?_ ?_
      rotate_left
      · (intro W hSW; (try dsimp only at hSW); (go_simp <;> with_reducible rfl))
      (try simp only [Act.put, List.setIfInBounds_toArray, List.set_cons_zero, List.set_cons_succ])
      refine wpTree_nil ?_
      simp only [List.drop_succ_cons, List.drop_zero]
      have KO := Lib.hid (bkB K0.out BY5.out (by omega))
      have g0_ := bkC (v := .int .i64 0) KO.out 0 rfl
      have g1_ := bkC (v := .int .i64 0) KO.out 1 rfl
      have g2_ := bkC (v := .int .i64 0) KO.out 2 rfl
      have g3_ := bkC (v := .slice none 0 0) KO.out 3 rfl
      have g4_ := bkC (v := .slice none 0 0) KO.out 4 rfl
      have fz := bkF KO.out
      clear hmk
      go_wp2
      have BF := Lib.hid ((((((((B0.out.trans (BY5.out.mono (by omega))))).setCell (p := ⟨w.heap.size, 0, none⟩) (Nat.le_refl _) (.int .i64 100)).setCell (p := ⟨w.heap.size, 1, none⟩) (Nat.le_refl _) (.int .i64 10)).setCell (p := ⟨w.heap.size, 2, none⟩) (Nat.le_refl _) (.int .i64 10)).setCell (p := ⟨w.heap.size, 3, none⟩) (Nat.le_refl _) (.slice (some ⟨g, 0, none⟩) 100 100)).setCell (p := ⟨w.heap.size, 4, none⟩) (Nat.le_refl _) (.slice (some ⟨Y1.heap.size, 0, none⟩) 100 100))
      have RG := Lib.hid (bkO (bkO (bkO (bkO (bkO (kk5.out) (p := ⟨w.heap.size, 0, none⟩) (by show g ≠ w.heap.size; omega) (.int .i64 100)) (p := ⟨w.heap.size, 1, none⟩) (by show g ≠ w.heap.size; omega) (.int .i64 10)) (p := ⟨w.heap.size, 2, none⟩) (by show g ≠ w.heap.size; omega) (.int .i64 10)) (p := ⟨w.heap.size, 3, none⟩) (by show g ≠ w.heap.size; omega) (.slice (some ⟨g, 0, none⟩) 100 100)) (p := ⟨w.heap.size, 4, none⟩) (by show g ≠ w.heap.size; omega) (.slice (some ⟨Y1.heap.size, 0, none⟩) 100 100))
      have RH := Lib.hid (bkO (bkO (bkO (bkO (bkO (kmk15.out) (p := ⟨w.heap.size, 0, none⟩) (by show Y1.heap.size ≠ w.heap.size; omega) (.int .i64 100)) (p := ⟨w.heap.size, 1, none⟩) (by show Y1.heap.size ≠ w.heap.size; omega) (.int .i64 10)) (p := ⟨w.heap.size, 2, none⟩) (by show Y1.heap.size ≠ w.heap.size; omega) (.int .i64 10)) (p := ⟨w.heap.size, 3, none⟩) (by show Y1.heap.size ≠ w.heap.size; omega) (.slice (some ⟨g, 0, none⟩) 100 100)) (p := ⟨w.heap.size, 4, none⟩) (by show Y1.heap.size ≠ w.heap.size; omega) (.slice (some ⟨Y1.heap.size, 0, none⟩) 100 100))
      refine bodyPost_ret (v := .tuple #[.agg #[.int .i64 100, .int .i64 10, .int .i64 10, .slice (some ⟨g, 0, none⟩) 100 100, .slice (some ⟨Y1.heap.size, 0, none⟩) 100 100], .int .i64 0]) (by simp [results, Try.results10, go_sem, *]) rfl ?_
      exact ⟨_, _, rfl, ⟨BF.out, by omega, by simp only [size_setCell]; omega, by omega, by simp only [size_setCell]; omega, by omega, RG.out, RH.out⟩⟩
  · refine stepT_mk rfl (fun K hK => ?_)
    go_simp
    have hb6 : Below Y.heap.size Y (Y.alloc (.cells zrow 2)) := below_alloc _ _
    have kk6 := Lib.hid (bkN Y zrow 2)
    have zl6 : Y.heap.size + 1 ≤ (Y.alloc (.cells zrow 2)).heap.size := by simp
    refine hK.out _ _ trivial ?_
    clear hK K
    (try simp only [Act.put, List.setIfInBounds_toArray, List.set_cons_zero, List.set_cons_succ])
    generalize (Y.alloc (.cells zrow 2)) = Y6 at *
    have bs6 : Y.heap.size ≤ Y6.heap.size := hb6.size
    have BY6 := Lib.hid (BBd.out.trans (hb6.mono (by omega)))
    clear hb6
    (try rw [HW100.out])
    refine wpTree_one ?_
    refine stepT_mk rfl (fun K hK => ?_)
    go_simp
    have hb7 : Below Y6.heap.size Y6 (Y6.alloc (.cells #[.int .i64 0] 2)) := below_alloc _ _
    have kk7 := Lib.hid (bkN Y6 #[.int .i64 0] 2)
    have zl7 : Y6.heap.size + 1 ≤ (Y6.alloc (.cells #[.int .i64 0] 2)).heap.size := by simp
    refine hK.out _ _ trivial ?_
    clear hK K
    (try simp only [Act.put, List.setIfInBounds_toArray, List.set_cons_zero, List.set_cons_succ])
    generalize (Y6.alloc (.cells #[.int .i64 0] 2)) = Y7 at *
    have bs7 : Y6.heap.size ≤ Y7.heap.size := hb7.size
    have BY7 := Lib.hid (BY6.out.trans (hb7.mono (by omega)))
    have kmk17 := Lib.hid (bkB kk6.out hb7 (by omega))
    clear hb7
    (try rw [HW100.out])
    refine wpTree_one ?_
    refine stepT_mk rfl (fun K hK => ?_)
    go_simp
    refine (repeat_desk (Y6.heap.size) Y7 kk7.out).mono ?_
    rintro e Y8 ⟨g, rfl, hb8, gl, gh, kg⟩
    refine hK.out _ _ trivial ?_
    clear hK K
    (try simp only [Act.put, List.setIfInBounds_toArray, List.set_cons_zero, List.set_cons_succ])
    have kk8 := Lib.hid kg
    clear kg
    have bs8 : Y7.heap.size ≤ Y8.heap.size := hb8.size
    have BY8 := Lib.hid (BY7.out.trans (hb8.mono (by omega)))
    have kbs8 := Lib.hid (bkB kk7.out hb8 (by omega))
    have kmk18 := Lib.hid (bkB kmk17.out hb8 (by omega))
    clear hb8
    refine wpTree_read (v := ?_) rfl (fun _ _ _ h => h) ?_ ?_
    rotate_left
    · (intro W hSW; (try dsimp only at hSW); (go_simp <;> with_reducible rfl))
    (try simp only [Act.put, List.setIfInBounds_toArray, List.set_cons_zero, List.set_cons_succ])
    refine wpTree_nil ?_
    simp only [List.drop_succ_cons, List.drop_zero]
    have KO := Lib.hid (bkB K0.out BY8.out (by omega))
    have g0_ := bkC (v := .int .i64 0) KO.out 0 rfl
    have g1_ := bkC (v := .int .i64 0) KO.out 1 rfl
    have g2_ := bkC (v := .int .i64 0) KO.out 2 rfl
    have g3_ := bkC (v := .slice none 0 0) KO.out 3 rfl
    have g4_ := bkC (v := .slice none 0 0) KO.out 4 rfl
    have fz := bkF KO.out
    clear hmk
    go_wp2
    have BF := Lib.hid ((((((((B0.out.trans (BY8.out.mono (by omega))))).setCell (p := ⟨w.heap.size, 0, none⟩) (Nat.le_refl _) (.int .i64 100)).setCell (p := ⟨w.heap.size, 1, none⟩) (Nat.le_refl _) (.int .i64 10)).setCell (p := ⟨w.heap.size, 2, none⟩) (Nat.le_refl _) (.int .i64 10)).setCell (p := ⟨w.heap.size, 3, none⟩) (Nat.le_refl _) (.slice (some ⟨g, 0, none⟩) 100 100)).setCell (p := ⟨w.heap.size, 4, none⟩) (Nat.le_refl _) (.slice (some ⟨Y.heap.size, 0, none⟩) 100 100))
    have RG := Lib.hid (bkO (bkO (bkO (bkO (bkO (kk8.out) (p := ⟨w.heap.size, 0, none⟩) (by show g ≠ w.heap.size; omega) (.int .i64 100)) (p := ⟨w.heap.size, 1, none⟩) (by show g ≠ w.heap.size; omega) (.int .i64 10)) (p := ⟨w.heap.size, 2, none⟩) (by show g ≠ w.heap.size; omega) (.int .i64 10)) (p := ⟨w.heap.size, 3, none⟩) (by show g ≠ w.heap.size; omega) (.slice (some ⟨g, 0, none⟩) 100 100)) (p := ⟨w.heap.size, 4, none⟩) (by show g ≠ w.heap.size; omega) (.slice (some ⟨Y.heap.size, 0, none⟩) 100 100))
    have RH := Lib.hid (bkO (bkO (bkO (bkO (bkO (kmk18.out) (p := ⟨w.heap.size, 0, none⟩) (by show Y.heap.size ≠ w.heap.size; omega) (.int .i64 100)) (p := ⟨w.heap.size, 1, none⟩) (by show Y.heap.size ≠ w.heap.size; omega) (.int .i64 10)) (p := ⟨w.heap.size, 2, none⟩) (by show Y.heap.size ≠ w.heap.size; omega) (.int .i64 10)) (p := ⟨w.heap.size, 3, none⟩) (by show Y.heap.size ≠ w.heap.size; omega) (.slice (some ⟨g, 0, none⟩) 100 100)) (p := ⟨w.heap.size, 4, none⟩) (by show Y.heap.size ≠ w.heap.size; omega) (.slice (some ⟨Y.heap.size, 0, none⟩) 100 100))
    refine bodyPost_ret (v := .tuple #[.agg #[.int .i64 100, .int .i64 10, .int .i64 10, .slice (some ⟨g, 0, none⟩) 100 100, .slice (some ⟨Y.heap.size, 0, none⟩) 100 100], .int .i64 0]) (by simp [results, Try.results10, go_sem, *]) rfl ?_
    exact ⟨_, _, rfl, ⟨BF.out, by omega, by simp only [size_setCell]; omega, by omega, by simp only [size_setCell]; omega, by omega, RG.out, RH.out⟩⟩
end Go.Proofs.Ytlfkdhakibagaaa
