/- Contract: SetRecord of the program. Conditions: bounded lengths. -/
import Derived.Test.YtemdeoeljfcfjaaReg9
import Derived.Test.YtemdeoeljfcfjaaReg10
namespace Go.Proofs.Ytemdeoeljfcfjaa
open Go.RowKit
set_option linter.unusedVariables false
set_option linter.unusedSimpArgs false

section
variable {r : DRegister} {key value : ByteArray} {day : Int}
theorem setRecR_1 (h : regB r = false) : setRecR r key value day = (⟨[], []⟩, 1) := by unfold setRecR; rw [if_neg (by simp [h])]
theorem setRecR_2 (h : regB r = true) (h2 : nameB key = false) : setRecR r key value day = (⟨[], []⟩, 1) := by unfold setRecR; rw [if_pos h, if_neg (by simp [h2])]
theorem setRecR_3 (h : regB r = true) (h2 : nameB key = true) (h3 : valueB value = false) : setRecR r key value day = (⟨[], []⟩, 1) := by unfold setRecR; rw [if_pos h, if_pos h2, if_neg (by simp [h3])]
theorem setRecR_4 (h : regB r = true) (h2 : nameB key = true) (h3 : valueB value = true) (h4 : dayB day = false) : setRecR r key value day = (⟨[], []⟩, 2) := by unfold setRecR; rw [if_pos h, if_pos h2, if_pos h3, if_neg (by simp [h4])]
theorem setRecR_5 (h : regB r = true) (h2 : nameB key = true) (h3 : valueB value = true) (h4 : dayB day = true) (h5 : laterB r day = true) : setRecR r key value day = (⟨[], []⟩, 7) := by unfold setRecR; rw [if_pos h, if_pos h2, if_pos h3, if_pos h4, if_pos h5]
theorem setRecR_6 (h : regB r = true) (h2 : nameB key = true) (h3 : valueB value = true) (h4 : dayB day = true) (h5 : laterB r day = false) (h6 : eqS (valOf r.records key) value = true) : setRecR r key value day = (⟨[], []⟩, 4) := by unfold setRecR; rw [if_pos h, if_pos h2, if_pos h3, if_pos h4, if_neg (by simp [h5]), if_pos h6]
theorem setRecR_7 (h : regB r = true) (h2 : nameB key = true) (h3 : valueB value = true) (h4 : dayB day = true) (h5 : laterB r day = false) (h6 : eqS (valOf r.records key) value = false) : setRecR r key value day = withR r ⟨day, key, valOf r.records key, value⟩ := by
  unfold setRecR withR wReg
  rw [if_pos h, if_pos h2, if_pos h3, if_pos h4, if_neg (by simp [h5]), if_neg (by simp [h6])]
  have h48 := (regB_state h).2.2.2
  by_cases h7 : 32 < (putL r.records key value).length
  · rw [if_pos h7, if_pos h7]
  · rw [if_neg h7, if_neg h7]
    by_cases h8 : r.changes.length = 48
    · rw [if_pos h8, if_pos (by omega)]
    · rw [if_neg h8, if_neg (by omega)]
end
set_option maxHeartbeats 8000000 in
set_option maxRecDepth 100000 in
theorem iSetRecord_std (r : DRegister) (key : ByteArray) (value : ByteArray) (day : Int) (vr0 vr1 : Value) (w : World) (rr0 : Rd w.heap.size w (DRecord.sT r.records) vr0) (rr1 : Rd w.heap.size w (DChange.sT r.changes) vr1) (hs_r : sizL r.tr ≤ 1048576) (hk_r : r.ok) (hs_key : key.size ≤ 1048576) (hs_value : value.size ≤ 1048576) (hk_day : I64 day) :
    Calls Try.prog 7 #[.agg #[vr0, vr1], .string key, .string value, .int .i64 day] w (fun e w' => ∃ a0_0 c0_0 a0_1 c0_1 fp0, e = .returned (.tuple #[.agg #[.slice a0_0 (setRecR r key value day).1.records.length c0_0, .slice a0_1 (setRecR r key value day).1.changes.length c0_1], .int .i64 (setRecR r key value day).2]) ∧ Below w.heap.size w w' ∧ OwnV w' (setRecR r key value day).1.tr [.slice a0_0 (setRecR r key value day).1.records.length c0_0, .slice a0_1 (setRecR r key value day).1.changes.length c0_1] fp0 ∧ In w.heap.size w'.heap.size fp0) := by
  show Calls Try.prog _ _ w (NewR (setRecR r key value day) w)
  have hq := DRegister.siz_tr r
  rw [DRecord.siz_s, DChange.siz_s] at hq
  have hl0 : r.records.length ≤ 1048576 := by omega
  have hl1 : r.changes.length ≤ 1048576 := by omega
  clear hq hs_r
  obtain ⟨A0, C0, rfl, _, _, _⟩ := DRecord.rd rr0
  obtain ⟨A1, C1, rfl, _, _, _⟩ := DChange.rd rr1
  have hkk : key.size ≤ maxLen := by unfold maxLen; omega
  have hkv : value.size ≤ maxLen := by unfold maxLen; omega
  by_cases h1 : regB r = true
  case neg =>
    replace h1 : regB r = false := Bool.eq_false_iff.2 h1
    have HE := Lib.hid (setRecR_1 (key := key) (value := value) (day := day) h1)
    have BB0_ : Below w.heap.size w ((w.alloc (.cells #[.slice A0 r.records.length C0, .slice A1 r.changes.length C1] 30)).alloc (.cells #[.slice none 0 0, .slice none 0 0] 30)) := Below.alloc (Below.alloc (Below.refl _ _) (by first | exact Nat.le_refl _ | (simp; done) | (simp; omega)) _) (by first | exact Nat.le_refl _ | (simp; done) | (simp; omega)) _
    have zz0 : w.heap.size + 2 ≤ ((w.alloc (.cells #[.slice A0 r.records.length C0, .slice A1 r.changes.length C1] 30)).alloc (.cells #[.slice none 0 0, .slice none 0 0] 30)).heap.size := by simp
    have k_R : ((w.alloc (.cells #[.slice A0 r.records.length C0, .slice A1 r.changes.length C1] 30)).alloc (.cells #[.slice none 0 0, .slice none 0 0] 30)).heap[w.heap.size]? = some (.cells #[.slice A0 r.records.length C0, .slice A1 r.changes.length C1] 30 (0, 0)) := by
      have h := bkN w #[.slice A0 r.records.length C0, .slice A1 r.changes.length C1] 30
      replace h := bkA h (by first | (simp; done) | (simp; omega)) (.cells #[.slice none 0 0, .slice none 0 0] 30)
      exact h
    have KR_0 := Lib.hid k_R
    have k_O : ((w.alloc (.cells #[.slice A0 r.records.length C0, .slice A1 r.changes.length C1] 30)).alloc (.cells #[.slice none 0 0, .slice none 0 0] 30)).heap[w.heap.size + 1]? = some (.cells #[.slice none 0 0, .slice none 0 0] 30 (0, 0)) := by
      have h := bkN (w.alloc (.cells #[.slice A0 r.records.length C0, .slice A1 r.changes.length C1] 30)) #[.slice none 0 0, .slice none 0 0] 30
      rw [show (w.alloc (.cells #[.slice A0 r.records.length C0, .slice A1 r.changes.length C1] 30)).heap.size = w.heap.size + 1 by simp] at h
      exact h
    have KO_0 := Lib.hid k_O
    clear k_R k_O
    have BB_0 := Lib.hid BB0_
    clear BB0_
    go_enter Try.func7, Try.ntmps7
    go_upto_region 1 with (fail)
    generalize ((w.alloc (.cells #[.slice A0 r.records.length C0, .slice A1 r.changes.length C1] 30)).alloc (.cells #[.slice none 0 0, .slice none 0 0] 30)) = W0 at *
    have fR0 := bkC (v := .slice A0 r.records.length C0) KR_0.out 0 rfl
    have fR1 := bkC (v := .slice A1 r.changes.length C1) KR_0.out 1 rfl
    go_wp2_with fail
    refine (valueOf_any r.records key _ w.heap.size _ (rr0.below BB_0.out) (by omega) (by omega)).mono ?_
    rintro e X1 ⟨rfl, hb⟩
    clear fR0 fR1
    have KR_1 := Lib.hid (bkB KR_0.out hb (by omega))
    have KO_1 := Lib.hid (bkB KO_0.out hb (by omega))
    have BB_1 := Lib.hid (BB_0.out.trans (hb.mono (by omega)))
    have zz1 : W0.heap.size ≤ X1.heap.size := hb.size
    clear KR_0 KO_0 BB_0 hb
    have fR0 := bkC (v := .slice A0 r.records.length C0) KR_1.out 0 rfl
    have fR1 := bkC (v := .slice A1 r.changes.length C1) KR_1.out 1 rfl
    go_wp2_with fail
    refine (validRegister_any r _ _ _ ((rr0.below BB_1.out).mono (by omega)) ((rr1.below BB_1.out).mono (by omega)) hl0 hl1 hk_r).mono ?_
    rintro e X2 ⟨rfl, hb⟩
    clear fR0 fR1
    have KR_2 := Lib.hid (bkB KR_1.out hb (by omega))
    have KO_2 := Lib.hid (bkB KO_1.out hb (by omega))
    have BB_2 := Lib.hid (BB_1.out.trans (hb.mono (by omega)))
    have zz2 : X1.heap.size ≤ X2.heap.size := hb.size
    clear KR_1 KO_1 BB_1 hb
    rw [h1]
    have fR0 := bkC (v := .slice A0 r.records.length C0) KR_2.out 0 rfl
    have fR1 := bkC (v := .slice A1 r.changes.length C1) KR_2.out 1 rfl
    have fO0 := bkC (v := .slice none 0 0) KO_2.out 0 rfl
    have fO1 := bkC (v := .slice none 0 0) KO_2.out 1 rfl
    have zO := bkF KO_2.out
    go_wp2
    have BF := Lib.hid (((BB_2.out).setCell (p := ⟨w.heap.size + 1, 0, none⟩) (by show w.heap.size ≤ w.heap.size + 1; omega) (.slice none 0 0)).setCell (p := ⟨w.heap.size + 1, 1, none⟩) (by show w.heap.size ≤ w.heap.size + 1; omega) (.slice none 0 0))
    refine bodyPost_ret (v := .tuple #[.agg #[.slice none 0 0, .slice none 0 0], .int .i64 1]) (by simp [results, Try.results7, go_sem, *]) rfl ?_
    exact NewR.zero HE.out rfl BF.out
  by_cases h2 : nameB key = true
  case neg =>
    replace h2 : nameB key = false := Bool.eq_false_iff.2 h2
    have HE := Lib.hid (setRecR_2 (value := value) (day := day) h1 h2)
    have BB0_ : Below w.heap.size w ((w.alloc (.cells #[.slice A0 r.records.length C0, .slice A1 r.changes.length C1] 30)).alloc (.cells #[.slice none 0 0, .slice none 0 0] 30)) := Below.alloc (Below.alloc (Below.refl _ _) (by first | exact Nat.le_refl _ | (simp; done) | (simp; omega)) _) (by first | exact Nat.le_refl _ | (simp; done) | (simp; omega)) _
    have zz0 : w.heap.size + 2 ≤ ((w.alloc (.cells #[.slice A0 r.records.length C0, .slice A1 r.changes.length C1] 30)).alloc (.cells #[.slice none 0 0, .slice none 0 0] 30)).heap.size := by simp
    have k_R : ((w.alloc (.cells #[.slice A0 r.records.length C0, .slice A1 r.changes.length C1] 30)).alloc (.cells #[.slice none 0 0, .slice none 0 0] 30)).heap[w.heap.size]? = some (.cells #[.slice A0 r.records.length C0, .slice A1 r.changes.length C1] 30 (0, 0)) := by
      have h := bkN w #[.slice A0 r.records.length C0, .slice A1 r.changes.length C1] 30
      replace h := bkA h (by first | (simp; done) | (simp; omega)) (.cells #[.slice none 0 0, .slice none 0 0] 30)
      exact h
    have KR_0 := Lib.hid k_R
    have k_O : ((w.alloc (.cells #[.slice A0 r.records.length C0, .slice A1 r.changes.length C1] 30)).alloc (.cells #[.slice none 0 0, .slice none 0 0] 30)).heap[w.heap.size + 1]? = some (.cells #[.slice none 0 0, .slice none 0 0] 30 (0, 0)) := by
      have h := bkN (w.alloc (.cells #[.slice A0 r.records.length C0, .slice A1 r.changes.length C1] 30)) #[.slice none 0 0, .slice none 0 0] 30
      rw [show (w.alloc (.cells #[.slice A0 r.records.length C0, .slice A1 r.changes.length C1] 30)).heap.size = w.heap.size + 1 by simp] at h
      exact h
    have KO_0 := Lib.hid k_O
    clear k_R k_O
    have BB_0 := Lib.hid BB0_
    clear BB0_
    go_enter Try.func7, Try.ntmps7
    go_upto_region 1 with (fail)
    generalize ((w.alloc (.cells #[.slice A0 r.records.length C0, .slice A1 r.changes.length C1] 30)).alloc (.cells #[.slice none 0 0, .slice none 0 0] 30)) = W0 at *
    have fR0 := bkC (v := .slice A0 r.records.length C0) KR_0.out 0 rfl
    have fR1 := bkC (v := .slice A1 r.changes.length C1) KR_0.out 1 rfl
    go_wp2_with fail
    refine (valueOf_any r.records key _ w.heap.size _ (rr0.below BB_0.out) (by omega) (by omega)).mono ?_
    rintro e X1 ⟨rfl, hb⟩
    clear fR0 fR1
    have KR_1 := Lib.hid (bkB KR_0.out hb (by omega))
    have KO_1 := Lib.hid (bkB KO_0.out hb (by omega))
    have BB_1 := Lib.hid (BB_0.out.trans (hb.mono (by omega)))
    have zz1 : W0.heap.size ≤ X1.heap.size := hb.size
    clear KR_0 KO_0 BB_0 hb
    have fR0 := bkC (v := .slice A0 r.records.length C0) KR_1.out 0 rfl
    have fR1 := bkC (v := .slice A1 r.changes.length C1) KR_1.out 1 rfl
    go_wp2_with fail
    refine (validRegister_any r _ _ _ ((rr0.below BB_1.out).mono (by omega)) ((rr1.below BB_1.out).mono (by omega)) hl0 hl1 hk_r).mono ?_
    rintro e X2 ⟨rfl, hb⟩
    clear fR0 fR1
    have KR_2 := Lib.hid (bkB KR_1.out hb (by omega))
    have KO_2 := Lib.hid (bkB KO_1.out hb (by omega))
    have BB_2 := Lib.hid (BB_1.out.trans (hb.mono (by omega)))
    have zz2 : X1.heap.size ≤ X2.heap.size := hb.size
    clear KR_1 KO_1 BB_1 hb
    rw [h1]
    go_wp2_with fail
    refine (isName_any key _ hkk).mono ?_
    rintro e _ ⟨rfl, rfl⟩
    rw [h2]
    have fR0 := bkC (v := .slice A0 r.records.length C0) KR_2.out 0 rfl
    have fR1 := bkC (v := .slice A1 r.changes.length C1) KR_2.out 1 rfl
    have fO0 := bkC (v := .slice none 0 0) KO_2.out 0 rfl
    have fO1 := bkC (v := .slice none 0 0) KO_2.out 1 rfl
    have zO := bkF KO_2.out
    go_wp2
    have BF := Lib.hid (((BB_2.out).setCell (p := ⟨w.heap.size + 1, 0, none⟩) (by show w.heap.size ≤ w.heap.size + 1; omega) (.slice none 0 0)).setCell (p := ⟨w.heap.size + 1, 1, none⟩) (by show w.heap.size ≤ w.heap.size + 1; omega) (.slice none 0 0))
    refine bodyPost_ret (v := .tuple #[.agg #[.slice none 0 0, .slice none 0 0], .int .i64 1]) (by simp [results, Try.results7, go_sem, *]) rfl ?_
    exact NewR.zero HE.out rfl BF.out
  by_cases h3 : valueB value = true
  case neg =>
    replace h3 : valueB value = false := Bool.eq_false_iff.2 h3
    have HE := Lib.hid (setRecR_3 (day := day) h1 h2 h3)
    have BB0_ : Below w.heap.size w ((w.alloc (.cells #[.slice A0 r.records.length C0, .slice A1 r.changes.length C1] 30)).alloc (.cells #[.slice none 0 0, .slice none 0 0] 30)) := Below.alloc (Below.alloc (Below.refl _ _) (by first | exact Nat.le_refl _ | (simp; done) | (simp; omega)) _) (by first | exact Nat.le_refl _ | (simp; done) | (simp; omega)) _
    have zz0 : w.heap.size + 2 ≤ ((w.alloc (.cells #[.slice A0 r.records.length C0, .slice A1 r.changes.length C1] 30)).alloc (.cells #[.slice none 0 0, .slice none 0 0] 30)).heap.size := by simp
    have k_R : ((w.alloc (.cells #[.slice A0 r.records.length C0, .slice A1 r.changes.length C1] 30)).alloc (.cells #[.slice none 0 0, .slice none 0 0] 30)).heap[w.heap.size]? = some (.cells #[.slice A0 r.records.length C0, .slice A1 r.changes.length C1] 30 (0, 0)) := by
      have h := bkN w #[.slice A0 r.records.length C0, .slice A1 r.changes.length C1] 30
      replace h := bkA h (by first | (simp; done) | (simp; omega)) (.cells #[.slice none 0 0, .slice none 0 0] 30)
      exact h
    have KR_0 := Lib.hid k_R
    have k_O : ((w.alloc (.cells #[.slice A0 r.records.length C0, .slice A1 r.changes.length C1] 30)).alloc (.cells #[.slice none 0 0, .slice none 0 0] 30)).heap[w.heap.size + 1]? = some (.cells #[.slice none 0 0, .slice none 0 0] 30 (0, 0)) := by
      have h := bkN (w.alloc (.cells #[.slice A0 r.records.length C0, .slice A1 r.changes.length C1] 30)) #[.slice none 0 0, .slice none 0 0] 30
      rw [show (w.alloc (.cells #[.slice A0 r.records.length C0, .slice A1 r.changes.length C1] 30)).heap.size = w.heap.size + 1 by simp] at h
      exact h
    have KO_0 := Lib.hid k_O
    clear k_R k_O
    have BB_0 := Lib.hid BB0_
    clear BB0_
    go_enter Try.func7, Try.ntmps7
    go_upto_region 1 with (fail)
    generalize ((w.alloc (.cells #[.slice A0 r.records.length C0, .slice A1 r.changes.length C1] 30)).alloc (.cells #[.slice none 0 0, .slice none 0 0] 30)) = W0 at *
    have fR0 := bkC (v := .slice A0 r.records.length C0) KR_0.out 0 rfl
    have fR1 := bkC (v := .slice A1 r.changes.length C1) KR_0.out 1 rfl
    go_wp2_with fail
    refine (valueOf_any r.records key _ w.heap.size _ (rr0.below BB_0.out) (by omega) (by omega)).mono ?_
    rintro e X1 ⟨rfl, hb⟩
    clear fR0 fR1
    have KR_1 := Lib.hid (bkB KR_0.out hb (by omega))
    have KO_1 := Lib.hid (bkB KO_0.out hb (by omega))
    have BB_1 := Lib.hid (BB_0.out.trans (hb.mono (by omega)))
    have zz1 : W0.heap.size ≤ X1.heap.size := hb.size
    clear KR_0 KO_0 BB_0 hb
    have fR0 := bkC (v := .slice A0 r.records.length C0) KR_1.out 0 rfl
    have fR1 := bkC (v := .slice A1 r.changes.length C1) KR_1.out 1 rfl
    go_wp2_with fail
    refine (validRegister_any r _ _ _ ((rr0.below BB_1.out).mono (by omega)) ((rr1.below BB_1.out).mono (by omega)) hl0 hl1 hk_r).mono ?_
    rintro e X2 ⟨rfl, hb⟩
    clear fR0 fR1
    have KR_2 := Lib.hid (bkB KR_1.out hb (by omega))
    have KO_2 := Lib.hid (bkB KO_1.out hb (by omega))
    have BB_2 := Lib.hid (BB_1.out.trans (hb.mono (by omega)))
    have zz2 : X1.heap.size ≤ X2.heap.size := hb.size
    clear KR_1 KO_1 BB_1 hb
    rw [h1]
    go_wp2_with fail
    refine (isName_any key _ hkk).mono ?_
    rintro e _ ⟨rfl, rfl⟩
    rw [h2]
    go_wp2_with fail
    refine (isValue_any value _ hkv).mono ?_
    rintro e _ ⟨rfl, rfl⟩
    rw [h3]
    have fR0 := bkC (v := .slice A0 r.records.length C0) KR_2.out 0 rfl
    have fR1 := bkC (v := .slice A1 r.changes.length C1) KR_2.out 1 rfl
    have fO0 := bkC (v := .slice none 0 0) KO_2.out 0 rfl
    have fO1 := bkC (v := .slice none 0 0) KO_2.out 1 rfl
    have zO := bkF KO_2.out
    go_wp2
    have BF := Lib.hid (((BB_2.out).setCell (p := ⟨w.heap.size + 1, 0, none⟩) (by show w.heap.size ≤ w.heap.size + 1; omega) (.slice none 0 0)).setCell (p := ⟨w.heap.size + 1, 1, none⟩) (by show w.heap.size ≤ w.heap.size + 1; omega) (.slice none 0 0))
    refine bodyPost_ret (v := .tuple #[.agg #[.slice none 0 0, .slice none 0 0], .int .i64 1]) (by simp [results, Try.results7, go_sem, *]) rfl ?_
    exact NewR.zero HE.out rfl BF.out
  by_cases h4 : dayB day = true
  case neg =>
    replace h4 : dayB day = false := Bool.eq_false_iff.2 h4
    have HE := Lib.hid (setRecR_4 h1 h2 h3 h4)
    have BB0_ : Below w.heap.size w ((w.alloc (.cells #[.slice A0 r.records.length C0, .slice A1 r.changes.length C1] 30)).alloc (.cells #[.slice none 0 0, .slice none 0 0] 30)) := Below.alloc (Below.alloc (Below.refl _ _) (by first | exact Nat.le_refl _ | (simp; done) | (simp; omega)) _) (by first | exact Nat.le_refl _ | (simp; done) | (simp; omega)) _
    have zz0 : w.heap.size + 2 ≤ ((w.alloc (.cells #[.slice A0 r.records.length C0, .slice A1 r.changes.length C1] 30)).alloc (.cells #[.slice none 0 0, .slice none 0 0] 30)).heap.size := by simp
    have k_R : ((w.alloc (.cells #[.slice A0 r.records.length C0, .slice A1 r.changes.length C1] 30)).alloc (.cells #[.slice none 0 0, .slice none 0 0] 30)).heap[w.heap.size]? = some (.cells #[.slice A0 r.records.length C0, .slice A1 r.changes.length C1] 30 (0, 0)) := by
      have h := bkN w #[.slice A0 r.records.length C0, .slice A1 r.changes.length C1] 30
      replace h := bkA h (by first | (simp; done) | (simp; omega)) (.cells #[.slice none 0 0, .slice none 0 0] 30)
      exact h
    have KR_0 := Lib.hid k_R
    have k_O : ((w.alloc (.cells #[.slice A0 r.records.length C0, .slice A1 r.changes.length C1] 30)).alloc (.cells #[.slice none 0 0, .slice none 0 0] 30)).heap[w.heap.size + 1]? = some (.cells #[.slice none 0 0, .slice none 0 0] 30 (0, 0)) := by
      have h := bkN (w.alloc (.cells #[.slice A0 r.records.length C0, .slice A1 r.changes.length C1] 30)) #[.slice none 0 0, .slice none 0 0] 30
      rw [show (w.alloc (.cells #[.slice A0 r.records.length C0, .slice A1 r.changes.length C1] 30)).heap.size = w.heap.size + 1 by simp] at h
      exact h
    have KO_0 := Lib.hid k_O
    clear k_R k_O
    have BB_0 := Lib.hid BB0_
    clear BB0_
    go_enter Try.func7, Try.ntmps7
    go_upto_region 1 with (fail)
    generalize ((w.alloc (.cells #[.slice A0 r.records.length C0, .slice A1 r.changes.length C1] 30)).alloc (.cells #[.slice none 0 0, .slice none 0 0] 30)) = W0 at *
    have fR0 := bkC (v := .slice A0 r.records.length C0) KR_0.out 0 rfl
    have fR1 := bkC (v := .slice A1 r.changes.length C1) KR_0.out 1 rfl
    go_wp2_with fail
    refine (valueOf_any r.records key _ w.heap.size _ (rr0.below BB_0.out) (by omega) (by omega)).mono ?_
    rintro e X1 ⟨rfl, hb⟩
    clear fR0 fR1
    have KR_1 := Lib.hid (bkB KR_0.out hb (by omega))
    have KO_1 := Lib.hid (bkB KO_0.out hb (by omega))
    have BB_1 := Lib.hid (BB_0.out.trans (hb.mono (by omega)))
    have zz1 : W0.heap.size ≤ X1.heap.size := hb.size
    clear KR_0 KO_0 BB_0 hb
    have fR0 := bkC (v := .slice A0 r.records.length C0) KR_1.out 0 rfl
    have fR1 := bkC (v := .slice A1 r.changes.length C1) KR_1.out 1 rfl
    go_wp2_with fail
    refine (validRegister_any r _ _ _ ((rr0.below BB_1.out).mono (by omega)) ((rr1.below BB_1.out).mono (by omega)) hl0 hl1 hk_r).mono ?_
    rintro e X2 ⟨rfl, hb⟩
    clear fR0 fR1
    have KR_2 := Lib.hid (bkB KR_1.out hb (by omega))
    have KO_2 := Lib.hid (bkB KO_1.out hb (by omega))
    have BB_2 := Lib.hid (BB_1.out.trans (hb.mono (by omega)))
    have zz2 : X1.heap.size ≤ X2.heap.size := hb.size
    clear KR_1 KO_1 BB_1 hb
    rw [h1]
    go_wp2_with fail
    refine (isName_any key _ hkk).mono ?_
    rintro e _ ⟨rfl, rfl⟩
    rw [h2]
    go_wp2_with fail
    refine (isValue_any value _ hkv).mono ?_
    rintro e _ ⟨rfl, rfl⟩
    rw [h3]
    go_wp2_with fail
    refine (dayOk_any day _).mono ?_
    rintro e _ ⟨rfl, rfl⟩
    rw [h4]
    have fR0 := bkC (v := .slice A0 r.records.length C0) KR_2.out 0 rfl
    have fR1 := bkC (v := .slice A1 r.changes.length C1) KR_2.out 1 rfl
    have fO0 := bkC (v := .slice none 0 0) KO_2.out 0 rfl
    have fO1 := bkC (v := .slice none 0 0) KO_2.out 1 rfl
    have zO := bkF KO_2.out
    go_wp2
    have BF := Lib.hid (((BB_2.out).setCell (p := ⟨w.heap.size + 1, 0, none⟩) (by show w.heap.size ≤ w.heap.size + 1; omega) (.slice none 0 0)).setCell (p := ⟨w.heap.size + 1, 1, none⟩) (by show w.heap.size ≤ w.heap.size + 1; omega) (.slice none 0 0))
    refine bodyPost_ret (v := .tuple #[.agg #[.slice none 0 0, .slice none 0 0], .int .i64 2]) (by simp [results, Try.results7, go_sem, *]) rfl ?_
    exact NewR.zero HE.out rfl BF.out
  by_cases h5 : laterB r day = true
  case pos =>
    have HE := Lib.hid (setRecR_5 h1 h2 h3 h4 h5)
    have BB0_ : Below w.heap.size w ((w.alloc (.cells #[.slice A0 r.records.length C0, .slice A1 r.changes.length C1] 30)).alloc (.cells #[.slice none 0 0, .slice none 0 0] 30)) := Below.alloc (Below.alloc (Below.refl _ _) (by first | exact Nat.le_refl _ | (simp; done) | (simp; omega)) _) (by first | exact Nat.le_refl _ | (simp; done) | (simp; omega)) _
    have zz0 : w.heap.size + 2 ≤ ((w.alloc (.cells #[.slice A0 r.records.length C0, .slice A1 r.changes.length C1] 30)).alloc (.cells #[.slice none 0 0, .slice none 0 0] 30)).heap.size := by simp
    have k_R : ((w.alloc (.cells #[.slice A0 r.records.length C0, .slice A1 r.changes.length C1] 30)).alloc (.cells #[.slice none 0 0, .slice none 0 0] 30)).heap[w.heap.size]? = some (.cells #[.slice A0 r.records.length C0, .slice A1 r.changes.length C1] 30 (0, 0)) := by
      have h := bkN w #[.slice A0 r.records.length C0, .slice A1 r.changes.length C1] 30
      replace h := bkA h (by first | (simp; done) | (simp; omega)) (.cells #[.slice none 0 0, .slice none 0 0] 30)
      exact h
    have KR_0 := Lib.hid k_R
    have k_O : ((w.alloc (.cells #[.slice A0 r.records.length C0, .slice A1 r.changes.length C1] 30)).alloc (.cells #[.slice none 0 0, .slice none 0 0] 30)).heap[w.heap.size + 1]? = some (.cells #[.slice none 0 0, .slice none 0 0] 30 (0, 0)) := by
      have h := bkN (w.alloc (.cells #[.slice A0 r.records.length C0, .slice A1 r.changes.length C1] 30)) #[.slice none 0 0, .slice none 0 0] 30
      rw [show (w.alloc (.cells #[.slice A0 r.records.length C0, .slice A1 r.changes.length C1] 30)).heap.size = w.heap.size + 1 by simp] at h
      exact h
    have KO_0 := Lib.hid k_O
    clear k_R k_O
    have BB_0 := Lib.hid BB0_
    clear BB0_
    go_enter Try.func7, Try.ntmps7
    go_upto_region 1 with (fail)
    generalize ((w.alloc (.cells #[.slice A0 r.records.length C0, .slice A1 r.changes.length C1] 30)).alloc (.cells #[.slice none 0 0, .slice none 0 0] 30)) = W0 at *
    have fR0 := bkC (v := .slice A0 r.records.length C0) KR_0.out 0 rfl
    have fR1 := bkC (v := .slice A1 r.changes.length C1) KR_0.out 1 rfl
    go_wp2_with fail
    refine (valueOf_any r.records key _ w.heap.size _ (rr0.below BB_0.out) (by omega) (by omega)).mono ?_
    rintro e X1 ⟨rfl, hb⟩
    clear fR0 fR1
    have KR_1 := Lib.hid (bkB KR_0.out hb (by omega))
    have KO_1 := Lib.hid (bkB KO_0.out hb (by omega))
    have BB_1 := Lib.hid (BB_0.out.trans (hb.mono (by omega)))
    have zz1 : W0.heap.size ≤ X1.heap.size := hb.size
    clear KR_0 KO_0 BB_0 hb
    have fR0 := bkC (v := .slice A0 r.records.length C0) KR_1.out 0 rfl
    have fR1 := bkC (v := .slice A1 r.changes.length C1) KR_1.out 1 rfl
    go_wp2_with fail
    refine (validRegister_any r _ _ _ ((rr0.below BB_1.out).mono (by omega)) ((rr1.below BB_1.out).mono (by omega)) hl0 hl1 hk_r).mono ?_
    rintro e X2 ⟨rfl, hb⟩
    clear fR0 fR1
    have KR_2 := Lib.hid (bkB KR_1.out hb (by omega))
    have KO_2 := Lib.hid (bkB KO_1.out hb (by omega))
    have BB_2 := Lib.hid (BB_1.out.trans (hb.mono (by omega)))
    have zz2 : X1.heap.size ≤ X2.heap.size := hb.size
    clear KR_1 KO_1 BB_1 hb
    rw [h1]
    go_wp2_with fail
    refine (isName_any key _ hkk).mono ?_
    rintro e _ ⟨rfl, rfl⟩
    rw [h2]
    go_wp2_with fail
    refine (isValue_any value _ hkv).mono ?_
    rintro e _ ⟨rfl, rfl⟩
    rw [h3]
    go_wp2_with fail
    refine (dayOk_any day _).mono ?_
    rintro e _ ⟨rfl, rfl⟩
    rw [h4]
    have fR0 := bkC (v := .slice A0 r.records.length C0) KR_2.out 0 rfl
    have fR1 := bkC (v := .slice A1 r.changes.length C1) KR_2.out 1 rfl
    go_wp2_with fail
    refine (isLater_any r day _ _ w.heap.size _ (rr1.below BB_2.out) (by omega) hl1).mono ?_
    rintro e X3 ⟨rfl, hb⟩
    clear fR0 fR1
    have KR_3 := Lib.hid (bkB KR_2.out hb (by omega))
    have KO_3 := Lib.hid (bkB KO_2.out hb (by omega))
    have BB_3 := Lib.hid (BB_2.out.trans (hb.mono (by omega)))
    have zz3 : X2.heap.size ≤ X3.heap.size := hb.size
    clear KR_2 KO_2 BB_2 hb
    rw [h5]
    have fR0 := bkC (v := .slice A0 r.records.length C0) KR_3.out 0 rfl
    have fR1 := bkC (v := .slice A1 r.changes.length C1) KR_3.out 1 rfl
    have fO0 := bkC (v := .slice none 0 0) KO_3.out 0 rfl
    have fO1 := bkC (v := .slice none 0 0) KO_3.out 1 rfl
    have zO := bkF KO_3.out
    go_wp2
    have BF := Lib.hid (((BB_3.out).setCell (p := ⟨w.heap.size + 1, 0, none⟩) (by show w.heap.size ≤ w.heap.size + 1; omega) (.slice none 0 0)).setCell (p := ⟨w.heap.size + 1, 1, none⟩) (by show w.heap.size ≤ w.heap.size + 1; omega) (.slice none 0 0))
    refine bodyPost_ret (v := .tuple #[.agg #[.slice none 0 0, .slice none 0 0], .int .i64 7]) (by simp [results, Try.results7, go_sem, *]) rfl ?_
    exact NewR.zero HE.out rfl BF.out
  replace h5 : laterB r day = false := Bool.eq_false_iff.2 h5
  by_cases h6 : eqS (valOf r.records key) value = true
  case pos =>
    have HE := Lib.hid (setRecR_6 h1 h2 h3 h4 h5 h6)
    have BB0_ : Below w.heap.size w ((w.alloc (.cells #[.slice A0 r.records.length C0, .slice A1 r.changes.length C1] 30)).alloc (.cells #[.slice none 0 0, .slice none 0 0] 30)) := Below.alloc (Below.alloc (Below.refl _ _) (by first | exact Nat.le_refl _ | (simp; done) | (simp; omega)) _) (by first | exact Nat.le_refl _ | (simp; done) | (simp; omega)) _
    have zz0 : w.heap.size + 2 ≤ ((w.alloc (.cells #[.slice A0 r.records.length C0, .slice A1 r.changes.length C1] 30)).alloc (.cells #[.slice none 0 0, .slice none 0 0] 30)).heap.size := by simp
    have k_R : ((w.alloc (.cells #[.slice A0 r.records.length C0, .slice A1 r.changes.length C1] 30)).alloc (.cells #[.slice none 0 0, .slice none 0 0] 30)).heap[w.heap.size]? = some (.cells #[.slice A0 r.records.length C0, .slice A1 r.changes.length C1] 30 (0, 0)) := by
      have h := bkN w #[.slice A0 r.records.length C0, .slice A1 r.changes.length C1] 30
      replace h := bkA h (by first | (simp; done) | (simp; omega)) (.cells #[.slice none 0 0, .slice none 0 0] 30)
      exact h
    have KR_0 := Lib.hid k_R
    have k_O : ((w.alloc (.cells #[.slice A0 r.records.length C0, .slice A1 r.changes.length C1] 30)).alloc (.cells #[.slice none 0 0, .slice none 0 0] 30)).heap[w.heap.size + 1]? = some (.cells #[.slice none 0 0, .slice none 0 0] 30 (0, 0)) := by
      have h := bkN (w.alloc (.cells #[.slice A0 r.records.length C0, .slice A1 r.changes.length C1] 30)) #[.slice none 0 0, .slice none 0 0] 30
      rw [show (w.alloc (.cells #[.slice A0 r.records.length C0, .slice A1 r.changes.length C1] 30)).heap.size = w.heap.size + 1 by simp] at h
      exact h
    have KO_0 := Lib.hid k_O
    clear k_R k_O
    have BB_0 := Lib.hid BB0_
    clear BB0_
    go_enter Try.func7, Try.ntmps7
    go_upto_region 1 with (fail)
    generalize ((w.alloc (.cells #[.slice A0 r.records.length C0, .slice A1 r.changes.length C1] 30)).alloc (.cells #[.slice none 0 0, .slice none 0 0] 30)) = W0 at *
    have fR0 := bkC (v := .slice A0 r.records.length C0) KR_0.out 0 rfl
    have fR1 := bkC (v := .slice A1 r.changes.length C1) KR_0.out 1 rfl
    go_wp2_with fail
    refine (valueOf_any r.records key _ w.heap.size _ (rr0.below BB_0.out) (by omega) (by omega)).mono ?_
    rintro e X1 ⟨rfl, hb⟩
    clear fR0 fR1
    have KR_1 := Lib.hid (bkB KR_0.out hb (by omega))
    have KO_1 := Lib.hid (bkB KO_0.out hb (by omega))
    have BB_1 := Lib.hid (BB_0.out.trans (hb.mono (by omega)))
    have zz1 : W0.heap.size ≤ X1.heap.size := hb.size
    clear KR_0 KO_0 BB_0 hb
    have fR0 := bkC (v := .slice A0 r.records.length C0) KR_1.out 0 rfl
    have fR1 := bkC (v := .slice A1 r.changes.length C1) KR_1.out 1 rfl
    go_wp2_with fail
    refine (validRegister_any r _ _ _ ((rr0.below BB_1.out).mono (by omega)) ((rr1.below BB_1.out).mono (by omega)) hl0 hl1 hk_r).mono ?_
    rintro e X2 ⟨rfl, hb⟩
    clear fR0 fR1
    have KR_2 := Lib.hid (bkB KR_1.out hb (by omega))
    have KO_2 := Lib.hid (bkB KO_1.out hb (by omega))
    have BB_2 := Lib.hid (BB_1.out.trans (hb.mono (by omega)))
    have zz2 : X1.heap.size ≤ X2.heap.size := hb.size
    clear KR_1 KO_1 BB_1 hb
    rw [h1]
    go_wp2_with fail
    refine (isName_any key _ hkk).mono ?_
    rintro e _ ⟨rfl, rfl⟩
    rw [h2]
    go_wp2_with fail
    refine (isValue_any value _ hkv).mono ?_
    rintro e _ ⟨rfl, rfl⟩
    rw [h3]
    go_wp2_with fail
    refine (dayOk_any day _).mono ?_
    rintro e _ ⟨rfl, rfl⟩
    rw [h4]
    have fR0 := bkC (v := .slice A0 r.records.length C0) KR_2.out 0 rfl
    have fR1 := bkC (v := .slice A1 r.changes.length C1) KR_2.out 1 rfl
    go_wp2_with fail
    refine (isLater_any r day _ _ w.heap.size _ (rr1.below BB_2.out) (by omega) hl1).mono ?_
    rintro e X3 ⟨rfl, hb⟩
    clear fR0 fR1
    have KR_3 := Lib.hid (bkB KR_2.out hb (by omega))
    have KO_3 := Lib.hid (bkB KO_2.out hb (by omega))
    have BB_3 := Lib.hid (BB_2.out.trans (hb.mono (by omega)))
    have zz3 : X2.heap.size ≤ X3.heap.size := hb.size
    clear KR_2 KO_2 BB_2 hb
    rw [h5]
    have d6 : ((valOf r.records key).toList == value.toList) = true := h6
    have fR0 := bkC (v := .slice A0 r.records.length C0) KR_3.out 0 rfl
    have fR1 := bkC (v := .slice A1 r.changes.length C1) KR_3.out 1 rfl
    have fO0 := bkC (v := .slice none 0 0) KO_3.out 0 rfl
    have fO1 := bkC (v := .slice none 0 0) KO_3.out 1 rfl
    have zO := bkF KO_3.out
    go_wp2
    have BF := Lib.hid (((BB_3.out).setCell (p := ⟨w.heap.size + 1, 0, none⟩) (by show w.heap.size ≤ w.heap.size + 1; omega) (.slice none 0 0)).setCell (p := ⟨w.heap.size + 1, 1, none⟩) (by show w.heap.size ≤ w.heap.size + 1; omega) (.slice none 0 0))
    refine bodyPost_ret (v := .tuple #[.agg #[.slice none 0 0, .slice none 0 0], .int .i64 4]) (by simp [results, Try.results7, go_sem, *]) rfl ?_
    exact NewR.zero HE.out rfl BF.out
  replace h6 : eqS (valOf r.records key) value = false := Bool.eq_false_iff.2 h6
  have HE := Lib.hid (setRecR_7 h1 h2 h3 h4 h5 h6)
  obtain ⟨_, s2, s3, s4⟩ := regB_state h1
  have HS := Lib.hid s2
  have HVE := Lib.hid (valueB_ne h3)
  clear s2
  have BB0_ : Below w.heap.size w ((w.alloc (.cells #[.slice A0 r.records.length C0, .slice A1 r.changes.length C1] 30)).alloc (.cells #[.slice none 0 0, .slice none 0 0] 30)) := Below.alloc (Below.alloc (Below.refl _ _) (by first | exact Nat.le_refl _ | (simp; done) | (simp; omega)) _) (by first | exact Nat.le_refl _ | (simp; done) | (simp; omega)) _
  have zz0 : w.heap.size + 2 ≤ ((w.alloc (.cells #[.slice A0 r.records.length C0, .slice A1 r.changes.length C1] 30)).alloc (.cells #[.slice none 0 0, .slice none 0 0] 30)).heap.size := by simp
  have k_R : ((w.alloc (.cells #[.slice A0 r.records.length C0, .slice A1 r.changes.length C1] 30)).alloc (.cells #[.slice none 0 0, .slice none 0 0] 30)).heap[w.heap.size]? = some (.cells #[.slice A0 r.records.length C0, .slice A1 r.changes.length C1] 30 (0, 0)) := by
    have h := bkN w #[.slice A0 r.records.length C0, .slice A1 r.changes.length C1] 30
    replace h := bkA h (by first | (simp; done) | (simp; omega)) (.cells #[.slice none 0 0, .slice none 0 0] 30)
    exact h
  have KR_0 := Lib.hid k_R
  have k_O : ((w.alloc (.cells #[.slice A0 r.records.length C0, .slice A1 r.changes.length C1] 30)).alloc (.cells #[.slice none 0 0, .slice none 0 0] 30)).heap[w.heap.size + 1]? = some (.cells #[.slice none 0 0, .slice none 0 0] 30 (0, 0)) := by
    have h := bkN (w.alloc (.cells #[.slice A0 r.records.length C0, .slice A1 r.changes.length C1] 30)) #[.slice none 0 0, .slice none 0 0] 30
    rw [show (w.alloc (.cells #[.slice A0 r.records.length C0, .slice A1 r.changes.length C1] 30)).heap.size = w.heap.size + 1 by simp] at h
    exact h
  have KO_0 := Lib.hid k_O
  clear k_R k_O
  have BB_0 := Lib.hid BB0_
  clear BB0_
  go_enter Try.func7, Try.ntmps7
  go_upto_region 1 with (fail)
  generalize ((w.alloc (.cells #[.slice A0 r.records.length C0, .slice A1 r.changes.length C1] 30)).alloc (.cells #[.slice none 0 0, .slice none 0 0] 30)) = W0 at *
  have fR0 := bkC (v := .slice A0 r.records.length C0) KR_0.out 0 rfl
  have fR1 := bkC (v := .slice A1 r.changes.length C1) KR_0.out 1 rfl
  go_wp2_with fail
  refine (valueOf_any r.records key _ w.heap.size _ (rr0.below BB_0.out) (by omega) (by omega)).mono ?_
  rintro e X1 ⟨rfl, hb⟩
  clear fR0 fR1
  have KR_1 := Lib.hid (bkB KR_0.out hb (by omega))
  have KO_1 := Lib.hid (bkB KO_0.out hb (by omega))
  have BB_1 := Lib.hid (BB_0.out.trans (hb.mono (by omega)))
  have zz1 : W0.heap.size ≤ X1.heap.size := hb.size
  clear KR_0 KO_0 BB_0 hb
  have fR0 := bkC (v := .slice A0 r.records.length C0) KR_1.out 0 rfl
  have fR1 := bkC (v := .slice A1 r.changes.length C1) KR_1.out 1 rfl
  go_wp2_with fail
  refine (validRegister_any r _ _ _ ((rr0.below BB_1.out).mono (by omega)) ((rr1.below BB_1.out).mono (by omega)) hl0 hl1 hk_r).mono ?_
  rintro e X2 ⟨rfl, hb⟩
  clear fR0 fR1
  have KR_2 := Lib.hid (bkB KR_1.out hb (by omega))
  have KO_2 := Lib.hid (bkB KO_1.out hb (by omega))
  have BB_2 := Lib.hid (BB_1.out.trans (hb.mono (by omega)))
  have zz2 : X1.heap.size ≤ X2.heap.size := hb.size
  clear KR_1 KO_1 BB_1 hb
  rw [h1]
  go_wp2_with fail
  refine (isName_any key _ hkk).mono ?_
  rintro e _ ⟨rfl, rfl⟩
  rw [h2]
  go_wp2_with fail
  refine (isValue_any value _ hkv).mono ?_
  rintro e _ ⟨rfl, rfl⟩
  rw [h3]
  go_wp2_with fail
  refine (dayOk_any day _).mono ?_
  rintro e _ ⟨rfl, rfl⟩
  rw [h4]
  have fR0 := bkC (v := .slice A0 r.records.length C0) KR_2.out 0 rfl
  have fR1 := bkC (v := .slice A1 r.changes.length C1) KR_2.out 1 rfl
  go_wp2_with fail
  refine (isLater_any r day _ _ w.heap.size _ (rr1.below BB_2.out) (by omega) hl1).mono ?_
  rintro e X3 ⟨rfl, hb⟩
  clear fR0 fR1
  have KR_3 := Lib.hid (bkB KR_2.out hb (by omega))
  have KO_3 := Lib.hid (bkB KO_2.out hb (by omega))
  have BB_3 := Lib.hid (BB_2.out.trans (hb.mono (by omega)))
  have zz3 : X2.heap.size ≤ X3.heap.size := hb.size
  clear KR_2 KO_2 BB_2 hb
  rw [h5]
  have d6 : ((valOf r.records key).toList == value.toList) = false := h6
  have fR0 := bkC (v := .slice A0 r.records.length C0) KR_3.out 0 rfl
  have fR1 := bkC (v := .slice A1 r.changes.length C1) KR_3.out 1 rfl
  go_wp2_with fail
  refine (with_any r (⟨day, key, valOf r.records key, value⟩ : DChange) _ _ _ ((rr0.below BB_3.out).mono (by omega)) ((rr1.below BB_3.out).mono (by omega)) (by omega) (by omega) HS.out (fun h => absurd h (by rw [HVE.out]; simp))).mono ?_
  rintro e X4 ⟨a0, c0, a1, c1, fp, rfl, hb, ov, iv⟩
  clear fR0 fR1
  have KR_4 := Lib.hid (bkB KR_3.out hb (by omega))
  have KO_4 := Lib.hid (bkB KO_3.out hb (by omega))
  have BB_4 := Lib.hid (BB_3.out.trans (hb.mono (by omega)))
  have zz4 : X3.heap.size ≤ X4.heap.size := hb.size
  clear KR_3 KO_3 BB_3 hb
  have OV := Lib.hid ov
  have IV := Lib.hid iv
  clear ov iv
  generalize hW : withR r (⟨day, key, valOf r.records key, value⟩ : DChange) = WR at *
  clear hW
  have fO0 := bkC (v := .slice none 0 0) KO_4.out 0 rfl
  have fO1 := bkC (v := .slice none 0 0) KO_4.out 1 rfl
  have zO := bkF KO_4.out
  have INE : ¬ (w.heap.size + 1 ∈ fp) := fun e => by have := IV.out _ e; omega
  have HINE := Lib.hid INE
  clear INE
  go_wp2
  have BF := Lib.hid (((BB_4.out).setCell (p := ⟨w.heap.size + 1, 0, none⟩) (by show w.heap.size ≤ w.heap.size + 1; omega) (.slice a0 WR.1.records.length c0)).setCell (p := ⟨w.heap.size + 1, 1, none⟩) (by show w.heap.size ≤ w.heap.size + 1; omega) (.slice a1 WR.1.changes.length c1))
  refine bodyPost_ret (v := .tuple #[.agg #[.slice a0 WR.1.records.length c0, .slice a1 WR.1.changes.length c1], .int .i64 WR.2]) (by simp [results, Try.results7, go_sem, *]) rfl ?_
  rw [HE.out]
  exact ⟨a0, c0, a1, c1, fp, rfl, BF.out, (OV.out.setFar (p := ⟨w.heap.size + 1, 0, none⟩) HINE.out _).setFar (p := ⟨w.heap.size + 1, 1, none⟩) HINE.out _, by simp only [size_setCell]; exact IV.out.mono (by omega) (Nat.le_refl _)⟩
end Go.Proofs.Ytemdeoeljfcfjaa
