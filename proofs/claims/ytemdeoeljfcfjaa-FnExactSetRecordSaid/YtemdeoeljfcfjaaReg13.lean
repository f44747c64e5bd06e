/- Contract: SetRecord of the reference. Conditions: bounded lengths. -/
import Derived.Test.YtemdeoeljfcfjaaReg9s
import Derived.Test.YtemdeoeljfcfjaaReg11
import Derived.Test.YtemdeoeljfcfjaaReg12
namespace Go.Proofs.Ytemdeoeljfcfjaa
open Go.RowKit
set_option linter.unusedVariables false
set_option linter.unusedSimpArgs false

theorem eqS_symm (a b : ByteArray) : eqS a b = eqS b a := by
  cases h : eqS b a with
  | true => exact eqS_iff.2 (eqS_iff.1 h).symm
  | false => exact eqS_false.2 (fun e => (eqS_false.1 h) e.symm)
theorem setRecR_add {r : DRegister} {key value : ByteArray} {day : Int} (h : regB r = true) (h2 : nameB key = true) (h3 : valueB value = true) (h4 : dayB day = true) : setRecR r key value day = addR r key value day := by
  unfold setRecR addR
  rw [if_pos h, if_pos h2, if_pos h3, if_pos h4, valueB_ne h3, Bool.false_and, eqS_symm value]
  simp only [Bool.false_eq_true, if_false]
set_option maxHeartbeats 8000000 in
set_option maxRecDepth 100000 in
theorem sSetRecord_std (r : DRegister) (key : ByteArray) (value : ByteArray) (day : Int) (vr0 vr1 : Value) (w : World) (rr0 : Rd w.heap.size w (DRecord.sT r.records) vr0) (rr1 : Rd w.heap.size w (DChange.sT r.changes) vr1) (hs_r : sizL r.tr ≤ 1048576) (hk_r : r.ok) (hs_key : key.size ≤ 1048576) (hs_value : value.size ≤ 1048576) (hk_day : I64 day) :
    Calls Try.prog 5 #[.agg #[vr0, vr1], .string key, .string value, .int .i64 day] w (fun e w' => ∃ a0_0 c0_0 a0_1 c0_1 fp0, e = .returned (.tuple #[.agg #[.slice a0_0 (setRecR r key value day).1.records.length c0_0, .slice a0_1 (setRecR r key value day).1.changes.length c0_1], .int .i64 (setRecR r key value day).2]) ∧ Below w.heap.size w w' ∧ OwnV w' (setRecR r key value day).1.tr [.slice a0_0 (setRecR r key value day).1.records.length c0_0, .slice a0_1 (setRecR r key value day).1.changes.length c0_1] fp0 ∧ In w.heap.size w'.heap.size fp0) := by
  show Calls Try.prog _ _ w (NewR (setRecR r key value day) w)
  have hq := DRegister.siz_tr r
  rw [DRecord.siz_s, DChange.siz_s] at hq
  have hl0 : r.records.length ≤ 1048576 := by omega
  have hl1 : r.changes.length ≤ 1048576 := by omega
  clear hq hs_r
  obtain ⟨A0, C0, rfl, _, _, _⟩ := DRecord.rd rr0
  obtain ⟨A1, C1, rfl, _, _, _⟩ := DChange.rd rr1
  have hkk : key.size ≤ maxLen := by unfold maxLen; omega
  have hkv : value.size ≤ maxLen := by unfold maxLen; omega
  by_cases h1 : regB r = true
  case neg =>
    replace h1 : regB r = false := Bool.eq_false_iff.2 h1
    have HE := Lib.hid (setRecR_1 (key := key) (value := value) (day := day) h1)
    have BB0_ : Below w.heap.size w ((w.alloc (.cells #[.slice A0 r.records.length C0, .slice A1 r.changes.length C1] 30)).alloc (.cells #[.slice none 0 0, .slice none 0 0] 30)) := Below.alloc (Below.alloc (Below.refl _ _) (by first | exact Nat.le_refl _ | (simp; done) | (simp; omega)) _) (by first | exact Nat.le_refl _ | (simp; done) | (simp; omega)) _
    have zz0 : w.heap.size + 2 ≤ ((w.alloc (.cells #[.slice A0 r.records.length C0, .slice A1 r.changes.length C1] 30)).alloc (.cells #[.slice none 0 0, .slice none 0 0] 30)).heap.size := by simp
    have k_R : ((w.alloc (.cells #[.slice A0 r.records.length C0, .slice A1 r.changes.length C1] 30)).alloc (.cells #[.slice none 0 0, .slice none 0 0] 30)).heap[w.heap.size]? = some (.cells #[.slice A0 r.records.length C0, .slice A1 r.changes.length C1] 30 (0, 0)) := by
      have h := bkN w #[.slice A0 r.records.length C0, .slice A1 r.changes.length C1] 30
      replace h := bkA h (by first | (simp; done) | (simp; omega)) (.cells #[.slice none 0 0, .slice none 0 0] 30)
      exact h
    have KR_0 := Lib.hid k_R
    have k_O : ((w.alloc (.cells #[.slice A0 r.records.length C0, .slice A1 r.changes.length C1] 30)).alloc (.cells #[.slice none 0 0, .slice none 0 0] 30)).heap[w.heap.size + 1]? = some (.cells #[.slice none 0 0, .slice none 0 0] 30 (0, 0)) := by
      have h := bkN (w.alloc (.cells #[.slice A0 r.records.length C0, .slice A1 r.changes.length C1] 30)) #[.slice none 0 0, .slice none 0 0] 30
      rw [show (w.alloc (.cells #[.slice A0 r.records.length C0, .slice A1 r.changes.length C1] 30)).heap.size = w.heap.size + 1 by simp] at h
      exact h
    have KO_0 := Lib.hid k_O
    clear k_R k_O
    have BB_0 := Lib.hid BB0_
    clear BB0_
    go_enter Try.func5, Try.ntmps5
    go_upto_region 1 with (fail)
    generalize ((w.alloc (.cells #[.slice A0 r.records.length C0, .slice A1 r.changes.length C1] 30)).alloc (.cells #[.slice none 0 0, .slice none 0 0] 30)) = W0 at *
    have p0 := bkC (v := .slice A0 r.records.length C0) KR_0.out 0 rfl
    have p1 := bkC (v := .slice A1 r.changes.length C1) KR_0.out 1 rfl
    have PP0 := Lib.hid p0
    have PP1 := Lib.hid p1
    clear p0 p1
    have fR0 := bkC (v := .slice A0 r.records.length C0) KR_0.out 0 rfl
    have fR1 := bkC (v := .slice A1 r.changes.length C1) KR_0.out 1 rfl
    go_wp2_with fail
    refine (l28Ok_any r _ _ w.heap.size _ ((rr0.below BB_0.out).mono (by omega)) ((rr1.below BB_0.out).mono (by omega)) PP0.out PP1.out (by omega) hl0 hl1 hk_r).mono ?_
    rintro e X1 ⟨rfl, hb⟩
    clear fR0 fR1
    have KR_1 := Lib.hid (bkB KR_0.out hb (by omega))
    have KO_1 := Lib.hid (bkB KO_0.out hb (by omega))
    have BB_1 := Lib.hid (BB_0.out.trans (hb.mono (by omega)))
    have zz1 : W0.heap.size ≤ X1.heap.size := hb.size
    clear KR_0 KO_0 BB_0 hb
    rw [h1]
    have fR0 := bkC (v := .slice A0 r.records.length C0) KR_1.out 0 rfl
    have fR1 := bkC (v := .slice A1 r.changes.length C1) KR_1.out 1 rfl
    have fO0 := bkC (v := .slice none 0 0) KO_1.out 0 rfl
    have fO1 := bkC (v := .slice none 0 0) KO_1.out 1 rfl
    have zO := bkF KO_1.out
    go_wp2
    have BF := Lib.hid (((BB_1.out).setCell (p := ⟨w.heap.size + 1, 0, none⟩) (by show w.heap.size ≤ w.heap.size + 1; omega) (.slice none 0 0)).setCell (p := ⟨w.heap.size + 1, 1, none⟩) (by show w.heap.size ≤ w.heap.size + 1; omega) (.slice none 0 0))
    refine bodyPost_ret (v := .tuple #[.agg #[.slice none 0 0, .slice none 0 0], .int .i64 1]) (by simp [results, Try.results5, go_sem, *]) rfl ?_
    exact NewR.zero HE.out rfl BF.out
  by_cases h2 : nameB key = true
  case neg =>
    replace h2 : nameB key = false := Bool.eq_false_iff.2 h2
    have HE := Lib.hid (setRecR_2 (value := value) (day := day) h1 h2)
    have BB0_ : Below w.heap.size w ((w.alloc (.cells #[.slice A0 r.records.length C0, .slice A1 r.changes.length C1] 30)).alloc (.cells #[.slice none 0 0, .slice none 0 0] 30)) := Below.alloc (Below.alloc (Below.refl _ _) (by first | exact Nat.le_refl _ | (simp; done) | (simp; omega)) _) (by first | exact Nat.le_refl _ | (simp; done) | (simp; omega)) _
    have zz0 : w.heap.size + 2 ≤ ((w.alloc (.cells #[.slice A0 r.records.length C0, .slice A1 r.changes.length C1] 30)).alloc (.cells #[.slice none 0 0, .slice none 0 0] 30)).heap.size := by simp
    have k_R : ((w.alloc (.cells #[.slice A0 r.records.length C0, .slice A1 r.changes.length C1] 30)).alloc (.cells #[.slice none 0 0, .slice none 0 0] 30)).heap[w.heap.size]? = some (.cells #[.slice A0 r.records.length C0, .slice A1 r.changes.length C1] 30 (0, 0)) := by
      have h := bkN w #[.slice A0 r.records.length C0, .slice A1 r.changes.length C1] 30
      replace h := bkA h (by first | (simp; done) | (simp; omega)) (.cells #[.slice none 0 0, .slice none 0 0] 30)
      exact h
    have KR_0 := Lib.hid k_R
    have k_O : ((w.alloc (.cells #[.slice A0 r.records.length C0, .slice A1 r.changes.length C1] 30)).alloc (.cells #[.slice none 0 0, .slice none 0 0] 30)).heap[w.heap.size + 1]? = some (.cells #[.slice none 0 0, .slice none 0 0] 30 (0, 0)) := by
      have h := bkN (w.alloc (.cells #[.slice A0 r.records.length C0, .slice A1 r.changes.length C1] 30)) #[.slice none 0 0, .slice none 0 0] 30
      rw [show (w.alloc (.cells #[.slice A0 r.records.length C0, .slice A1 r.changes.length C1] 30)).heap.size = w.heap.size + 1 by simp] at h
      exact h
    have KO_0 := Lib.hid k_O
    clear k_R k_O
    have BB_0 := Lib.hid BB0_
    clear BB0_
    go_enter Try.func5, Try.ntmps5
    go_upto_region 1 with (fail)
    generalize ((w.alloc (.cells #[.slice A0 r.records.length C0, .slice A1 r.changes.length C1] 30)).alloc (.cells #[.slice none 0 0, .slice none 0 0] 30)) = W0 at *
    have p0 := bkC (v := .slice A0 r.records.length C0) KR_0.out 0 rfl
    have p1 := bkC (v := .slice A1 r.changes.length C1) KR_0.out 1 rfl
    have PP0 := Lib.hid p0
    have PP1 := Lib.hid p1
    clear p0 p1
    have fR0 := bkC (v := .slice A0 r.records.length C0) KR_0.out 0 rfl
    have fR1 := bkC (v := .slice A1 r.changes.length C1) KR_0.out 1 rfl
    go_wp2_with fail
    refine (l28Ok_any r _ _ w.heap.size _ ((rr0.below BB_0.out).mono (by omega)) ((rr1.below BB_0.out).mono (by omega)) PP0.out PP1.out (by omega) hl0 hl1 hk_r).mono ?_
    rintro e X1 ⟨rfl, hb⟩
    clear fR0 fR1
    have KR_1 := Lib.hid (bkB KR_0.out hb (by omega))
    have KO_1 := Lib.hid (bkB KO_0.out hb (by omega))
    have BB_1 := Lib.hid (BB_0.out.trans (hb.mono (by omega)))
    have zz1 : W0.heap.size ≤ X1.heap.size := hb.size
    clear KR_0 KO_0 BB_0 hb
    rw [h1]
    go_wp2_with fail
    refine (l01Name_any key _ hkk).mono ?_
    rintro e _ ⟨rfl, rfl⟩
    rw [h2]
    have fR0 := bkC (v := .slice A0 r.records.length C0) KR_1.out 0 rfl
    have fR1 := bkC (v := .slice A1 r.changes.length C1) KR_1.out 1 rfl
    have fO0 := bkC (v := .slice none 0 0) KO_1.out 0 rfl
    have fO1 := bkC (v := .slice none 0 0) KO_1.out 1 rfl
    have zO := bkF KO_1.out
    go_wp2
    have BF := Lib.hid (((BB_1.out).setCell (p := ⟨w.heap.size + 1, 0, none⟩) (by show w.heap.size ≤ w.heap.size + 1; omega) (.slice none 0 0)).setCell (p := ⟨w.heap.size + 1, 1, none⟩) (by show w.heap.size ≤ w.heap.size + 1; omega) (.slice none 0 0))
    refine bodyPost_ret (v := .tuple #[.agg #[.slice none 0 0, .slice none 0 0], .int .i64 1]) (by simp [results, Try.results5, go_sem, *]) rfl ?_
    exact NewR.zero HE.out rfl BF.out
  by_cases h3 : valueB value = true
  case neg =>
    replace h3 : valueB value = false := Bool.eq_false_iff.2 h3
    have HE := Lib.hid (setRecR_3 (day := day) h1 h2 h3)
    have BB0_ : Below w.heap.size w ((w.alloc (.cells #[.slice A0 r.records.length C0, .slice A1 r.changes.length C1] 30)).alloc (.cells #[.slice none 0 0, .slice none 0 0] 30)) := Below.alloc (Below.alloc (Below.refl _ _) (by first | exact Nat.le_refl _ | (simp; done) | (simp; omega)) _) (by first | exact Nat.le_refl _ | (simp; done) | (simp; omega)) _
    have zz0 : w.heap.size + 2 ≤ ((w.alloc (.cells #[.slice A0 r.records.length C0, .slice A1 r.changes.length C1] 30)).alloc (.cells #[.slice none 0 0, .slice none 0 0] 30)).heap.size := by simp
    have k_R : ((w.alloc (.cells #[.slice A0 r.records.length C0, .slice A1 r.changes.length C1] 30)).alloc (.cells #[.slice none 0 0, .slice none 0 0] 30)).heap[w.heap.size]? = some (.cells #[.slice A0 r.records.length C0, .slice A1 r.changes.length C1] 30 (0, 0)) := by
      have h := bkN w #[.slice A0 r.records.length C0, .slice A1 r.changes.length C1] 30
      replace h := bkA h (by first | (simp; done) | (simp; omega)) (.cells #[.slice none 0 0, .slice none 0 0] 30)
      exact h
    have KR_0 := Lib.hid k_R
    have k_O : ((w.alloc (.cells #[.slice A0 r.records.length C0, .slice A1 r.changes.length C1] 30)).alloc (.cells #[.slice none 0 0, .slice none 0 0] 30)).heap[w.heap.size + 1]? = some (.cells #[.slice none 0 0, .slice none 0 0] 30 (0, 0)) := by
      have h := bkN (w.alloc (.cells #[.slice A0 r.records.length C0, .slice A1 r.changes.length C1] 30)) #[.slice none 0 0, .slice none 0 0] 30
      rw [show (w.alloc (.cells #[.slice A0 r.records.length C0, .slice A1 r.changes.length C1] 30)).heap.size = w.heap.size + 1 by simp] at h
      exact h
    have KO_0 := Lib.hid k_O
    clear k_R k_O
    have BB_0 := Lib.hid BB0_
    clear BB0_
    go_enter Try.func5, Try.ntmps5
    go_upto_region 1 with (fail)
    generalize ((w.alloc (.cells #[.slice A0 r.records.length C0, .slice A1 r.changes.length C1] 30)).alloc (.cells #[.slice none 0 0, .slice none 0 0] 30)) = W0 at *
    have p0 := bkC (v := .slice A0 r.records.length C0) KR_0.out 0 rfl
    have p1 := bkC (v := .slice A1 r.changes.length C1) KR_0.out 1 rfl
    have PP0 := Lib.hid p0
    have PP1 := Lib.hid p1
    clear p0 p1
    have fR0 := bkC (v := .slice A0 r.records.length C0) KR_0.out 0 rfl
    have fR1 := bkC (v := .slice A1 r.changes.length C1) KR_0.out 1 rfl
    go_wp2_with fail
    refine (l28Ok_any r _ _ w.heap.size _ ((rr0.below BB_0.out).mono (by omega)) ((rr1.below BB_0.out).mono (by omega)) PP0.out PP1.out (by omega) hl0 hl1 hk_r).mono ?_
    rintro e X1 ⟨rfl, hb⟩
    clear fR0 fR1
    have KR_1 := Lib.hid (bkB KR_0.out hb (by omega))
    have KO_1 := Lib.hid (bkB KO_0.out hb (by omega))
    have BB_1 := Lib.hid (BB_0.out.trans (hb.mono (by omega)))
    have zz1 : W0.heap.size ≤ X1.heap.size := hb.size
    clear KR_0 KO_0 BB_0 hb
    rw [h1]
    go_wp2_with fail
    refine (l01Name_any key _ hkk).mono ?_
    rintro e _ ⟨rfl, rfl⟩
    rw [h2]
    go_wp2_with fail
    refine (l28Value_any value _ hkv).mono ?_
    rintro e _ ⟨rfl, rfl⟩
    rw [h3]
    have fR0 := bkC (v := .slice A0 r.records.length C0) KR_1.out 0 rfl
    have fR1 := bkC (v := .slice A1 r.changes.length C1) KR_1.out 1 rfl
    have fO0 := bkC (v := .slice none 0 0) KO_1.out 0 rfl
    have fO1 := bkC (v := .slice none 0 0) KO_1.out 1 rfl
    have zO := bkF KO_1.out
    go_wp2
    have BF := Lib.hid (((BB_1.out).setCell (p := ⟨w.heap.size + 1, 0, none⟩) (by show w.heap.size ≤ w.heap.size + 1; omega) (.slice none 0 0)).setCell (p := ⟨w.heap.size + 1, 1, none⟩) (by show w.heap.size ≤ w.heap.size + 1; omega) (.slice none 0 0))
    refine bodyPost_ret (v := .tuple #[.agg #[.slice none 0 0, .slice none 0 0], .int .i64 1]) (by simp [results, Try.results5, go_sem, *]) rfl ?_
    exact NewR.zero HE.out rfl BF.out
  by_cases h4 : dayB day = true
  case neg =>
    replace h4 : dayB day = false := Bool.eq_false_iff.2 h4
    have HE := Lib.hid (setRecR_4 h1 h2 h3 h4)
    have BB0_ : Below w.heap.size w ((w.alloc (.cells #[.slice A0 r.records.length C0, .slice A1 r.changes.length C1] 30)).alloc (.cells #[.slice none 0 0, .slice none 0 0] 30)) := Below.alloc (Below.alloc (Below.refl _ _) (by first | exact Nat.le_refl _ | (simp; done) | (simp; omega)) _) (by first | exact Nat.le_refl _ | (simp; done) | (simp; omega)) _
    have zz0 : w.heap.size + 2 ≤ ((w.alloc (.cells #[.slice A0 r.records.length C0, .slice A1 r.changes.length C1] 30)).alloc (.cells #[.slice none 0 0, .slice none 0 0] 30)).heap.size := by simp
    have k_R : ((w.alloc (.cells #[.slice A0 r.records.length C0, .slice A1 r.changes.length C1] 30)).alloc (.cells #[.slice none 0 0, .slice none 0 0] 30)).heap[w.heap.size]? = some (.cells #[.slice A0 r.records.length C0, .slice A1 r.changes.length C1] 30 (0, 0)) := by
      have h := bkN w #[.slice A0 r.records.length C0, .slice A1 r.changes.length C1] 30
      replace h := bkA h (by first | (simp; done) | (simp; omega)) (.cells #[.slice none 0 0, .slice none 0 0] 30)
      exact h
    have KR_0 := Lib.hid k_R
    have k_O : ((w.alloc (.cells #[.slice A0 r.records.length C0, .slice A1 r.changes.length C1] 30)).alloc (.cells #[.slice none 0 0, .slice none 0 0] 30)).heap[w.heap.size + 1]? = some (.cells #[.slice none 0 0, .slice none 0 0] 30 (0, 0)) := by
      have h := bkN (w.alloc (.cells #[.slice A0 r.records.length C0, .slice A1 r.changes.length C1] 30)) #[.slice none 0 0, .slice none 0 0] 30
      rw [show (w.alloc (.cells #[.slice A0 r.records.length C0, .slice A1 r.changes.length C1] 30)).heap.size = w.heap.size + 1 by simp] at h
      exact h
    have KO_0 := Lib.hid k_O
    clear k_R k_O
    have BB_0 := Lib.hid BB0_
    clear BB0_
    go_enter Try.func5, Try.ntmps5
    go_upto_region 1 with (fail)
    generalize ((w.alloc (.cells #[.slice A0 r.records.length C0, .slice A1 r.changes.length C1] 30)).alloc (.cells #[.slice none 0 0, .slice none 0 0] 30)) = W0 at *
    have p0 := bkC (v := .slice A0 r.records.length C0) KR_0.out 0 rfl
    have p1 := bkC (v := .slice A1 r.changes.length C1) KR_0.out 1 rfl
    have PP0 := Lib.hid p0
    have PP1 := Lib.hid p1
    clear p0 p1
    have fR0 := bkC (v := .slice A0 r.records.length C0) KR_0.out 0 rfl
    have fR1 := bkC (v := .slice A1 r.changes.length C1) KR_0.out 1 rfl
    go_wp2_with fail
    refine (l28Ok_any r _ _ w.heap.size _ ((rr0.below BB_0.out).mono (by omega)) ((rr1.below BB_0.out).mono (by omega)) PP0.out PP1.out (by omega) hl0 hl1 hk_r).mono ?_
    rintro e X1 ⟨rfl, hb⟩
    clear fR0 fR1
    have KR_1 := Lib.hid (bkB KR_0.out hb (by omega))
    have KO_1 := Lib.hid (bkB KO_0.out hb (by omega))
    have BB_1 := Lib.hid (BB_0.out.trans (hb.mono (by omega)))
    have zz1 : W0.heap.size ≤ X1.heap.size := hb.size
    clear KR_0 KO_0 BB_0 hb
    rw [h1]
    go_wp2_with fail
    refine (l01Name_any key _ hkk).mono ?_
    rintro e _ ⟨rfl, rfl⟩
    rw [h2]
    go_wp2_with fail
    refine (l28Value_any value _ hkv).mono ?_
    rintro e _ ⟨rfl, rfl⟩
    rw [h3]
    go_wp2_with fail
    refine (l28Day_any day _).mono ?_
    rintro e _ ⟨rfl, rfl⟩
    rw [h4]
    have fR0 := bkC (v := .slice A0 r.records.length C0) KR_1.out 0 rfl
    have fR1 := bkC (v := .slice A1 r.changes.length C1) KR_1.out 1 rfl
    have fO0 := bkC (v := .slice none 0 0) KO_1.out 0 rfl
    have fO1 := bkC (v := .slice none 0 0) KO_1.out 1 rfl
    have zO := bkF KO_1.out
    go_wp2
    have BF := Lib.hid (((BB_1.out).setCell (p := ⟨w.heap.size + 1, 0, none⟩) (by show w.heap.size ≤ w.heap.size + 1; omega) (.slice none 0 0)).setCell (p := ⟨w.heap.size + 1, 1, none⟩) (by show w.heap.size ≤ w.heap.size + 1; omega) (.slice none 0 0))
    refine bodyPost_ret (v := .tuple #[.agg #[.slice none 0 0, .slice none 0 0], .int .i64 2]) (by simp [results, Try.results5, go_sem, *]) rfl ?_
    exact NewR.zero HE.out rfl BF.out
  have HE := Lib.hid (setRecR_add h1 h2 h3 h4)
  obtain ⟨_, s2, s3, s4⟩ := regB_state h1
  have HS := Lib.hid s2
  clear s2
  have BB0_ : Below w.heap.size w ((w.alloc (.cells #[.slice A0 r.records.length C0, .slice A1 r.changes.length C1] 30)).alloc (.cells #[.slice none 0 0, .slice none 0 0] 30)) := Below.alloc (Below.alloc (Below.refl _ _) (by first | exact Nat.le_refl _ | (simp; done) | (simp; omega)) _) (by first | exact Nat.le_refl _ | (simp; done) | (simp; omega)) _
  have zz0 : w.heap.size + 2 ≤ ((w.alloc (.cells #[.slice A0 r.records.length C0, .slice A1 r.changes.length C1] 30)).alloc (.cells #[.slice none 0 0, .slice none 0 0] 30)).heap.size := by simp
  have k_R : ((w.alloc (.cells #[.slice A0 r.records.length C0, .slice A1 r.changes.length C1] 30)).alloc (.cells #[.slice none 0 0, .slice none 0 0] 30)).heap[w.heap.size]? = some (.cells #[.slice A0 r.records.length C0, .slice A1 r.changes.length C1] 30 (0, 0)) := by
    have h := bkN w #[.slice A0 r.records.length C0, .slice A1 r.changes.length C1] 30
    replace h := bkA h (by first | (simp; done) | (simp; omega)) (.cells #[.slice none 0 0, .slice none 0 0] 30)
    exact h
  have KR_0 := Lib.hid k_R
  have k_O : ((w.alloc (.cells #[.slice A0 r.records.length C0, .slice A1 r.changes.length C1] 30)).alloc (.cells #[.slice none 0 0, .slice none 0 0] 30)).heap[w.heap.size + 1]? = some (.cells #[.slice none 0 0, .slice none 0 0] 30 (0, 0)) := by
    have h := bkN (w.alloc (.cells #[.slice A0 r.records.length C0, .slice A1 r.changes.length C1] 30)) #[.slice none 0 0, .slice none 0 0] 30
    rw [show (w.alloc (.cells #[.slice A0 r.records.length C0, .slice A1 r.changes.length C1] 30)).heap.size = w.heap.size + 1 by simp] at h
    exact h
  have KO_0 := Lib.hid k_O
  clear k_R k_O
  have BB_0 := Lib.hid BB0_
  clear BB0_
  go_enter Try.func5, Try.ntmps5
  go_upto_region 1 with (fail)
  generalize ((w.alloc (.cells #[.slice A0 r.records.length C0, .slice A1 r.changes.length C1] 30)).alloc (.cells #[.slice none 0 0, .slice none 0 0] 30)) = W0 at *
  have p0 := bkC (v := .slice A0 r.records.length C0) KR_0.out 0 rfl
  have p1 := bkC (v := .slice A1 r.changes.length C1) KR_0.out 1 rfl
  have PP0 := Lib.hid p0
  have PP1 := Lib.hid p1
  clear p0 p1
  have fR0 := bkC (v := .slice A0 r.records.length C0) KR_0.out 0 rfl
  have fR1 := bkC (v := .slice A1 r.changes.length C1) KR_0.out 1 rfl
  go_wp2_with fail
  refine (l28Ok_any r _ _ w.heap.size _ ((rr0.below BB_0.out).mono (by omega)) ((rr1.below BB_0.out).mono (by omega)) PP0.out PP1.out (by omega) hl0 hl1 hk_r).mono ?_
  rintro e X1 ⟨rfl, hb⟩
  clear fR0 fR1
  have KR_1 := Lib.hid (bkB KR_0.out hb (by omega))
  have KO_1 := Lib.hid (bkB KO_0.out hb (by omega))
  have BB_1 := Lib.hid (BB_0.out.trans (hb.mono (by omega)))
  have zz1 : W0.heap.size ≤ X1.heap.size := hb.size
  clear KR_0 KO_0 BB_0 hb
  rw [h1]
  go_wp2_with fail
  refine (l01Name_any key _ hkk).mono ?_
  rintro e _ ⟨rfl, rfl⟩
  rw [h2]
  go_wp2_with fail
  refine (l28Value_any value _ hkv).mono ?_
  rintro e _ ⟨rfl, rfl⟩
  rw [h3]
  go_wp2_with fail
  refine (l28Day_any day _).mono ?_
  rintro e _ ⟨rfl, rfl⟩
  rw [h4]
  have p0 := bkC (v := .slice A0 r.records.length C0) KR_1.out 0 rfl
  have p1 := bkC (v := .slice A1 r.changes.length C1) KR_1.out 1 rfl
  have PP2 := Lib.hid p0
  have PP3 := Lib.hid p1
  clear p0 p1
  go_wp2_with fail
  refine (l28Add_any r key value day A0 C0 A1 C1 w.heap.size _ ((rr0.below BB_1.out).mono (by omega)) ((rr1.below BB_1.out).mono (by omega)) PP2.out PP3.out (by omega) (by omega) (by omega) HS.out).mono ?_
  rintro e X2 ⟨a0, c0, a1, c1, fp, rfl, hb, ov, iv⟩
  have KR_2 := Lib.hid (bkB KR_1.out hb (by omega))
  have KO_2 := Lib.hid (bkB KO_1.out hb (by omega))
  have BB_2 := Lib.hid (BB_1.out.trans (hb.mono (by omega)))
  have zz2 : X1.heap.size ≤ X2.heap.size := hb.size
  clear KR_1 KO_1 BB_1 hb
  have OV := Lib.hid ov
  have IV := Lib.hid iv
  clear ov iv
  generalize hW : addR r key value day = WR at *
  clear hW
  have fO0 := bkC (v := .slice none 0 0) KO_2.out 0 rfl
  have fO1 := bkC (v := .slice none 0 0) KO_2.out 1 rfl
  have zO := bkF KO_2.out
  have INE : ¬ (w.heap.size + 1 ∈ fp) := fun e => by have := IV.out _ e; omega
  have HINE := Lib.hid INE
  clear INE
  go_wp2
  have BF := Lib.hid (((BB_2.out).setCell (p := ⟨w.heap.size + 1, 0, none⟩) (by show w.heap.size ≤ w.heap.size + 1; omega) (.slice a0 WR.1.records.length c0)).setCell (p := ⟨w.heap.size + 1, 1, none⟩) (by show w.heap.size ≤ w.heap.size + 1; omega) (.slice a1 WR.1.changes.length c1))
  refine bodyPost_ret (v := .tuple #[.agg #[.slice a0 WR.1.records.length c0, .slice a1 WR.1.changes.length c1], .int .i64 WR.2]) (by simp [results, Try.results5, go_sem, *]) rfl ?_
  rw [HE.out]
  exact ⟨a0, c0, a1, c1, fp, rfl, BF.out, (OV.out.setFar (p := ⟨w.heap.size + 1, 0, none⟩) HINE.out _).setFar (p := ⟨w.heap.size + 1, 1, none⟩) HINE.out _, by simp only [size_setCell]; exact IV.out.mono (by omega) (Nat.le_refl _)⟩
end Go.Proofs.Ytemdeoeljfcfjaa
