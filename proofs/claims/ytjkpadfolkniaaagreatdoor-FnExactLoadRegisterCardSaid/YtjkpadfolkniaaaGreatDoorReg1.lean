/- Contracts: values, days and changes are valid, for the program and for the reference. Conditions: bounded lengths. -/
import Derived.Test.YtjkpadfolkniaaaGreatDoorReg0
import Derived.Test.YtjkpadfolkniaaaGreatDoorSl
import Derived.Test.YtjkpadfolkniaaaGreatDoorHRegister
import Derived.Test.YtjkpadfolkniaaaGreatDoorProb1
import Derived.BigQuiet
import Derived.Deep.QuietTactic
import Derived.WalkLawsBesides
namespace Go.Proofs.YtjkpadfolkniaaaGreatDoor
open Go.RowKit
set_option linter.unusedVariables false
set_option linter.unusedSimpArgs false

theorem printN_true {n : Int} : printN n = true ↔ 32 ≤ n ∧ n ≤ 126 := by simp [printN]
theorem printN_false {n : Int} : printN n = false ↔ ¬ (32 ≤ n ∧ n ≤ 126) := by rw [← printN_true]; simp
theorem valueB_at {s : ByteArray} {k : Nat} (h : k < s.size) (hp : printN (s[k].toNat : Int) = false) : valueB s = false := by
  unfold valueB
  rw [all_false_at printN (bytesN s) k (by rw [bytesN_len]; exact h) (by rw [bytesN_get s k h]; exact hp)]
  rfl
theorem valueB_all {s : ByteArray} (h : (bytesN s).all printN = true) : valueB s = (decide (1 ≤ s.size) && decide (s.size ≤ 200)) := by unfold valueB; rw [h, Bool.true_and]
theorem emptyS_of {s : ByteArray} (h : eqS s emptyS = true) : s = ⟨#[]⟩ := eqS_iff.1 h
theorem eqS_empty_list {s : ByteArray} (h : eqS s emptyS = false) : s.toList.isEmpty = false ∧ (s.toList == []) = false ∧ ([] == s.toList) = false := by
  have e : emptyS.toList = [] := by rw [ByteArray.toList_eq]; rfl
  unfold eqS at h
  rw [e] at h
  refine ⟨?_, h, ?_⟩
  · rw [List.isEmpty_eq_false_iff]; intro e; rw [e] at h; cases h
  · rw [beq_eq_false_iff_ne] at h ⊢; exact fun e => h e.symm
set_option maxHeartbeats 1000000 in
theorem isValue_any (s : ByteArray) (w : World) (hs : s.size ≤ maxLen) :
    Calls Tryz.prog 72 #[.string s] w fun e w' => e = .returned (.bool (valueB s)) ∧ w = w' := by
  unfold maxLen at hs
  have hnb : (s.size : Int) ≤ 9223372036854775807 := by omega
  go_enter Tryz.func72, Tryz.ntmps72
  go_wp2
  go_loop [6] (fun i => ∃ (k : Nat), k ≤ s.size ∧ i = .int .i64 k ∧ ((bytesN s).take k).all printN = true) (fun i => s.size - (intOf i).toNat)
  case atStart => exact ⟨0, Nat.zero_le _, rfl, by simp⟩
  case round =>
    obtain ⟨k, hk, rfl, hno⟩ := hrel
    have HN := Lib.hid hno
    clear hno
    by_cases hlt : k < s.size
    · have hlt' : k < (bytesN s).length := by rw [bytesN_len]; exact hlt
      have HG := Lib.hid (bytesN_get s k hlt)
      by_cases hp : printN (s[k].toNat : Int) = true
      · obtain ⟨h1, h2⟩ := printN_true.1 hp
        have HP := Lib.hid hp
        clear hp
        go_wp2
        all_goals
          go_round
          case rel => exact ⟨k + 1, by omega, by go_num, by rw [all_take_succ _ _ k hlt', HN.out, HG.out, HP.out]; rfl⟩
          case measure => simp [intOf]; omega
      · have hp0 : printN (s[k].toNat : Int) = false := Bool.eq_false_iff.2 hp
        have hp' := printN_false.1 hp0
        have HE := Lib.hid (valueB_at hlt hp0)
        clear hp hp0
        rcases Int.lt_or_le (s[k].toNat : Int) 32 with h1 | h1
        · clear hp'
          go_wp2
          go_ret
          exact ⟨by rw [HE.out]; rfl, rfl⟩
        · have h3 : 126 < (s[k].toNat : Int) := by omega
          clear hp'
          go_wp2
          go_ret
          exact ⟨by rw [HE.out]; rfl, rfl⟩
    · obtain rfl : k = s.size := by omega
      have hall := HN.out
      rw [← bytesN_len, List.take_length] at hall
      have HV := Lib.hid (valueB_all hall)
      clear hall HN hk
      by_cases h1 : 1 ≤ s.size
      · have HE : Hid (valueB s = decide (s.size ≤ 200)) := by show _ = _; rw [HV.out, decide_eq_true h1, Bool.true_and]
        have h0 : (1 : Int) ≤ (s.size : Int) := by omega
        obtain ⟨n1, n2, n3⟩ := eqS_empty_list (s := s) (by rw [eqS_false]; intro e; rw [e] at h1; exact absurd h1 (by decide))
        go_wp2
        go_ret
        exact ⟨by rw [HE.out]; simp; omega, rfl⟩
      · have HE : Hid (valueB s = false) := by show _ = _; rw [HV.out, decide_eq_false h1]; rfl
        obtain rfl := size_zero (s := s) (by omega)
        go_wp2
        go_ret
        exact ⟨by rw [HE.out]; rfl, rfl⟩
set_option maxHeartbeats 1000000 in
theorem l28Value_any (s : ByteArray) (w : World) (hs : s.size ≤ maxLen) :
    Calls Tryz.prog 62 #[.string s] w fun e w' => e = .returned (.bool (valueB s)) ∧ w = w' := by
  unfold maxLen at hs
  have hnb : (s.size : Int) ≤ 9223372036854775807 := by omega
  go_enter Tryz.func62, Tryz.ntmps62
  go_wp2
  go_loop [3] (fun i => ∃ (k : Nat), k ≤ s.size ∧ i = .int .i64 k ∧ ((bytesN s).take k).all printN = true) (fun i => s.size - (intOf i).toNat)
  case atStart => exact ⟨0, Nat.zero_le _, rfl, by simp⟩
  case round =>
    obtain ⟨k, hk, rfl, hno⟩ := hrel
    have HN := Lib.hid hno
    clear hno
    by_cases hlt : k < s.size
    · have hlt' : k < (bytesN s).length := by rw [bytesN_len]; exact hlt
      have HG := Lib.hid (bytesN_get s k hlt)
      by_cases hp : printN (s[k].toNat : Int) = true
      · obtain ⟨h1, h2⟩ := printN_true.1 hp
        have HP := Lib.hid hp
        clear hp
        go_wp2
        all_goals
          go_round
          case rel => exact ⟨k + 1, by omega, by go_num, by rw [all_take_succ _ _ k hlt', HN.out, HG.out, HP.out]; rfl⟩
          case measure => simp [intOf]; omega
      · have hp0 : printN (s[k].toNat : Int) = false := Bool.eq_false_iff.2 hp
        have hp' := printN_false.1 hp0
        have HE := Lib.hid (valueB_at hlt hp0)
        clear hp hp0
        rcases Int.lt_or_le (s[k].toNat : Int) 32 with h1 | h1
        · clear hp'
          go_wp2
          go_ret
          exact ⟨by rw [HE.out]; rfl, rfl⟩
        · have h3 : 126 < (s[k].toNat : Int) := by omega
          clear hp'
          go_wp2
          go_ret
          exact ⟨by rw [HE.out]; rfl, rfl⟩
    · obtain rfl : k = s.size := by omega
      have hall := HN.out
      rw [← bytesN_len, List.take_length] at hall
      have HV := Lib.hid (valueB_all hall)
      clear hall HN hk
      by_cases h1 : 1 ≤ s.size
      · have HE : Hid (valueB s = decide (s.size ≤ 200)) := by show _ = _; rw [HV.out, decide_eq_true h1, Bool.true_and]
        have h0 : (1 : Int) ≤ (s.size : Int) := by omega
        obtain ⟨n1, n2, n3⟩ := eqS_empty_list (s := s) (by rw [eqS_false]; intro e; rw [e] at h1; exact absurd h1 (by decide))
        go_wp2
        go_ret
        exact ⟨by rw [HE.out]; simp; omega, rfl⟩
      · have HE : Hid (valueB s = false) := by show _ = _; rw [HV.out, decide_eq_false h1]; rfl
        obtain rfl := size_zero (s := s) (by omega)
        go_wp2
        go_ret
        exact ⟨by rw [HE.out]; rfl, rfl⟩
theorem dayOk_any (n : Int) (w : World) : Calls Tryz.prog 70 #[.int .i64 n] w fun e w' => e = .returned (.bool (dayB n)) ∧ w = w' := by
  go_enter Tryz.func70, Tryz.ntmps70
  go_wp2_with (go_at_call 45; refine (within_any _ _ _ _).mono ?_; rintro e w1 ⟨rfl, rfl⟩)
  go_ret
  exact ⟨rfl, rfl⟩
theorem l28Day_any (n : Int) (w : World) : Calls Tryz.prog 60 #[.int .i64 n] w fun e w' => e = .returned (.bool (dayB n)) ∧ w = w' := by
  go_enter Tryz.func60, Tryz.ntmps60
  go_wp2_with (go_at_call 32; refine (l00In_any _ _ _ _).mono ?_; rintro e w1 ⟨rfl, rfl⟩)
  go_ret
  exact ⟨rfl, rfl⟩
set_option maxHeartbeats 4000000 in
theorem changeValid_any (c : DChange) (w : World) (kk : c.key.size ≤ maxLen) (ko : c.old_.size ≤ maxLen) (kn : c.new_.size ≤ maxLen) :
    Calls Tryz.prog 46 #[.agg #[.int .i64 c.day, .string c.key, .string c.old_, .string c.new_]] w fun e w' => e = .returned (.bool (changeB c)) ∧ Below w.heap.size w w' := by
  obtain ⟨day, key, old, new⟩ := c
  simp only at *
  by_cases h0 : dayB day = true
  case neg =>
    replace h0 : dayB day = false := Bool.eq_false_iff.2 h0
    have HE : Hid (changeB ⟨day, key, old, new⟩ = false) := by show _ = _; unfold changeB; simp only [h0, Bool.and_false, Bool.false_and, Bool.and_true, Bool.true_and, Bool.and_self, Bool.or_true, Bool.true_or, Bool.or_false, Bool.false_or, Bool.not_true, Bool.not_false]
    go_enter Tryz.func46, Tryz.ntmps46
    go_wp2_with (first | (go_at_call 70; refine (dayOk_any _ _).mono ?_; rintro e w1 ⟨rfl, rfl⟩) | (go_at_call 71; refine (isName_any _ _ (by assumption)).mono ?_; rintro e w1 ⟨rfl, rfl⟩) | (go_at_call 72; refine (isValue_any _ _ (by assumption)).mono ?_; rintro e w1 ⟨rfl, rfl⟩))
    go_ret
    exact ⟨by rw [HE.out]; rfl, by exact (Below.refl _ _).alloc (Nat.le_refl _) _⟩
  by_cases h1 : nameB key = true
  case neg =>
    replace h1 : nameB key = false := Bool.eq_false_iff.2 h1
    have HE : Hid (changeB ⟨day, key, old, new⟩ = false) := by show _ = _; unfold changeB; simp only [h0, h1, Bool.and_false, Bool.false_and, Bool.and_true, Bool.true_and, Bool.and_self, Bool.or_true, Bool.true_or, Bool.or_false, Bool.false_or, Bool.not_true, Bool.not_false]
    go_enter Tryz.func46, Tryz.ntmps46
    go_wp2_with (first | (go_at_call 70; refine (dayOk_any _ _).mono ?_; rintro e w1 ⟨rfl, rfl⟩) | (go_at_call 71; refine (isName_any _ _ (by assumption)).mono ?_; rintro e w1 ⟨rfl, rfl⟩) | (go_at_call 72; refine (isValue_any _ _ (by assumption)).mono ?_; rintro e w1 ⟨rfl, rfl⟩))
    go_ret
    exact ⟨by rw [HE.out]; rfl, by exact (Below.refl _ _).alloc (Nat.le_refl _) _⟩
  by_cases hoe : eqS old emptyS = true
  · skip
    by_cases hne : eqS new emptyS = true
    · skip
      have hd : eqS old new = true := by rw [emptyS_of hoe, emptyS_of hne]; exact eqS_refl _
      have HE : Hid (changeB ⟨day, key, old, new⟩ = false) := by show _ = _; unfold changeB; simp only [h0, h1, hoe, hne, hd, Bool.and_false, Bool.false_and, Bool.and_true, Bool.true_and, Bool.and_self, Bool.or_true, Bool.true_or, Bool.or_false, Bool.false_or, Bool.not_true, Bool.not_false]
      obtain rfl := emptyS_of hoe
      obtain rfl := emptyS_of hne
      go_enter Tryz.func46, Tryz.ntmps46
      go_wp2_with (first | (go_at_call 70; refine (dayOk_any _ _).mono ?_; rintro e w1 ⟨rfl, rfl⟩) | (go_at_call 71; refine (isName_any _ _ (by assumption)).mono ?_; rintro e w1 ⟨rfl, rfl⟩) | (go_at_call 72; refine (isValue_any _ _ (by assumption)).mono ?_; rintro e w1 ⟨rfl, rfl⟩))
      go_ret
      exact ⟨by rw [HE.out]; rfl, by exact (Below.refl _ _).alloc (Nat.le_refl _) _⟩
    · replace hne : eqS new emptyS = false := Bool.eq_false_iff.2 hne
      obtain ⟨hn1, hn2, hn3⟩ := eqS_empty_list hne
      by_cases hnv : valueB new = true
      case neg =>
        replace hnv : valueB new = false := Bool.eq_false_iff.2 hnv
        have HE : Hid (changeB ⟨day, key, old, new⟩ = false) := by show _ = _; unfold changeB; simp only [h0, h1, hoe, hne, hnv, Bool.and_false, Bool.false_and, Bool.and_true, Bool.true_and, Bool.and_self, Bool.or_true, Bool.true_or, Bool.or_false, Bool.false_or, Bool.not_true, Bool.not_false]
        obtain rfl := emptyS_of hoe
        go_enter Tryz.func46, Tryz.ntmps46
        go_wp2_with (first | (go_at_call 70; refine (dayOk_any _ _).mono ?_; rintro e w1 ⟨rfl, rfl⟩) | (go_at_call 71; refine (isName_any _ _ (by assumption)).mono ?_; rintro e w1 ⟨rfl, rfl⟩) | (go_at_call 72; refine (isValue_any _ _ (by assumption)).mono ?_; rintro e w1 ⟨rfl, rfl⟩))
        go_ret
        exact ⟨by rw [HE.out]; rfl, by exact (Below.refl _ _).alloc (Nat.le_refl _) _⟩
      have hd : eqS old new = false := by rw [eqS_false]; intro e; rw [← e, hoe] at hne; cases hne
      have HE : Hid (changeB ⟨day, key, old, new⟩ = true) := by show _ = _; unfold changeB; simp only [h0, h1, hoe, hne, hnv, hd, Bool.and_false, Bool.false_and, Bool.and_true, Bool.true_and, Bool.and_self, Bool.or_true, Bool.true_or, Bool.or_false, Bool.false_or, Bool.not_true, Bool.not_false]
      obtain rfl := emptyS_of hoe
      go_enter Tryz.func46, Tryz.ntmps46
      go_wp2_with (first | (go_at_call 70; refine (dayOk_any _ _).mono ?_; rintro e w1 ⟨rfl, rfl⟩) | (go_at_call 71; refine (isName_any _ _ (by assumption)).mono ?_; rintro e w1 ⟨rfl, rfl⟩) | (go_at_call 72; refine (isValue_any _ _ (by assumption)).mono ?_; rintro e w1 ⟨rfl, rfl⟩))
      go_ret
      exact ⟨by rw [HE.out]; rfl, by exact (Below.refl _ _).alloc (Nat.le_refl _) _⟩
  · replace hoe : eqS old emptyS = false := Bool.eq_false_iff.2 hoe
    obtain ⟨ho1, ho2, ho3⟩ := eqS_empty_list hoe
    by_cases hov : valueB old = true
    case neg =>
      replace hov : valueB old = false := Bool.eq_false_iff.2 hov
      have HE : Hid (changeB ⟨day, key, old, new⟩ = false) := by show _ = _; unfold changeB; simp only [h0, h1, hoe, hov, Bool.and_false, Bool.false_and, Bool.and_true, Bool.true_and, Bool.and_self, Bool.or_true, Bool.true_or, Bool.or_false, Bool.false_or, Bool.not_true, Bool.not_false]
      go_enter Tryz.func46, Tryz.ntmps46
      go_wp2_with (first | (go_at_call 70; refine (dayOk_any _ _).mono ?_; rintro e w1 ⟨rfl, rfl⟩) | (go_at_call 71; refine (isName_any _ _ (by assumption)).mono ?_; rintro e w1 ⟨rfl, rfl⟩) | (go_at_call 72; refine (isValue_any _ _ (by assumption)).mono ?_; rintro e w1 ⟨rfl, rfl⟩))
      go_ret
      exact ⟨by rw [HE.out]; rfl, by exact (Below.refl _ _).alloc (Nat.le_refl _) _⟩
    by_cases hne : eqS new emptyS = true
    · skip
      have hd : eqS old new = false := by rw [eqS_false]; intro e; rw [e, hne] at hoe; cases hoe
      have HE : Hid (changeB ⟨day, key, old, new⟩ = true) := by show _ = _; unfold changeB; simp only [h0, h1, hoe, hov, hne, hd, Bool.and_false, Bool.false_and, Bool.and_true, Bool.true_and, Bool.and_self, Bool.or_true, Bool.true_or, Bool.or_false, Bool.false_or, Bool.not_true, Bool.not_false]
      obtain rfl := emptyS_of hne
      go_enter Tryz.func46, Tryz.ntmps46
      go_wp2_with (first | (go_at_call 70; refine (dayOk_any _ _).mono ?_; rintro e w1 ⟨rfl, rfl⟩) | (go_at_call 71; refine (isName_any _ _ (by assumption)).mono ?_; rintro e w1 ⟨rfl, rfl⟩) | (go_at_call 72; refine (isValue_any _ _ (by assumption)).mono ?_; rintro e w1 ⟨rfl, rfl⟩))
      go_ret
      exact ⟨by rw [HE.out]; rfl, by exact (Below.refl _ _).alloc (Nat.le_refl _) _⟩
    · replace hne : eqS new emptyS = false := Bool.eq_false_iff.2 hne
      obtain ⟨hn1, hn2, hn3⟩ := eqS_empty_list hne
      by_cases hnv : valueB new = true
      case neg =>
        replace hnv : valueB new = false := Bool.eq_false_iff.2 hnv
        have HE : Hid (changeB ⟨day, key, old, new⟩ = false) := by show _ = _; unfold changeB; simp only [h0, h1, hoe, hov, hne, hnv, Bool.and_false, Bool.false_and, Bool.and_true, Bool.true_and, Bool.and_self, Bool.or_true, Bool.true_or, Bool.or_false, Bool.false_or, Bool.not_true, Bool.not_false]
        go_enter Tryz.func46, Tryz.ntmps46
        go_wp2_with (first | (go_at_call 70; refine (dayOk_any _ _).mono ?_; rintro e w1 ⟨rfl, rfl⟩) | (go_at_call 71; refine (isName_any _ _ (by assumption)).mono ?_; rintro e w1 ⟨rfl, rfl⟩) | (go_at_call 72; refine (isValue_any _ _ (by assumption)).mono ?_; rintro e w1 ⟨rfl, rfl⟩))
        go_ret
        exact ⟨by rw [HE.out]; rfl, by exact (Below.refl _ _).alloc (Nat.le_refl _) _⟩
      by_cases hd : eqS old new = true
      · skip
        have HE : Hid (changeB ⟨day, key, old, new⟩ = false) := by show _ = _; unfold changeB; simp only [h0, h1, hoe, hov, hne, hnv, hd, Bool.and_false, Bool.false_and, Bool.and_true, Bool.true_and, Bool.and_self, Bool.or_true, Bool.true_or, Bool.or_false, Bool.false_or, Bool.not_true, Bool.not_false]
        have hd2 : (old.toList == new.toList) = true := hd
        have hd3 : (old.toList != new.toList) = false := by rw [bne, hd2]; rfl
        clear hd
        go_enter Tryz.func46, Tryz.ntmps46
        go_wp2_with (first | (go_at_call 70; refine (dayOk_any _ _).mono ?_; rintro e w1 ⟨rfl, rfl⟩) | (go_at_call 71; refine (isName_any _ _ (by assumption)).mono ?_; rintro e w1 ⟨rfl, rfl⟩) | (go_at_call 72; refine (isValue_any _ _ (by assumption)).mono ?_; rintro e w1 ⟨rfl, rfl⟩))
        go_ret
        exact ⟨by rw [HE.out]; rfl, by exact (Below.refl _ _).alloc (Nat.le_refl _) _⟩
      · replace hd : eqS old new = false := Bool.eq_false_iff.2 hd
        have HE : Hid (changeB ⟨day, key, old, new⟩ = true) := by show _ = _; unfold changeB; simp only [h0, h1, hoe, hov, hne, hnv, hd, Bool.and_false, Bool.false_and, Bool.and_true, Bool.true_and, Bool.and_self, Bool.or_true, Bool.true_or, Bool.or_false, Bool.false_or, Bool.not_true, Bool.not_false]
        have hd2 : (old.toList == new.toList) = false := hd
        have hd3 : (old.toList != new.toList) = true := by rw [bne, hd2]; rfl
        clear hd
        go_enter Tryz.func46, Tryz.ntmps46
        go_wp2_with (first | (go_at_call 70; refine (dayOk_any _ _).mono ?_; rintro e w1 ⟨rfl, rfl⟩) | (go_at_call 71; refine (isName_any _ _ (by assumption)).mono ?_; rintro e w1 ⟨rfl, rfl⟩) | (go_at_call 72; refine (isValue_any _ _ (by assumption)).mono ?_; rintro e w1 ⟨rfl, rfl⟩))
        go_ret
        exact ⟨by rw [HE.out]; rfl, by exact (Below.refl _ _).alloc (Nat.le_refl _) _⟩
end Go.Proofs.YtjkpadfolkniaaaGreatDoor
