/- Contracts: requests and rows of requests are valid, for the program and for the reference. Conditions: bounded lengths. -/
import Derived.Test.YtjgolknofmnppaaDoorPl4
import Derived.Test.YtjgolknofmnppaaDoorHRequest
namespace Go.Proofs.YtjgolknofmnppaaDoor
open Go.RowKit
set_option linter.unusedVariables false
set_option linter.unusedSimpArgs false

def reqB (x : DRequest) : Bool := nameB x.id && (nameB x.applicant && (nameB x.partner && (!(eqS x.applicant x.partner) && (inB x.low 1 100000000 && (inB x.high 1 100000000 && (decide (x.low < x.high) && (inB x.filed 0 x.deadline && (decide (x.deadline ≤ 99999) && inB x.state 1 5))))))))
def gRequest (l : List DRequest) (i : Nat) : DRequest := l.getD i ⟨⟨#[]⟩, ⟨#[]⟩, ⟨#[]⟩, 0, 0, 0, 0, 0⟩
theorem gRequest_eq {l : List DRequest} {i : Nat} (h : i < l.length) : l[i] = gRequest l i := by simp [gRequest, h]
def ltRequest (p x : DRequest) : Bool := ltS p.id x.id
def reqsB (l : List DRequest) : Bool := decide (l.length ≤ 24) && rowOk reqB ltRequest l
theorem l27Day_any (n : Int) (w : World) : Calls Tryd.prog 64 #[.int .i64 n] w fun e w' => e = .returned (.bool (inB n 0 99999)) ∧ w = w' := by
  go_enter Tryd.func64, Tryd.ntmps64
  go_wp2_with (go_at_call 55; refine (l00In_any _ _ _ _).mono ?_; rintro e w1 ⟨rfl, rfl⟩)
  go_ret
  exact ⟨rfl, rfl⟩
set_option maxHeartbeats 2000000 in
set_option maxRecDepth 100000 in
theorem requestValid_any (x : DRequest) (k0 : x.id.size ≤ maxLen) (k1 : x.applicant.size ≤ maxLen) (k2 : x.partner.size ≤ maxLen) (w : World) :
    Calls Tryd.prog 66 #[.agg #[.string x.id, .string x.applicant, .string x.partner, .int .i64 x.low, .int .i64 x.high, .int .i64 x.filed, .int .i64 x.deadline, .int .i64 x.state]] w fun e w' => e = .returned (.bool (reqB x)) ∧ Below w.heap.size w w' := by
  by_cases h0 : nameB x.id = true
  case neg =>
    replace h0 : nameB x.id = false := Bool.eq_false_iff.2 h0
    have HE : Hid (reqB x = false) := by show _ = _; unfold reqB; simp only [h0, Bool.and_false, Bool.false_and, Bool.and_true, Bool.true_and, Bool.and_self, Bool.or_false, Bool.false_or, Bool.or_true, Bool.true_or, Bool.or_self, Bool.not_true, Bool.not_false]
    go_enter Tryd.func66, Tryd.ntmps66
    go_wp2_with (first | (go_at_call 83; refine (isName_any _ _ (by assumption)).mono ?_; rintro e w1 ⟨rfl, rfl⟩) | (go_at_call 85; refine (frequencyOk_any _ _).mono ?_; rintro e w1 ⟨rfl, rfl⟩) | (go_at_call 65; refine (within_any _ _ _ _).mono ?_; rintro e w1 ⟨rfl, rfl⟩))
    go_ret
    exact ⟨by rw [HE.out]; rfl, by exact (Below.refl _ _).alloc (Nat.le_refl _) _⟩
  by_cases h1 : nameB x.applicant = true
  case neg =>
    replace h1 : nameB x.applicant = false := Bool.eq_false_iff.2 h1
    have HE : Hid (reqB x = false) := by show _ = _; unfold reqB; simp only [h0, h1, Bool.and_false, Bool.false_and, Bool.and_true, Bool.true_and, Bool.and_self, Bool.or_false, Bool.false_or, Bool.or_true, Bool.true_or, Bool.or_self, Bool.not_true, Bool.not_false]
    go_enter Tryd.func66, Tryd.ntmps66
    go_wp2_with (first | (go_at_call 83; refine (isName_any _ _ (by assumption)).mono ?_; rintro e w1 ⟨rfl, rfl⟩) | (go_at_call 85; refine (frequencyOk_any _ _).mono ?_; rintro e w1 ⟨rfl, rfl⟩) | (go_at_call 65; refine (within_any _ _ _ _).mono ?_; rintro e w1 ⟨rfl, rfl⟩))
    go_ret
    exact ⟨by rw [HE.out]; rfl, by exact (Below.refl _ _).alloc (Nat.le_refl _) _⟩
  by_cases h2 : nameB x.partner = true
  case neg =>
    replace h2 : nameB x.partner = false := Bool.eq_false_iff.2 h2
    have HE : Hid (reqB x = false) := by show _ = _; unfold reqB; simp only [h0, h1, h2, Bool.and_false, Bool.false_and, Bool.and_true, Bool.true_and, Bool.and_self, Bool.or_false, Bool.false_or, Bool.or_true, Bool.true_or, Bool.or_self, Bool.not_true, Bool.not_false]
    go_enter Tryd.func66, Tryd.ntmps66
    go_wp2_with (first | (go_at_call 83; refine (isName_any _ _ (by assumption)).mono ?_; rintro e w1 ⟨rfl, rfl⟩) | (go_at_call 85; refine (frequencyOk_any _ _).mono ?_; rintro e w1 ⟨rfl, rfl⟩) | (go_at_call 65; refine (within_any _ _ _ _).mono ?_; rintro e w1 ⟨rfl, rfl⟩))
    go_ret
    exact ⟨by rw [HE.out]; rfl, by exact (Below.refl _ _).alloc (Nat.le_refl _) _⟩
  by_cases h3 : eqS x.applicant x.partner = true
  case pos =>
    have h3l : (x.applicant.toList == x.partner.toList) = true := h3
    have HE : Hid (reqB x = false) := by show _ = _; unfold reqB; simp only [h0, h1, h2, h3, Bool.and_false, Bool.false_and, Bool.and_true, Bool.true_and, Bool.and_self, Bool.or_false, Bool.false_or, Bool.or_true, Bool.true_or, Bool.or_self, Bool.not_true, Bool.not_false]
    go_enter Tryd.func66, Tryd.ntmps66
    go_wp2_with (first | (go_at_call 83; refine (isName_any _ _ (by assumption)).mono ?_; rintro e w1 ⟨rfl, rfl⟩) | (go_at_call 85; refine (frequencyOk_any _ _).mono ?_; rintro e w1 ⟨rfl, rfl⟩) | (go_at_call 65; refine (within_any _ _ _ _).mono ?_; rintro e w1 ⟨rfl, rfl⟩))
    go_ret
    exact ⟨by rw [HE.out]; rfl, by exact (Below.refl _ _).alloc (Nat.le_refl _) _⟩
  replace h3 : eqS x.applicant x.partner = false := Bool.eq_false_iff.2 h3
  have h3l : (x.applicant.toList == x.partner.toList) = false := h3
  by_cases h4 : inB x.low 1 100000000 = true
  case neg =>
    replace h4 : inB x.low 1 100000000 = false := Bool.eq_false_iff.2 h4
    have HE : Hid (reqB x = false) := by show _ = _; unfold reqB; simp only [h0, h1, h2, h3, h4, Bool.and_false, Bool.false_and, Bool.and_true, Bool.true_and, Bool.and_self, Bool.or_false, Bool.false_or, Bool.or_true, Bool.true_or, Bool.or_self, Bool.not_true, Bool.not_false]
    go_enter Tryd.func66, Tryd.ntmps66
    go_wp2_with (first | (go_at_call 83; refine (isName_any _ _ (by assumption)).mono ?_; rintro e w1 ⟨rfl, rfl⟩) | (go_at_call 85; refine (frequencyOk_any _ _).mono ?_; rintro e w1 ⟨rfl, rfl⟩) | (go_at_call 65; refine (within_any _ _ _ _).mono ?_; rintro e w1 ⟨rfl, rfl⟩))
    go_ret
    exact ⟨by rw [HE.out]; rfl, by exact (Below.refl _ _).alloc (Nat.le_refl _) _⟩
  by_cases h5 : inB x.high 1 100000000 = true
  case neg =>
    replace h5 : inB x.high 1 100000000 = false := Bool.eq_false_iff.2 h5
    have HE : Hid (reqB x = false) := by show _ = _; unfold reqB; simp only [h0, h1, h2, h3, h4, h5, Bool.and_false, Bool.false_and, Bool.and_true, Bool.true_and, Bool.and_self, Bool.or_false, Bool.false_or, Bool.or_true, Bool.true_or, Bool.or_self, Bool.not_true, Bool.not_false]
    go_enter Tryd.func66, Tryd.ntmps66
    go_wp2_with (first | (go_at_call 83; refine (isName_any _ _ (by assumption)).mono ?_; rintro e w1 ⟨rfl, rfl⟩) | (go_at_call 85; refine (frequencyOk_any _ _).mono ?_; rintro e w1 ⟨rfl, rfl⟩) | (go_at_call 65; refine (within_any _ _ _ _).mono ?_; rintro e w1 ⟨rfl, rfl⟩))
    go_ret
    exact ⟨by rw [HE.out]; rfl, by exact (Below.refl _ _).alloc (Nat.le_refl _) _⟩
  by_cases h6 : x.low < x.high
  case neg =>
    have hd6 : decide (x.low < x.high) = false := decide_eq_false h6
    replace h6 : x.high ≤ x.low := by omega
    have HE : Hid (reqB x = false) := by show _ = _; unfold reqB; simp only [h0, h1, h2, h3, h4, h5, hd6, Bool.and_false, Bool.false_and, Bool.and_true, Bool.true_and, Bool.and_self, Bool.or_false, Bool.false_or, Bool.or_true, Bool.true_or, Bool.or_self, Bool.not_true, Bool.not_false]
    go_enter Tryd.func66, Tryd.ntmps66
    go_wp2_with (first | (go_at_call 83; refine (isName_any _ _ (by assumption)).mono ?_; rintro e w1 ⟨rfl, rfl⟩) | (go_at_call 85; refine (frequencyOk_any _ _).mono ?_; rintro e w1 ⟨rfl, rfl⟩) | (go_at_call 65; refine (within_any _ _ _ _).mono ?_; rintro e w1 ⟨rfl, rfl⟩))
    go_ret
    exact ⟨by rw [HE.out]; rfl, by exact (Below.refl _ _).alloc (Nat.le_refl _) _⟩
  have hd6 : decide (x.low < x.high) = true := decide_eq_true h6
  by_cases h7 : inB x.filed 0 x.deadline = true
  case neg =>
    replace h7 : inB x.filed 0 x.deadline = false := Bool.eq_false_iff.2 h7
    have HE : Hid (reqB x = false) := by show _ = _; unfold reqB; simp only [h0, h1, h2, h3, h4, h5, hd6, h7, Bool.and_false, Bool.false_and, Bool.and_true, Bool.true_and, Bool.and_self, Bool.or_false, Bool.false_or, Bool.or_true, Bool.true_or, Bool.or_self, Bool.not_true, Bool.not_false]
    go_enter Tryd.func66, Tryd.ntmps66
    go_wp2_with (first | (go_at_call 83; refine (isName_any _ _ (by assumption)).mono ?_; rintro e w1 ⟨rfl, rfl⟩) | (go_at_call 85; refine (frequencyOk_any _ _).mono ?_; rintro e w1 ⟨rfl, rfl⟩) | (go_at_call 65; refine (within_any _ _ _ _).mono ?_; rintro e w1 ⟨rfl, rfl⟩))
    go_ret
    exact ⟨by rw [HE.out]; rfl, by exact (Below.refl _ _).alloc (Nat.le_refl _) _⟩
  by_cases h8 : x.deadline ≤ 99999
  case neg =>
    have hd8 : decide (x.deadline ≤ 99999) = false := decide_eq_false h8
    replace h8 : 99999 < x.deadline := by omega
    have HE : Hid (reqB x = false) := by show _ = _; unfold reqB; simp only [h0, h1, h2, h3, h4, h5, hd6, h7, hd8, Bool.and_false, Bool.false_and, Bool.and_true, Bool.true_and, Bool.and_self, Bool.or_false, Bool.false_or, Bool.or_true, Bool.true_or, Bool.or_self, Bool.not_true, Bool.not_false]
    go_enter Tryd.func66, Tryd.ntmps66
    go_wp2_with (first | (go_at_call 83; refine (isName_any _ _ (by assumption)).mono ?_; rintro e w1 ⟨rfl, rfl⟩) | (go_at_call 85; refine (frequencyOk_any _ _).mono ?_; rintro e w1 ⟨rfl, rfl⟩) | (go_at_call 65; refine (within_any _ _ _ _).mono ?_; rintro e w1 ⟨rfl, rfl⟩))
    go_ret
    exact ⟨by rw [HE.out]; rfl, by exact (Below.refl _ _).alloc (Nat.le_refl _) _⟩
  have hd8 : decide (x.deadline ≤ 99999) = true := decide_eq_true h8
  by_cases h9 : inB x.state 1 5 = true
  case neg =>
    replace h9 : inB x.state 1 5 = false := Bool.eq_false_iff.2 h9
    have HE : Hid (reqB x = false) := by show _ = _; unfold reqB; simp only [h0, h1, h2, h3, h4, h5, hd6, h7, hd8, h9, Bool.and_false, Bool.false_and, Bool.and_true, Bool.true_and, Bool.and_self, Bool.or_false, Bool.false_or, Bool.or_true, Bool.true_or, Bool.or_self, Bool.not_true, Bool.not_false]
    go_enter Tryd.func66, Tryd.ntmps66
    go_wp2_with (first | (go_at_call 83; refine (isName_any _ _ (by assumption)).mono ?_; rintro e w1 ⟨rfl, rfl⟩) | (go_at_call 85; refine (frequencyOk_any _ _).mono ?_; rintro e w1 ⟨rfl, rfl⟩) | (go_at_call 65; refine (within_any _ _ _ _).mono ?_; rintro e w1 ⟨rfl, rfl⟩))
    go_ret
    exact ⟨by rw [HE.out]; rfl, by exact (Below.refl _ _).alloc (Nat.le_refl _) _⟩
  have HE : Hid (reqB x = true) := by show _ = _; unfold reqB; simp only [h0, h1, h2, h3, h4, h5, hd6, h7, hd8, h9, Bool.and_false, Bool.false_and, Bool.and_true, Bool.true_and, Bool.and_self, Bool.or_false, Bool.false_or, Bool.or_true, Bool.true_or, Bool.or_self, Bool.not_true, Bool.not_false]
  go_enter Tryd.func66, Tryd.ntmps66
  go_wp2_with (first | (go_at_call 83; refine (isName_any _ _ (by assumption)).mono ?_; rintro e w1 ⟨rfl, rfl⟩) | (go_at_call 85; refine (frequencyOk_any _ _).mono ?_; rintro e w1 ⟨rfl, rfl⟩) | (go_at_call 65; refine (within_any _ _ _ _).mono ?_; rintro e w1 ⟨rfl, rfl⟩))
  go_ret
  exact ⟨by rw [HE.out]; rfl, by exact (Below.refl _ _).alloc (Nat.le_refl _) _⟩
def reqS (x : DRequest) : Bool := nameB x.id && (nameB x.applicant && (nameB x.partner && (!(eqS x.applicant x.partner) && (inB x.low 1 100000000 && (inB x.high 1 100000000 && (decide (x.low < x.high) && (inB x.filed 0 99999 && (inB x.deadline 0 99999 && (decide (x.filed ≤ x.deadline) && inB x.state 1 5)))))))))
theorem reqS_eq (x : DRequest) : reqS x = reqB x := by
  unfold reqS reqB
  have e : (inB x.filed 0 99999 && (inB x.deadline 0 99999 && (decide (x.filed ≤ x.deadline) && inB x.state 1 5))) = (inB x.filed 0 x.deadline && (decide (x.deadline ≤ 99999) && inB x.state 1 5)) := by
    rw [Bool.eq_iff_iff]
    simp only [inB, Bool.and_eq_true, decide_eq_true_eq]
    omega
  rw [e]
set_option maxHeartbeats 2000000 in
set_option maxRecDepth 100000 in
theorem l27One_any (x : DRequest) (b off : Nat) (w : World) (c0 : w.cell? ⟨b, off, none⟩ = some (.string x.id)) (c1 : w.cell? ⟨b, off + 1, none⟩ = some (.string x.applicant)) (c2 : w.cell? ⟨b, off + 2, none⟩ = some (.string x.partner)) (c3 : w.cell? ⟨b, off + 3, none⟩ = some (.int .i64 x.low)) (c4 : w.cell? ⟨b, off + 4, none⟩ = some (.int .i64 x.high)) (c5 : w.cell? ⟨b, off + 5, none⟩ = some (.int .i64 x.filed)) (c6 : w.cell? ⟨b, off + 6, none⟩ = some (.int .i64 x.deadline)) (c7 : w.cell? ⟨b, off + 7, none⟩ = some (.int .i64 x.state)) (k0 : x.id.size ≤ maxLen) (k1 : x.applicant.size ≤ maxLen) (k2 : x.partner.size ≤ maxLen) :
    Calls Tryd.prog 40 #[.pointer (some ⟨b, off, none⟩)] w fun e w' => e = .returned (.bool (reqS x)) ∧ Below w.heap.size w w' := by
  have hbl := cell_lt c0
  dsimp only at hbl
  by_cases h0 : nameB x.id = true
  case neg =>
    replace h0 : nameB x.id = false := Bool.eq_false_iff.2 h0
    have C0 : Hid (∀ W : World, Calls Tryd.prog 56 #[.string x.id] W fun e w' => e = .returned (.bool false) ∧ W = w') := fun W => by
      have hh := l01Name_any x.id W k0
      rw [h0] at hh
      exact hh
    have HE : Hid (reqS x = false) := by show _ = _; unfold reqS; simp only [h0, Bool.and_false, Bool.false_and, Bool.and_true, Bool.true_and, Bool.and_self, Bool.or_false, Bool.false_or, Bool.or_true, Bool.true_or, Bool.or_self, Bool.not_true, Bool.not_false]
    go_enter Tryd.func40, Tryd.ntmps40
    go_upto_region 1 with (fail)
    have oB0 := overC (w0 := w) (show b < w.heap.size by omega)
    refine wp_region_over w.heap.size w (Below.refl _ _) (by kernel_rfl) (by kernel_rfl) ?_
    repeat (go_big_quiet_step (first | (go_at_call 56; with_reducible exact over_same (C0.out _))))
    refine wpQuiet_nil ?_
    rintro _ ⟨X, rfl⟩
    have BE1 := Lib.hid (over_below w.heap.size w X)
    clear oB0
    generalize over w.heap.size w X = W1 at *
    have BEE := Lib.hid BE1.out
    go_wp2
    go_ret
    exact ⟨by rw [HE.out]; rfl, by exact BEE.out⟩
  by_cases h1 : nameB x.applicant = true
  case neg =>
    replace h1 : nameB x.applicant = false := Bool.eq_false_iff.2 h1
    have C0 : Hid (∀ W : World, Calls Tryd.prog 56 #[.string x.id] W fun e w' => e = .returned (.bool true) ∧ W = w') := fun W => by
      have hh := l01Name_any x.id W k0
      rw [h0] at hh
      exact hh
    have C1 : Hid (∀ W : World, Calls Tryd.prog 56 #[.string x.applicant] W fun e w' => e = .returned (.bool false) ∧ W = w') := fun W => by
      have hh := l01Name_any x.applicant W k1
      rw [h1] at hh
      exact hh
    have HE : Hid (reqS x = false) := by show _ = _; unfold reqS; simp only [h0, h1, Bool.and_false, Bool.false_and, Bool.and_true, Bool.true_and, Bool.and_self, Bool.or_false, Bool.false_or, Bool.or_true, Bool.true_or, Bool.or_self, Bool.not_true, Bool.not_false]
    go_enter Tryd.func40, Tryd.ntmps40
    go_upto_region 1 with (fail)
    have oB0 := overC (w0 := w) (show b < w.heap.size by omega)
    refine wp_region_over w.heap.size w (Below.refl _ _) (by kernel_rfl) (by kernel_rfl) ?_
    repeat (go_big_quiet_step (first | (go_at_call 56; with_reducible exact over_same (C0.out _)) | (go_at_call 56; with_reducible exact over_same (C1.out _))))
    refine wpQuiet_nil ?_
    rintro _ ⟨X, rfl⟩
    have BE1 := Lib.hid (over_below w.heap.size w X)
    clear oB0
    generalize over w.heap.size w X = W1 at *
    have BEE := Lib.hid BE1.out
    go_wp2
    go_ret
    exact ⟨by rw [HE.out]; rfl, by exact BEE.out⟩
  by_cases h2 : nameB x.partner = true
  case neg =>
    replace h2 : nameB x.partner = false := Bool.eq_false_iff.2 h2
    have C0 : Hid (∀ W : World, Calls Tryd.prog 56 #[.string x.id] W fun e w' => e = .returned (.bool true) ∧ W = w') := fun W => by
      have hh := l01Name_any x.id W k0
      rw [h0] at hh
      exact hh
    have C1 : Hid (∀ W : World, Calls Tryd.prog 56 #[.string x.applicant] W fun e w' => e = .returned (.bool true) ∧ W = w') := fun W => by
      have hh := l01Name_any x.applicant W k1
      rw [h1] at hh
      exact hh
    have C2 : Hid (∀ W : World, Calls Tryd.prog 56 #[.string x.partner] W fun e w' => e = .returned (.bool false) ∧ W = w') := fun W => by
      have hh := l01Name_any x.partner W k2
      rw [h2] at hh
      exact hh
    have HE : Hid (reqS x = false) := by show _ = _; unfold reqS; simp only [h0, h1, h2, Bool.and_false, Bool.false_and, Bool.and_true, Bool.true_and, Bool.and_self, Bool.or_false, Bool.false_or, Bool.or_true, Bool.true_or, Bool.or_self, Bool.not_true, Bool.not_false]
    go_enter Tryd.func40, Tryd.ntmps40
    go_upto_region 1 with (fail)
    have oB0 := overC (w0 := w) (show b < w.heap.size by omega)
    refine wp_region_over w.heap.size w (Below.refl _ _) (by kernel_rfl) (by kernel_rfl) ?_
    repeat (go_big_quiet_step (first | (go_at_call 56; with_reducible exact over_same (C0.out _)) | (go_at_call 56; with_reducible exact over_same (C1.out _)) | (go_at_call 56; with_reducible exact over_same (C2.out _))))
    refine wpQuiet_nil ?_
    rintro _ ⟨X, rfl⟩
    have BE1 := Lib.hid (over_below w.heap.size w X)
    clear oB0
    generalize over w.heap.size w X = W1 at *
    have BEE := Lib.hid BE1.out
    go_wp2
    go_ret
    exact ⟨by rw [HE.out]; rfl, by exact BEE.out⟩
  by_cases h3 : eqS x.applicant x.partner = true
  case pos =>
    have h3l : (x.applicant.toList == x.partner.toList) = true := h3
    have C0 : Hid (∀ W : World, Calls Tryd.prog 56 #[.string x.id] W fun e w' => e = .returned (.bool true) ∧ W = w') := fun W => by
      have hh := l01Name_any x.id W k0
      rw [h0] at hh
      exact hh
    have C1 : Hid (∀ W : World, Calls Tryd.prog 56 #[.string x.applicant] W fun e w' => e = .returned (.bool true) ∧ W = w') := fun W => by
      have hh := l01Name_any x.applicant W k1
      rw [h1] at hh
      exact hh
    have C2 : Hid (∀ W : World, Calls Tryd.prog 56 #[.string x.partner] W fun e w' => e = .returned (.bool true) ∧ W = w') := fun W => by
      have hh := l01Name_any x.partner W k2
      rw [h2] at hh
      exact hh
    have HE : Hid (reqS x = false) := by show _ = _; unfold reqS; simp only [h0, h1, h2, h3, Bool.and_false, Bool.false_and, Bool.and_true, Bool.true_and, Bool.and_self, Bool.or_false, Bool.false_or, Bool.or_true, Bool.true_or, Bool.or_self, Bool.not_true, Bool.not_false]
    go_enter Tryd.func40, Tryd.ntmps40
    go_upto_region 1 with (fail)
    have oB0 := overC (w0 := w) (show b < w.heap.size by omega)
    refine wp_region_over w.heap.size w (Below.refl _ _) (by kernel_rfl) (by kernel_rfl) ?_
    repeat (go_big_quiet_step (first | (go_at_call 56; with_reducible exact over_same (C0.out _)) | (go_at_call 56; with_reducible exact over_same (C1.out _)) | (go_at_call 56; with_reducible exact over_same (C2.out _))))
    refine wpQuiet_nil ?_
    rintro _ ⟨X, rfl⟩
    have BE1 := Lib.hid (over_below w.heap.size w X)
    clear oB0
    generalize over w.heap.size w X = W1 at *
    have BEE := Lib.hid BE1.out
    go_wp2
    go_ret
    exact ⟨by rw [HE.out]; rfl, by exact BEE.out⟩
  replace h3 : eqS x.applicant x.partner = false := Bool.eq_false_iff.2 h3
  have h3l : (x.applicant.toList == x.partner.toList) = false := h3
  by_cases h4 : inB x.low 1 100000000 = true
  case neg =>
    replace h4 : inB x.low 1 100000000 = false := Bool.eq_false_iff.2 h4
    have C0 : Hid (∀ W : World, Calls Tryd.prog 56 #[.string x.id] W fun e w' => e = .returned (.bool true) ∧ W = w') := fun W => by
      have hh := l01Name_any x.id W k0
      rw [h0] at hh
      exact hh
    have C1 : Hid (∀ W : World, Calls Tryd.prog 56 #[.string x.applicant] W fun e w' => e = .returned (.bool true) ∧ W = w') := fun W => by
      have hh := l01Name_any x.applicant W k1
      rw [h1] at hh
      exact hh
    have C2 : Hid (∀ W : World, Calls Tryd.prog 56 #[.string x.partner] W fun e w' => e = .returned (.bool true) ∧ W = w') := fun W => by
      have hh := l01Name_any x.partner W k2
      rw [h2] at hh
      exact hh
    have C3 : Hid (∀ W : World, Calls Tryd.prog 63 #[.int .i64 x.low] W fun e w' => e = .returned (.bool false) ∧ W = w') := fun W => by
      have hh := l09Frequency_any x.low W
      rw [h4] at hh
      exact hh
    have HE : Hid (reqS x = false) := by show _ = _; unfold reqS; simp only [h0, h1, h2, h3, h4, Bool.and_false, Bool.false_and, Bool.and_true, Bool.true_and, Bool.and_self, Bool.or_false, Bool.false_or, Bool.or_true, Bool.true_or, Bool.or_self, Bool.not_true, Bool.not_false]
    go_enter Tryd.func40, Tryd.ntmps40
    go_upto_region 1 with (fail)
    have oB0 := overC (w0 := w) (show b < w.heap.size by omega)
    refine wp_region_over w.heap.size w (Below.refl _ _) (by kernel_rfl) (by kernel_rfl) ?_
    repeat (go_big_quiet_step (first | (go_at_call 56; with_reducible exact over_same (C0.out _)) | (go_at_call 56; with_reducible exact over_same (C1.out _)) | (go_at_call 56; with_reducible exact over_same (C2.out _)) | (go_at_call 63; with_reducible exact over_same (C3.out _))))
    refine wpQuiet_nil ?_
    rintro _ ⟨X, rfl⟩
    have BE1 := Lib.hid (over_below w.heap.size w X)
    clear oB0
    generalize over w.heap.size w X = W1 at *
    have BE := Lib.hid BE1.out
    have zz := BE1.out.size
    have hbl1 : b < W1.heap.size := by omega
    have d0 := (BE1.out.cell (p := ⟨b, off, none⟩) hbl).trans c0
    have d1 := (BE1.out.cell (p := ⟨b, off + 1, none⟩) hbl).trans c1
    have d2 := (BE1.out.cell (p := ⟨b, off + 2, none⟩) hbl).trans c2
    have d3 := (BE1.out.cell (p := ⟨b, off + 3, none⟩) hbl).trans c3
    have d4 := (BE1.out.cell (p := ⟨b, off + 4, none⟩) hbl).trans c4
    have d5 := (BE1.out.cell (p := ⟨b, off + 5, none⟩) hbl).trans c5
    have d6 := (BE1.out.cell (p := ⟨b, off + 6, none⟩) hbl).trans c6
    have d7 := (BE1.out.cell (p := ⟨b, off + 7, none⟩) hbl).trans c7
    go_upto_region 3 with (fail)
    have oB0 := overC (w0 := W1) (show b < W1.heap.size by omega)
    refine wp_region_over W1.heap.size W1 (Below.refl _ _) (by kernel_rfl) (by kernel_rfl) ?_
    repeat (go_big_quiet_step (first | (go_at_call 56; with_reducible exact over_same (C0.out _)) | (go_at_call 56; with_reducible exact over_same (C1.out _)) | (go_at_call 56; with_reducible exact over_same (C2.out _)) | (go_at_call 63; with_reducible exact over_same (C3.out _))))
    refine wpQuiet_nil ?_
    rintro _ ⟨X, rfl⟩
    have BE2 := Lib.hid (over_below W1.heap.size W1 X)
    clear oB0
    generalize over W1.heap.size W1 X = W2 at *
    have BEE := Lib.hid (BE1.out.trans (BE2.out.mono (by omega)))
    go_wp2
    go_ret
    exact ⟨by rw [HE.out]; rfl, by exact BEE.out⟩
  by_cases h5 : inB x.high 1 100000000 = true
  case neg =>
    replace h5 : inB x.high 1 100000000 = false := Bool.eq_false_iff.2 h5
    have C0 : Hid (∀ W : World, Calls Tryd.prog 56 #[.string x.id] W fun e w' => e = .returned (.bool true) ∧ W = w') := fun W => by
      have hh := l01Name_any x.id W k0
      rw [h0] at hh
      exact hh
    have C1 : Hid (∀ W : World, Calls Tryd.prog 56 #[.string x.applicant] W fun e w' => e = .returned (.bool true) ∧ W = w') := fun W => by
      have hh := l01Name_any x.applicant W k1
      rw [h1] at hh
      exact hh
    have C2 : Hid (∀ W : World, Calls Tryd.prog 56 #[.string x.partner] W fun e w' => e = .returned (.bool true) ∧ W = w') := fun W => by
      have hh := l01Name_any x.partner W k2
      rw [h2] at hh
      exact hh
    have C3 : Hid (∀ W : World, Calls Tryd.prog 63 #[.int .i64 x.low] W fun e w' => e = .returned (.bool true) ∧ W = w') := fun W => by
      have hh := l09Frequency_any x.low W
      rw [h4] at hh
      exact hh
    have C4 : Hid (∀ W : World, Calls Tryd.prog 63 #[.int .i64 x.high] W fun e w' => e = .returned (.bool false) ∧ W = w') := fun W => by
      have hh := l09Frequency_any x.high W
      rw [h5] at hh
      exact hh
    have HE : Hid (reqS x = false) := by show _ = _; unfold reqS; simp only [h0, h1, h2, h3, h4, h5, Bool.and_false, Bool.false_and, Bool.and_true, Bool.true_and, Bool.and_self, Bool.or_false, Bool.false_or, Bool.or_true, Bool.true_or, Bool.or_self, Bool.not_true, Bool.not_false]
    go_enter Tryd.func40, Tryd.ntmps40
    go_upto_region 1 with (fail)
    have oB0 := overC (w0 := w) (show b < w.heap.size by omega)
    refine wp_region_over w.heap.size w (Below.refl _ _) (by kernel_rfl) (by kernel_rfl) ?_
    repeat (go_big_quiet_step (first | (go_at_call 56; with_reducible exact over_same (C0.out _)) | (go_at_call 56; with_reducible exact over_same (C1.out _)) | (go_at_call 56; with_reducible exact over_same (C2.out _)) | (go_at_call 63; with_reducible exact over_same (C3.out _)) | (go_at_call 63; with_reducible exact over_same (C4.out _))))
    refine wpQuiet_nil ?_
    rintro _ ⟨X, rfl⟩
    have BE1 := Lib.hid (over_below w.heap.size w X)
    clear oB0
    generalize over w.heap.size w X = W1 at *
    have BE := Lib.hid BE1.out
    have zz := BE1.out.size
    have hbl1 : b < W1.heap.size := by omega
    have d0 := (BE1.out.cell (p := ⟨b, off, none⟩) hbl).trans c0
    have d1 := (BE1.out.cell (p := ⟨b, off + 1, none⟩) hbl).trans c1
    have d2 := (BE1.out.cell (p := ⟨b, off + 2, none⟩) hbl).trans c2
    have d3 := (BE1.out.cell (p := ⟨b, off + 3, none⟩) hbl).trans c3
    have d4 := (BE1.out.cell (p := ⟨b, off + 4, none⟩) hbl).trans c4
    have d5 := (BE1.out.cell (p := ⟨b, off + 5, none⟩) hbl).trans c5
    have d6 := (BE1.out.cell (p := ⟨b, off + 6, none⟩) hbl).trans c6
    have d7 := (BE1.out.cell (p := ⟨b, off + 7, none⟩) hbl).trans c7
    go_upto_region 3 with (fail)
    have oB0 := overC (w0 := W1) (show b < W1.heap.size by omega)
    refine wp_region_over W1.heap.size W1 (Below.refl _ _) (by kernel_rfl) (by kernel_rfl) ?_
    repeat (go_big_quiet_step (first | (go_at_call 56; with_reducible exact over_same (C0.out _)) | (go_at_call 56; with_reducible exact over_same (C1.out _)) | (go_at_call 56; with_reducible exact over_same (C2.out _)) | (go_at_call 63; with_reducible exact over_same (C3.out _)) | (go_at_call 63; with_reducible exact over_same (C4.out _))))
    refine wpQuiet_nil ?_
    rintro _ ⟨X, rfl⟩
    have BE2 := Lib.hid (over_below W1.heap.size W1 X)
    clear oB0
    generalize over W1.heap.size W1 X = W2 at *
    have BEE := Lib.hid (BE1.out.trans (BE2.out.mono (by omega)))
    go_wp2
    go_ret
    exact ⟨by rw [HE.out]; rfl, by exact BEE.out⟩
  by_cases h6 : x.low < x.high
  case neg =>
    have hd6 : decide (x.low < x.high) = false := decide_eq_false h6
    replace h6 : x.high ≤ x.low := by omega
    have C0 : Hid (∀ W : World, Calls Tryd.prog 56 #[.string x.id] W fun e w' => e = .returned (.bool true) ∧ W = w') := fun W => by
      have hh := l01Name_any x.id W k0
      rw [h0] at hh
      exact hh
    have C1 : Hid (∀ W : World, Calls Tryd.prog 56 #[.string x.applicant] W fun e w' => e = .returned (.bool true) ∧ W = w') := fun W => by
      have hh := l01Name_any x.applicant W k1
      rw [h1] at hh
      exact hh
    have C2 : Hid (∀ W : World, Calls Tryd.prog 56 #[.string x.partner] W fun e w' => e = .returned (.bool true) ∧ W = w') := fun W => by
      have hh := l01Name_any x.partner W k2
      rw [h2] at hh
      exact hh
    have C3 : Hid (∀ W : World, Calls Tryd.prog 63 #[.int .i64 x.low] W fun e w' => e = .returned (.bool true) ∧ W = w') := fun W => by
      have hh := l09Frequency_any x.low W
      rw [h4] at hh
      exact hh
    have C4 : Hid (∀ W : World, Calls Tryd.prog 63 #[.int .i64 x.high] W fun e w' => e = .returned (.bool true) ∧ W = w') := fun W => by
      have hh := l09Frequency_any x.high W
      rw [h5] at hh
      exact hh
    have HE : Hid (reqS x = false) := by show _ = _; unfold reqS; simp only [h0, h1, h2, h3, h4, h5, hd6, Bool.and_false, Bool.false_and, Bool.and_true, Bool.true_and, Bool.and_self, Bool.or_false, Bool.false_or, Bool.or_true, Bool.true_or, Bool.or_self, Bool.not_true, Bool.not_false]
    go_enter Tryd.func40, Tryd.ntmps40
    go_upto_region 1 with (fail)
    have oB0 := overC (w0 := w) (show b < w.heap.size by omega)
    refine wp_region_over w.heap.size w (Below.refl _ _) (by kernel_rfl) (by kernel_rfl) ?_
    repeat (go_big_quiet_step (first | (go_at_call 56; with_reducible exact over_same (C0.out _)) | (go_at_call 56; with_reducible exact over_same (C1.out _)) | (go_at_call 56; with_reducible exact over_same (C2.out _)) | (go_at_call 63; with_reducible exact over_same (C3.out _)) | (go_at_call 63; with_reducible exact over_same (C4.out _))))
    refine wpQuiet_nil ?_
    rintro _ ⟨X, rfl⟩
    have BE1 := Lib.hid (over_below w.heap.size w X)
    clear oB0
    generalize over w.heap.size w X = W1 at *
    have BE := Lib.hid BE1.out
    have zz := BE1.out.size
    have hbl1 : b < W1.heap.size := by omega
    have d0 := (BE1.out.cell (p := ⟨b, off, none⟩) hbl).trans c0
    have d1 := (BE1.out.cell (p := ⟨b, off + 1, none⟩) hbl).trans c1
    have d2 := (BE1.out.cell (p := ⟨b, off + 2, none⟩) hbl).trans c2
    have d3 := (BE1.out.cell (p := ⟨b, off + 3, none⟩) hbl).trans c3
    have d4 := (BE1.out.cell (p := ⟨b, off + 4, none⟩) hbl).trans c4
    have d5 := (BE1.out.cell (p := ⟨b, off + 5, none⟩) hbl).trans c5
    have d6 := (BE1.out.cell (p := ⟨b, off + 6, none⟩) hbl).trans c6
    have d7 := (BE1.out.cell (p := ⟨b, off + 7, none⟩) hbl).trans c7
    go_upto_region 3 with (fail)
    have oB0 := overC (w0 := W1) (show b < W1.heap.size by omega)
    refine wp_region_over W1.heap.size W1 (Below.refl _ _) (by kernel_rfl) (by kernel_rfl) ?_
    repeat (go_big_quiet_step (first | (go_at_call 56; with_reducible exact over_same (C0.out _)) | (go_at_call 56; with_reducible exact over_same (C1.out _)) | (go_at_call 56; with_reducible exact over_same (C2.out _)) | (go_at_call 63; with_reducible exact over_same (C3.out _)) | (go_at_call 63; with_reducible exact over_same (C4.out _))))
    refine wpQuiet_nil ?_
    rintro _ ⟨X, rfl⟩
    have BE2 := Lib.hid (over_below W1.heap.size W1 X)
    clear oB0
    generalize over W1.heap.size W1 X = W2 at *
    have BEE := Lib.hid (BE1.out.trans (BE2.out.mono (by omega)))
    go_wp2
    go_ret
    exact ⟨by rw [HE.out]; rfl, by exact BEE.out⟩
  have hd6 : decide (x.low < x.high) = true := decide_eq_true h6
  by_cases h7 : inB x.filed 0 99999 = true
  case neg =>
    replace h7 : inB x.filed 0 99999 = false := Bool.eq_false_iff.2 h7
    have C0 : Hid (∀ W : World, Calls Tryd.prog 56 #[.string x.id] W fun e w' => e = .returned (.bool true) ∧ W = w') := fun W => by
      have hh := l01Name_any x.id W k0
      rw [h0] at hh
      exact hh
    have C1 : Hid (∀ W : World, Calls Tryd.prog 56 #[.string x.applicant] W fun e w' => e = .returned (.bool true) ∧ W = w') := fun W => by
      have hh := l01Name_any x.applicant W k1
      rw [h1] at hh
      exact hh
    have C2 : Hid (∀ W : World, Calls Tryd.prog 56 #[.string x.partner] W fun e w' => e = .returned (.bool true) ∧ W = w') := fun W => by
      have hh := l01Name_any x.partner W k2
      rw [h2] at hh
      exact hh
    have C3 : Hid (∀ W : World, Calls Tryd.prog 63 #[.int .i64 x.low] W fun e w' => e = .returned (.bool true) ∧ W = w') := fun W => by
      have hh := l09Frequency_any x.low W
      rw [h4] at hh
      exact hh
    have C4 : Hid (∀ W : World, Calls Tryd.prog 63 #[.int .i64 x.high] W fun e w' => e = .returned (.bool true) ∧ W = w') := fun W => by
      have hh := l09Frequency_any x.high W
      rw [h5] at hh
      exact hh
    have C5 : Hid (∀ W : World, Calls Tryd.prog 64 #[.int .i64 x.filed] W fun e w' => e = .returned (.bool false) ∧ W = w') := fun W => by
      have hh := l27Day_any x.filed W
      rw [h7] at hh
      exact hh
    have HE : Hid (reqS x = false) := by show _ = _; unfold reqS; simp only [h0, h1, h2, h3, h4, h5, hd6, h7, Bool.and_false, Bool.false_and, Bool.and_true, Bool.true_and, Bool.and_self, Bool.or_false, Bool.false_or, Bool.or_true, Bool.true_or, Bool.or_self, Bool.not_true, Bool.not_false]
    go_enter Tryd.func40, Tryd.ntmps40
    go_upto_region 1 with (fail)
    have oB0 := overC (w0 := w) (show b < w.heap.size by omega)
    refine wp_region_over w.heap.size w (Below.refl _ _) (by kernel_rfl) (by kernel_rfl) ?_
    repeat (go_big_quiet_step (first | (go_at_call 56; with_reducible exact over_same (C0.out _)) | (go_at_call 56; with_reducible exact over_same (C1.out _)) | (go_at_call 56; with_reducible exact over_same (C2.out _)) | (go_at_call 63; with_reducible exact over_same (C3.out _)) | (go_at_call 63; with_reducible exact over_same (C4.out _)) | (go_at_call 64; with_reducible exact over_same (C5.out _))))
    refine wpQuiet_nil ?_
    rintro _ ⟨X, rfl⟩
    have BE1 := Lib.hid (over_below w.heap.size w X)
    clear oB0
    generalize over w.heap.size w X = W1 at *
    have BE := Lib.hid BE1.out
    have zz := BE1.out.size
    have hbl1 : b < W1.heap.size := by omega
    have d0 := (BE1.out.cell (p := ⟨b, off, none⟩) hbl).trans c0
    have d1 := (BE1.out.cell (p := ⟨b, off + 1, none⟩) hbl).trans c1
    have d2 := (BE1.out.cell (p := ⟨b, off + 2, none⟩) hbl).trans c2
    have d3 := (BE1.out.cell (p := ⟨b, off + 3, none⟩) hbl).trans c3
    have d4 := (BE1.out.cell (p := ⟨b, off + 4, none⟩) hbl).trans c4
    have d5 := (BE1.out.cell (p := ⟨b, off + 5, none⟩) hbl).trans c5
    have d6 := (BE1.out.cell (p := ⟨b, off + 6, none⟩) hbl).trans c6
    have d7 := (BE1.out.cell (p := ⟨b, off + 7, none⟩) hbl).trans c7
    go_upto_region 3 with (fail)
    have oB0 := overC (w0 := W1) (show b < W1.heap.size by omega)
    refine wp_region_over W1.heap.size W1 (Below.refl _ _) (by kernel_rfl) (by kernel_rfl) ?_
    repeat (go_big_quiet_step (first | (go_at_call 56; with_reducible exact over_same (C0.out _)) | (go_at_call 56; with_reducible exact over_same (C1.out _)) | (go_at_call 56; with_reducible exact over_same (C2.out _)) | (go_at_call 63; with_reducible exact over_same (C3.out _)) | (go_at_call 63; with_reducible exact over_same (C4.out _)) | (go_at_call 64; with_reducible exact over_same (C5.out _))))
    refine wpQuiet_nil ?_
    rintro _ ⟨X, rfl⟩
    have BE2 := Lib.hid (over_below W1.heap.size W1 X)
    clear oB0
    generalize over W1.heap.size W1 X = W2 at *
    have BEE := Lib.hid (BE1.out.trans (BE2.out.mono (by omega)))
    go_wp2
    go_ret
    exact ⟨by rw [HE.out]; rfl, by exact BEE.out⟩
  by_cases h8 : inB x.deadline 0 99999 = true
  case neg =>
    replace h8 : inB x.deadline 0 99999 = false := Bool.eq_false_iff.2 h8
    have C0 : Hid (∀ W : World, Calls Tryd.prog 56 #[.string x.id] W fun e w' => e = .returned (.bool true) ∧ W = w') := fun W => by
      have hh := l01Name_any x.id W k0
      rw [h0] at hh
      exact hh
    have C1 : Hid (∀ W : World, Calls Tryd.prog 56 #[.string x.applicant] W fun e w' => e = .returned (.bool true) ∧ W = w') := fun W => by
      have hh := l01Name_any x.applicant W k1
      rw [h1] at hh
      exact hh
    have C2 : Hid (∀ W : World, Calls Tryd.prog 56 #[.string x.partner] W fun e w' => e = .returned (.bool true) ∧ W = w') := fun W => by
      have hh := l01Name_any x.partner W k2
      rw [h2] at hh
      exact hh
    have C3 : Hid (∀ W : World, Calls Tryd.prog 63 #[.int .i64 x.low] W fun e w' => e = .returned (.bool true) ∧ W = w') := fun W => by
      have hh := l09Frequency_any x.low W
      rw [h4] at hh
      exact hh
    have C4 : Hid (∀ W : World, Calls Tryd.prog 63 #[.int .i64 x.high] W fun e w' => e = .returned (.bool true) ∧ W = w') := fun W => by
      have hh := l09Frequency_any x.high W
      rw [h5] at hh
      exact hh
    have C5 : Hid (∀ W : World, Calls Tryd.prog 64 #[.int .i64 x.filed] W fun e w' => e = .returned (.bool true) ∧ W = w') := fun W => by
      have hh := l27Day_any x.filed W
      rw [h7] at hh
      exact hh
    have C6 : Hid (∀ W : World, Calls Tryd.prog 64 #[.int .i64 x.deadline] W fun e w' => e = .returned (.bool false) ∧ W = w') := fun W => by
      have hh := l27Day_any x.deadline W
      rw [h8] at hh
      exact hh
    have HE : Hid (reqS x = false) := by show _ = _; unfold reqS; simp only [h0, h1, h2, h3, h4, h5, hd6, h7, h8, Bool.and_false, Bool.false_and, Bool.and_true, Bool.true_and, Bool.and_self, Bool.or_false, Bool.false_or, Bool.or_true, Bool.true_or, Bool.or_self, Bool.not_true, Bool.not_false]
    go_enter Tryd.func40, Tryd.ntmps40
    go_upto_region 1 with (fail)
    have oB0 := overC (w0 := w) (show b < w.heap.size by omega)
    refine wp_region_over w.heap.size w (Below.refl _ _) (by kernel_rfl) (by kernel_rfl) ?_
    repeat (go_big_quiet_step (first | (go_at_call 56; with_reducible exact over_same (C0.out _)) | (go_at_call 56; with_reducible exact over_same (C1.out _)) | (go_at_call 56; with_reducible exact over_same (C2.out _)) | (go_at_call 63; with_reducible exact over_same (C3.out _)) | (go_at_call 63; with_reducible exact over_same (C4.out _)) | (go_at_call 64; with_reducible exact over_same (C5.out _)) | (go_at_call 64; with_reducible exact over_same (C6.out _))))
    refine wpQuiet_nil ?_
    rintro _ ⟨X, rfl⟩
    have BE1 := Lib.hid (over_below w.heap.size w X)
    clear oB0
    generalize over w.heap.size w X = W1 at *
    have BE := Lib.hid BE1.out
    have zz := BE1.out.size
    have hbl1 : b < W1.heap.size := by omega
    have d0 := (BE1.out.cell (p := ⟨b, off, none⟩) hbl).trans c0
    have d1 := (BE1.out.cell (p := ⟨b, off + 1, none⟩) hbl).trans c1
    have d2 := (BE1.out.cell (p := ⟨b, off + 2, none⟩) hbl).trans c2
    have d3 := (BE1.out.cell (p := ⟨b, off + 3, none⟩) hbl).trans c3
    have d4 := (BE1.out.cell (p := ⟨b, off + 4, none⟩) hbl).trans c4
    have d5 := (BE1.out.cell (p := ⟨b, off + 5, none⟩) hbl).trans c5
    have d6 := (BE1.out.cell (p := ⟨b, off + 6, none⟩) hbl).trans c6
    have d7 := (BE1.out.cell (p := ⟨b, off + 7, none⟩) hbl).trans c7
    go_upto_region 3 with (fail)
    have oB0 := overC (w0 := W1) (show b < W1.heap.size by omega)
    refine wp_region_over W1.heap.size W1 (Below.refl _ _) (by kernel_rfl) (by kernel_rfl) ?_
    repeat (go_big_quiet_step (first | (go_at_call 56; with_reducible exact over_same (C0.out _)) | (go_at_call 56; with_reducible exact over_same (C1.out _)) | (go_at_call 56; with_reducible exact over_same (C2.out _)) | (go_at_call 63; with_reducible exact over_same (C3.out _)) | (go_at_call 63; with_reducible exact over_same (C4.out _)) | (go_at_call 64; with_reducible exact over_same (C5.out _)) | (go_at_call 64; with_reducible exact over_same (C6.out _))))
    refine wpQuiet_nil ?_
    rintro _ ⟨X, rfl⟩
    have BE2 := Lib.hid (over_below W1.heap.size W1 X)
    clear oB0
    generalize over W1.heap.size W1 X = W2 at *
    have BEE := Lib.hid (BE1.out.trans (BE2.out.mono (by omega)))
    go_wp2
    go_ret
    exact ⟨by rw [HE.out]; rfl, by exact BEE.out⟩
  by_cases h9 : x.filed ≤ x.deadline
  case neg =>
    have hd9 : decide (x.filed ≤ x.deadline) = false := decide_eq_false h9
    replace h9 : x.deadline < x.filed := by omega
    have C0 : Hid (∀ W : World, Calls Tryd.prog 56 #[.string x.id] W fun e w' => e = .returned (.bool true) ∧ W = w') := fun W => by
      have hh := l01Name_any x.id W k0
      rw [h0] at hh
      exact hh
    have C1 : Hid (∀ W : World, Calls Tryd.prog 56 #[.string x.applicant] W fun e w' => e = .returned (.bool true) ∧ W = w') := fun W => by
      have hh := l01Name_any x.applicant W k1
      rw [h1] at hh
      exact hh
    have C2 : Hid (∀ W : World, Calls Tryd.prog 56 #[.string x.partner] W fun e w' => e = .returned (.bool true) ∧ W = w') := fun W => by
      have hh := l01Name_any x.partner W k2
      rw [h2] at hh
      exact hh
    have C3 : Hid (∀ W : World, Calls Tryd.prog 63 #[.int .i64 x.low] W fun e w' => e = .returned (.bool true) ∧ W = w') := fun W => by
      have hh := l09Frequency_any x.low W
      rw [h4] at hh
      exact hh
    have C4 : Hid (∀ W : World, Calls Tryd.prog 63 #[.int .i64 x.high] W fun e w' => e = .returned (.bool true) ∧ W = w') := fun W => by
      have hh := l09Frequency_any x.high W
      rw [h5] at hh
      exact hh
    have C5 : Hid (∀ W : World, Calls Tryd.prog 64 #[.int .i64 x.filed] W fun e w' => e = .returned (.bool true) ∧ W = w') := fun W => by
      have hh := l27Day_any x.filed W
      rw [h7] at hh
      exact hh
    have C6 : Hid (∀ W : World, Calls Tryd.prog 64 #[.int .i64 x.deadline] W fun e w' => e = .returned (.bool true) ∧ W = w') := fun W => by
      have hh := l27Day_any x.deadline W
      rw [h8] at hh
      exact hh
    have HE : Hid (reqS x = false) := by show _ = _; unfold reqS; simp only [h0, h1, h2, h3, h4, h5, hd6, h7, h8, hd9, Bool.and_false, Bool.false_and, Bool.and_true, Bool.true_and, Bool.and_self, Bool.or_false, Bool.false_or, Bool.or_true, Bool.true_or, Bool.or_self, Bool.not_true, Bool.not_false]
    go_enter Tryd.func40, Tryd.ntmps40
    go_upto_region 1 with (fail)
    have oB0 := overC (w0 := w) (show b < w.heap.size by omega)
    refine wp_region_over w.heap.size w (Below.refl _ _) (by kernel_rfl) (by kernel_rfl) ?_
    repeat (go_big_quiet_step (first | (go_at_call 56; with_reducible exact over_same (C0.out _)) | (go_at_call 56; with_reducible exact over_same (C1.out _)) | (go_at_call 56; with_reducible exact over_same (C2.out _)) | (go_at_call 63; with_reducible exact over_same (C3.out _)) | (go_at_call 63; with_reducible exact over_same (C4.out _)) | (go_at_call 64; with_reducible exact over_same (C5.out _)) | (go_at_call 64; with_reducible exact over_same (C6.out _))))
    refine wpQuiet_nil ?_
    rintro _ ⟨X, rfl⟩
    have BE1 := Lib.hid (over_below w.heap.size w X)
    clear oB0
    generalize over w.heap.size w X = W1 at *
    have BE := Lib.hid BE1.out
    have zz := BE1.out.size
    have hbl1 : b < W1.heap.size := by omega
    have d0 := (BE1.out.cell (p := ⟨b, off, none⟩) hbl).trans c0
    have d1 := (BE1.out.cell (p := ⟨b, off + 1, none⟩) hbl).trans c1
    have d2 := (BE1.out.cell (p := ⟨b, off + 2, none⟩) hbl).trans c2
    have d3 := (BE1.out.cell (p := ⟨b, off + 3, none⟩) hbl).trans c3
    have d4 := (BE1.out.cell (p := ⟨b, off + 4, none⟩) hbl).trans c4
    have d5 := (BE1.out.cell (p := ⟨b, off + 5, none⟩) hbl).trans c5
    have d6 := (BE1.out.cell (p := ⟨b, off + 6, none⟩) hbl).trans c6
    have d7 := (BE1.out.cell (p := ⟨b, off + 7, none⟩) hbl).trans c7
    go_upto_region 3 with (fail)
    have oB0 := overC (w0 := W1) (show b < W1.heap.size by omega)
    refine wp_region_over W1.heap.size W1 (Below.refl _ _) (by kernel_rfl) (by kernel_rfl) ?_
    repeat (go_big_quiet_step (first | (go_at_call 56; with_reducible exact over_same (C0.out _)) | (go_at_call 56; with_reducible exact over_same (C1.out _)) | (go_at_call 56; with_reducible exact over_same (C2.out _)) | (go_at_call 63; with_reducible exact over_same (C3.out _)) | (go_at_call 63; with_reducible exact over_same (C4.out _)) | (go_at_call 64; with_reducible exact over_same (C5.out _)) | (go_at_call 64; with_reducible exact over_same (C6.out _))))
    refine wpQuiet_nil ?_
    rintro _ ⟨X, rfl⟩
    have BE2 := Lib.hid (over_below W1.heap.size W1 X)
    clear oB0
    generalize over W1.heap.size W1 X = W2 at *
    have BEE := Lib.hid (BE1.out.trans (BE2.out.mono (by omega)))
    go_wp2
    go_ret
    exact ⟨by rw [HE.out]; rfl, by exact BEE.out⟩
  have hd9 : decide (x.filed ≤ x.deadline) = true := decide_eq_true h9
  by_cases h10 : inB x.state 1 5 = true
  case neg =>
    replace h10 : inB x.state 1 5 = false := Bool.eq_false_iff.2 h10
    have C0 : Hid (∀ W : World, Calls Tryd.prog 56 #[.string x.id] W fun e w' => e = .returned (.bool true) ∧ W = w') := fun W => by
      have hh := l01Name_any x.id W k0
      rw [h0] at hh
      exact hh
    have C1 : Hid (∀ W : World, Calls Tryd.prog 56 #[.string x.applicant] W fun e w' => e = .returned (.bool true) ∧ W = w') := fun W => by
      have hh := l01Name_any x.applicant W k1
      rw [h1] at hh
      exact hh
    have C2 : Hid (∀ W : World, Calls Tryd.prog 56 #[.string x.partner] W fun e w' => e = .returned (.bool true) ∧ W = w') := fun W => by
      have hh := l01Name_any x.partner W k2
      rw [h2] at hh
      exact hh
    have C3 : Hid (∀ W : World, Calls Tryd.prog 63 #[.int .i64 x.low] W fun e w' => e = .returned (.bool true) ∧ W = w') := fun W => by
      have hh := l09Frequency_any x.low W
      rw [h4] at hh
      exact hh
    have C4 : Hid (∀ W : World, Calls Tryd.prog 63 #[.int .i64 x.high] W fun e w' => e = .returned (.bool true) ∧ W = w') := fun W => by
      have hh := l09Frequency_any x.high W
      rw [h5] at hh
      exact hh
    have C5 : Hid (∀ W : World, Calls Tryd.prog 64 #[.int .i64 x.filed] W fun e w' => e = .returned (.bool true) ∧ W = w') := fun W => by
      have hh := l27Day_any x.filed W
      rw [h7] at hh
      exact hh
    have C6 : Hid (∀ W : World, Calls Tryd.prog 64 #[.int .i64 x.deadline] W fun e w' => e = .returned (.bool true) ∧ W = w') := fun W => by
      have hh := l27Day_any x.deadline W
      rw [h8] at hh
      exact hh
    have C7 : Hid (∀ W : World, Calls Tryd.prog 55 #[.int .i64 x.state, .int .i64 1, .int .i64 5] W fun e w' => e = .returned (.bool false) ∧ W = w') := fun W => by
      have hh := l00In_any x.state 1 5 W
      rw [h10] at hh
      exact hh
    have HE : Hid (reqS x = false) := by show _ = _; unfold reqS; simp only [h0, h1, h2, h3, h4, h5, hd6, h7, h8, hd9, h10, Bool.and_false, Bool.false_and, Bool.and_true, Bool.true_and, Bool.and_self, Bool.or_false, Bool.false_or, Bool.or_true, Bool.true_or, Bool.or_self, Bool.not_true, Bool.not_false]
    go_enter Tryd.func40, Tryd.ntmps40
    go_upto_region 1 with (fail)
    have oB0 := overC (w0 := w) (show b < w.heap.size by omega)
    refine wp_region_over w.heap.size w (Below.refl _ _) (by kernel_rfl) (by kernel_rfl) ?_
    repeat (go_big_quiet_step (first | (go_at_call 56; with_reducible exact over_same (C0.out _)) | (go_at_call 56; with_reducible exact over_same (C1.out _)) | (go_at_call 56; with_reducible exact over_same (C2.out _)) | (go_at_call 63; with_reducible exact over_same (C3.out _)) | (go_at_call 63; with_reducible exact over_same (C4.out _)) | (go_at_call 64; with_reducible exact over_same (C5.out _)) | (go_at_call 64; with_reducible exact over_same (C6.out _)) | (go_at_call 55; with_reducible exact over_same (C7.out _))))
    refine wpQuiet_nil ?_
    rintro _ ⟨X, rfl⟩
    have BE1 := Lib.hid (over_below w.heap.size w X)
    clear oB0
    generalize over w.heap.size w X = W1 at *
    have BE := Lib.hid BE1.out
    have zz := BE1.out.size
    have hbl1 : b < W1.heap.size := by omega
    have d0 := (BE1.out.cell (p := ⟨b, off, none⟩) hbl).trans c0
    have d1 := (BE1.out.cell (p := ⟨b, off + 1, none⟩) hbl).trans c1
    have d2 := (BE1.out.cell (p := ⟨b, off + 2, none⟩) hbl).trans c2
    have d3 := (BE1.out.cell (p := ⟨b, off + 3, none⟩) hbl).trans c3
    have d4 := (BE1.out.cell (p := ⟨b, off + 4, none⟩) hbl).trans c4
    have d5 := (BE1.out.cell (p := ⟨b, off + 5, none⟩) hbl).trans c5
    have d6 := (BE1.out.cell (p := ⟨b, off + 6, none⟩) hbl).trans c6
    have d7 := (BE1.out.cell (p := ⟨b, off + 7, none⟩) hbl).trans c7
    go_upto_region 3 with (fail)
    have oB0 := overC (w0 := W1) (show b < W1.heap.size by omega)
    refine wp_region_over W1.heap.size W1 (Below.refl _ _) (by kernel_rfl) (by kernel_rfl) ?_
    repeat (go_big_quiet_step (first | (go_at_call 56; with_reducible exact over_same (C0.out _)) | (go_at_call 56; with_reducible exact over_same (C1.out _)) | (go_at_call 56; with_reducible exact over_same (C2.out _)) | (go_at_call 63; with_reducible exact over_same (C3.out _)) | (go_at_call 63; with_reducible exact over_same (C4.out _)) | (go_at_call 64; with_reducible exact over_same (C5.out _)) | (go_at_call 64; with_reducible exact over_same (C6.out _)) | (go_at_call 55; with_reducible exact over_same (C7.out _))))
    refine wpQuiet_nil ?_
    rintro _ ⟨X, rfl⟩
    have BE2 := Lib.hid (over_below W1.heap.size W1 X)
    clear oB0
    generalize over W1.heap.size W1 X = W2 at *
    have BEE := Lib.hid (BE1.out.trans (BE2.out.mono (by omega)))
    go_wp2
    go_ret
    exact ⟨by rw [HE.out]; rfl, by exact BEE.out⟩
  have C0 : Hid (∀ W : World, Calls Tryd.prog 56 #[.string x.id] W fun e w' => e = .returned (.bool true) ∧ W = w') := fun W => by
    have hh := l01Name_any x.id W k0
    rw [h0] at hh
    exact hh
  have C1 : Hid (∀ W : World, Calls Tryd.prog 56 #[.string x.applicant] W fun e w' => e = .returned (.bool true) ∧ W = w') := fun W => by
    have hh := l01Name_any x.applicant W k1
    rw [h1] at hh
    exact hh
  have C2 : Hid (∀ W : World, Calls Tryd.prog 56 #[.string x.partner] W fun e w' => e = .returned (.bool true) ∧ W = w') := fun W => by
    have hh := l01Name_any x.partner W k2
    rw [h2] at hh
    exact hh
  have C3 : Hid (∀ W : World, Calls Tryd.prog 63 #[.int .i64 x.low] W fun e w' => e = .returned (.bool true) ∧ W = w') := fun W => by
    have hh := l09Frequency_any x.low W
    rw [h4] at hh
    exact hh
  have C4 : Hid (∀ W : World, Calls Tryd.prog 63 #[.int .i64 x.high] W fun e w' => e = .returned (.bool true) ∧ W = w') := fun W => by
    have hh := l09Frequency_any x.high W
    rw [h5] at hh
    exact hh
  have C5 : Hid (∀ W : World, Calls Tryd.prog 64 #[.int .i64 x.filed] W fun e w' => e = .returned (.bool true) ∧ W = w') := fun W => by
    have hh := l27Day_any x.filed W
    rw [h7] at hh
    exact hh
  have C6 : Hid (∀ W : World, Calls Tryd.prog 64 #[.int .i64 x.deadline] W fun e w' => e = .returned (.bool true) ∧ W = w') := fun W => by
    have hh := l27Day_any x.deadline W
    rw [h8] at hh
    exact hh
  have C7 : Hid (∀ W : World, Calls Tryd.prog 55 #[.int .i64 x.state, .int .i64 1, .int .i64 5] W fun e w' => e = .returned (.bool true) ∧ W = w') := fun W => by
    have hh := l00In_any x.state 1 5 W
    rw [h10] at hh
    exact hh
  have HE : Hid (reqS x = true) := by show _ = _; unfold reqS; simp only [h0, h1, h2, h3, h4, h5, hd6, h7, h8, hd9, h10, Bool.and_false, Bool.false_and, Bool.and_true, Bool.true_and, Bool.and_self, Bool.or_false, Bool.false_or, Bool.or_true, Bool.true_or, Bool.or_self, Bool.not_true, Bool.not_false]
  go_enter Tryd.func40, Tryd.ntmps40
  go_upto_region 1 with (fail)
  have oB0 := overC (w0 := w) (show b < w.heap.size by omega)
  refine wp_region_over w.heap.size w (Below.refl _ _) (by kernel_rfl) (by kernel_rfl) ?_
  repeat (go_big_quiet_step (first | (go_at_call 56; with_reducible exact over_same (C0.out _)) | (go_at_call 56; with_reducible exact over_same (C1.out _)) | (go_at_call 56; with_reducible exact over_same (C2.out _)) | (go_at_call 63; with_reducible exact over_same (C3.out _)) | (go_at_call 63; with_reducible exact over_same (C4.out _)) | (go_at_call 64; with_reducible exact over_same (C5.out _)) | (go_at_call 64; with_reducible exact over_same (C6.out _)) | (go_at_call 55; with_reducible exact over_same (C7.out _))))
  refine wpQuiet_nil ?_
  rintro _ ⟨X, rfl⟩
  have BE1 := Lib.hid (over_below w.heap.size w X)
  clear oB0
  generalize over w.heap.size w X = W1 at *
  have BE := Lib.hid BE1.out
  have zz := BE1.out.size
  have hbl1 : b < W1.heap.size := by omega
  have d0 := (BE1.out.cell (p := ⟨b, off, none⟩) hbl).trans c0
  have d1 := (BE1.out.cell (p := ⟨b, off + 1, none⟩) hbl).trans c1
  have d2 := (BE1.out.cell (p := ⟨b, off + 2, none⟩) hbl).trans c2
  have d3 := (BE1.out.cell (p := ⟨b, off + 3, none⟩) hbl).trans c3
  have d4 := (BE1.out.cell (p := ⟨b, off + 4, none⟩) hbl).trans c4
  have d5 := (BE1.out.cell (p := ⟨b, off + 5, none⟩) hbl).trans c5
  have d6 := (BE1.out.cell (p := ⟨b, off + 6, none⟩) hbl).trans c6
  have d7 := (BE1.out.cell (p := ⟨b, off + 7, none⟩) hbl).trans c7
  go_upto_region 3 with (fail)
  have oB0 := overC (w0 := W1) (show b < W1.heap.size by omega)
  refine wp_region_over W1.heap.size W1 (Below.refl _ _) (by kernel_rfl) (by kernel_rfl) ?_
  repeat (go_big_quiet_step (first | (go_at_call 56; with_reducible exact over_same (C0.out _)) | (go_at_call 56; with_reducible exact over_same (C1.out _)) | (go_at_call 56; with_reducible exact over_same (C2.out _)) | (go_at_call 63; with_reducible exact over_same (C3.out _)) | (go_at_call 63; with_reducible exact over_same (C4.out _)) | (go_at_call 64; with_reducible exact over_same (C5.out _)) | (go_at_call 64; with_reducible exact over_same (C6.out _)) | (go_at_call 55; with_reducible exact over_same (C7.out _))))
  refine wpQuiet_nil ?_
  rintro _ ⟨X, rfl⟩
  have BE2 := Lib.hid (over_below W1.heap.size W1 X)
  clear oB0
  generalize over W1.heap.size W1 X = W2 at *
  have BEE := Lib.hid (BE1.out.trans (BE2.out.mono (by omega)))
  go_wp2
  go_ret
  exact ⟨by rw [HE.out]; rfl, by exact BEE.out⟩
end Go.Proofs.YtjgolknofmnppaaDoor
