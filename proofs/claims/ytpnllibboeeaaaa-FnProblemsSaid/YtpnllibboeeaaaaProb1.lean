/- Contracts: domains of problems, for the program and for the reference. Conditions: bounded lengths. -/
import Derived.Test.YtpnllibboeeaaaaSl
namespace Go.Proofs.Ytpnllibboeeaaaa
open Go.RowKit
set_option linter.unusedVariables false

/-- element i, or 0 -/
def gi (l : List Int) (i : Nat) : Int := l.getD i 0
/-- the numbers rise -/
def incB : List Int → Bool
  | [] => true
  | [_] => true
  | a :: b :: r => decide (a < b) && incB (b :: r)
theorem incB_iff : (l : List Int) → (incB l = true ↔ ∀ i, i + 1 < l.length → gi l i < gi l (i + 1)) := by
  intro l
  unfold gi
  induction l with
  | nil => simp [incB]
  | cons a l ih =>
    cases l with
    | nil => simp [incB]
    | cons b r =>
      rw [incB, Bool.and_eq_true, decide_eq_true_iff, ih]
      constructor
      · rintro ⟨h1, h2⟩ i hi
        cases i with
        | zero => simpa using h1
        | succ i => have := h2 i (by simp at hi ⊢; omega); simpa using this
      · intro h
        refine ⟨by simpa using h 0 (by simp), fun i hi => ?_⟩
        have := h (i + 1) (by simp at hi ⊢; omega)
        simpa using this
theorem gi_eq {l : List Int} {i : Nat} (h : i < l.length) : l[i] = gi l i := by simp [gi, h]

theorem increasing_any (l : List Int) (v : Value) (B : Nat) (w : World) (h : Rd B w (intsT l) v) (hB : B ≤ w.heap.size) (hn : l.length ≤ 1099511627776) :
    Calls Try.prog 19 #[v] w fun e w' => e = .returned (.bool (incB l)) ∧ Below w.heap.size w w' := by
  obtain ⟨a, c, rfl, hnc, hcm, hcells⟩ := h.ints
  clear h
  have hnb : (l.length : Int) ≤ 1099511627776 := by omega
  go_enter Try.func19, Try.ntmps19
  go_wp2
  go_loopw [3] (fun i wr => ∃ (k : Nat), 1 ≤ k ∧ (k ≤ l.length ∨ k = 1) ∧ i = .int .i64 k ∧ (∀ i, i + 1 < k → gi l i < gi l (i + 1)) ∧ Below w.heap.size w wr) (fun i wr => l.length - (intOf i).toNat)
  case atStart => exact ⟨1, Nat.le_refl _, Or.inr rfl, rfl, fun i hi => by omega, Below.refl _ _⟩
  case round =>
    obtain ⟨k, hk1, hk, rfl, hrise, hb⟩ := hrel
    have HR := Lib.hid hrise
    clear hrise
    by_cases hlt : k < l.length
    · obtain ⟨b, off, rfl, hbl, hat⟩ := hcells (by omega)
      have s0 := hat k hlt
      have s1 := hat (k - 1) (by omega)
      rw [gi_eq] at s0 s1
      rw [← hb.cell (p := ⟨b, _, none⟩) (show b < w.heap.size by omega)] at s0 s1
      have i1 : (0 : Int) ≤ (k : Int) := by omega
      have i2 : (k : Int) < (l.length : Int) := by omega
      have i3 : IntKind.i64.wrap ((k : Int) - 1) = (k : Int) - 1 := IntWalk.i64_in _ (by omega)
      have i4 : (0 : Int) ≤ (k : Int) - 1 := by omega
      have i5 : ((k : Int) - 1).toNat = k - 1 := by omega
      have i6 : (k : Int) - 1 < (l.length : Int) := by omega
      have i7 : (1 : Int) ≤ (k : Int) := by omega
      have HB := Lib.hid hb
      clear hcells hat hb
      by_cases hc : gi l k ≤ gi l (k - 1)
      · have hc' : decide (gi l k ≤ gi l (k - 1)) = true := by simpa using hc
        go_wp2
        go_quiet (fail)
        clear i3 i5
        go_wp2
        go_ret
        refine ⟨?_, below_drewN HB.out _⟩
        have : incB l = false := by
          rw [← Bool.not_eq_true, incB_iff]
          intro hall
          have := hall (k - 1) (by omega)
          rw [show k - 1 + 1 = k from by omega] at this
          omega
        rw [this]; rfl
      · have hc' : decide (gi l k ≤ gi l (k - 1)) = false := by simpa using hc
        have HC := Lib.hid hc
        clear hc
        go_wp2
        go_quiet (fail)
        clear i3 i5
        go_wp2
        go_roundw
        case rel =>
          refine ⟨k + 1, by omega, Or.inl (by omega), by go_num, fun i hi => ?_, below_drewN HB.out _⟩
          by_cases e : i + 1 < k
          · exact HR.out i e
          · obtain rfl : i = k - 1 := by omega
            have := HC.out
            rw [show k - 1 + 1 = k from by omega]
            omega
        case measure => simp [intOf]; omega
    · clear hcells
      go_wp2
      go_ret
      refine ⟨?_, hb⟩
      have : incB l = true := by
        rw [incB_iff]
        intro i hi
        exact HR.out i (by omega)
      rw [this]; rfl
theorem quiet_left {P : Program} {f : FuncId} {args : Array Value} {w : World} {n : Nat} {v : Value}
    (h : Calls P f args (w.drewN n) fun e w' => e = .returned v ∧ w.drewN n = w') : Calls P f args (w.drewN n) fun e w'' => e = .returned v ∧ ∃ m, w'' = w.drewN m :=
  h.mono fun _ _ ⟨he, hm⟩ => ⟨he, n, hm.symm⟩
/-- the numbers rise, within bounds -/
def risesB (l : List Int) (lo hi : Int) : Bool := incB l && l.all fun n => inB n lo hi
theorem all_iff (l : List Int) (lo hi : Int) : (l.all fun n => inB n lo hi) = true ↔ ∀ i, i < l.length → inB (gi l i) lo hi = true := by
  rw [List.all_eq_true]
  constructor
  · intro h i hi
    have := h l[i] (List.getElem_mem hi)
    rwa [gi_eq] at this
  · intro h x hx
    obtain ⟨i, hi, rfl⟩ := List.getElem_of_mem hx
    have := h i hi
    rwa [← gi_eq hi] at this
set_option maxHeartbeats 1000000 in
theorem l00Rises_any (l : List Int) (lo hi : Int) (v : Value) (B : Nat) (w : World) (h : Rd B w (intsT l) v) (hB : B ≤ w.heap.size) (hn : l.length ≤ 1099511627776) :
    Calls Try.prog 48 #[v, .int .i64 lo, .int .i64 hi] w fun e w' => e = .returned (.bool (risesB l lo hi)) ∧ Below w.heap.size w w' := by
  obtain ⟨a, c, rfl, hnc, hcm, hcells⟩ := h.ints
  clear h
  have hnb : (l.length : Int) ≤ 1099511627776 := by omega
  go_enter Try.func48, Try.ntmps48
  go_wp2
  go_loopw [7] (fun i wr => ∃ (k : Nat), k ≤ l.length ∧ i = .int .i64 k ∧ (∀ i, i < k → inB (gi l i) lo hi = true) ∧ (∀ i, i + 1 < k → gi l i < gi l (i + 1)) ∧ Below w.heap.size w wr) (fun i wr => l.length - (intOf i).toNat)
  case atStart => exact ⟨0, Nat.zero_le _, rfl, fun i hi => by omega, fun i hi => by omega, Below.refl _ _⟩
  case round =>
    obtain ⟨k, hk, rfl, hin, hrise, hb⟩ := hrel
    have HI := Lib.hid hin
    have HR := Lib.hid hrise
    clear hrise hin
    by_cases hlt : k < l.length
    · obtain ⟨b, off, rfl, hbl, hat⟩ := hcells (by omega)
      have s0 := hat k hlt
      rw [gi_eq] at s0
      rw [← hb.cell (p := ⟨b, _, none⟩) (show b < w.heap.size by omega)] at s0
      have i1 : (0 : Int) ≤ (k : Int) := by omega
      have i2 : (k : Int) < (l.length : Int) := by omega
      by_cases c1 : inB (gi l k) lo hi = true
      · by_cases c2 : 0 < k
        · have s1 := hat (k - 1) (by omega)
          rw [gi_eq] at s1
          rw [← hb.cell (p := ⟨b, _, none⟩) (show b < w.heap.size by omega)] at s1
          have i3 : IntKind.i64.wrap ((k : Int) - 1) = (k : Int) - 1 := IntWalk.i64_in _ (by omega)
          have i4 : (0 : Int) ≤ (k : Int) - 1 := by omega
          have i5 : ((k : Int) - 1).toNat = k - 1 := by omega
          have i6 : (k : Int) - 1 < (l.length : Int) := by omega
          have i7 : (1 : Int) ≤ (k : Int) := by omega
          have i8 : decide (0 < k) = true := by simpa using c2
          have HB := Lib.hid hb
          clear hcells hat hb
          by_cases c3 : gi l k ≤ gi l (k - 1)
          · have c3' : decide (gi l k ≤ gi l (k - 1)) = true := by simpa using c3
            go_wp2
            go_quiet ((go_at_call 38; exact quiet_left (l00In_any _ _ _ _)))
            clear i3 i5
            go_wp2
            go_ret
            refine ⟨?_, below_drewN HB.out _⟩
            have : risesB l lo hi = false := by
              unfold risesB
              rw [Bool.and_eq_false_iff]; left
              rw [← Bool.not_eq_true, incB_iff]
              intro hall
              have := hall (k - 1) (by omega)
              rw [show k - 1 + 1 = k from by omega] at this
              omega
            rw [this]; rfl
          · have c3' : decide (gi l k ≤ gi l (k - 1)) = false := by simpa using c3
            have HC := Lib.hid c3
            have HC1 := Lib.hid c1
            clear c3
            go_wp2
            go_quiet ((go_at_call 38; exact quiet_left (l00In_any _ _ _ _)))
            clear i3 i5
            go_wp2
            go_roundw
            case rel =>
              refine ⟨k + 1, by omega, by go_num, fun i hi => ?_, fun i hi => ?_, below_drewN HB.out _⟩
              · by_cases e : i < k
                · exact HI.out i e
                · obtain rfl : i = k := by omega
                  exact HC1.out
              · by_cases e : i + 1 < k
                · exact HR.out i e
                · obtain rfl : i = k - 1 := by omega
                  have := HC.out
                  rw [show k - 1 + 1 = k from by omega]
                  omega
            case measure => simp [intOf]; omega
        · have i8 : decide (0 < k) = false := by simpa using c2
          have HB := Lib.hid hb
          have HC1 := Lib.hid c1
          clear hcells hat hb
          go_wp2
          go_quiet ((go_at_call 38; exact quiet_left (l00In_any _ _ _ _)))
          go_wp2
          go_roundw
          case rel =>
            refine ⟨k + 1, by omega, by go_num, fun i hi => ?_, fun i hi => by omega, below_drewN HB.out _⟩
            obtain rfl : i = k := by omega
            exact HC1.out
          case measure => simp [intOf]; omega
      · have c1' : inB (gi l k) lo hi = false := by simpa using c1
        have HB := Lib.hid hb
        clear hcells hat hb c1
        go_wp2
        go_quiet ((go_at_call 38; exact quiet_left (l00In_any _ _ _ _)))
        go_wp2
        go_ret
        refine ⟨?_, below_drewN HB.out _⟩
        have : risesB l lo hi = false := by
          unfold risesB
          rw [Bool.and_eq_false_iff]; right
          rw [← Bool.not_eq_true, all_iff]
          intro hall
          have := hall k hlt
          rw [c1'] at this; cases this
        rw [this]; rfl
    · obtain rfl : k = l.length := by omega
      clear hcells
      go_wp2
      go_ret
      refine ⟨?_, hb⟩
      have : risesB l lo hi = true := by
        unfold risesB
        rw [Bool.and_eq_true, incB_iff, all_iff]
        exact ⟨HR.out, HI.out⟩
      rw [this]; rfl
end Go.Proofs.Ytpnllibboeeaaaa
