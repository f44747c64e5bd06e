/- Contracts: domains of problems, for the program and for the reference. Conditions: bounded lengths. -/
import Derived.Test.YtjkpadfolkniaaaGreatDoorSl
namespace Go.Proofs.YtjkpadfolkniaaaGreatDoor
open Go.RowKit
set_option linter.unusedVariables false

/-- element i, or 0 -/
def gi (l : List Int) (i : Nat) : Int := l.getD i 0
/-- the numbers rise -/
def incB : List Int → Bool
  | [] => true
  | [_] => true
  | a :: b :: r => decide (a < b) && incB (b :: r)
theorem incB_iff : (l : List Int) → (incB l = true ↔ ∀ i, i + 1 < l.length → gi l i < gi l (i + 1)) := by
  intro l
  unfold gi
  induction l with
  | nil => simp [incB]
  | cons a l ih =>
    cases l with
    | nil => simp [incB]
    | cons b r =>
      rw [incB, Bool.and_eq_true, decide_eq_true_iff, ih]
      constructor
      · rintro ⟨h1, h2⟩ i hi
        cases i with
        | zero => simpa using h1
        | succ i => have := h2 i (by simp at hi ⊢; omega); simpa using this
      · intro h
        refine ⟨by simpa using h 0 (by simp), fun i hi => ?_⟩
        have := h (i + 1) (by simp at hi ⊢; omega)
        simpa using this
theorem gi_eq {l : List Int} {i : Nat} (h : i < l.length) : l[i] = gi l i := by simp [gi, h]

theorem quiet_left {P : Program} {f : FuncId} {args : Array Value} {w : World} {n : Nat} {v : Value}
    (h : Calls P f args (w.drewN n) fun e w' => e = .returned v ∧ w.drewN n = w') : Calls P f args (w.drewN n) fun e w'' => e = .returned v ∧ ∃ m, w'' = w.drewN m :=
  h.mono fun _ _ ⟨he, hm⟩ => ⟨he, n, hm.symm⟩
/-- the numbers rise, within bounds -/
def risesB (l : List Int) (lo hi : Int) : Bool := incB l && l.all fun n => inB n lo hi
theorem all_iff (l : List Int) (lo hi : Int) : (l.all fun n => inB n lo hi) = true ↔ ∀ i, i < l.length → inB (gi l i) lo hi = true := by
  rw [List.all_eq_true]
  constructor
  · intro h i hi
    have := h l[i] (List.getElem_mem hi)
    rwa [gi_eq] at this
  · intro h x hx
    obtain ⟨i, hi, rfl⟩ := List.getElem_of_mem hx
    have := h i hi
    rwa [← gi_eq hi] at this
end Go.Proofs.YtjkpadfolkniaaaGreatDoor
