/- Contracts: strings.Compare, and slices.BinarySearchFunc over structs by their names. Conditions: bounded lengths. -/
import Derived.Test.YtemdeoeljfcfjaaMark
import Derived.Test.YtemdeoeljfcfjaaApp2
import Derived.Test.YtemdeoeljfcfjaaRowOk
import Derived.Test.YtemdeoeljfcfjaaOver
import Derived.Lib.Bytealg
import Derived.BigQuiet
import Derived.Deep.DeepCutAuto
import Derived.Lib.Walk
namespace Go.Proofs.Ytemdeoeljfcfjaa
open Go.RowKit
set_option linter.unusedVariables false
def cmpS (a b : ByteArray) : Int := Lib.compareBytes a.data.toList b.data.toList
theorem cmp_less : (a b : List UInt8) → (Lib.compareBytes a b < 0 ↔ Op.bytesLess a b = true) := by
  intro a
  induction a with
  | nil => intro b; cases b <;> simp [Lib.compareBytes, Op.bytesLess]
  | cons x a ih =>
    intro b
    cases b with
    | nil => simp [Lib.compareBytes, Op.bytesLess]
    | cons y b =>
      simp only [Lib.compareBytes, Op.bytesLess]
      by_cases h1 : x < y
      · simp [h1]
      · by_cases h2 : y < x
        · have h3 : (x == y) = false := by rw [beq_eq_false_iff_ne]; intro e; subst e; exact h1 h2
          simp [h1, h2, h3]
        · have h3 : x = y := by
            apply UInt8.toNat_inj.1
            rw [UInt8.lt_iff_toNat_lt] at h1 h2
            omega
          subst h3
          simp [h1, ih]
theorem cmpS_lt (a b : ByteArray) : decide (cmpS a b < 0) = ltS a b := by
  unfold cmpS ltS
  rw [ByteArray.toList_eq, ByteArray.toList_eq]
  by_cases h : Op.bytesLess a.data.toList b.data.toList = true
  · rw [h]; simpa using (cmp_less _ _).2 h
  · rw [Bool.eq_false_iff.2 h]
    have := fun e => h ((cmp_less _ _).1 e)
    simpa using this
set_option maxHeartbeats 1000000 in
set_option maxRecDepth 100000 in
theorem compareString_any (a b : ByteArray) (w : World) :
    Calls Try.prog 69 #[.string a, .string b] w fun e w' => e = .returned (.int .i64 (cmpS a b)) ∧ w = w' := by
  go_enter Try.func69, Try.ntmps69
  go_wp2
  rw [run_callFunc_extern Try.func71 (by kernel_rfl) (by kernel_rfl) (by kernel_rfl) (e := Extern.BytealgCompare.compare) (by kernel_rfl), Lib.run_compareString]
  simp only [Result.andThen]
  rw [Oper.upon_value]
  go_wp2
  go_ret
  exact ⟨rfl, rfl⟩
theorem stringsCompare_any (a b : ByteArray) (w : World) :
    Calls Try.prog 66 #[.string a, .string b] w fun e w' => e = .returned (.int .i64 (cmpS a b)) ∧ w = w' := by
  go_enter Try.func66, Try.ntmps66
  go_wp2_with fail
  refine (compareString_any _ _ _).mono ?_
  rintro e _ ⟨rfl, rfl⟩
  go_wp2
  go_ret
  exact ⟨rfl, rfl⟩
/-- where a search ends -/
def BinP (n : Nat) (lt : Nat → Bool) (w : World) (e : Ending) (w' : World) : Prop := ∃ (k : Nat) (fd : Bool), k ≤ n ∧ e = .returned (.tuple #[.int .i64 (k : Int), .bool fd]) ∧ Below w.heap.size w w' ∧ (0 < k → lt (k - 1) = true) ∧ (k < n → lt k = false)
end Go.Proofs.Ytemdeoeljfcfjaa
