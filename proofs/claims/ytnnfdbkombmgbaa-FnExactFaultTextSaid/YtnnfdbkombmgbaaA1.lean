/- Contracts: what the program's FaultName and the reference's FaultName return, for every integer. No condition. -/
import Derived.Test.YtnnfdbkombmgbaaProg
import Derived.WalkKit
import Derived.Outline
import Derived.Below
import Derived.RowKit3
namespace Go.Proofs.Ytnnfdbkombmgbaa
open Go.RowKit
set_option linter.unusedVariables false

/-- the names of kinds of faults -/
def fnames : Array Value := #[.string ⟨#[]⟩, .string ⟨#[112, 108, 97, 99, 101]⟩, .string ⟨#[99, 104, 97, 110, 110, 101, 108]⟩, .string ⟨#[98, 97, 110, 100]⟩, .string ⟨#[108, 105, 99, 101, 110, 99, 101]⟩, .string ⟨#[112, 111, 119, 101, 114]⟩, .string ⟨#[97, 112, 97, 114, 116]⟩, .string ⟨#[108, 105, 109, 105, 116]⟩]
def fname (n : Int) : ByteArray :=
  if n = 1 then ⟨#[112, 108, 97, 99, 101]⟩ else if n = 2 then ⟨#[99, 104, 97, 110, 110, 101, 108]⟩ else if n = 3 then ⟨#[98, 97, 110, 100]⟩
  else if n = 4 then ⟨#[108, 105, 99, 101, 110, 99, 101]⟩ else if n = 5 then ⟨#[112, 111, 119, 101, 114]⟩ else if n = 6 then ⟨#[97, 112, 97, 114, 116]⟩
  else if n = 7 then ⟨#[108, 105, 109, 105, 116]⟩ else ⟨#[]⟩

theorem iFaultName_any (n : Int) (w : World) :
    Calls Try.prog 7 #[.int .i64 n] w fun e w' => e = .returned (.string (fname n)) ∧ w = w' := by
  by_cases h : 1 ≤ n ∧ n ≤ 7
  · have hs : n = 1 ∨ n = 2 ∨ n = 3 ∨ n = 4 ∨ n = 5 ∨ n = 6 ∨ n = 7 := by omega
    clear h
    have i1 : ∀ w : World, (Instr.index 45 (.agg fnames) (.int .i64 1)).run Try.prog w = .ok (.string ⟨#[112, 108, 97, 99, 101]⟩) w := fun _ => by kernel_rfl
    have i2 : ∀ w : World, (Instr.index 45 (.agg fnames) (.int .i64 2)).run Try.prog w = .ok (.string ⟨#[99, 104, 97, 110, 110, 101, 108]⟩) w := fun _ => by kernel_rfl
    have i3 : ∀ w : World, (Instr.index 45 (.agg fnames) (.int .i64 3)).run Try.prog w = .ok (.string ⟨#[98, 97, 110, 100]⟩) w := fun _ => by kernel_rfl
    have i4 : ∀ w : World, (Instr.index 45 (.agg fnames) (.int .i64 4)).run Try.prog w = .ok (.string ⟨#[108, 105, 99, 101, 110, 99, 101]⟩) w := fun _ => by kernel_rfl
    have i5 : ∀ w : World, (Instr.index 45 (.agg fnames) (.int .i64 5)).run Try.prog w = .ok (.string ⟨#[112, 111, 119, 101, 114]⟩) w := fun _ => by kernel_rfl
    have i6 : ∀ w : World, (Instr.index 45 (.agg fnames) (.int .i64 6)).run Try.prog w = .ok (.string ⟨#[97, 112, 97, 114, 116]⟩) w := fun _ => by kernel_rfl
    have i7 : ∀ w : World, (Instr.index 45 (.agg fnames) (.int .i64 7)).run Try.prog w = .ok (.string ⟨#[108, 105, 109, 105, 116]⟩) w := fun _ => by kernel_rfl
    unfold fnames at *
    rcases hs with rfl | rfl | rfl | rfl | rfl | rfl | rfl
    · clear i2 i3 i4 i5 i6 i7
      go_enter Try.func7, Try.ntmps7
      go_wp2
      go_ret
      exact ⟨rfl, rfl⟩
    · clear i1 i3 i4 i5 i6 i7
      go_enter Try.func7, Try.ntmps7
      go_wp2
      go_ret
      exact ⟨rfl, rfl⟩
    · clear i2 i1 i4 i5 i6 i7
      go_enter Try.func7, Try.ntmps7
      go_wp2
      go_ret
      exact ⟨rfl, rfl⟩
    · clear i2 i3 i1 i5 i6 i7
      go_enter Try.func7, Try.ntmps7
      go_wp2
      go_ret
      exact ⟨rfl, rfl⟩
    · clear i2 i3 i4 i1 i6 i7
      go_enter Try.func7, Try.ntmps7
      go_wp2
      go_ret
      exact ⟨rfl, rfl⟩
    · clear i2 i3 i4 i5 i1 i7
      go_enter Try.func7, Try.ntmps7
      go_wp2
      go_ret
      exact ⟨rfl, rfl⟩
    · clear i2 i3 i4 i5 i6 i1
      go_enter Try.func7, Try.ntmps7
      go_wp2
      go_ret
      exact ⟨rfl, rfl⟩
  · have e : fname n = ⟨#[]⟩ := by unfold fname; repeat rw [if_neg (by omega)]
    rw [e]
    by_cases h1 : 1 ≤ n
    · have h7 : decide (n ≤ 7) = false := by simp; omega
      clear h e
      go_enter Try.func7, Try.ntmps7
      go_wp2
      go_ret
      exact ⟨rfl, rfl⟩
    · clear h e
      go_enter Try.func7, Try.ntmps7
      go_wp2
      go_ret
      exact ⟨rfl, rfl⟩

theorem sFaultName_any (n : Int) (w : World) :
    Calls Try.prog 6 #[.int .i64 n] w fun e w' => e = .returned (.string (fname n)) ∧ Grown w w' := by
  by_cases h : 1 ≤ n ∧ n ≤ 7
  · have hs : n = 1 ∨ n = 2 ∨ n = 3 ∨ n = 4 ∨ n = 5 ∨ n = 6 ∨ n = 7 := by omega
    clear h
    rcases hs with rfl | rfl | rfl | rfl | rfl | rfl | rfl
    all_goals
      go_enter Try.func6, Try.ntmps6
      go_wp2
      go_ret
      exact ⟨rfl, by repeat (first | exact Grown.refl _ | apply Grown.drew | apply Grown.alloc)⟩
  · have e : fname n = ⟨#[]⟩ := by unfold fname; repeat rw [if_neg (by omega)]
    rw [e]
    by_cases h1 : 1 ≤ n
    · have h7 : decide (n ≤ 7) = false := by simp; omega
      clear h e
      go_enter Try.func6, Try.ntmps6
      go_wp2
      go_ret
      exact ⟨rfl, by repeat (first | exact Grown.refl _ | apply Grown.drew | apply Grown.alloc)⟩
    · clear h e
      go_enter Try.func6, Try.ntmps6
      go_wp2
      go_ret
      exact ⟨rfl, by repeat (first | exact Grown.refl _ | apply Grown.drew | apply Grown.alloc)⟩
end Go.Proofs.Ytnnfdbkombmgbaa
