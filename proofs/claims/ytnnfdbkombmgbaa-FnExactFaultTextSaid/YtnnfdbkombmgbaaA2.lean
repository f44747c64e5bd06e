/- Contracts: what FaultText of the program and of the reference return. Conditions: the strings are of bounded size. -/
import Derived.Test.YtnnfdbkombmgbaaA1
import Derived.Test.YtnnfdbkombmgbaaHFault
import Derived.Deep.RegionWith
import Derived.Deep.RegionHeld3
import Derived.BigQuiet
namespace Go.Proofs.Ytnnfdbkombmgbaa
open Go.RowKit
set_option linter.unusedVariables false

/-- a fault as text -/
def ftext (k : Int) (who what : ByteArray) : ByteArray :=
  if (fname k).toList.isEmpty then ⟨#[]⟩ else if what.toList.isEmpty then fname k ++ ⟨#[32]⟩ ++ who else fname k ++ ⟨#[32]⟩ ++ who ++ ⟨#[32]⟩ ++ what

theorem fname_size (k : Int) : (fname k).size ≤ 7 := by
  unfold fname
  repeat (split; (show Array.size _ ≤ 7; decide))
  show Array.size _ ≤ 7; decide
theorem fname_in (k : Int) (h1 : 1 ≤ k) (h2 : k ≤ 7) : (fname k).toList.isEmpty = false := by
  have hs : k = 1 ∨ k = 2 ∨ k = 3 ∨ k = 4 ∨ k = 5 ∨ k = 6 ∨ k = 7 := by omega
  rcases hs with rfl | rfl | rfl | rfl | rfl | rfl | rfl <;> (rw [ByteArray.toList_eq]; rfl)
theorem fname_out (k : Int) (h : ¬ (1 ≤ k ∧ k ≤ 7)) : fname k = ⟨#[]⟩ := by unfold fname; repeat rw [if_neg (by omega)]

theorem iFaultText_any (k : Int) (who what : ByteArray) (w : World) (h1 : who.size ≤ 1048576) (h2 : what.size ≤ 1048576) :
    Calls Try.prog 11 #[.agg #[.int .i64 k, .string who, .string what]] w fun e w' => e = .returned (.string (ftext k who what)) ∧ Below w.heap.size w w' := by
  have h3 := fname_size k
  by_cases c1 : (fname k).toList.isEmpty = true
  · have he : ftext k who what = ⟨#[]⟩ := by unfold ftext; rw [if_pos c1]
    rw [he]; clear he
    go_enter Try.func11, Try.ntmps11
    go_wp2_with (go_at_call 7; refine (iFaultName_any _ _).mono ?_; rintro e w' ⟨rfl, rfl⟩)
    go_ret
    exact ⟨rfl, (Below.refl _ _).alloc (Nat.le_refl _) _⟩
  · have c1' : (fname k).toList.isEmpty = false := by simpa using c1
    by_cases c2 : what.toList.isEmpty = true
    · have he : ftext k who what = fname k ++ ⟨#[32]⟩ ++ who := by unfold ftext; rw [if_neg c1, if_pos c2]
      rw [he]; clear he c1
      go_enter Try.func11, Try.ntmps11
      go_wp2_with (go_at_call 7; refine (iFaultName_any _ _).mono ?_; rintro e w' ⟨rfl, rfl⟩)
      go_ret
      exact ⟨rfl, (Below.refl _ _).alloc (Nat.le_refl _) _⟩
    · have c2' : what.toList.isEmpty = false := by simpa using c2
      have he : ftext k who what = fname k ++ ⟨#[32]⟩ ++ who ++ ⟨#[32]⟩ ++ what := by unfold ftext; rw [if_neg c1, if_neg c2]
      rw [he]; clear he c1 c2
      go_enter Try.func11, Try.ntmps11
      go_wp2_with (go_at_call 7; refine (iFaultName_any _ _).mono ?_; rintro e w' ⟨rfl, rfl⟩)
      go_ret
      exact ⟨rfl, (Below.refl _ _).alloc (Nat.le_refl _) _⟩

theorem names_any (w : World) : Calls Try.prog 22 #[] w fun e w' => e = .returned (.slice (some ⟨w.heap.size, 0, none⟩) 8 8) ∧ w.alloc (.cells fnames 9) = w' := by
  go_enter Try.func22, Try.ntmps22
  go_wp2
  go_ret
  exact ⟨rfl, rfl⟩
theorem fnames_at (k : Int) (h1 : 1 ≤ k) (h2 : k ≤ 7) : fnames[k.toNat]? = some (.string (fname k)) := by
  have hs : k = 1 ∨ k = 2 ∨ k = 3 ∨ k = 4 ∨ k = 5 ∨ k = 6 ∨ k = 7 := by omega
  rcases hs with rfl | rfl | rfl | rfl | rfl | rfl | rfl <;> rfl

set_option maxHeartbeats 1000000 in
theorem sFaultText_any (k : Int) (who what : ByteArray) (w : World) (h1 : who.size ≤ 1048576) (h2 : what.size ≤ 1048576) :
    Calls Try.prog 9 #[.agg #[.int .i64 k, .string who, .string what]] w fun e w' => e = .returned (.string (ftext k who what)) ∧ Below w.heap.size w w' := by
  have h3 := fname_size k
  by_cases c1 : 1 ≤ k ∧ k ≤ 7
  · obtain ⟨c3, c4⟩ := c1
    have c5 : decide (k ≤ 7) = true := by simp; omega
    have c6 := fname_in k c3 c4
    have c7 := fnames_at k c3 c4
    have c8 : 0 ≤ k := by omega
    have c9 : k < 8 := by omega
    have d1 : ¬ (9223372036854775807 < (fname k).size + 1) := by omega
    have d2 : ¬ (9223372036854775807 < (fname k).size + 1 + who.size) := by omega
    by_cases c2 : what.toList.isEmpty = true
    · have he : ftext k who what = fname k ++ ⟨#[32]⟩ ++ who := by unfold ftext; rw [if_neg (by simp [c6]), if_pos c2]
      rw [he]; clear he
      go_enter Try.func9, Try.ntmps9
      go_wp2
      go_region_with (go_at_call 22; refine (names_any _).mono ?_; rintro e w' ⟨rfl, rfl⟩)
      all_goals
        go_wp2
        go_ret
        exact ⟨rfl, (((Below.refl _ _).alloc (Nat.le_refl _) _).alloc (by simp) _).drew⟩
    · have c2' : what.toList.isEmpty = false := by simpa using c2
      have he : ftext k who what = fname k ++ ⟨#[32]⟩ ++ who ++ (⟨#[32]⟩ ++ what) := by unfold ftext; rw [if_neg (by simp [c6]), if_neg c2]; simp [ByteArray.append_assoc]
      clear c2
      rw [he]; clear he
      go_enter Try.func9, Try.ntmps9
      go_wp2
      go_region_with (go_at_call 22; refine (names_any _).mono ?_; rintro e w' ⟨rfl, rfl⟩)
      all_goals
        go_wp2
        go_ret
        exact ⟨rfl, (((Below.refl _ _).alloc (Nat.le_refl _) _).alloc (by simp) _).drew⟩
  · have he : ftext k who what = ⟨#[]⟩ := by unfold ftext; rw [fname_out k c1, ByteArray.toList_eq]; rfl
    rw [he]; clear he
    by_cases h1 : 1 ≤ k
    · have h7 : decide (k ≤ 7) = false := by simp; omega
      clear c1
      go_enter Try.func9, Try.ntmps9
      go_wp2
      go_ret
      exact ⟨rfl, (Below.refl _ _).alloc (Nat.le_refl _) _⟩
    · clear c1
      go_enter Try.func9, Try.ntmps9
      go_wp2
      go_ret
      exact ⟨rfl, (Below.refl _ _).alloc (Nat.le_refl _) _⟩
end Go.Proofs.Ytnnfdbkombmgbaa
