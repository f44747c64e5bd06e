/- Contracts of the laws' helpers over the type Area and slices of it. Conditions: bounded lengths. -/
import Derived.Test.YtjfmkmcefnidcaaGreatInts2
import Derived.Test.YtjfmkmcefnidcaaGreatTypes
import Derived.Test.YtjfmkmcefnidcaaGreatText
import Derived.Test.YtjfmkmcefnidcaaGreatOver
namespace Go.Proofs.YtjfmkmcefnidcaaGreat
open Go.RowKit
set_option linter.unusedVariables false

theorem to_Area (x : DArea) (w : World) :
    Calls Tryz.prog 161 #[.agg #[.int .i64 x.west, .int .i64 x.south, .int .i64 x.east, .int .i64 x.north]] w fun e w' => e = .returned (.agg #[.int .i64 x.west, .int .i64 x.south, .int .i64 x.east, .int .i64 x.north]) ∧ Below w.heap.size w w' := by
  go_enter Tryz.func161, Tryz.ntmps161
  go_wp2
  exact bodyPost_ret (v := .agg #[.int .i64 x.west, .int .i64 x.south, .int .i64 x.east, .int .i64 x.north]) (by simp [results, Tryz.results161, go_sem]) rfl ⟨rfl, (((Below.refl _ _).alloc (Nat.le_refl _) _).alloc (by simp) _).alloc (by simp; omega) _⟩
theorem eq_Area (x : DArea) (w : World) :
    Calls Tryz.prog 182 #[.agg #[.int .i64 x.west, .int .i64 x.south, .int .i64 x.east, .int .i64 x.north], .agg #[.int .i64 x.west, .int .i64 x.south, .int .i64 x.east, .int .i64 x.north]] w fun e w' => e = .returned (.bool true) ∧ Below w.heap.size w w' := by
  go_enter Tryz.func182, Tryz.ntmps182
  go_wp2
  go_ret
  exact ⟨rfl, ((Below.refl _ _).alloc (Nat.le_refl _) _).alloc (by simp) _⟩
theorem DArea.sT_eq (l : List DArea) : DArea.sT l = .sl 4 (l.flatMap DArea.tr) := rfl
theorem DArea.siz_s (l : List DArea) : siz (DArea.sT l) = l.length + sizL (l.flatMap DArea.tr) := siz_flat DArea.tr 4 (by decide) DArea.tr_len l
theorem DArea.cnt_tr (x : DArea) : cntL x.tr = 4 := by simp only [DArea.tr, cntL, cnt, intT]
theorem DArea.mk_tr (x : DArea) (K : Nat) : mkL x.tr K = [.lit (.int .i64 ((K : Int))), .lit (.int .i64 ((K : Int) + 1)), .lit (.int .i64 ((K : Int) + 1 + 1)), .lit (.int .i64 ((K : Int) + 1 + 1 + 1))] := rfl
theorem DArea.cntL_tr (x : DArea) : cntL x.tr = 1 + 1 + 1 + 1 := by rfl
end Go.Proofs.YtjfmkmcefnidcaaGreat
