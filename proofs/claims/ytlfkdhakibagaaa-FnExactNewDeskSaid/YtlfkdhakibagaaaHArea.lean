/- Contracts of the laws' helpers over the type Area and slices of it. Conditions: bounded lengths. -/
import Derived.Test.YtlfkdhakibagaaaInts2
import Derived.Test.YtlfkdhakibagaaaTypes
import Derived.Test.YtlfkdhakibagaaaText
import Derived.Test.YtlfkdhakibagaaaOver
namespace Go.Proofs.Ytlfkdhakibagaaa
open Go.RowKit
set_option linter.unusedVariables false

theorem eq_Area (x : DArea) (w : World) :
    Calls Try.prog 66 #[.agg #[.int .i64 x.west, .int .i64 x.south, .int .i64 x.east, .int .i64 x.north], .agg #[.int .i64 x.west, .int .i64 x.south, .int .i64 x.east, .int .i64 x.north]] w fun e w' => e = .returned (.bool true) ∧ Below w.heap.size w w' := by
  go_enter Try.func66, Try.ntmps66
  go_wp2
  go_ret
  exact ⟨rfl, ((Below.refl _ _).alloc (Nat.le_refl _) _).alloc (by simp) _⟩
theorem DArea.sT_eq (l : List DArea) : DArea.sT l = .sl 4 (l.flatMap DArea.tr) := rfl
theorem DArea.siz_s (l : List DArea) : siz (DArea.sT l) = l.length + sizL (l.flatMap DArea.tr) := siz_flat DArea.tr 4 (by decide) DArea.tr_len l
theorem DArea.cnt_tr (x : DArea) : cntL x.tr = 4 := by simp only [DArea.tr, cntL, cnt, intT]
theorem DArea.mk_tr (x : DArea) (K : Nat) : mkL x.tr K = [.lit (.int .i64 ((K : Int))), .lit (.int .i64 ((K : Int) + 1)), .lit (.int .i64 ((K : Int) + 1 + 1)), .lit (.int .i64 ((K : Int) + 1 + 1 + 1))] := rfl
theorem DArea.cntL_tr (x : DArea) : cntL x.tr = 1 + 1 + 1 + 1 := by rfl
end Go.Proofs.Ytlfkdhakibagaaa
