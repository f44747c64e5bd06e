/- Contracts of the laws' helpers over the type Point and slices of it. Conditions: bounded lengths. -/
import Derived.Test.YtjgolknofmnppaaDoorInts2
import Derived.Test.YtjgolknofmnppaaDoorTypes
import Derived.Test.YtjgolknofmnppaaDoorOver
namespace Go.Proofs.YtjgolknofmnppaaDoor
open Go.RowKit
set_option linter.unusedVariables false

theorem eq_Point (x : DPoint) (w : World) :
    Calls Tryd.prog 38 #[.agg #[.int .i64 x.x, .int .i64 x.y], .agg #[.int .i64 x.x, .int .i64 x.y]] w fun e w' => e = .returned (.bool true) ∧ Below w.heap.size w w' := by
  go_enter Tryd.func38, Tryd.ntmps38
  go_wp2
  go_ret
  exact ⟨rfl, ((Below.refl _ _).alloc (Nat.le_refl _) _).alloc (by simp) _⟩
theorem DPoint.sT_eq (l : List DPoint) : DPoint.sT l = .sl 2 (l.flatMap DPoint.tr) := rfl
theorem DPoint.siz_s (l : List DPoint) : siz (DPoint.sT l) = l.length + sizL (l.flatMap DPoint.tr) := siz_flat DPoint.tr 2 (by decide) DPoint.tr_len l
theorem DPoint.cnt_tr (x : DPoint) : cntL x.tr = 2 := by simp only [DPoint.tr, cntL, cnt, intT]
theorem DPoint.mk_tr (x : DPoint) (K : Nat) : mkL x.tr K = [.lit (.int .i64 ((K : Int))), .lit (.int .i64 ((K : Int) + 1))] := rfl
theorem DPoint.cntL_tr (x : DPoint) : cntL x.tr = 1 + 1 := by rfl
end Go.Proofs.YtjgolknofmnppaaDoor
