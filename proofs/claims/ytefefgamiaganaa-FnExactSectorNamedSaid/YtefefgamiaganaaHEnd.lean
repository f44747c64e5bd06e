/- Contracts of the laws' helpers over the type End and slices of it. Conditions: bounded lengths. -/
import Derived.Test.YtefefgamiaganaaInts2
import Derived.Test.YtefefgamiaganaaTypes
import Derived.Test.YtefefgamiaganaaText
import Derived.Test.YtefefgamiaganaaHPoint
namespace Go.Proofs.Ytefefgamiaganaa
open Go.RowKit
set_option linter.unusedVariables false

theorem DEnd.sT_eq (l : List DEnd) : DEnd.sT l = .sl 3 (l.flatMap DEnd.tr) := rfl
theorem DEnd.siz_s (l : List DEnd) : siz (DEnd.sT l) = l.length + sizL (l.flatMap DEnd.tr) := siz_flat DEnd.tr 3 (by decide) DEnd.tr_len l
theorem DEnd.cnt_tr (x : DEnd) : cntL x.tr = 3 := by simp only [DEnd.tr, cntL, cnt, intT]
theorem DEnd.mk_tr (x : DEnd) (K : Nat) : mkL x.tr K = [.lit (.int .i64 ((K : Int))), .lit (.int .i64 ((K : Int) + 1)), .lit (.int .i64 ((K : Int) + 1 + 1))] := rfl
theorem DEnd.cntL_tr (x : DEnd) : cntL x.tr = 1 + 1 + 1 := rfl
end Go.Proofs.Ytefefgamiaganaa
