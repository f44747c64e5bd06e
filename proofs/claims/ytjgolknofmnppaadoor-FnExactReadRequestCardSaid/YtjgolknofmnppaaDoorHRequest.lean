/- Contracts of the laws' helpers over the type Request and slices of it. Conditions: bounded lengths. -/
import Derived.Test.YtjgolknofmnppaaDoorInts2
import Derived.Test.YtjgolknofmnppaaDoorTypes
import Derived.Test.YtjgolknofmnppaaDoorOver
namespace Go.Proofs.YtjgolknofmnppaaDoor
open Go.RowKit
set_option linter.unusedVariables false

theorem eq_Request (x : DRequest) (w : World) :
    Calls Tryd.prog 20 #[.agg #[.string x.id, .string x.applicant, .string x.partner, .int .i64 x.low, .int .i64 x.high, .int .i64 x.filed, .int .i64 x.deadline, .int .i64 x.state], .agg #[.string x.id, .string x.applicant, .string x.partner, .int .i64 x.low, .int .i64 x.high, .int .i64 x.filed, .int .i64 x.deadline, .int .i64 x.state]] w fun e w' => e = .returned (.bool true) ∧ Below w.heap.size w w' := by
  go_enter Tryd.func20, Tryd.ntmps20
  go_wp2
  go_ret
  exact ⟨rfl, ((Below.refl _ _).alloc (Nat.le_refl _) _).alloc (by simp) _⟩
theorem DRequest.sT_eq (l : List DRequest) : DRequest.sT l = .sl 8 (l.flatMap DRequest.tr) := rfl
theorem DRequest.siz_s (l : List DRequest) : siz (DRequest.sT l) = l.length + sizL (l.flatMap DRequest.tr) := siz_flat DRequest.tr 8 (by decide) DRequest.tr_len l
theorem DRequest.cnt_tr (x : DRequest) : cntL x.tr = 8 := by simp only [DRequest.tr, cntL, cnt, intT, strT]
theorem DRequest.mk_tr (x : DRequest) (K : Nat) : mkL x.tr K = [.lit (.string (mtext (K))), .lit (.string (mtext (K + 1))), .lit (.string (mtext (K + 1 + 1))), .lit (.int .i64 ((K : Int) + 1 + 1 + 1)), .lit (.int .i64 ((K : Int) + 1 + 1 + 1 + 1)), .lit (.int .i64 ((K : Int) + 1 + 1 + 1 + 1 + 1)), .lit (.int .i64 ((K : Int) + 1 + 1 + 1 + 1 + 1 + 1)), .lit (.int .i64 ((K : Int) + 1 + 1 + 1 + 1 + 1 + 1 + 1))] := rfl
theorem DRequest.cntL_tr (x : DRequest) : cntL x.tr = 1 + 1 + 1 + 1 + 1 + 1 + 1 + 1 := by rfl
end Go.Proofs.YtjgolknofmnppaaDoor
