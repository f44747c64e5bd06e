/- Contracts of the laws' helpers over the type Sector and slices of it. Conditions: bounded lengths. -/
import Derived.Test.YtjgolknofmnppaaDoorInts2
import Derived.Test.YtjgolknofmnppaaDoorTypes
import Derived.Test.YtjgolknofmnppaaDoorOver
namespace Go.Proofs.YtjgolknofmnppaaDoor
open Go.RowKit
set_option linter.unusedVariables false

theorem eq_Sector (x : DSector) (w : World) :
    Calls Tryd.prog 14 #[.agg #[.string x.name, .string x.site, .string x.antenna, .string x.radio, .string x.band, .int .i64 x.azimuth, .int .i64 x.tilt, .int .i64 x.above, .int .i64 x.channel], .agg #[.string x.name, .string x.site, .string x.antenna, .string x.radio, .string x.band, .int .i64 x.azimuth, .int .i64 x.tilt, .int .i64 x.above, .int .i64 x.channel]] w fun e w' => e = .returned (.bool true) ∧ Below w.heap.size w w' := by
  go_enter Tryd.func14, Tryd.ntmps14
  go_wp2
  go_ret
  exact ⟨rfl, ((Below.refl _ _).alloc (Nat.le_refl _) _).alloc (by simp) _⟩
theorem DSector.sT_eq (l : List DSector) : DSector.sT l = .sl 9 (l.flatMap DSector.tr) := rfl
theorem DSector.siz_s (l : List DSector) : siz (DSector.sT l) = l.length + sizL (l.flatMap DSector.tr) := siz_flat DSector.tr 9 (by decide) DSector.tr_len l
theorem DSector.cnt_tr (x : DSector) : cntL x.tr = 9 := by simp only [DSector.tr, cntL, cnt, intT, strT]
theorem DSector.mk_tr (x : DSector) (K : Nat) : mkL x.tr K = [.lit (.string (mtext (K))), .lit (.string (mtext (K + 1))), .lit (.string (mtext (K + 1 + 1))), .lit (.string (mtext (K + 1 + 1 + 1))), .lit (.string (mtext (K + 1 + 1 + 1 + 1))), .lit (.int .i64 ((K : Int) + 1 + 1 + 1 + 1 + 1)), .lit (.int .i64 ((K : Int) + 1 + 1 + 1 + 1 + 1 + 1)), .lit (.int .i64 ((K : Int) + 1 + 1 + 1 + 1 + 1 + 1 + 1)), .lit (.int .i64 ((K : Int) + 1 + 1 + 1 + 1 + 1 + 1 + 1 + 1))] := rfl
theorem DSector.cntL_tr (x : DSector) : cntL x.tr = 1 + 1 + 1 + 1 + 1 + 1 + 1 + 1 + 1 := by rfl
end Go.Proofs.YtjgolknofmnppaaDoor
