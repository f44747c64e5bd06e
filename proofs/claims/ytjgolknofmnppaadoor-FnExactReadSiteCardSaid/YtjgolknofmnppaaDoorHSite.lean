/- Contracts of the laws' helpers over the type Site and slices of it. Conditions: bounded lengths. -/
import Derived.Test.YtjgolknofmnppaaDoorInts2
import Derived.Test.YtjgolknofmnppaaDoorTypes
import Derived.Test.YtjgolknofmnppaaDoorOver
import Derived.Test.YtjgolknofmnppaaDoorHPoint
namespace Go.Proofs.YtjgolknofmnppaaDoor
open Go.RowKit
set_option linter.unusedVariables false

set_option maxHeartbeats 2000000 in
theorem eq_Site (x : DSite) (w : World) :
    Calls Tryd.prog 17 #[.agg #[.string x.name, .string x.holder, .int .i64 x.place.x, .int .i64 x.place.y], .agg #[.string x.name, .string x.holder, .int .i64 x.place.x, .int .i64 x.place.y]] w fun e w' => e = .returned (.bool true) ∧ Below w.heap.size w w' := by
  go_enter Tryd.func17, Tryd.ntmps17
  go_wp2_with fail
  refine (eq_Point x.place _).mono ?_
  rintro e w1 ⟨rfl, hb1⟩
  obtain ⟨qa1, _, ya1⟩ := bcellAt hb1 (b := w.heap.size) (by first | omega | (simp; done) | (simp; omega))
  obtain ⟨qb1, _, yb1⟩ := bcellAt hb1 (b := w.heap.size + 1) (by first | omega | (simp; done) | (simp; omega))
  go_wp2
  go_ret
  refine ⟨rfl, ?_⟩
  repeat (first | exact Below.refl _ _ | (refine Below.alloc ?_ (by first | omega | (simp; done) | (simp; omega)) _) | (refine Below.trans ?_ (hb1.mono (by first | omega | (simp; done) | (simp; omega)))))
theorem DSite.sT_eq (l : List DSite) : DSite.sT l = .sl 4 (l.flatMap DSite.tr) := rfl
theorem DSite.siz_s (l : List DSite) : siz (DSite.sT l) = l.length + sizL (l.flatMap DSite.tr) := siz_flat DSite.tr 4 (by decide) DSite.tr_len l
theorem DSite.cnt_tr (x : DSite) : cntL x.tr = 4 := by simp only [DSite.tr, cntL, cnt, intT, strT]
theorem DSite.mk_tr (x : DSite) (K : Nat) : mkL x.tr K = [.lit (.string (mtext (K))), .lit (.string (mtext (K + 1))), .lit (.int .i64 ((K : Int) + 1 + 1)), .lit (.int .i64 ((K : Int) + 1 + 1 + 1))] := rfl
theorem DSite.cntL_tr (x : DSite) : cntL x.tr = 1 + 1 + 1 + 1 := by rfl
end Go.Proofs.YtjgolknofmnppaaDoor
