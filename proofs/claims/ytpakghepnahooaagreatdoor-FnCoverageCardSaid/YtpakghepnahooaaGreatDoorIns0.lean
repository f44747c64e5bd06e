/- Rows under copies and insertions: plain lemmas; no program. -/
import Derived.Test.YtpakghepnahooaaGreatDoorBox
import Derived.Lib.AppendZerosOnto
import Derived.Lib.Overlaps
set_option linter.unusedVariables false
set_option linter.unusedSimpArgs false
namespace Go.Proofs.YtpakghepnahooaaGreatDoor
open Go.RowKit
section
variable {P:Program}
end
theorem ins_flatv {α:Type} (g:α→List Value) (k:Nat) (hg:∀ x,(g x).length=k) (l:List α) (x:α) (i:Nat):(l.take i++x::l.drop i).flatMap g=(l.flatMap g).take (i*k)++(g x++(l.flatMap g).drop (i*k)):=by
 rw[List.flatMap_append,List.flatMap_cons,flatv_take g k hg,flatv_drop g k hg]
end Go.Proofs.YtpakghepnahooaaGreatDoor
