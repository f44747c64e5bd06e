/- The closed facts of the law FnExactExceedingSectors, one by one. -/
import Derived.Test.YtgmapjgodibchaaGreatDoorRows
import Derived.ProofKit
import Derived.SevenTiedAt
set_option linter.unusedVariables false
set_option linter.unusedSimpArgs false
namespace Go.Proofs.YtgmapjgodibchaaGreatDoor.fnExactExceedingSectors
open Go.RowKit
set_option maxHeartbeats 64000000
theorem over_j:joinedFacts Tryz.pinned.checked.prog 5 Tryz.f5 Rows.fnExactExceedingSectorsSpec Rows.fnExactExceedingSectorsRow=true:=by
 unfold joinedFacts
 repeat' with_reducible refine Bool.and_eq_true_iff.2 ⟨?_,?_⟩
 all_goals as_aux_lemma=>kernel_rfl
end Go.Proofs.YtgmapjgodibchaaGreatDoor.fnExactExceedingSectors
