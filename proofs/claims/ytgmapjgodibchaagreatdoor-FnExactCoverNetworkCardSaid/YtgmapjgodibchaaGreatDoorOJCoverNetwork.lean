/- The closed facts of the law FnExactCoverNetwork, one by one. -/
import Derived.Test.YtgmapjgodibchaaGreatDoorSh
import Derived.Test.YtgmapjgodibchaaGreatDoorRows
import Derived.ProofKit
import Derived.SevenTiedAt
set_option linter.unusedVariables false
set_option linter.unusedSimpArgs false
namespace Go.Proofs.YtgmapjgodibchaaGreatDoor.fnExactCoverNetwork
open Go.RowKit
set_option maxHeartbeats 64000000
theorem over_j:joinedFacts Tryz.pinned.checked.prog 3 Tryz.f3 Rows.fnExactCoverNetworkSpec Rows.fnExactCoverNetworkRow=true:=by
 unfold joinedFacts
 repeat' with_reducible refine Bool.and_eq_true_iff.2 ⟨?_,?_⟩
 all_goals as_aux_lemma=>kernel_rfl
end Go.Proofs.YtgmapjgodibchaaGreatDoor.fnExactCoverNetwork
