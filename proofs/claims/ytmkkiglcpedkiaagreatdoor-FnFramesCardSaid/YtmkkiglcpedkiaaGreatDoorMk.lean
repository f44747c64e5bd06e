/- Blocks carried over calls and stores; words for regions that draw their order. Plain lemmas; no program. (The same lemmas stand in LvK, for the seats with levels.) -/
import Derived.Test.YtmkkiglcpedkiaaGreatDoorBox
import Derived.Lib.Hide
import Derived.Test.YtmkkiglcpedkiaaGreatDoorTree
import Derived.Test.YtmkkiglcpedkiaaGreatDoorOverTail
set_option linter.unusedVariables false
set_option linter.unusedSimpArgs false
namespace Go.Proofs.YtmkkiglcpedkiaaGreatDoor
open Go.RowKit
end Go.Proofs.YtmkkiglcpedkiaaGreatDoor
