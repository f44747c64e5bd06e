/- Contract: slices.BinarySearchFunc over Sectors by their names. Conditions: bounded lengths. -/
import Derived.Test.YtpakghepnahooaaGreatDoorSame0
import Derived.Lib.Bytealg
import Derived.Deep.DeepCutAuto
import Derived.Lib.Walk
import Derived.Test.YtpakghepnahooaaGreatDoorHProtected
set_option linter.unusedVariables false
set_option linter.unusedSimpArgs false
namespace Go.Proofs.YtpakghepnahooaaGreatDoor
open Go.RowKit
end Go.Proofs.YtpakghepnahooaaGreatDoor
