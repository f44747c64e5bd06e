/- Contracts: slices.Insert of one element into a slice of structs of one's own. Conditions: bounded lengths, an index within. -/
import Derived.Test.YtpakghepnahooaaGreatDoorIns0
import Derived.Test.YtpakghepnahooaaGreatDoorVs
import Derived.Test.YtpakghepnahooaaGreatDoorTre2
import Derived.Deep.DeepCutAuto
set_option linter.unusedVariables false
set_option linter.unusedSimpArgs false
namespace Go.Proofs.YtpakghepnahooaaGreatDoor
open Go.RowKit
end Go.Proofs.YtpakghepnahooaaGreatDoor
