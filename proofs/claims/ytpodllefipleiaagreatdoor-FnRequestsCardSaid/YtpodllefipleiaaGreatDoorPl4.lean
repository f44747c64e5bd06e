/- Contracts: bands are valid, for the program and for the reference. Conditions: bounded lengths. -/
import Derived.Test.YtpodllefipleiaaGreatDoorPl1
import Derived.Test.YtpodllefipleiaaGreatDoorBox
import Derived.Test.YtpodllefipleiaaGreatDoorOverTail
import Derived.Lib.MinMax
import Derived.Test.YtpodllefipleiaaGreatDoorNetC
set_option linter.unusedVariables false
set_option linter.unusedSimpArgs false
namespace Go.Proofs.YtpodllefipleiaaGreatDoor
open Go.RowKit
open Go.RowKit
open Go.RowKit
end Go.Proofs.YtpodllefipleiaaGreatDoor
