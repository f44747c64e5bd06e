/- Contracts: logarithms of the reference. Conditions: bounded numbers. -/
import Derived.Test.YtpodllefipleiaaGreatDoorLv1
import Derived.Test.YtpodllefipleiaaGreatDoorMk
import Derived.Lib.MinMax
set_option linter.unusedVariables false
set_option linter.unusedSimpArgs false
namespace Go.Proofs.YtpodllefipleiaaGreatDoor
open Go.RowKit
end Go.Proofs.YtpodllefipleiaaGreatDoor
