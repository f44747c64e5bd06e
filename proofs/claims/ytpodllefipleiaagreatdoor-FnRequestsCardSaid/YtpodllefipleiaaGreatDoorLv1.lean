/- Contracts: rounded quotients, roots, values on lines, for the program and for the reference. Conditions: bounded numbers. -/
import Derived.Test.YtpodllefipleiaaGreatDoorLv0
import Derived.Test.YtpodllefipleiaaGreatDoorOver
import Derived.Deep.DeepCutAuto
import Derived.Test.YtpodllefipleiaaGreatDoorInts
set_option linter.unusedVariables false
set_option linter.unusedSimpArgs false
namespace Go.Proofs.YtpodllefipleiaaGreatDoor
open Go.RowKit
end Go.Proofs.YtpodllefipleiaaGreatDoor
