/- Contracts: radios are valid, for the program and for the reference. Conditions: bounded lengths. -/
import Derived.Test.YtpodllefipleiaaGreatDoorOrdS
import Derived.Test.YtpodllefipleiaaGreatDoorRaw
set_option linter.unusedVariables false
set_option linter.unusedSimpArgs false
namespace Go.Proofs.YtpodllefipleiaaGreatDoor
open Go.RowKit
end Go.Proofs.YtpodllefipleiaaGreatDoor
