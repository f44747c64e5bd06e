/- Contracts of the laws' helpers over the type Request and slices of it. Conditions: bounded lengths. -/
import Derived.Test.YtpodllefipleiaaGreatDoorInfoR
import Derived.Test.YtpodllefipleiaaGreatDoorOver
set_option linter.unusedVariables false
set_option linter.unusedSimpArgs false
namespace Go.Proofs.YtpodllefipleiaaGreatDoor
open Go.RowKit
end Go.Proofs.YtpodllefipleiaaGreatDoor
