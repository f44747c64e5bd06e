/- Contracts of the laws' helpers over slices of integers: sizes, copies, comparisons, marks. Conditions: bounded lengths. -/
import Derived.Test.YtpodllefipleiaaGreatDoorProg
import Derived.Test.YtpodllefipleiaaGreatDoorMark
import Derived.WalkKit
import Derived.Lib.Hide
import Derived.BigQuiet
import Derived.StillTailTactics
set_option linter.unusedVariables false
set_option linter.unusedSimpArgs false
namespace Go.Proofs.YtpodllefipleiaaGreatDoor
open Go.RowKit
end Go.Proofs.YtpodllefipleiaaGreatDoor
