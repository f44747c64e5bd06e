/- The fit of samples and the deviation of samples from a fit: what the program computes, and the law of P30. Plain. No program. -/
import Derived.Test.YtpodllefipleiaaGreatDoorTn0
import Derived.Test.YtpodllefipleiaaGreatDoorLv0
set_option linter.unusedVariables false
set_option linter.unusedSimpArgs false
namespace Go.Proofs.YtpodllefipleiaaGreatDoor
end Go.Proofs.YtpodllefipleiaaGreatDoor
