/- Regions that draw their order: operations that read and callees that only make memory come first, in any order; a tail in one forced order ends the region. Plain lemmas; no program. -/
import Derived.Test.YtpodllefipleiaaGreatDoorOver
import Derived.StillTail
set_option linter.unusedVariables false
set_option linter.unusedSimpArgs false
namespace Go.Proofs.YtpodllefipleiaaGreatDoor
open Go.RowKit
section
variable {P:Program} {ops:Array Oper} {md:Region.Mode} {C:World→Prop} {n:Nat}
end
end Go.Proofs.YtpodllefipleiaaGreatDoor
