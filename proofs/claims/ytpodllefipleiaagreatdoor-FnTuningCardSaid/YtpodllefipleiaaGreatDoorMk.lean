/- Blocks carried over calls and stores; words for regions that draw their order. Plain lemmas; no program. (The same lemmas stand in LvK, for the seats with levels.) -/
import Derived.Test.YtpodllefipleiaaGreatDoorBox
import Derived.Lib.Hide
import Derived.Test.YtpodllefipleiaaGreatDoorOverTail
import Derived.Test.YtpodllefipleiaaGreatDoorTree
set_option linter.unusedVariables false
set_option linter.unusedSimpArgs false
namespace Go.Proofs.YtpodllefipleiaaGreatDoor
open Go.RowKit
theorem wp_cut {P:Program} {c:Code} {Q:Exit→Act→World→Prop} {a:Act} {w:World} (S:World→Prop) (hS:S w) (h:∀ W,S W→c.wp P Q a W):c.wp P Q a w:=h w hS
end Go.Proofs.YtpodllefipleiaaGreatDoor
