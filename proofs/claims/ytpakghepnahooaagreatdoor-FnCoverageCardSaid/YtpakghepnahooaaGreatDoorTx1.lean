/- Texts that are divided at a byte, lists of numbers as texts. Plain lemmas; no program. -/
import Derived.Test.YtpakghepnahooaaGreatDoorSh
import Derived.Lib.ItoaLen
import Derived.Lib.ParseIntBTie
import Derived.Lib.SplitLaws
import Derived.Lib.Join
set_option linter.unusedVariables false
set_option linter.unusedSimpArgs false
namespace Go.Proofs.YtpakghepnahooaaGreatDoor
end Go.Proofs.YtpakghepnahooaaGreatDoor
