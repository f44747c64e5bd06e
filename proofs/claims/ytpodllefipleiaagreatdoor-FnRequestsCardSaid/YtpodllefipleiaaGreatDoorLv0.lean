/- Rounded quotients, roots, logarithms. Plain lemmas; no program. -/
import Derived.Lib.ItoaNum
set_option linter.unusedVariables false
set_option linter.unusedSimpArgs false
namespace Go.Proofs.YtpodllefipleiaaGreatDoor
end Go.Proofs.YtpodllefipleiaaGreatDoor
