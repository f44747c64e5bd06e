/- Contracts: numbers, lists of numbers and divided texts, read, for the program and for the reference. Conditions: bounded sizes; the library's own variables hold what they hold at the start. -/
import Derived.Test.YtpodllefipleiaaGreatDoorRd1
set_option linter.unusedVariables false
set_option linter.unusedSimpArgs false
namespace Go.Proofs.YtpodllefipleiaaGreatDoor
open Go.RowKit
theorem numF (l:List UInt8) (h:num l=none):numV l=0∧numB l=false:=by unfold numV numB;rw[h];exact⟨rfl,rfl⟩
theorem numT (l:List UInt8) (v:Int) (h:num l=some v):numV l=v∧numB l=true:=by unfold numV numB;rw[h];exact⟨rfl,rfl⟩
end Go.Proofs.YtpodllefipleiaaGreatDoor
