/- Blocks carried over calls and stores; words for regions that draw their order. Plain lemmas; no program. (The same lemmas stand in LvK, for the seats with levels.) -/
import Derived.Test.YtpodllefipleiaaGreatDoorBox
import Derived.Lib.Hide
import Derived.Test.YtpodllefipleiaaGreatDoorTree
import Derived.Test.YtpodllefipleiaaGreatDoorOverTail
set_option linter.unusedVariables false
set_option linter.unusedSimpArgs false
namespace Go.Proofs.YtpodllefipleiaaGreatDoor
open Go.RowKit
theorem btr {w0 w1 w2:World} (B:Hid (Below w0.heap.size w0 w1)) (h:Below w1.heap.size w1 w2):Hid (Below w0.heap.size w0 w2):=Lib.hid (B.out.trans (h.mono B.out.size))
theorem bkH {w w':World} {b:Nat} {o:Obj} (k:Hid (w.heap[b]? = some o)) (h:Below w.heap.size w w'):Hid (w'.heap[b]? = some o):=Lib.hid (bkB k.out h (Array.getElem?_eq_some_iff.1 k.out).1)
end Go.Proofs.YtpodllefipleiaaGreatDoor
