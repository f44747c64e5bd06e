/- The order of texts, and where a name belongs in a row of rising names. Plain lemmas; no program. -/
import Derived.Test.YtpodllefipleiaaGreatDoorProb1
import Derived.WalkLawsBesides
import Derived.Test.YtpodllefipleiaaGreatDoorTypes
set_option linter.unusedVariables false
set_option linter.unusedSimpArgs false
namespace Go.Proofs.YtpodllefipleiaaGreatDoor
open Go.RowKit
end Go.Proofs.YtpodllefipleiaaGreatDoor
namespace Go.Proofs.YtpodllefipleiaaGreatDoor
section
variable {α:Type} {ok:α→Bool} {rel:α→α→Bool} {l:List α}
end
end Go.Proofs.YtpodllefipleiaaGreatDoor
namespace Go.Proofs.YtpodllefipleiaaGreatDoor
def eqS (a b:ByteArray):Bool:=a.toList == b.toList
theorem eqS_iff {a b:ByteArray} : eqS a b=true↔a=b:=by
 unfold eqS;rw[beq_iff_eq,ByteArray.toList_eq,ByteArray.toList_eq]
 constructor
 ·intro h
  obtain⟨⟨a⟩⟩:=a;obtain⟨⟨b⟩⟩:=b;simp only at h;rw[h]
 ·intro h;rw[h]
section
variable {α:Type} {f:α→ByteArray} {l:List α} {nm:ByteArray}
end
end Go.Proofs.YtpodllefipleiaaGreatDoor
