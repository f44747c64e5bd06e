/- Points, sites, sectors that texts spell. Plain lemmas; no program. -/
import Derived.Test.YtpakghepnahooaaGreatDoorTx1
import Derived.Test.YtpakghepnahooaaGreatDoorSame0
set_option linter.unusedVariables false
set_option linter.unusedSimpArgs false
namespace Go.Proofs.YtpakghepnahooaaGreatDoor
def bl (s:ByteArray):List UInt8:=s.data.toList
def ofL (l:List UInt8):ByteArray:=⟨l.toArray⟩
theorem ofL_size (l:List UInt8):(ofL l).size=l.length:=rfl
end Go.Proofs.YtpakghepnahooaaGreatDoor
