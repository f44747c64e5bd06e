/- Points, sites, sectors that texts spell. Plain lemmas; no program. -/
import Derived.Test.YtgmapjgodibchaaGreatDoorTx1
import Derived.Test.YtgmapjgodibchaaGreatDoorOrdS
set_option linter.unusedVariables false
set_option linter.unusedSimpArgs false
namespace Go.Proofs.YtgmapjgodibchaaGreatDoor
def ofL (l:List UInt8):ByteArray:=⟨l.toArray⟩
theorem ofL_size (l:List UInt8):(ofL l).size=l.length:=rfl
end Go.Proofs.YtgmapjgodibchaaGreatDoor
