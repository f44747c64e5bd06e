/- Contracts of the laws' helpers over slices of integers: sizes, copies, comparisons, marks. Conditions: bounded lengths. -/
import Derived.Test.YtmkkiglcpedkiaaGreatDoorProg
import Derived.Test.YtmkkiglcpedkiaaGreatDoorTypes
import Derived.WalkKit
import Derived.Lib.Hide
import Derived.BigQuiet
import Derived.StillTailTactics
set_option linter.unusedVariables false
set_option linter.unusedSimpArgs false
namespace Go.Proofs.YtmkkiglcpedkiaaGreatDoor
open Go.RowKit
theorem infoI:(Tryz.prog.info? 2).map (fun i=>(i.zero,i.size,i.bytes))=some (some (.int .i64 0),1,8):=by kernel_rfl
end Go.Proofs.YtmkkiglcpedkiaaGreatDoor
