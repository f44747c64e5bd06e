/- Contracts: areas, licences, bands, protected places and requests are valid, for the program and for the reference. Conditions: bounded lengths. -/
import Derived.Test.YtdgmgchdjlfchaaGreatDoorOrdS
import Derived.Test.YtdgmgchdjlfchaaGreatDoorOver
import Derived.Test.YtdgmgchdjlfchaaGreatDoorFit
import Derived.Deep.DeepCutAuto
set_option linter.unusedVariables false
set_option linter.unusedSimpArgs false
namespace Go.Proofs.YtdgmgchdjlfchaaGreatDoor
open Go.RowKit
theorem zcf (n:Int) (w:World):Calls Tryz.prog 57 #[.int .i64 n] w fun e w'=>e=.returned (.bool (inB n 1 100000000))∧w=w':=by
 go_enter Tryz.func57,Tryz.ntmps57;go_wp2_with (go_at_call 74;refine (zao _ _ _ _).mono ?_;rintro e w1 ⟨rfl,rfl⟩);go_ret;exact⟨rfl,rfl⟩
end Go.Proofs.YtdgmgchdjlfchaaGreatDoor
