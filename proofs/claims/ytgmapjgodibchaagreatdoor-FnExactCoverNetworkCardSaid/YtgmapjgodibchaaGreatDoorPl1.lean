/- Contracts: areas, licences, bands, protected places and requests are valid, for the program and for the reference. Conditions: bounded lengths. -/
import Derived.Test.YtgmapjgodibchaaGreatDoorOrdS
import Derived.Test.YtgmapjgodibchaaGreatDoorOver
import Derived.Test.YtgmapjgodibchaaGreatDoorFit
import Derived.Deep.DeepCutAuto
set_option linter.unusedVariables false
set_option linter.unusedSimpArgs false
namespace Go.Proofs.YtgmapjgodibchaaGreatDoor
open Go.RowKit
theorem zcl (n:Int) (w:World):Calls Tryz.prog 53 #[I n] w fun e w'=>e=.returned (.bool (inB n 1 100000000))∧w=w':=by
 go_enter Tryz.func53,Tryz.ntmps53;go_wp2_with (go_at_call 54;refine (zao _ _ _ _).mono ?_;rintro e w1 ⟨rfl,rfl⟩);go_ret;exact⟨rfl,rfl⟩
theorem validLevel_any (n:Int) (w:World):Calls Tryz.prog 55 #[I n] w fun e w'=>e=.returned (.bool (inB n (-300000) 300000))∧w=w':=by
 go_enter Tryz.func55,Tryz.ntmps55;go_wp2_with (go_at_call 54;refine (zao _ _ _ _).mono ?_;rintro e w1 ⟨rfl,rfl⟩);go_ret;exact⟨rfl,rfl⟩
theorem l02Level_any (n:Int) (w:World):Calls Tryz.prog 41 #[I n] w fun e w'=>e=.returned (.bool (inB n (-300000) 300000))∧w=w':=by
 go_enter Tryz.func41,Tryz.ntmps41;go_wp2_with (go_at_call 89;refine (zaq _ _ _ _).mono ?_;rintro e w1 ⟨rfl,rfl⟩);go_ret;exact⟨rfl,rfl⟩
end Go.Proofs.YtgmapjgodibchaaGreatDoor
