/- Contracts: areas, licences, bands, protected places and requests are valid, for the program and for the reference. Conditions: bounded lengths. -/
import Derived.Test.YtpakghepnahooaaGreatDoorSame0
import Derived.Test.YtpakghepnahooaaGreatDoorOver
import Derived.Test.YtpakghepnahooaaGreatDoorFit
import Derived.Deep.DeepCutAuto
set_option linter.unusedVariables false
set_option linter.unusedSimpArgs false
namespace Go.Proofs.YtpakghepnahooaaGreatDoor
open Go.RowKit
theorem zcg (n:Int) (w:World):Calls Tryz.prog 33 #[J n] w fun e w'=>e=.returned (.bool (inB n 1 100000000))∧w=w':=by
 go_enter Tryz.func33,Tryz.ntmps33;go_wp2_with (go_at_call 34;refine (zal _ _ _ _).mono ?_;rintro e w1 ⟨rfl,rfl⟩);go_ret;exact⟨rfl,rfl⟩
theorem validLevel_any (n:Int) (w:World):Calls Tryz.prog 35 #[J n] w fun e w'=>e=.returned (.bool (inB n (-300000) 300000))∧w=w':=by
 go_enter Tryz.func35,Tryz.ntmps35;go_wp2_with (go_at_call 34;refine (zal _ _ _ _).mono ?_;rintro e w1 ⟨rfl,rfl⟩);go_ret;exact⟨rfl,rfl⟩
end Go.Proofs.YtpakghepnahooaaGreatDoor
