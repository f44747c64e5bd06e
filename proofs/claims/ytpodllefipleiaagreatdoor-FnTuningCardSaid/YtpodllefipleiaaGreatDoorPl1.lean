/- Contracts: areas, licences, bands, protected places and requests are valid, for the program and for the reference. Conditions: bounded lengths. -/
import Derived.Test.YtpodllefipleiaaGreatDoorOrdS
import Derived.Test.YtpodllefipleiaaGreatDoorOver
import Derived.Test.YtpodllefipleiaaGreatDoorOpen
import Derived.Deep.DeepCutAuto
set_option linter.unusedVariables false
set_option linter.unusedSimpArgs false
namespace Go.Proofs.YtpodllefipleiaaGreatDoor
open Go.RowKit
theorem validLevel_any (n:Int) (w:World):Calls Tryz.prog 68 #[.int .i64 n] w fun e w'=>e=.returned (.bool (inB n (-300000) 300000))∧w=w':=by
 go_enter Tryz.func68,Tryz.ntmps68;go_wp2_with (go_at_call 59;refine (zbo _ _ _ _).mono ?_;rintro e w1 ⟨rfl,rfl⟩);go_ret;exact⟨rfl,rfl⟩
end Go.Proofs.YtpodllefipleiaaGreatDoor
