/- Contracts: areas, licences, bands, protected places and requests are valid, for the program and for the reference. Conditions: bounded lengths. -/
import Derived.Test.YtpodllefipleiaaGreatDoorOrdS
import Derived.Test.YtpodllefipleiaaGreatDoorOver
import Derived.Test.YtpodllefipleiaaGreatDoorFit
import Derived.Deep.DeepCutAuto
set_option linter.unusedVariables false
set_option linter.unusedSimpArgs false
namespace Go.Proofs.YtpodllefipleiaaGreatDoor
open Go.RowKit
theorem zan (n:Int) (w:World):Calls Tryz.prog 84 #[.int .i64 n] w fun e w'=>e=.returned (.bool (inB n 1 100000000))∧w=w':=by
 go_enter Tryz.func84,Tryz.ntmps84;go_wp2_with (go_at_call 59;refine (zap _ _ _ _).mono ?_;rintro e w1 ⟨rfl,rfl⟩);go_ret;exact⟨rfl,rfl⟩
theorem zah (n:Int) (w:World):Calls Tryz.prog 131 #[.int .i64 n] w fun e w'=>e=.returned (.bool (inB n 1 100000000))∧w=w':=by
 go_enter Tryz.func131,Tryz.ntmps131;go_wp2_with (go_at_call 133;refine (l00In_any _ _ _ _).mono ?_;rintro e w1 ⟨rfl,rfl⟩);go_ret;exact⟨rfl,rfl⟩
end Go.Proofs.YtpodllefipleiaaGreatDoor
