/- Contracts: areas, licences, bands, protected places and requests are valid, for the program and for the reference. Conditions: bounded lengths. -/
import Derived.Test.YtjgolknofmnppaaDoorNetA
import Derived.Test.YtjgolknofmnppaaDoorOrdS
import Derived.Test.YtjgolknofmnppaaDoorRowOk
import Derived.Test.YtjgolknofmnppaaDoorOver
import Derived.Test.YtjgolknofmnppaaDoorOpen
import Derived.Deep.DeepCutAuto
namespace Go.Proofs.YtjgolknofmnppaaDoor
open Go.RowKit
set_option linter.unusedVariables false
set_option linter.unusedSimpArgs false

def areaB (a : DArea) : Bool := inB a.west 0 a.east && (inB a.south 0 a.north && (decide (a.east ≤ 200000) && decide (a.north ≤ 200000)))
def endB (e : DEnd) : Bool := pointB e.place && inB e.above 1 3000
def licB (x : DLicence) : Bool := nameB x.id && (nameB x.holder && (inB x.low 1 100000000 && (inB x.high 1 100000000 && (decide (x.low < x.high) && (areaB x.area && (inB x.from_ 0 x.until_ && (decide (x.until_ ≤ 99999) && inB x.power (-300000) 300000)))))))
def protB (x : DProtected) : Bool := nameB x.name && (endB x.at_ && (inB x.low 1 100000000 && (inB x.high 1 100000000 && (decide (x.low < x.high) && inB x.limit (-300000) 300000))))
theorem frequencyOk_any (n : Int) (w : World) : Calls Tryd.prog 85 #[.int .i64 n] w fun e w' => e = .returned (.bool (inB n 1 100000000)) ∧ w = w' := by
  go_enter Tryd.func85, Tryd.ntmps85
  go_wp2_with (go_at_call 65; refine (within_any _ _ _ _).mono ?_; rintro e w1 ⟨rfl, rfl⟩)
  go_ret
  exact ⟨rfl, rfl⟩
theorem l09Frequency_any (n : Int) (w : World) : Calls Tryd.prog 63 #[.int .i64 n] w fun e w' => e = .returned (.bool (inB n 1 100000000)) ∧ w = w' := by
  go_enter Tryd.func63, Tryd.ntmps63
  go_wp2_with (go_at_call 55; refine (l00In_any _ _ _ _).mono ?_; rintro e w1 ⟨rfl, rfl⟩)
  go_ret
  exact ⟨rfl, rfl⟩
theorem validLevel_any (n : Int) (w : World) : Calls Tryd.prog 78 #[.int .i64 n] w fun e w' => e = .returned (.bool (inB n (-300000) 300000)) ∧ w = w' := by
  go_enter Tryd.func78, Tryd.ntmps78
  go_wp2_with (go_at_call 65; refine (within_any _ _ _ _).mono ?_; rintro e w1 ⟨rfl, rfl⟩)
  go_ret
  exact ⟨rfl, rfl⟩
theorem l02Level_any (n : Int) (w : World) : Calls Tryd.prog 47 #[.int .i64 n] w fun e w' => e = .returned (.bool (inB n (-300000) 300000)) ∧ w = w' := by
  go_enter Tryd.func47, Tryd.ntmps47
  go_wp2_with (go_at_call 55; refine (l00In_any _ _ _ _).mono ?_; rintro e w1 ⟨rfl, rfl⟩)
  go_ret
  exact ⟨rfl, rfl⟩
end Go.Proofs.YtjgolknofmnppaaDoor
