/- Contracts: antennas are valid, for the program and for the reference. Conditions: bounded lengths. -/
import Derived.Test.YtjgolknofmnppaaDoorRowOk
import Derived.Test.YtjgolknofmnppaaDoorTypes
import Derived.Test.YtjgolknofmnppaaDoorProb1
import Derived.Test.YtjgolknofmnppaaDoorApp2
namespace Go.Proofs.YtjgolknofmnppaaDoor
open Go.RowKit
set_option linter.unusedVariables false
set_option linter.unusedSimpArgs false

def antB (a : DAntenna) : Bool := nameB a.name && (inB a.gain (-60000) 60000 && (((a.horizontal.length : Int) == 36) && (((a.vertical.length : Int) == 19) && ((a.horizontal.all fun n => inB n 0 60000) && ((a.vertical.all fun n => inB n 0 60000) && ((gi a.horizontal 0 == 0) && (gi a.vertical 9 == 0)))))))
def lossesB (l : List Int) (many main : Nat) : Bool := ((l.length : Int) == (many : Int)) && ((gi l main == 0) && (l.all fun n => inB n 0 60000))
theorem antB_eq (a : DAntenna) : antB a = (nameB a.name && (inB a.gain (-60000) 60000 && (lossesB a.horizontal 36 0 && lossesB a.vertical 19 9))) := by
  unfold antB lossesB
  have e1 : ((36 : Nat) : Int) = 36 := rfl
  have e2 : ((19 : Nat) : Int) = 19 := rfl
  rw [e1, e2]
  generalize nameB a.name = x0
  generalize inB a.gain (-60000) 60000 = x1
  generalize ((a.horizontal.length : Int) == 36) = x2
  generalize ((a.vertical.length : Int) == 19) = x3
  generalize (a.horizontal.all fun n => inB n 0 60000) = x4
  generalize (a.vertical.all fun n => inB n 0 60000) = x5
  generalize (gi a.horizontal 0 == 0) = x6
  generalize (gi a.vertical 9 == 0) = x7
  cases x0 <;> cases x1 <;> cases x2 <;> cases x3 <;> cases x4 <;> cases x5 <;> cases x6 <;> cases x7 <;> rfl
theorem beq_len {n m : Nat} (h : ((n : Int) == (m : Int)) = true) : n = m := by have := eq_of_beq h; omega

end Go.Proofs.YtjgolknofmnppaaDoor
