/- Contracts: radios are valid, for the program and for the reference. Conditions: bounded lengths. -/
import Derived.Test.YtjgolknofmnppaaDoorNetB
namespace Go.Proofs.YtjgolknofmnppaaDoor
open Go.RowKit
set_option linter.unusedVariables false
set_option linter.unusedSimpArgs false

def modeB (m : DMode) : Bool := inB m.need (-50000) 100000 && inB m.rate 1 1000000
def modeLt (p m : DMode) : Bool := decide (p.need < m.need) && decide (p.rate < m.rate)
def radB (r : DRadio) : Bool := nameB r.name && (inB r.power (-100000) 100000 && (inB r.feeder 0 30000 && (inB r.noise 0 30000 && (inB r.width 1 100000 && (decide (1 ≤ r.modes.length) && (decide (r.modes.length ≤ 8) && rowOk modeB modeLt r.modes))))))
theorem modeLt_true {p m : DMode} (h1 : p.need < m.need) (h2 : p.rate < m.rate) : modeLt p m = true := by simp [modeLt, h1, h2]
theorem modeLt_need {p m : DMode} (h1 : ¬ p.need < m.need) : modeLt p m = false := by simp [modeLt, h1]
theorem modeLt_rate {p m : DMode} (h1 : ¬ p.rate < m.rate) : modeLt p m = false := by simp [modeLt, h1]
/-- the fields of a mode, by number -/
def gm (l : List DMode) (i : Nat) : DMode := l.getD i ⟨0, 0⟩
theorem gm_eq {l : List DMode} {i : Nat} (h : i < l.length) : l[i] = gm l i := by simp [gm, h]

end Go.Proofs.YtjgolknofmnppaaDoor
