/- Contracts of the laws' helpers over slices of slices of integers and over problems: comparisons, marks, sizes, copies. Conditions: bounded lengths. -/
import Derived.Test.YtpnllibboeeaaaaInts
import Derived.Deep.RegionHeld3
namespace Go.Proofs.Ytpnllibboeeaaaa
open Go.RowKit
set_option linter.unusedVariables false


/-! ### the same contracts, in the form that all types share -/
theorem sizL_ints (l : List Int) : sizL (l.map intT) = 0 := by
  induction l with
  | nil => rfl
  | cons x l ih => simp only [List.map_cons, sizL, ih, intT, siz]
theorem siz_ints (l : List Int) : siz (intsT l) = l.length := by rw [intsT, siz, sizL_ints]; simp
theorem sizL_intss (l : List (List Int)) : sizL (l.map intsT) = sumLen l := by
  induction l with
  | nil => rfl
  | cons x l ih => simp only [List.map_cons, sizL, ih, siz_ints]; simp [sumLen]
theorem siz_intss (l : List (List Int)) : siz (intssT l) = l.length + sumLen l := by rw [intssT, siz, sizL_intss]; simp
theorem cnt_intss (l : List (List Int)) : cnt (intssT l) = sumLen l := by rw [intssT_flat, cnt, cntL_intss]
end Go.Proofs.Ytpnllibboeeaaaa
