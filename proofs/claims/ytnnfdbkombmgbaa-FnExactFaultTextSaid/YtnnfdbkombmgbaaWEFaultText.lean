/- The walk of the law FnExactFaultText: it returns true. -/
import Derived.Test.YtnnfdbkombmgbaaA2
namespace Go.Proofs.Ytnnfdbkombmgbaa.fnExactFaultText
open Go.RowKit
set_option linter.unusedVariables false
set_option maxHeartbeats 1000000 in
theorem walk (x : DFault) (w : World) (hok : x.ok) :
    Calls Try.prog 4 #[.agg #[.int .i64 x.kind, .string x.who, .string x.what]] w fun e w' => e = .returned (.bool true) ∧ Below w.heap.size w w' := by
  have b0 : Below w.heap.size w (w.alloc (.cells #[.int .i64 x.kind, .string x.who, .string x.what] 25)) := (Below.refl _ _).alloc (Nat.le_refl _) _
  have B0 := Lib.hid b0
  clear b0
  go_enter Try.func4, Try.ntmps4
  go_wp2_with fail
  refine (sz_Fault x 0 _ _ (by omega) (by omega) (by omega) hok).mono ?_
  rintro e w1 ⟨⟨c1, rfl⟩ | ⟨c1, rfl⟩, hb1⟩
  case inr =>
    go_wp2
    go_ret
    exact ⟨rfl, B0.out.trans (hb1.mono (by simp))⟩
  have c1' : decide ((1048576 : Int) - sizL x.tr < 0) = false := by simp; omega
  have hsz := DFault.siz_tr x
  have hs1 : x.who.size ≤ 1048576 := by omega
  have hs2 : x.what.size ≤ 1048576 := by omega
  obtain ⟨qa1, _, hz1⟩ := bcellAt hb1 (b := w.heap.size) (by simp)
  have B1 := Lib.hid (B0.out.trans (hb1.mono (by simp)))
  clear hb1 hsz
  go_wp2_with fail
  refine (to_Fault x _).mono ?_
  rintro e w2 ⟨rfl, hb2⟩
  obtain ⟨qa2, _, hz2⟩ := bcellAt hb2 (b := w.heap.size) hz1
  have B2 := Lib.hid (B1.out.trans (hb2.mono B1.out.size))
  clear hb2
  go_wp2_with fail
  refine (sFaultText_any x.kind x.who x.what _ hs1 hs2).mono ?_
  rintro e w3 ⟨rfl, hb3⟩
  obtain ⟨qa3, _, hz3⟩ := bcellAt hb3 (b := w.heap.size) hz2
  have B3 := Lib.hid (B2.out.trans (hb3.mono B2.out.size))
  clear hb3
  go_wp2_with fail
  refine (to_Fault x _).mono ?_
  rintro e w4 ⟨rfl, hb4⟩
  have B4 := Lib.hid (B3.out.trans (hb4.mono B3.out.size))
  clear hb4
  go_wp2_with fail
  refine (iFaultText_any x.kind x.who x.what _ hs1 hs2).mono ?_
  rintro e w5 ⟨rfl, hb5⟩
  have B5 := Lib.hid (B4.out.trans (hb5.mono B4.out.size))
  clear hb5
  go_wp2
  go_ret
  exact ⟨rfl, B5.out⟩
end Go.Proofs.Ytnnfdbkombmgbaa.fnExactFaultText
