/- The walk of FnExactReadRequest: it returns true at every text. -/
import Derived.Test.YtjgolknofmnppaaDoorRd7
import Derived.Test.YtjgolknofmnppaaDoorHRequest
namespace Go.Proofs.YtjgolknofmnppaaDoor.fnExactReadRequest
open Go.RowKit
set_option linter.unusedVariables false
set_option linter.unusedSimpArgs false
set_option maxHeartbeats 8000000 in
set_option maxRecDepth 100000 in
theorem walk (s : ByteArray) (w : World) (L : LibW w) : Calls Tryd.prog 6 #[.string s] w fun e w' => e = .returned (.bool true) ∧ Below w.heap.size w w' := by
  by_cases hs : 1048576 < s.size
  · have hsi : (1048576 : Int) < (s.size : Int) := by omega
    clear hs
    go_enter Tryd.func6, Tryd.ntmps6
    go_wp2
    go_ret
    exact ⟨rfl, Below.refl _ _⟩
  · have hsi : (s.size : Int) ≤ 1048576 := by omega
    have hs : s.size ≤ 1048576 := by omega
    obtain ⟨X, hX⟩ : ∃ X, X = (reqR s).getD zReq := ⟨_, rfl⟩
    have HS : Hid (Calls Tryd.prog 18 #[.string s] w fun e w' => e = .returned (.tuple #[.agg #[.string X.id, .string X.applicant, .string X.partner, .int .i64 X.low, .int .i64 X.high, .int .i64 X.filed, .int .i64 X.deadline, .int .i64 X.state], .bool (reqR s).isSome]) ∧ Below w.heap.size w w') := by
      rw [hX]
      exact sReadRequest_any s hs w
    have HI : Hid (∀ W, LibW W → Calls Tryd.prog 19 #[.string s] W fun e w' => e = .returned (.tuple #[.agg #[.string X.id, .string X.applicant, .string X.partner, .int .i64 X.low, .int .i64 X.high, .int .i64 X.filed, .int .i64 X.deadline, .int .i64 X.state], .bool (reqR s).isSome]) ∧ Below W.heap.size W w') := fun W hW => by
      rw [hX]
      exact iReadRequest_any s hs W hW
    clear hX
    generalize (reqR s).isSome = ok at *
    have HL := Lib.hid L
    clear L hs
    have HQ : Hid (∀ W, Calls Tryd.prog 20 #[.agg #[.string X.id, .string X.applicant, .string X.partner, .int .i64 X.low, .int .i64 X.high, .int .i64 X.filed, .int .i64 X.deadline, .int .i64 X.state], .agg #[.string X.id, .string X.applicant, .string X.partner, .int .i64 X.low, .int .i64 X.high, .int .i64 X.filed, .int .i64 X.deadline, .int .i64 X.state]] W fun e w' => e = .returned (.bool true) ∧ Below W.heap.size W w') := fun W => eq_Request X W
    go_enter Tryd.func6, Tryd.ntmps6
    go_wp2_with fail
    refine HS.out.mono ?_
    rintro e w1 ⟨rfl, hb1⟩
    have HB1 := Lib.hid hb1
    clear hb1 HS
    go_upto_region 4 with (fail)
    obtain ⟨W2, hW2, b2, z2, k2⟩ := boxes1 w1 #[.string X.id, .string X.applicant, .string X.partner, .int .i64 X.low, .int .i64 X.high, .int .i64 X.filed, .int .i64 X.deadline, .int .i64 X.state] 41
    rw [hW2]
    clear hW2
    have HB2 := Lib.hid (HB1.out.trans (b2.mono HB1.out.size))
    have K2 := Lib.hid k2
    have zb := HB1.out.size
    clear b2 k2
    go_wp2_with fail
    refine (HI.out _ (HL.out.mono HB2.out)).mono ?_
    rintro e w3 ⟨rfl, hb3⟩
    have HB3 := Lib.hid (HB2.out.trans (hb3.mono HB2.out.size))
    have K3 := Lib.hid (bkB K2.out hb3 (by omega))
    have z3 := hb3.size
    clear hb3
    go_upto_region 5 with (fail)
    obtain ⟨W4, hW4, b4, z4, k4⟩ := boxes1 w3 #[.string X.id, .string X.applicant, .string X.partner, .int .i64 X.low, .int .i64 X.high, .int .i64 X.filed, .int .i64 X.deadline, .int .i64 X.state] 41
    rw [hW4]
    clear hW4
    have HB4 := Lib.hid (HB3.out.trans (b4.mono HB3.out.size))
    have K4 := Lib.hid k4
    have K5 := Lib.hid (bkB K3.out b4 (by omega))
    clear b4 k4
    have q0 := bkC (v := .string X.id) K4.out 0 rfl
    have r0 := bkC (v := .string X.id) K5.out 0 rfl
    have q1 := bkC (v := .string X.applicant) K4.out 1 rfl
    have r1 := bkC (v := .string X.applicant) K5.out 1 rfl
    have q2 := bkC (v := .string X.partner) K4.out 2 rfl
    have r2 := bkC (v := .string X.partner) K5.out 2 rfl
    have q3 := bkC (v := .int .i64 X.low) K4.out 3 rfl
    have r3 := bkC (v := .int .i64 X.low) K5.out 3 rfl
    have q4 := bkC (v := .int .i64 X.high) K4.out 4 rfl
    have r4 := bkC (v := .int .i64 X.high) K5.out 4 rfl
    have q5 := bkC (v := .int .i64 X.filed) K4.out 5 rfl
    have r5 := bkC (v := .int .i64 X.filed) K5.out 5 rfl
    have q6 := bkC (v := .int .i64 X.deadline) K4.out 6 rfl
    have r6 := bkC (v := .int .i64 X.deadline) K5.out 6 rfl
    have q7 := bkC (v := .int .i64 X.state) K4.out 7 rfl
    have r7 := bkC (v := .int .i64 X.state) K5.out 7 rfl
    go_wp2_with (go_at_call 20; with_reducible refine (HQ.out _).mono ?_; rintro e w5 ⟨rfl, hb5⟩; have HB5 := Lib.hid (HB4.out.trans (hb5.mono HB4.out.size)); clear hb5)
    all_goals (go_ret; exact ⟨rfl, HB5.out⟩)
end Go.Proofs.YtjgolknofmnppaaDoor.fnExactReadRequest
