/- The walk of FnExactCommandNames: it returns true. -/
import Derived.Test.YtggkcdeclnoaeaaGreatDoorCmd
namespace Go.Proofs.YtggkcdeclnoaeaaGreatDoor.fnExactCommandNames
open Go.RowKit
set_option linter.unusedVariables false
set_option linter.unusedSimpArgs false
theorem sizN : siz (strsT (cmdNames.map ofB)) ≤ 1099511627776 := by
  rw [siz_strs]
  decide +kernel
theorem cntN : cnt (strsT (cmdNames.map ofB)) = 22 := by rw [cnt_strs]; rfl
set_option maxHeartbeats 8000000 in
set_option maxRecDepth 100000 in
theorem walk (w : World) : Calls Tryz.prog 3 #[] w fun e w' => e = .returned (.bool true) ∧ Below w.heap.size w w' := by
  have HS := Lib.hid (sCommandNames_any w)
  have HI : Hid (∀ W, Calls Tryz.prog 5 #[] W fun e w' => ∃ a c fp, e = .returned (.slice a 22 c) ∧ Below W.heap.size W w' ∧ Own w' (strsT (cmdNames.map ofB)) (.slice a 22 c) fp ∧ In W.heap.size w'.heap.size fp) := fun W => iCommandNames_any W
  have hz := Lib.hid sizN
  have HM : Hid (∀ (v : Value) (fp : List Nat) (lo : Nat) (W : World), Own W (strsT (cmdNames.map ofB)) v fp → In lo W.heap.size fp → Calls Tryz.prog 7 #[v, .int .i64 1] W fun e w' => e = .returned (.int .i64 23) ∧ Own w' (mkT (strsT (cmdNames.map ofB)) 1) v fp ∧ Chg fp W w') := fun v fp lo W h hi => by
    have := mark_StringS (cmdNames.map ofB) v fp 1 lo W h hi hz.out (by rw [cntN]; omega) (by omega)
    rw [cntN] at this
    exact this
  have HH : Hid (∀ (v : Value) (W : World) (B : Nat), Rd B W (mkT (strsT (cmdNames.map ofB)) 1) v → B ≤ W.heap.size → Calls Tryz.prog 8 #[v, .int .i64 1] W fun e w' => e = .returned (.int .i64 23) ∧ Below W.heap.size W w') := fun v W B h hB => by
    have := held_StringS (cmdNames.map ofB) v B 1 W h hB hz.out (by rw [cntN]; omega) (by omega)
    rw [cntN] at this
    exact this
  have HQ : Hid (∀ (v v' : Value) (B : Nat) (W : World), Rd B W (strsT (cmdNames.map ofB)) v → Rd B W (strsT (cmdNames.map ofB)) v' → B ≤ W.heap.size → Calls Tryz.prog 6 #[v, v'] W fun e w' => e = .returned (.bool true) ∧ Below W.heap.size W w') := fun v v' B W h h' hB => eq_StringS (cmdNames.map ofB) v v' B W h h' hB hz.out
  generalize cmdNames.map ofB = vs at *
  clear hz
  go_enter Tryz.func3, Tryz.ntmps3
  go_wp2_with fail
  refine HS.out.mono ?_
  rintro e w1 ⟨a0, c0, rfl, hb1, rd1⟩
  have HB1 := Lib.hid hb1
  have z1 := hb1.size
  have R1 := Lib.hid rd1
  clear HS hb1 rd1
  go_wp2_with fail
  refine (HI.out _).mono ?_
  rintro e w2 ⟨a1, c1, f1, rfl, hb2, ow2, in2⟩
  have HB2 := Lib.hid (HB1.out.trans (hb2.mono z1))
  have z2 := hb2.size
  have R2 := Lib.hid (R1.out.below hb2)
  have O2 := Lib.hid ow2
  have I2 := Lib.hid in2
  clear hb2 ow2 in2 R1
  go_wp2_with fail
  refine (HQ.out _ _ w2.heap.size w2 (O2.out.rd I2.out) (R2.out.mono z2) (Nat.le_refl _)).mono ?_
  rintro e w3 ⟨rfl, hb3⟩
  have HB3 := Lib.hid (HB2.out.trans (hb3.mono (by omega)))
  have z3 := hb3.size
  have R3 := Lib.hid (R2.out.below (hb3.mono z2))
  have O3 := Lib.hid (O2.out.below I2.out (Nat.le_refl _) hb3)
  have I3 := Lib.hid (I2.out.mono (Nat.le_refl _) z3)
  clear hb3 R2 O2 I2
  go_wp2_with fail
  refine (HM.out _ f1 w1.heap.size w3 O3.out I3.out).mono ?_
  rintro e w4 ⟨rfl, ow4, ch4⟩
  have hb4 : Below w1.heap.size w3 w4 := ch4.below (by omega) (fun x hx => (I3.out x hx).1)
  have z4 := hb4.size
  have HB4 := Lib.hid (HB3.out.trans (hb4.mono z1))
  have R4 := Lib.hid (R3.out.below hb4)
  have O4 := Lib.hid (ow4.rd (I3.out.mono (Nat.le_refl _) z4))
  clear hb4 ow4 ch4 O3 I3 R3
  go_wp2_with fail
  refine (HH.out _ w4 w4.heap.size O4.out (Nat.le_refl _)).mono ?_
  rintro e w5 ⟨rfl, hb5⟩
  have HB5 := Lib.hid (HB4.out.trans (hb5.mono (by omega)))
  have z5 := hb5.size
  have R5 := Lib.hid (R4.out.below (hb5.mono (by omega)))
  have O5 := Lib.hid (O4.out.below hb5)
  clear hb5 R4 O4
  go_wp2_with fail
  refine (HI.out _).mono ?_
  rintro e w6 ⟨a2, c2, f2, rfl, hb6, ow6, in6⟩
  have HB6 := Lib.hid (HB5.out.trans (hb6.mono (by omega)))
  have z6 := hb6.size
  have R6 := Lib.hid (R5.out.below (hb6.mono (by omega)))
  have O6 := Lib.hid (O5.out.below (hb6.mono (by omega)))
  have P6 := Lib.hid (ow6.rd in6)
  clear hb6 ow6 in6 R5 O5
  go_wp2_with fail
  refine (HQ.out _ _ w6.heap.size w6 P6.out (R6.out.mono (by omega)) (Nat.le_refl _)).mono ?_
  rintro e w7 ⟨rfl, hb7⟩
  have HB7 := Lib.hid (HB6.out.trans (hb7.mono (by omega)))
  have z7 := hb7.size
  have O7 := Lib.hid (O6.out.below (hb7.mono (by omega)))
  clear hb7 O6
  go_wp2_with fail
  refine (HH.out _ w7 w7.heap.size (O7.out.mono (by omega)) (Nat.le_refl _)).mono ?_
  rintro e w8 ⟨rfl, hb8⟩
  have HB8 := Lib.hid (HB7.out.trans (hb8.mono (by omega)))
  go_wp2
  all_goals (go_ret; exact ⟨rfl, HB8.out⟩)
end Go.Proofs.YtggkcdeclnoaeaaGreatDoor.fnExactCommandNames
