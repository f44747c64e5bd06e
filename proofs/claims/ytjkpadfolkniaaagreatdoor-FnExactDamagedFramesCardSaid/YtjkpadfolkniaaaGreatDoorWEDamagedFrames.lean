/- The walk of FnExactDamagedFrames: it returns true at every text. -/
import Derived.Test.YtjkpadfolkniaaaGreatDoorLr6
namespace Go.Proofs.YtjkpadfolkniaaaGreatDoor.fnExactDamagedFrames
open Go.RowKit
set_option linter.unusedVariables false
set_option linter.unusedSimpArgs false
set_option maxHeartbeats 8000000 in
set_option maxRecDepth 100000 in
theorem walk (s : ByteArray) (w : World) (L : LibW w) : Calls Tryz.prog 3 #[.string s] w fun e w' => e = .returned (.bool true) ∧ Below w.heap.size w w' := by
  by_cases hs : 1048576 < s.size
  · have hsi : (1048576 : Int) < (s.size : Int) := by omega
    clear hs
    go_enter Tryz.func3, Tryz.ntmps3
    go_wp2
    go_ret
    exact ⟨rfl, Below.refl _ _⟩
  have hsi : (s.size : Int) ≤ 1048576 := by omega
  have hs : s.size ≤ 1048576 := by omega
  have hlen := dmgR_len (bl s)
  have HS : Hid (Calls Tryz.prog 5 #[.string s] w (DmgP (dmgR (bl s)) w)) := sDamagedFrames_any s hs w
  have HI : Hid (∀ W, LibW W → Calls Tryz.prog 6 #[.string s] W (DmgP (dmgR (bl s)) W)) := fun W hW => iDamagedFrames_any s hs W hW
  generalize dmgR (bl s) = o at *
  obtain ⟨vs, cd⟩ := o
  simp only at hlen
  have HL := Lib.hid L
  have q0 : decide ((1 : Int) + (vs.length : Int) < 0) = false := decide_eq_false (by omega)
  have q1 : ((1 : Int) + (vs.length : Int) != 1 + (vs.length : Int)) = false := by simp
  have q2 : (cd != cd) = false := by simp
  have q3 : (cd == cd) = true := by simp
  have hvn : 1 + vs.length ≤ 1099511627776 := by omega
  clear L hs hlen
  go_enter Tryz.func3, Tryz.ntmps3
  go_wp2_with fail
  refine HS.out.mono ?_
  rintro e w1 ⟨a0, c0, f0, rfl, hb1, ow1, in1⟩
  have HB1 := Lib.hid hb1
  have z1 := hb1.size
  have R1 := Lib.hid (ow1.rd in1)
  clear HS hb1 ow1 in1
  go_wp2_with fail
  refine (HI.out _ (HL.out.mono HB1.out)).mono ?_
  rintro e w2 ⟨a1, c1, f1, rfl, hb2, ow2, in2⟩
  have HB2 := Lib.hid (HB1.out.trans (hb2.mono z1))
  have z2 := hb2.size
  have R2 := Lib.hid (R1.out.below hb2)
  have O2 := Lib.hid ow2
  have I2 := Lib.hid in2
  clear hb2 ow2 in2 R1
  go_wp2_with fail
  refine (eqInt64S_any vs _ _ w2.heap.size w2 (O2.out.rd I2.out) (R2.out.mono z2) (Nat.le_refl _) (by omega)).mono ?_
  rintro e w3 ⟨rfl, hb3⟩
  have HB3 := Lib.hid (HB2.out.trans (hb3.mono (by omega)))
  have z3 := hb3.size
  have R3 := Lib.hid (R2.out.below (hb3.mono z2))
  have O3 := Lib.hid (O2.out.below I2.out (Nat.le_refl _) hb3)
  have I3 := Lib.hid (I2.out.mono (Nat.le_refl _) z3)
  clear hb3 R2 O2 I2
  go_wp2_with fail
  refine (markInt64S_any vs _ f1 1 w3 O3.out (by omega)).mono ?_
  rintro e w4 ⟨rfl, ow4, ch4⟩
  have hb4 : Below w1.heap.size w3 w4 := ch4.below (by omega) (fun x hx => (I3.out x hx).1)
  have z4 := hb4.size
  have HB4 := Lib.hid (HB3.out.trans (hb4.mono z1))
  have R4 := Lib.hid (R3.out.below hb4)
  have O4 := Lib.hid (ow4.rd (I3.out.mono (Nat.le_refl _) z4))
  clear hb4 ow4 ch4 O3 I3 R3
  go_wp2_with fail
  refine (heldInt64S_any vs _ w4.heap.size 1 w4 O4.out (Nat.le_refl _) (by omega)).mono ?_
  rintro e w5 ⟨rfl, hb5⟩
  have HB5 := Lib.hid (HB4.out.trans (hb5.mono (by omega)))
  have z5 := hb5.size
  have R5 := Lib.hid (R4.out.below (hb5.mono (by omega)))
  have O5 := Lib.hid (O4.out.below hb5)
  clear hb5 R4 O4
  go_wp2_with fail
  refine (HI.out _ (HL.out.mono HB5.out)).mono ?_
  rintro e w6 ⟨a2, c2, f2, rfl, hb6, ow6, in6⟩
  have HB6 := Lib.hid (HB5.out.trans (hb6.mono (by omega)))
  have z6 := hb6.size
  have R6 := Lib.hid (R5.out.below (hb6.mono (by omega)))
  have O6 := Lib.hid (O5.out.below (hb6.mono (by omega)))
  have P6 := Lib.hid (ow6.rd in6)
  clear hb6 ow6 in6 R5 O5
  go_wp2_with fail
  refine (eqInt64S_any vs _ _ w6.heap.size w6 P6.out (R6.out.mono (by omega)) (Nat.le_refl _) (by omega)).mono ?_
  rintro e w7 ⟨rfl, hb7⟩
  have HB7 := Lib.hid (HB6.out.trans (hb7.mono (by omega)))
  have z7 := hb7.size
  have O7 := Lib.hid (O6.out.below (hb7.mono (by omega)))
  clear hb7 O6
  go_wp2_with fail
  refine (heldInt64S_any vs _ w7.heap.size 1 w7 (O7.out.mono (by omega)) (Nat.le_refl _) (by omega)).mono ?_
  rintro e w8 ⟨rfl, hb8⟩
  have HB8 := Lib.hid (HB7.out.trans (hb8.mono (by omega)))
  go_wp2
  all_goals (go_ret; exact ⟨rfl, HB8.out⟩)
end Go.Proofs.YtjkpadfolkniaaaGreatDoor.fnExactDamagedFrames
