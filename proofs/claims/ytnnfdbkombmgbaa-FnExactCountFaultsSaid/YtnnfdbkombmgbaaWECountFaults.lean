/- The walk of the law FnExactCountFaults: it returns true. -/
import Derived.Test.YtnnfdbkombmgbaaCount
namespace Go.Proofs.Ytnnfdbkombmgbaa.fnExactCountFaults
open Go.RowKit
set_option linter.unusedVariables false
set_option maxHeartbeats 2000000 in
theorem walk (l : List DFault) (v : Value) (w : World) (h : Rd w.heap.size w (DFault.sT l) v) (hok : ∀ x ∈ l, x.ok) :
    Calls Try.prog 5 #[v] w fun e w' => e = .returned (.bool true) ∧ Below w.heap.size w w' := by
  have hl0 : (cfL l).length = 8 := by simp [cfL]
  have hs0 : siz (intsT (cfL l)) = 8 := by rw [siz_ints, hl0]
  have hc0 : cnt (intsT (cfL l)) = 8 := by rw [cnt_ints, hl0]
  have HL0 := Lib.hid hl0
  have HS0 := Lib.hid hs0
  have HC0 := Lib.hid hc0
  have HA := Lib.hid h
  clear hl0 hs0 hc0 h
  go_enter Try.func5, Try.ntmps5
  go_wp2_with fail
  refine (sz_FaultS l v w.heap.size _ _ HA.out (Nat.le_refl _) (by omega) (by omega) hok).mono ?_
  rintro e w1 ⟨⟨c1, rfl⟩ | ⟨c1, rfl⟩, hb1⟩
  case inr =>
    go_wp2
    go_ret
    exact ⟨rfl, hb1⟩
  have c1' : decide ((1048576 : Int) - siz (DFault.sT l) < 0) = false := by simp; omega
  have hsz : siz (DFault.sT l) ≤ 1048576 := by omega
  have hlen : l.length ≤ 1048576 := by have := DFault.siz_s l; omega
  have BB1 := Lib.hid hb1
  have z1 := hb1.size
  clear hb1
  -- w0 := spec.CountFaults(to(a))
  go_wp2_with fail
  clear c1'
  refine (to_FaultS l v _ ((HA.out.below BB1.out).mono z1) hsz).mono ?_
  rintro e w2 ⟨a2, c2, f2, rfl, hb2, o2, i2⟩
  have BB2 := Lib.hid (BB1.out.trans (hb2.mono z1))
  have z2 := hb2.size
  have O2 := Lib.hid o2
  clear hb2 o2
  go_wp2_with fail
  refine (sCount_any l _ _ (O2.out.rd i2) (by omega)).mono ?_
  rintro e w3 ⟨a3, c3, f3, rfl, hb3, o3, i3⟩
  have BB3 := Lib.hid (BB2.out.trans (hb3.mono (by omega)))
  have z3 := hb3.size
  have R3 := Lib.hid (o3.rd i3)
  clear hb3 o3
  -- x0 := to(a)
  go_wp2_with fail
  refine (to_FaultS l v _ ((HA.out.below BB3.out).mono (by omega)) hsz).mono ?_
  rintro e w4 ⟨a4, c4, f4, rfl, hb4, o4, i4⟩
  have BB4 := Lib.hid (BB3.out.trans (hb4.mono (by omega)))
  have z4 := hb4.size
  have R4 := Lib.hid (R3.out.below hb4)
  have O4 := Lib.hid o4
  clear hb4 o4
  -- g0 := impl.CountFaults(x0)
  go_wp2_with fail
  refine (iCount_any l _ _ (O4.out.rd i4) (by omega)).mono ?_
  rintro e w5 ⟨a5, c5, f5, rfl, hb5, o5, i5⟩
  have BB5 := Lib.hid (BB4.out.trans (hb5.mono (by omega)))
  have z5 := hb5.size
  have R5 := Lib.hid (R4.out.below (hb5.mono z4))
  have X5 := Lib.hid (O4.out.below i4 (Nat.le_refl _) hb5)
  have G5 := Lib.hid o5
  clear hb5 o5
  -- eq(g0, w0)
  go_wp2_with fail
  refine (eq_Int64S (cfL l) _ _ w5.heap.size _ (G5.out.rd i5) (R5.out.mono (by omega)) (Nat.le_refl _) (by rw [HS0.out]; omega)).mono ?_
  rintro e w6 ⟨rfl, hb6⟩
  have BB6 := Lib.hid (BB5.out.trans (hb6.mono (by omega)))
  have z6 := hb6.size
  have R6 := Lib.hid (R5.out.below (hb6.mono (by omega)))
  have X6 := Lib.hid (X5.out.below i4 (by omega) hb6)
  have G6 := Lib.hid (G5.out.below i5 (Nat.le_refl _) hb6)
  clear hb6
  -- eq(x0, to(a))
  go_wp2_with fail
  refine (to_FaultS l v _ ((HA.out.below BB6.out).mono (by omega)) hsz).mono ?_
  rintro e w7 ⟨a7, c7, f7, rfl, hb7, o7, i7⟩
  have BB7 := Lib.hid (BB6.out.trans (hb7.mono (by omega)))
  have z7 := hb7.size
  have R7 := Lib.hid (R6.out.below (hb7.mono (by omega)))
  have X7 := Lib.hid (X6.out.below i4 (by omega) hb7)
  have G7 := Lib.hid (G6.out.below i5 (by omega) hb7)
  have O7 := Lib.hid o7
  clear hb7 o7
  go_wp2_with fail
  refine (eq_FaultS l _ _ w7.heap.size _ ((X7.out.rd i4).mono (by omega)) (O7.out.rd i7) (Nat.le_refl _) (by omega)).mono ?_
  rintro e w8 ⟨rfl, hb8⟩
  have BB8 := Lib.hid (BB7.out.trans (hb8.mono (by omega)))
  have z8 := hb8.size
  have R8 := Lib.hid (R7.out.below (hb8.mono (by omega)))
  have X8 := Lib.hid (X7.out.below i4 (by omega) hb8)
  have G8 := Lib.hid (G7.out.below i5 (by omega) hb8)
  clear hb8
  -- mark(x0)
  have hcn : cnt (DFault.sT l) = 3 * l.length := by
    rw [DFault.sT, cnt]
    have : ∀ l : List DFault, cntL (l.flatMap DFault.tr) = 3 * l.length := by
      intro l
      induction l with
      | nil => rfl
      | cons x l ih => rw [List.flatMap_cons, cntL_append, ih, DFault.cntL_tr, List.length_cons]; omega
    exact this l
  have HN := Lib.hid hcn
  clear hcn
  go_wp2_with fail
  refine (mark_FaultS l _ f4 1 w3.heap.size _ X8.out (i4.mono (Nat.le_refl _) (by omega)) (by omega) (by rw [HN.out]; omega) (by omega)).mono ?_
  rintro e w9 ⟨rfl, _, hc9⟩
  have BB9 := Lib.hid (BB8.out.trans (hc9.below (by omega) (fun x hx => by have := (i4 x hx).1; omega)))
  have z9 := hc9.size
  have R9 := Lib.hid (R8.out.chg hc9 (by omega) (fun x hx => (i4 x hx).1))
  have G9 := Lib.hid (G8.out.chg i5 (by omega) hc9 (fun x hx hx' => by have := (i5 x hx).1; have := (i4 x hx').2; omega))
  clear hc9
  -- k < 0 || !eq(g0, w0)
  have k9 : decide (((1 + cnt (DFault.sT l) : Nat) : Int) < 0) = false := by simp; omega
  go_wp2_with fail
  refine (eq_Int64S (cfL l) _ _ w9.heap.size _ ((G9.out.rd i5).mono (by omega)) (R9.out.mono (by omega)) (Nat.le_refl _) (by rw [HS0.out]; omega)).mono ?_
  rintro e w10 ⟨rfl, hb10⟩
  have BB10 := Lib.hid (BB9.out.trans (hb10.mono (by omega)))
  have z10 := hb10.size
  have R10 := Lib.hid (R9.out.below (hb10.mono (by omega)))
  have G10 := Lib.hid (G9.out.below i5 (by omega) hb10)
  clear hb10
  -- m := mark(g0)
  go_wp2_with fail
  refine (mark_Int64S (cfL l) _ f5 1 w4.heap.size _ G10.out (i5.mono (Nat.le_refl _) (by omega)) (by rw [HS0.out]; omega) (by rw [HC0.out]; omega)).mono ?_
  rintro e w11 ⟨rfl, o11, hc11⟩
  have BB11 := Lib.hid (BB10.out.trans (hc11.below (by omega) (fun x hx => by have := (i5 x hx).1; omega)))
  have z11 := hc11.size
  have R11 := Lib.hid (R10.out.chg hc11 (by omega) (fun x hx => by have := (i5 x hx).1; omega))
  have M11 := Lib.hid o11
  clear hc11 o11
  -- q := held(g0)
  go_wp2_with fail
  refine (held_Int64S (cfL l) _ w11.heap.size 1 _ ((M11.out.rd i5).mono (by omega)) (Nat.le_refl _) (by rw [HS0.out]; omega) (by rw [HC0.out]; omega)).mono ?_
  rintro e w12 ⟨rfl, hb12⟩
  have BB12 := Lib.hid (BB11.out.trans (hb12.mono (by omega)))
  have z12 := hb12.size
  have R12 := Lib.hid (R11.out.below (hb12.mono (by omega)))
  have M12 := Lib.hid (M11.out.below i5 (by omega) hb12)
  clear hb12
  -- h0 := impl.CountFaults(to(a))
  go_wp2_with fail
  refine (to_FaultS l v _ ((HA.out.below BB12.out).mono (by omega)) hsz).mono ?_
  rintro e w13 ⟨a13, c13, f13, rfl, hb13, o13, i13⟩
  have BB13 := Lib.hid (BB12.out.trans (hb13.mono (by omega)))
  have z13 := hb13.size
  have R13 := Lib.hid (R12.out.below (hb13.mono (by omega)))
  have M13 := Lib.hid (M12.out.below i5 (by omega) hb13)
  have O13 := Lib.hid o13
  clear hb13 o13
  go_wp2_with fail
  refine (iCount_any l _ _ (O13.out.rd i13) (by omega)).mono ?_
  rintro e w14 ⟨a14, c14, f14, rfl, hb14, o14, i14⟩
  have BB14 := Lib.hid (BB13.out.trans (hb14.mono (by omega)))
  have z14 := hb14.size
  have R14 := Lib.hid (R13.out.below (hb14.mono (by omega)))
  have M14 := Lib.hid (M13.out.below i5 (by omega) hb14)
  have O14 := Lib.hid o14
  clear hb14 o14
  go_wp2_with fail
  refine (eq_Int64S (cfL l) _ _ w14.heap.size _ (O14.out.rd i14) (R14.out.mono (by omega)) (Nat.le_refl _) (by rw [HS0.out]; omega)).mono ?_
  rintro e w15 ⟨rfl, hb15⟩
  have BB15 := Lib.hid (BB14.out.trans (hb15.mono (by omega)))
  have z15 := hb15.size
  have M15 := Lib.hid (M14.out.below i5 (by omega) hb15)
  clear hb15
  -- q := held(g0)
  go_wp2_with fail
  refine (held_Int64S (cfL l) _ w15.heap.size 1 _ ((M15.out.rd i5).mono (by omega)) (Nat.le_refl _) (by rw [HS0.out]; omega) (by rw [HC0.out]; omega)).mono ?_
  rintro e w16 ⟨rfl, hb16⟩
  have BB16 := Lib.hid (BB15.out.trans (hb16.mono (by omega)))
  go_wp2
  go_ret
  exact ⟨rfl, BB16.out⟩
end Go.Proofs.Ytnnfdbkombmgbaa.fnExactCountFaults
