/- Contracts: registers are valid, and whether a day is too early, for the program and for the reference. Conditions: bounded lengths. -/
import Derived.Test.YtemdeoeljfcfjaaReg5
import Derived.Test.YtemdeoeljfcfjaaReg4
import Derived.Test.YtemdeoeljfcfjaaHRegister
namespace Go.Proofs.Ytemdeoeljfcfjaa
open Go.RowKit
set_option linter.unusedVariables false
set_option linter.unusedSimpArgs false

theorem regB_repR (r : DRegister) : regB r = (decide (r.changes.length ≤ 48) && ((repR r.changes).2 && sameRs (repR r.changes).1 r.records)) := by
  unfold regB repR
  cases repN r.changes r.changes.length with
  | none => rfl
  | some l => rfl
set_option maxHeartbeats 2000000 in
set_option maxRecDepth 100000 in
theorem validRegister_any (r : DRegister) (v0 v1 : Value) (w : World) (h0 : Rd w.heap.size w (DRecord.sT r.records) v0) (h1 : Rd w.heap.size w (DChange.sT r.changes) v1) (hn0 : r.records.length ≤ 1048576) (hn1 : r.changes.length ≤ 1048576) (hok : r.ok) :
    Calls Try.prog 21 #[.agg #[v0, v1]] w fun e w' => e = .returned (.bool (regB r)) ∧ Below w.heap.size w w' := by
  obtain ⟨A0, C0, rfl, _, _, _⟩ := DRecord.rd h0
  obtain ⟨A1, C1, rfl, _, _, _⟩ := DChange.rd h1
  have hb0 : Below w.heap.size w (w.alloc (.cells #[.slice A0 r.records.length C0, .slice A1 r.changes.length C1] 30)) := below_alloc _ _
  have k0 := bkN w #[.slice A0 r.records.length C0, .slice A1 r.changes.length C1] 30
  have z0 : w.heap.size + 1 ≤ (w.alloc (.cells #[.slice A0 r.records.length C0, .slice A1 r.changes.length C1] 30)).heap.size := by simp
  have HE := Lib.hid (regB_repR r)
  have H0 := Lib.hid h0
  have H1 := Lib.hid h1
  clear h0 h1
  go_enter Try.func21, Try.ntmps21
  go_upto_region 1 with (fail)
  generalize w.alloc (.cells #[.slice A0 r.records.length C0, .slice A1 r.changes.length C1] 30) = W0 at *
  have B0 := Lib.hid hb0
  have K0 := Lib.hid k0
  clear hb0 k0
  have f1 := bkC (v := .slice A1 r.changes.length C1) K0.out 1 rfl
  go_wp2_with fail
  refine (replay_any r.changes _ W0 ((H1.out.below B0.out).mono (by omega)) hn1 hok.changes).mono ?_
  rintro e w1 ⟨a1, c1, fp, rfl, hb1, ho, hi⟩
  have K1 := Lib.hid (bkB K0.out hb1 (by omega))
  have B1 := Lib.hid (B0.out.trans (hb1.mono (by omega)))
  have HO := Lib.hid ho
  have HI := Lib.hid hi
  have z1 : W0.heap.size ≤ w1.heap.size := hb1.size
  have h32 : (repR r.changes).1.length ≤ 32 := by
    unfold repR
    cases hp : repN r.changes r.changes.length with
    | none => simp
    | some l => exact (repN_spec _ _ hp).1.2.2
  clear hb1 ho hi f1 K0
  have f0 := bkC (v := .slice A0 r.records.length C0) K1.out 0 rfl
  have f1 := bkC (v := .slice A1 r.changes.length C1) K1.out 1 rfl
  by_cases hl : r.changes.length ≤ 48
  case neg =>
    have d1 : ((r.changes.length : Int) ≤ 48) ↔ False := by simp; omega
    have d2 : decide ((r.changes.length : Int) ≤ 48) = false := by simp; omega
    have HE2 : Hid (regB r = false) := by show _ = _; rw [HE.out, decide_eq_false hl]; rfl
    go_wp2
    go_ret
    exact ⟨by rw [HE2.out]; rfl, B1.out⟩
  have d2 : (r.changes.length : Int) ≤ 48 := by omega
  rw [decide_eq_true hl, Bool.true_and] at HE
  generalize hL : (repR r.changes).1 = L at *
  generalize hB : (repR r.changes).2 = Bb at *
  clear hL hB
  cases Bb with
  | false =>
    have HE2 : Hid (regB r = false) := by show _ = _; rw [HE.out]; rfl
    go_wp2
    go_ret
    exact ⟨by rw [HE2.out]; rfl, B1.out⟩
  | true =>
    rw [Bool.true_and] at HE
    go_wp2_with fail
    refine (equalRecord_any L r.records _ _ w1.heap.size w1 (HO.out.rd HI.out) ((H0.out.below B1.out).mono (by omega)) (Nat.le_refl _) (by omega) (by omega)).mono ?_
    rintro e w2 ⟨rfl, hb2⟩
    have B2 := Lib.hid (B1.out.trans (hb2.mono (by omega)))
    clear hb2
    go_wp2
    go_ret
    exact ⟨by rw [HE.out]; rfl, B2.out⟩
theorem laterB_pos {r : DRegister} {day : Int} (h : 0 < r.changes.length) : laterB r day = decide (day < (r.changes[r.changes.length - 1]'(by omega)).day) := by
  unfold laterB
  rw [List.getLast?_eq_getElem?, List.getElem?_eq_getElem (by omega)]
theorem laterB_zero {r : DRegister} {day : Int} (h : r.changes.length = 0) : laterB r day = false := by
  unfold laterB
  rw [List.eq_nil_of_length_eq_zero h]
  rfl
set_option maxHeartbeats 2000000 in
set_option maxRecDepth 100000 in
theorem isLater_any (r : DRegister) (day : Int) (v0 v1 : Value) (B : Nat) (w : World) (h1 : Rd B w (DChange.sT r.changes) v1) (hB : B ≤ w.heap.size) (hn1 : r.changes.length ≤ 1048576) :
    Calls Try.prog 25 #[.agg #[v0, v1], .int .i64 day] w fun e w' => e = .returned (.bool (laterB r day)) ∧ Below w.heap.size w w' := by
  obtain ⟨A1, C1, rfl, _, _, hcells⟩ := DChange.rd h1
  clear h1
  by_cases h0 : r.changes.length = 0
  · have HE := Lib.hid (laterB_zero (day := day) h0)
    have HN : Hid ((r.changes.length : Int) = 0) := by show _ = _; omega
    clear hcells
    generalize hL : r.changes.length = n at *
    obtain rfl : n = 0 := h0
    clear hL
    go_enter Try.func25, Try.ntmps25
    go_wp2
    go_ret
    exact ⟨by rw [HE.out]; rfl, below_alloc _ _⟩
  · have HE := Lib.hid (laterB_pos (day := day) (show 0 < r.changes.length by omega))
    have hlt : r.changes.length - 1 < r.changes.length := by omega
    have hpos : 0 < r.changes.length := by omega
    obtain ⟨b, off, rfl, hbl, hat⟩ := hcells hpos
    have s0 := (hat (r.changes.length - 1) hlt).1
    clear hcells hat
    generalize (r.changes[r.changes.length - 1]'(by omega)).day = D at *
    generalize hL : r.changes.length = n at *
    obtain ⟨m, rfl⟩ : ∃ m, n = m + 1 := ⟨n - 1, by omega⟩
    rw [Nat.add_sub_cancel] at s0
    clear hL
    have i3 : decide ((0 : Int) < (m : Int) + 1) = true := decide_eq_true (by omega)
    have i4 : (m : Int) ≤ 1048576 := by omega
    have i5 : (0 : Int) ≤ (m : Int) := by omega
    have i6 : (m : Int) < (m : Int) + 1 := by omega
    have hbw : b < w.heap.size := by omega
    go_enter Try.func25, Try.ntmps25
    go_wp2
    go_ret
    exact ⟨by rw [HE.out]; rfl, below_alloc _ _⟩
end Go.Proofs.Ytemdeoeljfcfjaa
