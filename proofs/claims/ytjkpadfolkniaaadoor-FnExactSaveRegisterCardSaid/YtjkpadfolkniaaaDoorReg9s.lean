/- Contracts: registers are valid, and whether a day is too early, for the program and for the reference. Conditions: bounded lengths. -/
import Derived.Test.YtjkpadfolkniaaaDoorReg5
import Derived.Test.YtjkpadfolkniaaaDoorReg4
import Derived.Test.YtjkpadfolkniaaaDoorHRegister
import Derived.Test.YtjkpadfolkniaaaDoorReg7
import Derived.Test.YtjkpadfolkniaaaDoorReg8
import Derived.Test.YtjkpadfolkniaaaDoorReg8s
namespace Go.Proofs.YtjkpadfolkniaaaDoor
section
open Go.RowKit
set_option linter.unusedVariables false
set_option linter.unusedSimpArgs false

theorem regB_repR (r : DRegister) : regB r = (decide (r.changes.length ≤ 48) && ((repR r.changes).2 && sameRs (repR r.changes).1 r.records)) := by
  unfold regB repR
  cases repN r.changes r.changes.length with
  | none => rfl
  | some l => rfl
set_option maxHeartbeats 2000000 in
set_option maxRecDepth 100000 in
theorem validRegister_any (r : DRegister) (v0 v1 : Value) (w : World) (h0 : Rd w.heap.size w (DRecord.sT r.records) v0) (h1 : Rd w.heap.size w (DChange.sT r.changes) v1) (hn0 : r.records.length ≤ 1048576) (hn1 : r.changes.length ≤ 1048576) (hok : r.ok) :
    Calls Tryd.prog 15 #[.agg #[v0, v1]] w fun e w' => e = .returned (.bool (regB r)) ∧ Below w.heap.size w w' := by
  obtain ⟨A0, C0, rfl, _, _, _⟩ := DRecord.rd h0
  obtain ⟨A1, C1, rfl, _, _, _⟩ := DChange.rd h1
  have hb0 : Below w.heap.size w (w.alloc (.cells #[.slice A0 r.records.length C0, .slice A1 r.changes.length C1] 32)) := below_alloc _ _
  have k0 := bkN w #[.slice A0 r.records.length C0, .slice A1 r.changes.length C1] 32
  have z0 : w.heap.size + 1 ≤ (w.alloc (.cells #[.slice A0 r.records.length C0, .slice A1 r.changes.length C1] 32)).heap.size := by simp
  have HE := Lib.hid (regB_repR r)
  have H0 := Lib.hid h0
  have H1 := Lib.hid h1
  clear h0 h1
  go_enter Tryd.func15, Tryd.ntmps15
  go_upto_region 1 with (fail)
  generalize w.alloc (.cells #[.slice A0 r.records.length C0, .slice A1 r.changes.length C1] 32) = W0 at *
  have B0 := Lib.hid hb0
  have K0 := Lib.hid k0
  clear hb0 k0
  have f1 := bkC (v := .slice A1 r.changes.length C1) K0.out 1 rfl
  go_wp2_with fail
  refine (replay_any r.changes _ W0 ((H1.out.below B0.out).mono (by omega)) hn1 hok.changes).mono ?_
  rintro e w1 ⟨a1, c1, fp, rfl, hb1, ho, hi⟩
  have K1 := Lib.hid (bkB K0.out hb1 (by omega))
  have B1 := Lib.hid (B0.out.trans (hb1.mono (by omega)))
  have HO := Lib.hid ho
  have HI := Lib.hid hi
  have z1 : W0.heap.size ≤ w1.heap.size := hb1.size
  have h32 : (repR r.changes).1.length ≤ 32 := by
    unfold repR
    cases hp : repN r.changes r.changes.length with
    | none => simp
    | some l => exact (repN_spec _ _ hp).1.2.2
  clear hb1 ho hi f1 K0
  have f0 := bkC (v := .slice A0 r.records.length C0) K1.out 0 rfl
  have f1 := bkC (v := .slice A1 r.changes.length C1) K1.out 1 rfl
  by_cases hl : r.changes.length ≤ 48
  case neg =>
    have d1 : ((r.changes.length : Int) ≤ 48) ↔ False := by simp; omega
    have d2 : decide ((r.changes.length : Int) ≤ 48) = false := by simp; omega
    have HE2 : Hid (regB r = false) := by show _ = _; rw [HE.out, decide_eq_false hl]; rfl
    go_wp2
    go_ret
    exact ⟨by rw [HE2.out]; rfl, B1.out⟩
  have d2 : (r.changes.length : Int) ≤ 48 := by omega
  rw [decide_eq_true hl, Bool.true_and] at HE
  generalize hL : (repR r.changes).1 = L at *
  generalize hB : (repR r.changes).2 = Bb at *
  clear hL hB
  cases Bb with
  | false =>
    have HE2 : Hid (regB r = false) := by show _ = _; rw [HE.out]; rfl
    go_wp2
    go_ret
    exact ⟨by rw [HE2.out]; rfl, B1.out⟩
  | true =>
    rw [Bool.true_and] at HE
    go_wp2_with fail
    refine (equalRecord_any L r.records _ _ w1.heap.size w1 (HO.out.rd HI.out) ((H0.out.below B1.out).mono (by omega)) (Nat.le_refl _) (by omega) (by omega)).mono ?_
    rintro e w2 ⟨rfl, hb2⟩
    have B2 := Lib.hid (B1.out.trans (hb2.mono (by omega)))
    clear hb2
    go_wp2
    go_ret
    exact ⟨by rw [HE.out]; rfl, B2.out⟩
end
section
open Go.RowKit
set_option linter.unusedVariables false
set_option linter.unusedSimpArgs false

set_option maxHeartbeats 2000000 in
set_option maxRecDepth 100000 in
theorem l28Ok_any (r : DRegister) (v0 v1 : Value) (bp : Nat) (w : World) (h0 : Rd w.heap.size w (DRecord.sT r.records) v0) (h1 : Rd w.heap.size w (DChange.sT r.changes) v1) (p0 : w.cell? ⟨bp, 0, none⟩ = some v0) (p1 : w.cell? ⟨bp, 1, none⟩ = some v1) (hbp : bp < w.heap.size) (hn0 : r.records.length ≤ 1048576) (hn1 : r.changes.length ≤ 1048576) (hok : r.ok) :
    Calls Tryd.prog 11 #[.pointer (some ⟨bp, 0, none⟩)] w fun e w' => e = .returned (.bool (regB r)) ∧ Below w.heap.size w w' := by
  obtain ⟨A0, C0, rfl, _, _, _⟩ := DRecord.rd h0
  obtain ⟨A1, C1, rfl, _, _, _⟩ := DChange.rd h1
  have HE := Lib.hid (regS_eq r).symm
  have H0 := Lib.hid h0
  have H1 := Lib.hid h1
  have P0 := Lib.hid p0
  have P1 := Lib.hid p1
  clear h0 h1
  go_enter Tryd.func11, Tryd.ntmps11
  go_wp2_with fail
  refine (l28State_any r.records _ w H0.out hn0 hok.records).mono ?_
  rintro e w1 ⟨rfl, hb1⟩
  have B1 := Lib.hid hb1
  have z1 : w.heap.size ≤ w1.heap.size := hb1.size
  have q0 := (hb1.cell (p := ⟨bp, _, none⟩) hbp).trans P0.out
  have q1 := (hb1.cell (p := ⟨bp, _, none⟩) hbp).trans P1.out
  clear hb1 p0 p1
  by_cases c1 : stateB r.records = true
  case neg =>
    replace c1 : stateB r.records = false := Bool.eq_false_iff.2 c1
    have HE2 : Hid (regB r = false) := by show _ = _; rw [HE.out]; unfold regS; rw [c1]; rfl
    go_wp2
    go_ret
    exact ⟨by rw [HE2.out]; rfl, B1.out⟩
  go_wp2_with fail
  refine (l28Story_any r.changes _ w1 ((H1.out.below B1.out).mono z1) hn1 hok.changes).mono ?_
  rintro e w2 ⟨rfl, hb2⟩
  have B2 := Lib.hid (B1.out.trans (hb2.mono z1))
  have z2 : w1.heap.size ≤ w2.heap.size := hb2.size
  clear hb2 q0 q1
  have q0 := (B2.out.cell (p := ⟨bp, _, none⟩) hbp).trans P0.out
  have q1 := (B2.out.cell (p := ⟨bp, _, none⟩) hbp).trans P1.out
  by_cases c2 : storyB r.changes = true
  case neg =>
    replace c2 : storyB r.changes = false := Bool.eq_false_iff.2 c2
    have HE2 : Hid (regB r = false) := by show _ = _; rw [HE.out]; unfold regS; rw [c1, c2]; rfl
    go_wp2
    go_ret
    exact ⟨by rw [HE2.out]; rfl, B2.out⟩
  have HE2 : Hid (regB r = (match patN [] r.changes r.changes.length with | some l => sameRs l r.records | none => false)) := by show _ = _; rw [HE.out]; unfold regS; rw [c1, c2]; rfl
  have H48 : Hid (r.changes.length ≤ 48) := by
    unfold storyB at c2
    simp only [Bool.and_eq_true, decide_eq_true_eq] at c2
    exact c2.2
  go_upto_region 3 with (fail)
  have hbx := below_alloc w2 (.cells #[] 61)
  have B3 := Lib.hid (B2.out.trans (hbx.mono (by omega)))
  have z3 : w2.heap.size + 1 ≤ (w2.alloc (.cells #[] 61)).heap.size := by simp
  have HR3 : Hid (Rd (w2.alloc (.cells #[] 61)).heap.size (w2.alloc (.cells #[] 61)) (DRecord.sT []) (.slice (some ⟨w2.heap.size, 0, none⟩) 0 0)) := ⟨[], Rep_sl.2 ⟨_, 0, 0, rfl, rfl, Nat.le_refl _, by unfold maxLen; omega, Or.inl ⟨rfl, rfl⟩⟩, fun b h => by simp at h⟩
  have HP := Lib.hid (l28Patch_any [] r.changes _ _ _ HR3.out ((H1.out.below B3.out).mono (by omega)) List.Pairwise.nil (by simp) (by omega))
  clear hbx
  have hb2x : bp < w2.heap.size := by omega
  clear c1 c2
  go_wp2_with fail
  refine HP.out.mono ?_
  rintro e w4 ⟨a4, n4, c4, code, fp, rfl, hb4, hs, hnone⟩
  have z4 := hb4.size
  have B4 := Lib.hid (B3.out.trans (hb4.mono (by omega)))
  have HS := Lib.hid hs
  have HN := Lib.hid hnone
  clear hb4 hs hnone q0 q1 HP
  have q0 := (B4.out.cell (p := ⟨bp, _, none⟩) hbp).trans P0.out
  have q1 := (B4.out.cell (p := ⟨bp, _, none⟩) hbp).trans P1.out
  have H32 : Hid (∀ l, patN [] r.changes r.changes.length = some l → l.length ≤ 32) := fun l h => (patN_spec List.Pairwise.nil (by simp) _ _ h).2
  generalize hpat : patN [] r.changes r.changes.length = pat at *
  clear hpat
  cases pat with
  | none =>
    have hc := HN.out rfl
    go_wp2
    go_ret
    exact ⟨by rw [HE2.out]; rfl, B4.out⟩
  | some l =>
    obtain ⟨rfl, rfl, ho, hi⟩ := HS.out l rfl
    have HO := Lib.hid ho
    have HI := Lib.hid hi
    clear ho hi
    have hle := H32.out l rfl
    go_wp2_with fail
    refine (l28Same_any l r.records _ _ w4.heap.size w4 (HO.out.rd HI.out) ((H0.out.below B4.out).mono (by omega)) (Nat.le_refl _) (by omega) (by omega)).mono ?_
    rintro e w5 ⟨rfl, hb5⟩
    have B5 := Lib.hid (B4.out.trans (hb5.mono (by omega)))
    clear hb5
    go_wp2
    go_ret
    exact ⟨by rw [HE2.out]; rfl, B5.out⟩
end
end Go.Proofs.YtjkpadfolkniaaaDoor
