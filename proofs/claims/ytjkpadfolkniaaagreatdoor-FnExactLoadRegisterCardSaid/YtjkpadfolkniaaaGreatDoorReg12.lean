/- Contract: a register with a further change, of the reference. Conditions: rising keys, bounded lengths. -/
import Derived.Test.YtjkpadfolkniaaaGreatDoorReg9
import Derived.Test.YtjkpadfolkniaaaGreatDoorReg10
import Derived.Test.YtjkpadfolkniaaaGreatDoorCloneT
import Derived.Test.YtjkpadfolkniaaaGreatDoorVs
import Derived.Deep.DeepCutAuto
namespace Go.Proofs.YtjkpadfolkniaaaGreatDoor
open Go.RowKit
set_option linter.unusedVariables false
set_option linter.unusedSimpArgs false

def addR (r : DRegister) (key value : ByteArray) (day : Int) : DRegister × Int :=
  if laterB r day = true then (⟨[], []⟩, 7) else (if (eqS value emptyS && eqS (valOf r.records key) emptyS) = true then (⟨[], []⟩, 3) else (if eqS value (valOf r.records key) = true then (⟨[], []⟩, 4) else
    (if 32 < (putL r.records key value).length then (⟨[], []⟩, 5) else (if r.changes.length = 48 then (⟨[], []⟩, 5) else (⟨putL r.records key value, r.changes ++ [⟨day, key, valOf r.records key, value⟩]⟩, 0)))))
section
variable {r : DRegister} {key value : ByteArray} {day : Int}
theorem addR_1 (h : laterB r day = true) : addR r key value day = (⟨[], []⟩, 7) := by unfold addR; rw [if_pos h]
theorem addR_2 (h : laterB r day = false) (h2 : eqS value emptyS = true) (h3 : eqS (valOf r.records key) emptyS = true) : addR r key value day = (⟨[], []⟩, 3) := by unfold addR; rw [if_neg (by simp [h]), if_pos (by rw [h2, h3]; rfl)]
theorem addR_3 (h : laterB r day = false) (h2 : (eqS value emptyS && eqS (valOf r.records key) emptyS) = false) (h3 : eqS value (valOf r.records key) = true) : addR r key value day = (⟨[], []⟩, 4) := by unfold addR; rw [if_neg (by simp [h]), if_neg (by rw [h2]; simp), if_pos h3]
theorem addR_4 (h : laterB r day = false) (h2 : (eqS value emptyS && eqS (valOf r.records key) emptyS) = false) (h3 : eqS value (valOf r.records key) = false) (h4 : 32 < (putL r.records key value).length) : addR r key value day = (⟨[], []⟩, 5) := by unfold addR; rw [if_neg (by simp [h]), if_neg (by rw [h2]; simp), if_neg (by simp [h3]), if_pos h4]
theorem addR_5 (h : laterB r day = false) (h2 : (eqS value emptyS && eqS (valOf r.records key) emptyS) = false) (h3 : eqS value (valOf r.records key) = false) (h4 : ¬ 32 < (putL r.records key value).length) (h5 : r.changes.length = 48) : addR r key value day = (⟨[], []⟩, 5) := by unfold addR; rw [if_neg (by simp [h]), if_neg (by rw [h2]; simp), if_neg (by simp [h3]), if_neg h4, if_pos h5]
theorem addR_6 (h : laterB r day = false) (h2 : (eqS value emptyS && eqS (valOf r.records key) emptyS) = false) (h3 : eqS value (valOf r.records key) = false) (h4 : ¬ 32 < (putL r.records key value).length) (h5 : ¬ r.changes.length = 48) : addR r key value day = (⟨putL r.records key value, r.changes ++ [⟨day, key, valOf r.records key, value⟩]⟩, 0) := by unfold addR; rw [if_neg (by simp [h]), if_neg (by rw [h2]; simp), if_neg (by simp [h3]), if_neg h4, if_neg h5]
end
section
set_option maxHeartbeats 8000000
set_option maxRecDepth 100000
theorem l28Add_later (r : DRegister) (key value : ByteArray) (day : Int) (A0 : Option Addr) (C0 : Nat) (A1 : Option Addr) (C1 : Nat) (bp : Nat) (w : World) (h0 : Rd w.heap.size w (DRecord.sT r.records) (.slice A0 r.records.length C0)) (h1 : Rd w.heap.size w (DChange.sT r.changes) (.slice A1 r.changes.length C1)) (p0 : w.cell? ⟨bp, 0, none⟩ = some (.slice A0 r.records.length C0)) (p1 : w.cell? ⟨bp, 1, none⟩ = some (.slice A1 r.changes.length C1)) (hbp : bp < w.heap.size) (hn0 : r.records.length ≤ 1000) (hn1 : r.changes.length ≤ 1000) (hr : Rise r.records) (hl : laterB r day = true) :
    Calls Tryz.prog 20 #[.pointer (some ⟨bp, 0, none⟩), .string key, .string value, .int .i64 day] w (NewR (addR r key value day) w) := by
  have HE := Lib.hid (addR_1 (key := key) (value := value) hl)
  have hpos : 0 < r.changes.length := by
    rcases Nat.eq_zero_or_pos r.changes.length with h | h
    · rw [laterB_zero h] at hl; cases hl
    · exact h
  rw [laterB_pos hpos] at hl
  obtain ⟨m, hm⟩ : ∃ m, r.changes.length = m + 1 := ⟨r.changes.length - 1, by omega⟩
  have hb0 : Below w.heap.size w (w.alloc (.cells #[.slice none 0 0, .slice none 0 0] 31)) := below_alloc _ _
  have k0 := bkN w #[.slice none 0 0, .slice none 0 0] 31
  have z0 : w.heap.size + 1 ≤ (w.alloc (.cells #[.slice none 0 0, .slice none 0 0] 31)).heap.size := by simp
  have P0 := Lib.hid p0
  have P1 := Lib.hid p1
  have q0 := (hb0.cell (p := ⟨bp, _, none⟩) hbp).trans p0
  have q1 := (hb0.cell (p := ⟨bp, _, none⟩) hbp).trans p1
  have H0 := Lib.hid h0
  have H1 := Lib.hid h1
  have HRI := Lib.hid hr
  clear h0 h1 p0 p1 hr
  go_enter Tryz.func20, Tryz.ntmps20
  go_upto_region 1 with (fail)
  generalize w.alloc (.cells #[.slice none 0 0, .slice none 0 0] 31) = W0 at *
  have B0 := Lib.hid hb0
  have K0 := Lib.hid k0
  clear k0 hb0
  obtain ⟨A9, C9, hv9, _, _, hcells⟩ := DChange.rd H1.out
  injection hv9 with e1 _ e3
  subst e1 e3
  obtain ⟨b, off, rfl, hbl, hat⟩ := hcells hpos
  have hlt_ : r.changes.length - 1 < r.changes.length := by omega
  have s0 := (B0.out.cell (p := ⟨b, _, none⟩) hbl).trans (hat (r.changes.length - 1) hlt_).1
  clear hcells hat
  have HM := Lib.hid hm
  have hix : r.changes.length - 1 = m := by omega
  have hD : (r.changes[r.changes.length - 1]'(by omega)).day = (r.changes[r.changes.length - 1]'(by omega)).day := rfl
  generalize (r.changes[r.changes.length - 1]'(by omega)).day = D at s0 hl
  rw [hix] at s0
  have i1 : (r.changes.length : Int) - 1 = (m : Int) := by omega
  have i2 : decide ((0 : Int) < (r.changes.length : Int)) = true := decide_eq_true (by omega)
  have i3 : decide (0 < r.changes.length) = true := decide_eq_true hpos
  have i4 : (0 : Int) ≤ (m : Int) := by omega
  have i5 : (m : Int) < (r.changes.length : Int) := by omega
  have hbw : b < W0.heap.size := by omega
  clear hix hlt_ hD
  clear hm
  have i6 := hl
  clear hl
  have g0 := bkC (v := .slice none 0 0) K0.out 0 rfl
  have g1 := bkC (v := .slice none 0 0) K0.out 1 rfl
  have zO := bkF K0.out
  go_wp2
  refine bodyPost_ret (v := .tuple #[.agg #[.slice none 0 0, .slice none 0 0], .int .i64 7]) (by simp [results, Tryz.results20, go_sem, *]) rfl ?_
  exact NewR.zero HE.out rfl ((B0.out.setCell (p := ⟨w.heap.size, 0, none⟩) (Nat.le_refl _) _).setCell (p := ⟨w.heap.size, 1, none⟩) (Nat.le_refl _) _)
theorem l28Add_none0 (r : DRegister) (key value : ByteArray) (day : Int) (A0 : Option Addr) (C0 : Nat) (A1 : Option Addr) (C1 : Nat) (bp : Nat) (w : World) (h0 : Rd w.heap.size w (DRecord.sT r.records) (.slice A0 r.records.length C0)) (h1 : Rd w.heap.size w (DChange.sT r.changes) (.slice A1 r.changes.length C1)) (p0 : w.cell? ⟨bp, 0, none⟩ = some (.slice A0 r.records.length C0)) (p1 : w.cell? ⟨bp, 1, none⟩ = some (.slice A1 r.changes.length C1)) (hbp : bp < w.heap.size) (hn0 : r.records.length ≤ 1000) (hn1 : r.changes.length ≤ 1000) (hr : Rise r.records) (hl : laterB r day = false) (h2 : eqS value emptyS = true) (h3 : eqS (valOf r.records key) emptyS = true) (hpos : 0 < r.changes.length) :
    Calls Tryz.prog 20 #[.pointer (some ⟨bp, 0, none⟩), .string key, .string value, .int .i64 day] w (NewR (addR r key value day) w) := by
  have HE := Lib.hid (addR_2 hl h2 h3)
  rw [laterB_pos hpos] at hl
  obtain ⟨m, hm⟩ : ∃ m, r.changes.length = m + 1 := ⟨r.changes.length - 1, by omega⟩
  have hb0 : Below w.heap.size w (w.alloc (.cells #[.slice none 0 0, .slice none 0 0] 31)) := below_alloc _ _
  have k0 := bkN w #[.slice none 0 0, .slice none 0 0] 31
  have z0 : w.heap.size + 1 ≤ (w.alloc (.cells #[.slice none 0 0, .slice none 0 0] 31)).heap.size := by simp
  have P0 := Lib.hid p0
  have P1 := Lib.hid p1
  have q0 := (hb0.cell (p := ⟨bp, _, none⟩) hbp).trans p0
  have q1 := (hb0.cell (p := ⟨bp, _, none⟩) hbp).trans p1
  have H0 := Lib.hid h0
  have H1 := Lib.hid h1
  have HRI := Lib.hid hr
  clear h0 h1 p0 p1 hr
  go_enter Tryz.func20, Tryz.ntmps20
  go_upto_region 1 with (fail)
  generalize w.alloc (.cells #[.slice none 0 0, .slice none 0 0] 31) = W0 at *
  have B0 := Lib.hid hb0
  have K0 := Lib.hid k0
  clear k0 hb0
  obtain ⟨A9, C9, hv9, _, _, hcells⟩ := DChange.rd H1.out
  injection hv9 with e1 _ e3
  subst e1 e3
  obtain ⟨b, off, rfl, hbl, hat⟩ := hcells hpos
  have hlt_ : r.changes.length - 1 < r.changes.length := by omega
  have s0 := (B0.out.cell (p := ⟨b, _, none⟩) hbl).trans (hat (r.changes.length - 1) hlt_).1
  clear hcells hat
  have HM := Lib.hid hm
  have hix : r.changes.length - 1 = m := by omega
  have hD : (r.changes[r.changes.length - 1]'(by omega)).day = (r.changes[r.changes.length - 1]'(by omega)).day := rfl
  generalize (r.changes[r.changes.length - 1]'(by omega)).day = D at s0 hl
  rw [hix] at s0
  have i1 : (r.changes.length : Int) - 1 = (m : Int) := by omega
  have i2 : decide ((0 : Int) < (r.changes.length : Int)) = true := decide_eq_true (by omega)
  have i3 : decide (0 < r.changes.length) = true := decide_eq_true hpos
  have i4 : (0 : Int) ≤ (m : Int) := by omega
  have i5 : (m : Int) < (r.changes.length : Int) := by omega
  have hbw : b < W0.heap.size := by omega
  clear hix hlt_ hD
  clear hm
  have i6 := hl
  clear hl
  have d1 : value = ⟨#[]⟩ := emptyS_of h2
  have d2 := emptyS_of h3
  go_wp2_with fail
  refine (l28Get_any r.records key _ w.heap.size W0 (H0.out.below B0.out) (by omega) (by omega)).mono ?_
  rintro e _ ⟨rfl, rfl⟩
  rw [d2]
  subst d1
  have g0 := bkC (v := .slice none 0 0) K0.out 0 rfl
  have g1 := bkC (v := .slice none 0 0) K0.out 1 rfl
  have zO := bkF K0.out
  go_wp2
  refine bodyPost_ret (v := .tuple #[.agg #[.slice none 0 0, .slice none 0 0], .int .i64 3]) (by simp [results, Tryz.results20, go_sem, *]) rfl ?_
  exact NewR.zero HE.out rfl ((B0.out.setCell (p := ⟨w.heap.size, 0, none⟩) (Nat.le_refl _) _).setCell (p := ⟨w.heap.size, 1, none⟩) (Nat.le_refl _) _)
theorem l28Add_none1 (r : DRegister) (key value : ByteArray) (day : Int) (A0 : Option Addr) (C0 : Nat) (A1 : Option Addr) (C1 : Nat) (bp : Nat) (w : World) (h0 : Rd w.heap.size w (DRecord.sT r.records) (.slice A0 r.records.length C0)) (h1 : Rd w.heap.size w (DChange.sT r.changes) (.slice A1 r.changes.length C1)) (p0 : w.cell? ⟨bp, 0, none⟩ = some (.slice A0 r.records.length C0)) (p1 : w.cell? ⟨bp, 1, none⟩ = some (.slice A1 r.changes.length C1)) (hbp : bp < w.heap.size) (hn0 : r.records.length ≤ 1000) (hn1 : r.changes.length ≤ 1000) (hr : Rise r.records) (hl : laterB r day = false) (h2 : eqS value emptyS = true) (h3 : eqS (valOf r.records key) emptyS = true) (hz : r.changes.length = 0) :
    Calls Tryz.prog 20 #[.pointer (some ⟨bp, 0, none⟩), .string key, .string value, .int .i64 day] w (NewR (addR r key value day) w) := by
  have HE := Lib.hid (addR_2 hl h2 h3)
  have hz1 : r.changes.length ≤ 0 := by omega
  clear hz
  have hb0 : Below w.heap.size w (w.alloc (.cells #[.slice none 0 0, .slice none 0 0] 31)) := below_alloc _ _
  have k0 := bkN w #[.slice none 0 0, .slice none 0 0] 31
  have z0 : w.heap.size + 1 ≤ (w.alloc (.cells #[.slice none 0 0, .slice none 0 0] 31)).heap.size := by simp
  have P0 := Lib.hid p0
  have P1 := Lib.hid p1
  have q0 := (hb0.cell (p := ⟨bp, _, none⟩) hbp).trans p0
  have q1 := (hb0.cell (p := ⟨bp, _, none⟩) hbp).trans p1
  have H0 := Lib.hid h0
  have H1 := Lib.hid h1
  have HRI := Lib.hid hr
  clear h0 h1 p0 p1 hr
  go_enter Tryz.func20, Tryz.ntmps20
  go_upto_region 1 with (fail)
  generalize w.alloc (.cells #[.slice none 0 0, .slice none 0 0] 31) = W0 at *
  have B0 := Lib.hid hb0
  have K0 := Lib.hid k0
  clear k0 hb0
  have i2 : decide ((0 : Int) < (r.changes.length : Int)) = false := decide_eq_false (by omega)
  have i3 : decide (0 < r.changes.length) = false := decide_eq_false (by omega)
  have d1 : value = ⟨#[]⟩ := emptyS_of h2
  have d2 := emptyS_of h3
  go_wp2_with fail
  refine (l28Get_any r.records key _ w.heap.size W0 (H0.out.below B0.out) (by omega) (by omega)).mono ?_
  rintro e _ ⟨rfl, rfl⟩
  rw [d2]
  subst d1
  have g0 := bkC (v := .slice none 0 0) K0.out 0 rfl
  have g1 := bkC (v := .slice none 0 0) K0.out 1 rfl
  have zO := bkF K0.out
  go_wp2
  refine bodyPost_ret (v := .tuple #[.agg #[.slice none 0 0, .slice none 0 0], .int .i64 3]) (by simp [results, Tryz.results20, go_sem, *]) rfl ?_
  exact NewR.zero HE.out rfl ((B0.out.setCell (p := ⟨w.heap.size, 0, none⟩) (Nat.le_refl _) _).setCell (p := ⟨w.heap.size, 1, none⟩) (Nat.le_refl _) _)
theorem l28Add_samea0 (r : DRegister) (key value : ByteArray) (day : Int) (A0 : Option Addr) (C0 : Nat) (A1 : Option Addr) (C1 : Nat) (bp : Nat) (w : World) (h0 : Rd w.heap.size w (DRecord.sT r.records) (.slice A0 r.records.length C0)) (h1 : Rd w.heap.size w (DChange.sT r.changes) (.slice A1 r.changes.length C1)) (p0 : w.cell? ⟨bp, 0, none⟩ = some (.slice A0 r.records.length C0)) (p1 : w.cell? ⟨bp, 1, none⟩ = some (.slice A1 r.changes.length C1)) (hbp : bp < w.heap.size) (hn0 : r.records.length ≤ 1000) (hn1 : r.changes.length ≤ 1000) (hr : Rise r.records) (hl : laterB r day = false) (h2 : eqS value emptyS = true) (h3 : eqS (valOf r.records key) emptyS = false) (h4 : eqS value (valOf r.records key) = true) (hpos : 0 < r.changes.length) :
    Calls Tryz.prog 20 #[.pointer (some ⟨bp, 0, none⟩), .string key, .string value, .int .i64 day] w (NewR (addR r key value day) w) := by
  have HE := Lib.hid (addR_3 hl (by rw [h2, h3]; rfl) h4)
  rw [laterB_pos hpos] at hl
  obtain ⟨m, hm⟩ : ∃ m, r.changes.length = m + 1 := ⟨r.changes.length - 1, by omega⟩
  have hb0 : Below w.heap.size w (w.alloc (.cells #[.slice none 0 0, .slice none 0 0] 31)) := below_alloc _ _
  have k0 := bkN w #[.slice none 0 0, .slice none 0 0] 31
  have z0 : w.heap.size + 1 ≤ (w.alloc (.cells #[.slice none 0 0, .slice none 0 0] 31)).heap.size := by simp
  have P0 := Lib.hid p0
  have P1 := Lib.hid p1
  have q0 := (hb0.cell (p := ⟨bp, _, none⟩) hbp).trans p0
  have q1 := (hb0.cell (p := ⟨bp, _, none⟩) hbp).trans p1
  have H0 := Lib.hid h0
  have H1 := Lib.hid h1
  have HRI := Lib.hid hr
  clear h0 h1 p0 p1 hr
  go_enter Tryz.func20, Tryz.ntmps20
  go_upto_region 1 with (fail)
  generalize w.alloc (.cells #[.slice none 0 0, .slice none 0 0] 31) = W0 at *
  have B0 := Lib.hid hb0
  have K0 := Lib.hid k0
  clear k0 hb0
  obtain ⟨A9, C9, hv9, _, _, hcells⟩ := DChange.rd H1.out
  injection hv9 with e1 _ e3
  subst e1 e3
  obtain ⟨b, off, rfl, hbl, hat⟩ := hcells hpos
  have hlt_ : r.changes.length - 1 < r.changes.length := by omega
  have s0 := (B0.out.cell (p := ⟨b, _, none⟩) hbl).trans (hat (r.changes.length - 1) hlt_).1
  clear hcells hat
  have HM := Lib.hid hm
  have hix : r.changes.length - 1 = m := by omega
  have hD : (r.changes[r.changes.length - 1]'(by omega)).day = (r.changes[r.changes.length - 1]'(by omega)).day := rfl
  generalize (r.changes[r.changes.length - 1]'(by omega)).day = D at s0 hl
  rw [hix] at s0
  have i1 : (r.changes.length : Int) - 1 = (m : Int) := by omega
  have i2 : decide ((0 : Int) < (r.changes.length : Int)) = true := decide_eq_true (by omega)
  have i3 : decide (0 < r.changes.length) = true := decide_eq_true hpos
  have i4 : (0 : Int) ≤ (m : Int) := by omega
  have i5 : (m : Int) < (r.changes.length : Int) := by omega
  have hbw : b < W0.heap.size := by omega
  clear hix hlt_ hD
  clear hm
  have i6 := hl
  clear hl
  go_wp2_with fail
  refine (l28Get_any r.records key _ w.heap.size W0 (H0.out.below B0.out) (by omega) (by omega)).mono ?_
  rintro e _ ⟨rfl, rfl⟩
  generalize hO : valOf r.records key = O at *
  have HO := Lib.hid hO
  clear hO
  obtain rfl := emptyS_of h2
  obtain ⟨n1, n2, n3⟩ := eqS_empty_list h3
  exact absurd h4 (by rw [show eqS ⟨#[]⟩ O = eqS O emptyS from by cases hc : eqS O emptyS with | true => exact eqS_iff.2 (eqS_iff.1 hc).symm | false => exact eqS_false.2 (fun e => (eqS_false.1 hc) e.symm), h3]; simp)
theorem l28Add_samea1 (r : DRegister) (key value : ByteArray) (day : Int) (A0 : Option Addr) (C0 : Nat) (A1 : Option Addr) (C1 : Nat) (bp : Nat) (w : World) (h0 : Rd w.heap.size w (DRecord.sT r.records) (.slice A0 r.records.length C0)) (h1 : Rd w.heap.size w (DChange.sT r.changes) (.slice A1 r.changes.length C1)) (p0 : w.cell? ⟨bp, 0, none⟩ = some (.slice A0 r.records.length C0)) (p1 : w.cell? ⟨bp, 1, none⟩ = some (.slice A1 r.changes.length C1)) (hbp : bp < w.heap.size) (hn0 : r.records.length ≤ 1000) (hn1 : r.changes.length ≤ 1000) (hr : Rise r.records) (hl : laterB r day = false) (h2 : eqS value emptyS = true) (h3 : eqS (valOf r.records key) emptyS = false) (h4 : eqS value (valOf r.records key) = true) (hz : r.changes.length = 0) :
    Calls Tryz.prog 20 #[.pointer (some ⟨bp, 0, none⟩), .string key, .string value, .int .i64 day] w (NewR (addR r key value day) w) := by
  have HE := Lib.hid (addR_3 hl (by rw [h2, h3]; rfl) h4)
  have hz1 : r.changes.length ≤ 0 := by omega
  clear hz
  have hb0 : Below w.heap.size w (w.alloc (.cells #[.slice none 0 0, .slice none 0 0] 31)) := below_alloc _ _
  have k0 := bkN w #[.slice none 0 0, .slice none 0 0] 31
  have z0 : w.heap.size + 1 ≤ (w.alloc (.cells #[.slice none 0 0, .slice none 0 0] 31)).heap.size := by simp
  have P0 := Lib.hid p0
  have P1 := Lib.hid p1
  have q0 := (hb0.cell (p := ⟨bp, _, none⟩) hbp).trans p0
  have q1 := (hb0.cell (p := ⟨bp, _, none⟩) hbp).trans p1
  have H0 := Lib.hid h0
  have H1 := Lib.hid h1
  have HRI := Lib.hid hr
  clear h0 h1 p0 p1 hr
  go_enter Tryz.func20, Tryz.ntmps20
  go_upto_region 1 with (fail)
  generalize w.alloc (.cells #[.slice none 0 0, .slice none 0 0] 31) = W0 at *
  have B0 := Lib.hid hb0
  have K0 := Lib.hid k0
  clear k0 hb0
  have i2 : decide ((0 : Int) < (r.changes.length : Int)) = false := decide_eq_false (by omega)
  have i3 : decide (0 < r.changes.length) = false := decide_eq_false (by omega)
  go_wp2_with fail
  refine (l28Get_any r.records key _ w.heap.size W0 (H0.out.below B0.out) (by omega) (by omega)).mono ?_
  rintro e _ ⟨rfl, rfl⟩
  generalize hO : valOf r.records key = O at *
  have HO := Lib.hid hO
  clear hO
  obtain rfl := emptyS_of h2
  obtain ⟨n1, n2, n3⟩ := eqS_empty_list h3
  exact absurd h4 (by rw [show eqS ⟨#[]⟩ O = eqS O emptyS from by cases hc : eqS O emptyS with | true => exact eqS_iff.2 (eqS_iff.1 hc).symm | false => exact eqS_false.2 (fun e => (eqS_false.1 hc) e.symm), h3]; simp)
theorem l28Add_fulla0 (r : DRegister) (key value : ByteArray) (day : Int) (A0 : Option Addr) (C0 : Nat) (A1 : Option Addr) (C1 : Nat) (bp : Nat) (w : World) (h0 : Rd w.heap.size w (DRecord.sT r.records) (.slice A0 r.records.length C0)) (h1 : Rd w.heap.size w (DChange.sT r.changes) (.slice A1 r.changes.length C1)) (p0 : w.cell? ⟨bp, 0, none⟩ = some (.slice A0 r.records.length C0)) (p1 : w.cell? ⟨bp, 1, none⟩ = some (.slice A1 r.changes.length C1)) (hbp : bp < w.heap.size) (hn0 : r.records.length ≤ 1000) (hn1 : r.changes.length ≤ 1000) (hr : Rise r.records) (hl : laterB r day = false) (h2 : eqS value emptyS = true) (h3 : eqS (valOf r.records key) emptyS = false) (h4 : eqS value (valOf r.records key) = false) (h5 : 32 < (putL r.records key value).length) (hpos : 0 < r.changes.length) :
    Calls Tryz.prog 20 #[.pointer (some ⟨bp, 0, none⟩), .string key, .string value, .int .i64 day] w (NewR (addR r key value day) w) := by
  have HE := Lib.hid (addR_4 hl (by rw [h2, h3]; rfl) h4 h5)
  rw [laterB_pos hpos] at hl
  obtain ⟨m, hm⟩ : ∃ m, r.changes.length = m + 1 := ⟨r.changes.length - 1, by omega⟩
  have hb0 : Below w.heap.size w (w.alloc (.cells #[.slice none 0 0, .slice none 0 0] 31)) := below_alloc _ _
  have k0 := bkN w #[.slice none 0 0, .slice none 0 0] 31
  have z0 : w.heap.size + 1 ≤ (w.alloc (.cells #[.slice none 0 0, .slice none 0 0] 31)).heap.size := by simp
  have P0 := Lib.hid p0
  have P1 := Lib.hid p1
  have q0 := (hb0.cell (p := ⟨bp, _, none⟩) hbp).trans p0
  have q1 := (hb0.cell (p := ⟨bp, _, none⟩) hbp).trans p1
  have H0 := Lib.hid h0
  have H1 := Lib.hid h1
  have HRI := Lib.hid hr
  clear h0 h1 p0 p1 hr
  go_enter Tryz.func20, Tryz.ntmps20
  go_upto_region 1 with (fail)
  generalize w.alloc (.cells #[.slice none 0 0, .slice none 0 0] 31) = W0 at *
  have B0 := Lib.hid hb0
  have K0 := Lib.hid k0
  clear k0 hb0
  obtain ⟨A9, C9, hv9, _, _, hcells⟩ := DChange.rd H1.out
  injection hv9 with e1 _ e3
  subst e1 e3
  obtain ⟨b, off, rfl, hbl, hat⟩ := hcells hpos
  have hlt_ : r.changes.length - 1 < r.changes.length := by omega
  have s0 := (B0.out.cell (p := ⟨b, _, none⟩) hbl).trans (hat (r.changes.length - 1) hlt_).1
  clear hcells hat
  have HM := Lib.hid hm
  have hix : r.changes.length - 1 = m := by omega
  have hD : (r.changes[r.changes.length - 1]'(by omega)).day = (r.changes[r.changes.length - 1]'(by omega)).day := rfl
  generalize (r.changes[r.changes.length - 1]'(by omega)).day = D at s0 hl
  rw [hix] at s0
  have i1 : (r.changes.length : Int) - 1 = (m : Int) := by omega
  have i2 : decide ((0 : Int) < (r.changes.length : Int)) = true := decide_eq_true (by omega)
  have i3 : decide (0 < r.changes.length) = true := decide_eq_true hpos
  have i4 : (0 : Int) ≤ (m : Int) := by omega
  have i5 : (m : Int) < (r.changes.length : Int) := by omega
  have hbw : b < W0.heap.size := by omega
  clear hix hlt_ hD
  clear hm
  have i6 := hl
  clear hl
  go_wp2_with fail
  refine (l28Get_any r.records key _ w.heap.size W0 (H0.out.below B0.out) (by omega) (by omega)).mono ?_
  rintro e _ ⟨rfl, rfl⟩
  generalize hO : valOf r.records key = O at *
  have HO := Lib.hid hO
  clear hO
  obtain rfl := emptyS_of h2
  obtain ⟨n1, n2, n3⟩ := eqS_empty_list h3
  go_wp2_with fail
  refine (l28Put_any r.records key ⟨#[]⟩ _ W0 ((H0.out.below B0.out).mono (by omega)) hn0 HRI.out).mono ?_
  generalize hPL : putL r.records key ⟨#[]⟩ = PL at *
  have HPL := Lib.hid hPL
  clear hPL
  rintro e X1 ⟨a3, c3, fp3, rfl, hb, ho, hi⟩
  have K1 := Lib.hid (bkB K0.out hb (by omega))
  have B1 := Lib.hid (B0.out.trans (hb.mono (by omega)))
  have O3 := Lib.hid ho
  have I3 := Lib.hid hi
  have z1 : W0.heap.size ≤ X1.heap.size := hb.size
  clear hb ho hi q0 q1
  have q0 := (B1.out.cell (p := ⟨bp, _, none⟩) hbp).trans P0.out
  have q1 := (B1.out.cell (p := ⟨bp, _, none⟩) hbp).trans P1.out
  have d5 : (32 : Int) < (PL.length : Int) := by omega
  have g0 := bkC (v := .slice none 0 0) K1.out 0 rfl
  have g1 := bkC (v := .slice none 0 0) K1.out 1 rfl
  have zO := bkF K1.out
  go_wp2
  refine bodyPost_ret (v := .tuple #[.agg #[.slice none 0 0, .slice none 0 0], .int .i64 5]) (by simp [results, Tryz.results20, go_sem, *]) rfl ?_
  exact NewR.zero HE.out rfl ((B1.out.setCell (p := ⟨w.heap.size, 0, none⟩) (Nat.le_refl _) _).setCell (p := ⟨w.heap.size, 1, none⟩) (Nat.le_refl _) _)
theorem l28Add_fulla1 (r : DRegister) (key value : ByteArray) (day : Int) (A0 : Option Addr) (C0 : Nat) (A1 : Option Addr) (C1 : Nat) (bp : Nat) (w : World) (h0 : Rd w.heap.size w (DRecord.sT r.records) (.slice A0 r.records.length C0)) (h1 : Rd w.heap.size w (DChange.sT r.changes) (.slice A1 r.changes.length C1)) (p0 : w.cell? ⟨bp, 0, none⟩ = some (.slice A0 r.records.length C0)) (p1 : w.cell? ⟨bp, 1, none⟩ = some (.slice A1 r.changes.length C1)) (hbp : bp < w.heap.size) (hn0 : r.records.length ≤ 1000) (hn1 : r.changes.length ≤ 1000) (hr : Rise r.records) (hl : laterB r day = false) (h2 : eqS value emptyS = true) (h3 : eqS (valOf r.records key) emptyS = false) (h4 : eqS value (valOf r.records key) = false) (h5 : 32 < (putL r.records key value).length) (hz : r.changes.length = 0) :
    Calls Tryz.prog 20 #[.pointer (some ⟨bp, 0, none⟩), .string key, .string value, .int .i64 day] w (NewR (addR r key value day) w) := by
  have HE := Lib.hid (addR_4 hl (by rw [h2, h3]; rfl) h4 h5)
  have hz1 : r.changes.length ≤ 0 := by omega
  clear hz
  have hb0 : Below w.heap.size w (w.alloc (.cells #[.slice none 0 0, .slice none 0 0] 31)) := below_alloc _ _
  have k0 := bkN w #[.slice none 0 0, .slice none 0 0] 31
  have z0 : w.heap.size + 1 ≤ (w.alloc (.cells #[.slice none 0 0, .slice none 0 0] 31)).heap.size := by simp
  have P0 := Lib.hid p0
  have P1 := Lib.hid p1
  have q0 := (hb0.cell (p := ⟨bp, _, none⟩) hbp).trans p0
  have q1 := (hb0.cell (p := ⟨bp, _, none⟩) hbp).trans p1
  have H0 := Lib.hid h0
  have H1 := Lib.hid h1
  have HRI := Lib.hid hr
  clear h0 h1 p0 p1 hr
  go_enter Tryz.func20, Tryz.ntmps20
  go_upto_region 1 with (fail)
  generalize w.alloc (.cells #[.slice none 0 0, .slice none 0 0] 31) = W0 at *
  have B0 := Lib.hid hb0
  have K0 := Lib.hid k0
  clear k0 hb0
  have i2 : decide ((0 : Int) < (r.changes.length : Int)) = false := decide_eq_false (by omega)
  have i3 : decide (0 < r.changes.length) = false := decide_eq_false (by omega)
  go_wp2_with fail
  refine (l28Get_any r.records key _ w.heap.size W0 (H0.out.below B0.out) (by omega) (by omega)).mono ?_
  rintro e _ ⟨rfl, rfl⟩
  generalize hO : valOf r.records key = O at *
  have HO := Lib.hid hO
  clear hO
  obtain rfl := emptyS_of h2
  obtain ⟨n1, n2, n3⟩ := eqS_empty_list h3
  go_wp2_with fail
  refine (l28Put_any r.records key ⟨#[]⟩ _ W0 ((H0.out.below B0.out).mono (by omega)) hn0 HRI.out).mono ?_
  generalize hPL : putL r.records key ⟨#[]⟩ = PL at *
  have HPL := Lib.hid hPL
  clear hPL
  rintro e X1 ⟨a3, c3, fp3, rfl, hb, ho, hi⟩
  have K1 := Lib.hid (bkB K0.out hb (by omega))
  have B1 := Lib.hid (B0.out.trans (hb.mono (by omega)))
  have O3 := Lib.hid ho
  have I3 := Lib.hid hi
  have z1 : W0.heap.size ≤ X1.heap.size := hb.size
  clear hb ho hi q0 q1
  have q0 := (B1.out.cell (p := ⟨bp, _, none⟩) hbp).trans P0.out
  have q1 := (B1.out.cell (p := ⟨bp, _, none⟩) hbp).trans P1.out
  have d5 : (32 : Int) < (PL.length : Int) := by omega
  have g0 := bkC (v := .slice none 0 0) K1.out 0 rfl
  have g1 := bkC (v := .slice none 0 0) K1.out 1 rfl
  have zO := bkF K1.out
  go_wp2
  refine bodyPost_ret (v := .tuple #[.agg #[.slice none 0 0, .slice none 0 0], .int .i64 5]) (by simp [results, Tryz.results20, go_sem, *]) rfl ?_
  exact NewR.zero HE.out rfl ((B1.out.setCell (p := ⟨w.heap.size, 0, none⟩) (Nat.le_refl _) _).setCell (p := ⟨w.heap.size, 1, none⟩) (Nat.le_refl _) _)
theorem l28Add_manya0 (r : DRegister) (key value : ByteArray) (day : Int) (A0 : Option Addr) (C0 : Nat) (A1 : Option Addr) (C1 : Nat) (bp : Nat) (w : World) (h0 : Rd w.heap.size w (DRecord.sT r.records) (.slice A0 r.records.length C0)) (h1 : Rd w.heap.size w (DChange.sT r.changes) (.slice A1 r.changes.length C1)) (p0 : w.cell? ⟨bp, 0, none⟩ = some (.slice A0 r.records.length C0)) (p1 : w.cell? ⟨bp, 1, none⟩ = some (.slice A1 r.changes.length C1)) (hbp : bp < w.heap.size) (hn0 : r.records.length ≤ 1000) (hn1 : r.changes.length ≤ 1000) (hr : Rise r.records) (hl : laterB r day = false) (h2 : eqS value emptyS = true) (h3 : eqS (valOf r.records key) emptyS = false) (h4 : eqS value (valOf r.records key) = false) (h5 : ¬ 32 < (putL r.records key value).length) (h6 : r.changes.length = 48) (hpos : 0 < r.changes.length) :
    Calls Tryz.prog 20 #[.pointer (some ⟨bp, 0, none⟩), .string key, .string value, .int .i64 day] w (NewR (addR r key value day) w) := by
  have HE := Lib.hid (addR_5 hl (by rw [h2, h3]; rfl) h4 h5 h6)
  have h6a : 48 ≤ r.changes.length := by omega
  have h6b : r.changes.length ≤ 48 := by omega
  clear h6
  rw [laterB_pos hpos] at hl
  obtain ⟨m, hm⟩ : ∃ m, r.changes.length = m + 1 := ⟨r.changes.length - 1, by omega⟩
  have hb0 : Below w.heap.size w (w.alloc (.cells #[.slice none 0 0, .slice none 0 0] 31)) := below_alloc _ _
  have k0 := bkN w #[.slice none 0 0, .slice none 0 0] 31
  have z0 : w.heap.size + 1 ≤ (w.alloc (.cells #[.slice none 0 0, .slice none 0 0] 31)).heap.size := by simp
  have P0 := Lib.hid p0
  have P1 := Lib.hid p1
  have q0 := (hb0.cell (p := ⟨bp, _, none⟩) hbp).trans p0
  have q1 := (hb0.cell (p := ⟨bp, _, none⟩) hbp).trans p1
  have H0 := Lib.hid h0
  have H1 := Lib.hid h1
  have HRI := Lib.hid hr
  clear h0 h1 p0 p1 hr
  go_enter Tryz.func20, Tryz.ntmps20
  go_upto_region 1 with (fail)
  generalize w.alloc (.cells #[.slice none 0 0, .slice none 0 0] 31) = W0 at *
  have B0 := Lib.hid hb0
  have K0 := Lib.hid k0
  clear k0 hb0
  obtain ⟨A9, C9, hv9, _, _, hcells⟩ := DChange.rd H1.out
  injection hv9 with e1 _ e3
  subst e1 e3
  obtain ⟨b, off, rfl, hbl, hat⟩ := hcells hpos
  have hlt_ : r.changes.length - 1 < r.changes.length := by omega
  have s0 := (B0.out.cell (p := ⟨b, _, none⟩) hbl).trans (hat (r.changes.length - 1) hlt_).1
  clear hcells hat
  have HM := Lib.hid hm
  have hix : r.changes.length - 1 = m := by omega
  have hD : (r.changes[r.changes.length - 1]'(by omega)).day = (r.changes[r.changes.length - 1]'(by omega)).day := rfl
  generalize (r.changes[r.changes.length - 1]'(by omega)).day = D at s0 hl
  rw [hix] at s0
  have i1 : (r.changes.length : Int) - 1 = (m : Int) := by omega
  have i2 : decide ((0 : Int) < (r.changes.length : Int)) = true := decide_eq_true (by omega)
  have i3 : decide (0 < r.changes.length) = true := decide_eq_true hpos
  have i4 : (0 : Int) ≤ (m : Int) := by omega
  have i5 : (m : Int) < (r.changes.length : Int) := by omega
  have hbw : b < W0.heap.size := by omega
  clear hix hlt_ hD
  clear hm
  have i6 := hl
  clear hl
  go_wp2_with fail
  refine (l28Get_any r.records key _ w.heap.size W0 (H0.out.below B0.out) (by omega) (by omega)).mono ?_
  rintro e _ ⟨rfl, rfl⟩
  generalize hO : valOf r.records key = O at *
  have HO := Lib.hid hO
  clear hO
  obtain rfl := emptyS_of h2
  obtain ⟨n1, n2, n3⟩ := eqS_empty_list h3
  go_wp2_with fail
  refine (l28Put_any r.records key ⟨#[]⟩ _ W0 ((H0.out.below B0.out).mono (by omega)) hn0 HRI.out).mono ?_
  generalize hPL : putL r.records key ⟨#[]⟩ = PL at *
  have HPL := Lib.hid hPL
  clear hPL
  rintro e X1 ⟨a3, c3, fp3, rfl, hb, ho, hi⟩
  have K1 := Lib.hid (bkB K0.out hb (by omega))
  have B1 := Lib.hid (B0.out.trans (hb.mono (by omega)))
  have O3 := Lib.hid ho
  have I3 := Lib.hid hi
  have z1 : W0.heap.size ≤ X1.heap.size := hb.size
  clear hb ho hi q0 q1
  have q0 := (B1.out.cell (p := ⟨bp, _, none⟩) hbp).trans P0.out
  have q1 := (B1.out.cell (p := ⟨bp, _, none⟩) hbp).trans P1.out
  have d5 : (PL.length : Int) ≤ 32 := by omega
  have d6 : ((r.changes.length : Int) == 48) = true := by simp; omega
  have d7 : (r.changes.length == 48) = true := by simp; omega
  have g0 := bkC (v := .slice none 0 0) K1.out 0 rfl
  have g1 := bkC (v := .slice none 0 0) K1.out 1 rfl
  have zO := bkF K1.out
  go_wp2
  refine bodyPost_ret (v := .tuple #[.agg #[.slice none 0 0, .slice none 0 0], .int .i64 5]) (by simp [results, Tryz.results20, go_sem, *]) rfl ?_
  exact NewR.zero HE.out rfl ((B1.out.setCell (p := ⟨w.heap.size, 0, none⟩) (Nat.le_refl _) _).setCell (p := ⟨w.heap.size, 1, none⟩) (Nat.le_refl _) _)
theorem l28Add_manya1 (r : DRegister) (key value : ByteArray) (day : Int) (A0 : Option Addr) (C0 : Nat) (A1 : Option Addr) (C1 : Nat) (bp : Nat) (w : World) (h0 : Rd w.heap.size w (DRecord.sT r.records) (.slice A0 r.records.length C0)) (h1 : Rd w.heap.size w (DChange.sT r.changes) (.slice A1 r.changes.length C1)) (p0 : w.cell? ⟨bp, 0, none⟩ = some (.slice A0 r.records.length C0)) (p1 : w.cell? ⟨bp, 1, none⟩ = some (.slice A1 r.changes.length C1)) (hbp : bp < w.heap.size) (hn0 : r.records.length ≤ 1000) (hn1 : r.changes.length ≤ 1000) (hr : Rise r.records) (hl : laterB r day = false) (h2 : eqS value emptyS = true) (h3 : eqS (valOf r.records key) emptyS = false) (h4 : eqS value (valOf r.records key) = false) (h5 : ¬ 32 < (putL r.records key value).length) (h6 : r.changes.length = 48) (hz : r.changes.length = 0) :
    Calls Tryz.prog 20 #[.pointer (some ⟨bp, 0, none⟩), .string key, .string value, .int .i64 day] w (NewR (addR r key value day) w) := by
  have HE := Lib.hid (addR_5 hl (by rw [h2, h3]; rfl) h4 h5 h6)
  exact absurd h6 (by omega)
theorem l28Add_gooda0 (r : DRegister) (key value : ByteArray) (day : Int) (A0 : Option Addr) (C0 : Nat) (A1 : Option Addr) (C1 : Nat) (bp : Nat) (w : World) (h0 : Rd w.heap.size w (DRecord.sT r.records) (.slice A0 r.records.length C0)) (h1 : Rd w.heap.size w (DChange.sT r.changes) (.slice A1 r.changes.length C1)) (p0 : w.cell? ⟨bp, 0, none⟩ = some (.slice A0 r.records.length C0)) (p1 : w.cell? ⟨bp, 1, none⟩ = some (.slice A1 r.changes.length C1)) (hbp : bp < w.heap.size) (hn0 : r.records.length ≤ 1000) (hn1 : r.changes.length ≤ 1000) (hr : Rise r.records) (hl : laterB r day = false) (h2 : eqS value emptyS = true) (h3 : eqS (valOf r.records key) emptyS = false) (h4 : eqS value (valOf r.records key) = false) (h5 : ¬ 32 < (putL r.records key value).length) (h6 : ¬ r.changes.length = 48) (hpos : 0 < r.changes.length) :
    Calls Tryz.prog 20 #[.pointer (some ⟨bp, 0, none⟩), .string key, .string value, .int .i64 day] w (NewR (addR r key value day) w) := by
  have HE := Lib.hid (addR_6 hl (by rw [h2, h3]; rfl) h4 h5 h6)
  rw [laterB_pos hpos] at hl
  obtain ⟨m, hm⟩ : ∃ m, r.changes.length = m + 1 := ⟨r.changes.length - 1, by omega⟩
  have hb0 : Below w.heap.size w (w.alloc (.cells #[.slice none 0 0, .slice none 0 0] 31)) := below_alloc _ _
  have k0 := bkN w #[.slice none 0 0, .slice none 0 0] 31
  have z0 : w.heap.size + 1 ≤ (w.alloc (.cells #[.slice none 0 0, .slice none 0 0] 31)).heap.size := by simp
  have P0 := Lib.hid p0
  have P1 := Lib.hid p1
  have q0 := (hb0.cell (p := ⟨bp, _, none⟩) hbp).trans p0
  have q1 := (hb0.cell (p := ⟨bp, _, none⟩) hbp).trans p1
  have H0 := Lib.hid h0
  have H1 := Lib.hid h1
  have HRI := Lib.hid hr
  clear h0 h1 p0 p1 hr
  go_enter Tryz.func20, Tryz.ntmps20
  go_upto_region 1 with (fail)
  generalize w.alloc (.cells #[.slice none 0 0, .slice none 0 0] 31) = W0 at *
  have B0 := Lib.hid hb0
  have K0 := Lib.hid k0
  clear k0 hb0
  obtain ⟨A9, C9, hv9, _, _, hcells⟩ := DChange.rd H1.out
  injection hv9 with e1 _ e3
  subst e1 e3
  obtain ⟨b, off, rfl, hbl, hat⟩ := hcells hpos
  have hlt_ : r.changes.length - 1 < r.changes.length := by omega
  have s0 := (B0.out.cell (p := ⟨b, _, none⟩) hbl).trans (hat (r.changes.length - 1) hlt_).1
  clear hcells hat
  have HM := Lib.hid hm
  have hix : r.changes.length - 1 = m := by omega
  have hD : (r.changes[r.changes.length - 1]'(by omega)).day = (r.changes[r.changes.length - 1]'(by omega)).day := rfl
  generalize (r.changes[r.changes.length - 1]'(by omega)).day = D at s0 hl
  rw [hix] at s0
  have i1 : (r.changes.length : Int) - 1 = (m : Int) := by omega
  have i2 : decide ((0 : Int) < (r.changes.length : Int)) = true := decide_eq_true (by omega)
  have i3 : decide (0 < r.changes.length) = true := decide_eq_true hpos
  have i4 : (0 : Int) ≤ (m : Int) := by omega
  have i5 : (m : Int) < (r.changes.length : Int) := by omega
  have hbw : b < W0.heap.size := by omega
  clear hix hlt_ hD
  clear hm
  have i6 := hl
  clear hl
  go_wp2_with fail
  refine (l28Get_any r.records key _ w.heap.size W0 (H0.out.below B0.out) (by omega) (by omega)).mono ?_
  rintro e _ ⟨rfl, rfl⟩
  generalize hO : valOf r.records key = O at *
  have HO := Lib.hid hO
  clear hO
  obtain rfl := emptyS_of h2
  obtain ⟨n1, n2, n3⟩ := eqS_empty_list h3
  go_wp2_with fail
  refine (l28Put_any r.records key ⟨#[]⟩ _ W0 ((H0.out.below B0.out).mono (by omega)) hn0 HRI.out).mono ?_
  generalize hPL : putL r.records key ⟨#[]⟩ = PL at *
  have HPL := Lib.hid hPL
  clear hPL
  rintro e X1 ⟨a3, c3, fp3, rfl, hb, ho, hi⟩
  have K1 := Lib.hid (bkB K0.out hb (by omega))
  have B1 := Lib.hid (B0.out.trans (hb.mono (by omega)))
  have O3 := Lib.hid ho
  have I3 := Lib.hid hi
  have z1 : W0.heap.size ≤ X1.heap.size := hb.size
  clear hb ho hi q0 q1
  have q0 := (B1.out.cell (p := ⟨bp, _, none⟩) hbp).trans P0.out
  have q1 := (B1.out.cell (p := ⟨bp, _, none⟩) hbp).trans P1.out
  have d5 : (PL.length : Int) ≤ 32 := by omega
  have d6 : ((r.changes.length : Int) == 48) = false := by simp; omega
  have d7 : (r.changes.length == 48) = false := by simp; omega
  have hbx : bp < X1.heap.size := by omega
  obtain ⟨iC, hC0, hC1, hC2, hC3⟩ := info_parts infoChange
  have hrd := H1.out.below B1.out
  rw [DChange.sT_vs] at hrd
  have HRD := Lib.hid (hrd.readsV (by omega))
  have HV1 := Lib.hid (DChange.vs_one r.changes)
  clear hrd
  go_upto_region 13 with (at_builtin; refine wpList_append_first rfl (.tmp 67) (.tmp 71) _ rfl 40 iC _ 4 56 Tryz.underlying29 hC0 hC1 hC2 hC3 rfl (by omega) rfl _ _ _ _ _ rfl HRD.out (by omega) HV1.out (by unfold maxLen; omega) (by omega) ?_; intro a5 c5 X2 ho2 hb2 hz2)
  have G2 : Hid (Grow X2 X1.heap.size 40 4 (.slice a5 r.changes.length c5) r.changes.length (r.changes.flatMap DChange.tr) []) := by
    show Grow _ _ _ _ _ _ _ _
    rw [flat_lits DChange.tr DChange.vs DChange.tr_vs]
    exact ⟨⟨_, ho2, RepV_lits _ _⟩, List.nodup_nil, fun b h => by simp at h, fun g _ => by simp⟩
  have HB2 := Lib.hid hb2
  clear ho2 hb2
  go_upto_region 14 with (at_builtin; refine wpList_append1 rfl (.tmp 73) (.tmp 79) _ rfl X1.heap.size 40 iC _ 4 56 Tryz.underlying29 hC0 hC1 hC2 hC3 rfl (by omega) _ _ _ [] rfl G2.out [.int .i64 day, .string key, .string O, .string ⟨#[]⟩] [intT day, strT key, strT O, strT ⟨#[]⟩] [] rfl 1 rfl (fun u hu => by simp at hu; rcases hu with rfl | rfl | rfl | rfl <;> rfl) (RepV.lits [.int .i64 day, .string key, .string O, .string ⟨#[]⟩]) List.nodup_nil (fun b h => by simp at h) 0 In.nil In.nil (by simp) (by simp) (by unfold maxLen; omega) (by omega) (by omega) ?_; intro v6 X3 hgn)
  have HGN := Lib.hid hgn
  have hb3 : Below X1.heap.size X1 X3 := HB2.out.trans hgn.below
  have hg3 := hgn.grow
  obtain ⟨a6, c6, fq, ev, oq, iq⟩ := hg3.toOwn (lo := X1.heap.size) (by omega) In.nil (by omega)
  subst ev
  have K3 := Lib.hid (bkB K1.out hb3 (by omega))
  have B3 := Lib.hid (B1.out.trans (hb3.mono (by omega)))
  have O4 := Lib.hid (O3.out.below I3.out (Nat.le_refl _) hb3)
  have z3 : X1.heap.size ≤ X3.heap.size := hb3.size
  have OQ : Hid (Own X3 (DChange.sT (r.changes ++ [⟨day, key, O, ⟨#[]⟩⟩])) (.slice a6 (r.changes.length + 1) c6) fq) := by
    unfold DChange.sT
    rw [List.flatMap_append]
    exact oq
  have IQ := Lib.hid iq
  clear hgn hb3 hg3 oq iq HGN HB2 G2 HRD HV1 hC0 hC1 hC2 hC3
  have OV : Hid (OwnV X3 (DRegister.tr ⟨PL, r.changes ++ [⟨day, key, O, ⟨#[]⟩⟩]⟩) [.slice a3 PL.length c3, .slice a6 (r.changes.length + 1) c6] (fp3 ++ (fq ++ []))) := OwnV.cons O4.out (OwnV.cons OQ.out OwnV.nil (fun x _ hx => by simp at hx)) (fun y hy h => by have := I3.out y hy; have := IQ.out y (by simpa using h); omega)
  have IVF : Hid (In w.heap.size X3.heap.size (fp3 ++ (fq ++ []))) := fun y hy => by
    simp only [List.append_nil, List.mem_append] at hy
    rcases hy with h | h
    · have := I3.out y h; omega
    · have := IQ.out y h; omega
  have INE : Hid (w.heap.size ∉ fp3 ++ (fq ++ [])) := fun e => by
    simp only [List.append_nil, List.mem_append] at e
    rcases e with h | h
    · have := I3.out _ h; omega
    · have := IQ.out _ h; omega
  have g0 := bkC (v := .slice none 0 0) K3.out 0 rfl
  have g1 := bkC (v := .slice none 0 0) K3.out 1 rfl
  have zO := bkF K3.out
  go_wp2
  refine bodyPost_ret (v := .tuple #[.agg #[.slice a3 PL.length c3, .slice a6 (r.changes.length + 1) c6], .int .i64 0]) (by simp [results, Tryz.results20, go_sem, *]) rfl ?_
  rw [HE.out]
  unfold NewR
  simp only [List.length_append, List.length_cons, List.length_nil, Nat.zero_add]
  exact ⟨a3, c3, a6, c6, _, rfl, ((B3.out).setCell (p := ⟨w.heap.size, 0, none⟩) (Nat.le_refl _) _).setCell (p := ⟨w.heap.size, 1, none⟩) (Nat.le_refl _) _, (OV.out.setFar (p := ⟨w.heap.size, 0, none⟩) INE.out _).setFar (p := ⟨w.heap.size, 1, none⟩) INE.out _, by simp only [size_setCell]; exact IVF.out⟩
theorem l28Add_gooda1 (r : DRegister) (key value : ByteArray) (day : Int) (A0 : Option Addr) (C0 : Nat) (A1 : Option Addr) (C1 : Nat) (bp : Nat) (w : World) (h0 : Rd w.heap.size w (DRecord.sT r.records) (.slice A0 r.records.length C0)) (h1 : Rd w.heap.size w (DChange.sT r.changes) (.slice A1 r.changes.length C1)) (p0 : w.cell? ⟨bp, 0, none⟩ = some (.slice A0 r.records.length C0)) (p1 : w.cell? ⟨bp, 1, none⟩ = some (.slice A1 r.changes.length C1)) (hbp : bp < w.heap.size) (hn0 : r.records.length ≤ 1000) (hn1 : r.changes.length ≤ 1000) (hr : Rise r.records) (hl : laterB r day = false) (h2 : eqS value emptyS = true) (h3 : eqS (valOf r.records key) emptyS = false) (h4 : eqS value (valOf r.records key) = false) (h5 : ¬ 32 < (putL r.records key value).length) (h6 : ¬ r.changes.length = 48) (hz : r.changes.length = 0) :
    Calls Tryz.prog 20 #[.pointer (some ⟨bp, 0, none⟩), .string key, .string value, .int .i64 day] w (NewR (addR r key value day) w) := by
  have HE := Lib.hid (addR_6 hl (by rw [h2, h3]; rfl) h4 h5 h6)
  have hz1 : r.changes.length ≤ 0 := by omega
  clear hz
  have hb0 : Below w.heap.size w (w.alloc (.cells #[.slice none 0 0, .slice none 0 0] 31)) := below_alloc _ _
  have k0 := bkN w #[.slice none 0 0, .slice none 0 0] 31
  have z0 : w.heap.size + 1 ≤ (w.alloc (.cells #[.slice none 0 0, .slice none 0 0] 31)).heap.size := by simp
  have P0 := Lib.hid p0
  have P1 := Lib.hid p1
  have q0 := (hb0.cell (p := ⟨bp, _, none⟩) hbp).trans p0
  have q1 := (hb0.cell (p := ⟨bp, _, none⟩) hbp).trans p1
  have H0 := Lib.hid h0
  have H1 := Lib.hid h1
  have HRI := Lib.hid hr
  clear h0 h1 p0 p1 hr
  go_enter Tryz.func20, Tryz.ntmps20
  go_upto_region 1 with (fail)
  generalize w.alloc (.cells #[.slice none 0 0, .slice none 0 0] 31) = W0 at *
  have B0 := Lib.hid hb0
  have K0 := Lib.hid k0
  clear k0 hb0
  have i2 : decide ((0 : Int) < (r.changes.length : Int)) = false := decide_eq_false (by omega)
  have i3 : decide (0 < r.changes.length) = false := decide_eq_false (by omega)
  go_wp2_with fail
  refine (l28Get_any r.records key _ w.heap.size W0 (H0.out.below B0.out) (by omega) (by omega)).mono ?_
  rintro e _ ⟨rfl, rfl⟩
  generalize hO : valOf r.records key = O at *
  have HO := Lib.hid hO
  clear hO
  obtain rfl := emptyS_of h2
  obtain ⟨n1, n2, n3⟩ := eqS_empty_list h3
  go_wp2_with fail
  refine (l28Put_any r.records key ⟨#[]⟩ _ W0 ((H0.out.below B0.out).mono (by omega)) hn0 HRI.out).mono ?_
  generalize hPL : putL r.records key ⟨#[]⟩ = PL at *
  have HPL := Lib.hid hPL
  clear hPL
  rintro e X1 ⟨a3, c3, fp3, rfl, hb, ho, hi⟩
  have K1 := Lib.hid (bkB K0.out hb (by omega))
  have B1 := Lib.hid (B0.out.trans (hb.mono (by omega)))
  have O3 := Lib.hid ho
  have I3 := Lib.hid hi
  have z1 : W0.heap.size ≤ X1.heap.size := hb.size
  clear hb ho hi q0 q1
  have q0 := (B1.out.cell (p := ⟨bp, _, none⟩) hbp).trans P0.out
  have q1 := (B1.out.cell (p := ⟨bp, _, none⟩) hbp).trans P1.out
  have d5 : (PL.length : Int) ≤ 32 := by omega
  have d6 : ((r.changes.length : Int) == 48) = false := by simp; omega
  have d7 : (r.changes.length == 48) = false := by simp; omega
  have hbx : bp < X1.heap.size := by omega
  obtain ⟨iC, hC0, hC1, hC2, hC3⟩ := info_parts infoChange
  have hrd := H1.out.below B1.out
  rw [DChange.sT_vs] at hrd
  have HRD := Lib.hid (hrd.readsV (by omega))
  have HV1 := Lib.hid (DChange.vs_one r.changes)
  clear hrd
  go_upto_region 13 with (at_builtin; refine wpList_append_first rfl (.tmp 67) (.tmp 71) _ rfl 40 iC _ 4 56 Tryz.underlying29 hC0 hC1 hC2 hC3 rfl (by omega) rfl _ _ _ _ _ rfl HRD.out (by omega) HV1.out (by unfold maxLen; omega) (by omega) ?_; intro a5 c5 X2 ho2 hb2 hz2)
  have G2 : Hid (Grow X2 X1.heap.size 40 4 (.slice a5 r.changes.length c5) r.changes.length (r.changes.flatMap DChange.tr) []) := by
    show Grow _ _ _ _ _ _ _ _
    rw [flat_lits DChange.tr DChange.vs DChange.tr_vs]
    exact ⟨⟨_, ho2, RepV_lits _ _⟩, List.nodup_nil, fun b h => by simp at h, fun g _ => by simp⟩
  have HB2 := Lib.hid hb2
  clear ho2 hb2
  go_upto_region 14 with (at_builtin; refine wpList_append1 rfl (.tmp 73) (.tmp 79) _ rfl X1.heap.size 40 iC _ 4 56 Tryz.underlying29 hC0 hC1 hC2 hC3 rfl (by omega) _ _ _ [] rfl G2.out [.int .i64 day, .string key, .string O, .string ⟨#[]⟩] [intT day, strT key, strT O, strT ⟨#[]⟩] [] rfl 1 rfl (fun u hu => by simp at hu; rcases hu with rfl | rfl | rfl | rfl <;> rfl) (RepV.lits [.int .i64 day, .string key, .string O, .string ⟨#[]⟩]) List.nodup_nil (fun b h => by simp at h) 0 In.nil In.nil (by simp) (by simp) (by unfold maxLen; omega) (by omega) (by omega) ?_; intro v6 X3 hgn)
  have HGN := Lib.hid hgn
  have hb3 : Below X1.heap.size X1 X3 := HB2.out.trans hgn.below
  have hg3 := hgn.grow
  obtain ⟨a6, c6, fq, ev, oq, iq⟩ := hg3.toOwn (lo := X1.heap.size) (by omega) In.nil (by omega)
  subst ev
  have K3 := Lib.hid (bkB K1.out hb3 (by omega))
  have B3 := Lib.hid (B1.out.trans (hb3.mono (by omega)))
  have O4 := Lib.hid (O3.out.below I3.out (Nat.le_refl _) hb3)
  have z3 : X1.heap.size ≤ X3.heap.size := hb3.size
  have OQ : Hid (Own X3 (DChange.sT (r.changes ++ [⟨day, key, O, ⟨#[]⟩⟩])) (.slice a6 (r.changes.length + 1) c6) fq) := by
    unfold DChange.sT
    rw [List.flatMap_append]
    exact oq
  have IQ := Lib.hid iq
  clear hgn hb3 hg3 oq iq HGN HB2 G2 HRD HV1 hC0 hC1 hC2 hC3
  have OV : Hid (OwnV X3 (DRegister.tr ⟨PL, r.changes ++ [⟨day, key, O, ⟨#[]⟩⟩]⟩) [.slice a3 PL.length c3, .slice a6 (r.changes.length + 1) c6] (fp3 ++ (fq ++ []))) := OwnV.cons O4.out (OwnV.cons OQ.out OwnV.nil (fun x _ hx => by simp at hx)) (fun y hy h => by have := I3.out y hy; have := IQ.out y (by simpa using h); omega)
  have IVF : Hid (In w.heap.size X3.heap.size (fp3 ++ (fq ++ []))) := fun y hy => by
    simp only [List.append_nil, List.mem_append] at hy
    rcases hy with h | h
    · have := I3.out y h; omega
    · have := IQ.out y h; omega
  have INE : Hid (w.heap.size ∉ fp3 ++ (fq ++ [])) := fun e => by
    simp only [List.append_nil, List.mem_append] at e
    rcases e with h | h
    · have := I3.out _ h; omega
    · have := IQ.out _ h; omega
  have g0 := bkC (v := .slice none 0 0) K3.out 0 rfl
  have g1 := bkC (v := .slice none 0 0) K3.out 1 rfl
  have zO := bkF K3.out
  go_wp2
  refine bodyPost_ret (v := .tuple #[.agg #[.slice a3 PL.length c3, .slice a6 (r.changes.length + 1) c6], .int .i64 0]) (by simp [results, Tryz.results20, go_sem, *]) rfl ?_
  rw [HE.out]
  unfold NewR
  simp only [List.length_append, List.length_cons, List.length_nil, Nat.zero_add]
  exact ⟨a3, c3, a6, c6, _, rfl, ((B3.out).setCell (p := ⟨w.heap.size, 0, none⟩) (Nat.le_refl _) _).setCell (p := ⟨w.heap.size, 1, none⟩) (Nat.le_refl _) _, (OV.out.setFar (p := ⟨w.heap.size, 0, none⟩) INE.out _).setFar (p := ⟨w.heap.size, 1, none⟩) INE.out _, by simp only [size_setCell]; exact IVF.out⟩
theorem l28Add_sameb0 (r : DRegister) (key value : ByteArray) (day : Int) (A0 : Option Addr) (C0 : Nat) (A1 : Option Addr) (C1 : Nat) (bp : Nat) (w : World) (h0 : Rd w.heap.size w (DRecord.sT r.records) (.slice A0 r.records.length C0)) (h1 : Rd w.heap.size w (DChange.sT r.changes) (.slice A1 r.changes.length C1)) (p0 : w.cell? ⟨bp, 0, none⟩ = some (.slice A0 r.records.length C0)) (p1 : w.cell? ⟨bp, 1, none⟩ = some (.slice A1 r.changes.length C1)) (hbp : bp < w.heap.size) (hn0 : r.records.length ≤ 1000) (hn1 : r.changes.length ≤ 1000) (hr : Rise r.records) (hl : laterB r day = false) (h2 : eqS value emptyS = false) (h4 : eqS value (valOf r.records key) = true) (hpos : 0 < r.changes.length) :
    Calls Tryz.prog 20 #[.pointer (some ⟨bp, 0, none⟩), .string key, .string value, .int .i64 day] w (NewR (addR r key value day) w) := by
  have HE := Lib.hid (addR_3 hl (by rw [h2]; rfl) h4)
  rw [laterB_pos hpos] at hl
  obtain ⟨m, hm⟩ : ∃ m, r.changes.length = m + 1 := ⟨r.changes.length - 1, by omega⟩
  have hb0 : Below w.heap.size w (w.alloc (.cells #[.slice none 0 0, .slice none 0 0] 31)) := below_alloc _ _
  have k0 := bkN w #[.slice none 0 0, .slice none 0 0] 31
  have z0 : w.heap.size + 1 ≤ (w.alloc (.cells #[.slice none 0 0, .slice none 0 0] 31)).heap.size := by simp
  have P0 := Lib.hid p0
  have P1 := Lib.hid p1
  have q0 := (hb0.cell (p := ⟨bp, _, none⟩) hbp).trans p0
  have q1 := (hb0.cell (p := ⟨bp, _, none⟩) hbp).trans p1
  have H0 := Lib.hid h0
  have H1 := Lib.hid h1
  have HRI := Lib.hid hr
  clear h0 h1 p0 p1 hr
  go_enter Tryz.func20, Tryz.ntmps20
  go_upto_region 1 with (fail)
  generalize w.alloc (.cells #[.slice none 0 0, .slice none 0 0] 31) = W0 at *
  have B0 := Lib.hid hb0
  have K0 := Lib.hid k0
  clear k0 hb0
  obtain ⟨A9, C9, hv9, _, _, hcells⟩ := DChange.rd H1.out
  injection hv9 with e1 _ e3
  subst e1 e3
  obtain ⟨b, off, rfl, hbl, hat⟩ := hcells hpos
  have hlt_ : r.changes.length - 1 < r.changes.length := by omega
  have s0 := (B0.out.cell (p := ⟨b, _, none⟩) hbl).trans (hat (r.changes.length - 1) hlt_).1
  clear hcells hat
  have HM := Lib.hid hm
  have hix : r.changes.length - 1 = m := by omega
  have hD : (r.changes[r.changes.length - 1]'(by omega)).day = (r.changes[r.changes.length - 1]'(by omega)).day := rfl
  generalize (r.changes[r.changes.length - 1]'(by omega)).day = D at s0 hl
  rw [hix] at s0
  have i1 : (r.changes.length : Int) - 1 = (m : Int) := by omega
  have i2 : decide ((0 : Int) < (r.changes.length : Int)) = true := decide_eq_true (by omega)
  have i3 : decide (0 < r.changes.length) = true := decide_eq_true hpos
  have i4 : (0 : Int) ≤ (m : Int) := by omega
  have i5 : (m : Int) < (r.changes.length : Int) := by omega
  have hbw : b < W0.heap.size := by omega
  clear hix hlt_ hD
  clear hm
  have i6 := hl
  clear hl
  go_wp2_with fail
  refine (l28Get_any r.records key _ w.heap.size W0 (H0.out.below B0.out) (by omega) (by omega)).mono ?_
  rintro e _ ⟨rfl, rfl⟩
  generalize hO : valOf r.records key = O at *
  have HO := Lib.hid hO
  clear hO
  obtain ⟨n1, n2, n3⟩ := eqS_empty_list h2
  have d4 : (value.toList == O.toList) = true := h4
  have g0 := bkC (v := .slice none 0 0) K0.out 0 rfl
  have g1 := bkC (v := .slice none 0 0) K0.out 1 rfl
  have zO := bkF K0.out
  go_wp2
  refine bodyPost_ret (v := .tuple #[.agg #[.slice none 0 0, .slice none 0 0], .int .i64 4]) (by simp [results, Tryz.results20, go_sem, *]) rfl ?_
  exact NewR.zero HE.out rfl ((B0.out.setCell (p := ⟨w.heap.size, 0, none⟩) (Nat.le_refl _) _).setCell (p := ⟨w.heap.size, 1, none⟩) (Nat.le_refl _) _)
theorem l28Add_sameb1 (r : DRegister) (key value : ByteArray) (day : Int) (A0 : Option Addr) (C0 : Nat) (A1 : Option Addr) (C1 : Nat) (bp : Nat) (w : World) (h0 : Rd w.heap.size w (DRecord.sT r.records) (.slice A0 r.records.length C0)) (h1 : Rd w.heap.size w (DChange.sT r.changes) (.slice A1 r.changes.length C1)) (p0 : w.cell? ⟨bp, 0, none⟩ = some (.slice A0 r.records.length C0)) (p1 : w.cell? ⟨bp, 1, none⟩ = some (.slice A1 r.changes.length C1)) (hbp : bp < w.heap.size) (hn0 : r.records.length ≤ 1000) (hn1 : r.changes.length ≤ 1000) (hr : Rise r.records) (hl : laterB r day = false) (h2 : eqS value emptyS = false) (h4 : eqS value (valOf r.records key) = true) (hz : r.changes.length = 0) :
    Calls Tryz.prog 20 #[.pointer (some ⟨bp, 0, none⟩), .string key, .string value, .int .i64 day] w (NewR (addR r key value day) w) := by
  have HE := Lib.hid (addR_3 hl (by rw [h2]; rfl) h4)
  have hz1 : r.changes.length ≤ 0 := by omega
  clear hz
  have hb0 : Below w.heap.size w (w.alloc (.cells #[.slice none 0 0, .slice none 0 0] 31)) := below_alloc _ _
  have k0 := bkN w #[.slice none 0 0, .slice none 0 0] 31
  have z0 : w.heap.size + 1 ≤ (w.alloc (.cells #[.slice none 0 0, .slice none 0 0] 31)).heap.size := by simp
  have P0 := Lib.hid p0
  have P1 := Lib.hid p1
  have q0 := (hb0.cell (p := ⟨bp, _, none⟩) hbp).trans p0
  have q1 := (hb0.cell (p := ⟨bp, _, none⟩) hbp).trans p1
  have H0 := Lib.hid h0
  have H1 := Lib.hid h1
  have HRI := Lib.hid hr
  clear h0 h1 p0 p1 hr
  go_enter Tryz.func20, Tryz.ntmps20
  go_upto_region 1 with (fail)
  generalize w.alloc (.cells #[.slice none 0 0, .slice none 0 0] 31) = W0 at *
  have B0 := Lib.hid hb0
  have K0 := Lib.hid k0
  clear k0 hb0
  have i2 : decide ((0 : Int) < (r.changes.length : Int)) = false := decide_eq_false (by omega)
  have i3 : decide (0 < r.changes.length) = false := decide_eq_false (by omega)
  go_wp2_with fail
  refine (l28Get_any r.records key _ w.heap.size W0 (H0.out.below B0.out) (by omega) (by omega)).mono ?_
  rintro e _ ⟨rfl, rfl⟩
  generalize hO : valOf r.records key = O at *
  have HO := Lib.hid hO
  clear hO
  obtain ⟨n1, n2, n3⟩ := eqS_empty_list h2
  have d4 : (value.toList == O.toList) = true := h4
  have g0 := bkC (v := .slice none 0 0) K0.out 0 rfl
  have g1 := bkC (v := .slice none 0 0) K0.out 1 rfl
  have zO := bkF K0.out
  go_wp2
  refine bodyPost_ret (v := .tuple #[.agg #[.slice none 0 0, .slice none 0 0], .int .i64 4]) (by simp [results, Tryz.results20, go_sem, *]) rfl ?_
  exact NewR.zero HE.out rfl ((B0.out.setCell (p := ⟨w.heap.size, 0, none⟩) (Nat.le_refl _) _).setCell (p := ⟨w.heap.size, 1, none⟩) (Nat.le_refl _) _)
theorem l28Add_fullb0 (r : DRegister) (key value : ByteArray) (day : Int) (A0 : Option Addr) (C0 : Nat) (A1 : Option Addr) (C1 : Nat) (bp : Nat) (w : World) (h0 : Rd w.heap.size w (DRecord.sT r.records) (.slice A0 r.records.length C0)) (h1 : Rd w.heap.size w (DChange.sT r.changes) (.slice A1 r.changes.length C1)) (p0 : w.cell? ⟨bp, 0, none⟩ = some (.slice A0 r.records.length C0)) (p1 : w.cell? ⟨bp, 1, none⟩ = some (.slice A1 r.changes.length C1)) (hbp : bp < w.heap.size) (hn0 : r.records.length ≤ 1000) (hn1 : r.changes.length ≤ 1000) (hr : Rise r.records) (hl : laterB r day = false) (h2 : eqS value emptyS = false) (h4 : eqS value (valOf r.records key) = false) (h5 : 32 < (putL r.records key value).length) (hpos : 0 < r.changes.length) :
    Calls Tryz.prog 20 #[.pointer (some ⟨bp, 0, none⟩), .string key, .string value, .int .i64 day] w (NewR (addR r key value day) w) := by
  have HE := Lib.hid (addR_4 hl (by rw [h2]; rfl) h4 h5)
  rw [laterB_pos hpos] at hl
  obtain ⟨m, hm⟩ : ∃ m, r.changes.length = m + 1 := ⟨r.changes.length - 1, by omega⟩
  have hb0 : Below w.heap.size w (w.alloc (.cells #[.slice none 0 0, .slice none 0 0] 31)) := below_alloc _ _
  have k0 := bkN w #[.slice none 0 0, .slice none 0 0] 31
  have z0 : w.heap.size + 1 ≤ (w.alloc (.cells #[.slice none 0 0, .slice none 0 0] 31)).heap.size := by simp
  have P0 := Lib.hid p0
  have P1 := Lib.hid p1
  have q0 := (hb0.cell (p := ⟨bp, _, none⟩) hbp).trans p0
  have q1 := (hb0.cell (p := ⟨bp, _, none⟩) hbp).trans p1
  have H0 := Lib.hid h0
  have H1 := Lib.hid h1
  have HRI := Lib.hid hr
  clear h0 h1 p0 p1 hr
  go_enter Tryz.func20, Tryz.ntmps20
  go_upto_region 1 with (fail)
  generalize w.alloc (.cells #[.slice none 0 0, .slice none 0 0] 31) = W0 at *
  have B0 := Lib.hid hb0
  have K0 := Lib.hid k0
  clear k0 hb0
  obtain ⟨A9, C9, hv9, _, _, hcells⟩ := DChange.rd H1.out
  injection hv9 with e1 _ e3
  subst e1 e3
  obtain ⟨b, off, rfl, hbl, hat⟩ := hcells hpos
  have hlt_ : r.changes.length - 1 < r.changes.length := by omega
  have s0 := (B0.out.cell (p := ⟨b, _, none⟩) hbl).trans (hat (r.changes.length - 1) hlt_).1
  clear hcells hat
  have HM := Lib.hid hm
  have hix : r.changes.length - 1 = m := by omega
  have hD : (r.changes[r.changes.length - 1]'(by omega)).day = (r.changes[r.changes.length - 1]'(by omega)).day := rfl
  generalize (r.changes[r.changes.length - 1]'(by omega)).day = D at s0 hl
  rw [hix] at s0
  have i1 : (r.changes.length : Int) - 1 = (m : Int) := by omega
  have i2 : decide ((0 : Int) < (r.changes.length : Int)) = true := decide_eq_true (by omega)
  have i3 : decide (0 < r.changes.length) = true := decide_eq_true hpos
  have i4 : (0 : Int) ≤ (m : Int) := by omega
  have i5 : (m : Int) < (r.changes.length : Int) := by omega
  have hbw : b < W0.heap.size := by omega
  clear hix hlt_ hD
  clear hm
  have i6 := hl
  clear hl
  go_wp2_with fail
  refine (l28Get_any r.records key _ w.heap.size W0 (H0.out.below B0.out) (by omega) (by omega)).mono ?_
  rintro e _ ⟨rfl, rfl⟩
  generalize hO : valOf r.records key = O at *
  have HO := Lib.hid hO
  clear hO
  obtain ⟨n1, n2, n3⟩ := eqS_empty_list h2
  have d4 : (value.toList == O.toList) = false := h4
  go_wp2_with fail
  refine (l28Put_any r.records key value _ W0 ((H0.out.below B0.out).mono (by omega)) hn0 HRI.out).mono ?_
  generalize hPL : putL r.records key value = PL at *
  have HPL := Lib.hid hPL
  clear hPL
  rintro e X1 ⟨a3, c3, fp3, rfl, hb, ho, hi⟩
  have K1 := Lib.hid (bkB K0.out hb (by omega))
  have B1 := Lib.hid (B0.out.trans (hb.mono (by omega)))
  have O3 := Lib.hid ho
  have I3 := Lib.hid hi
  have z1 : W0.heap.size ≤ X1.heap.size := hb.size
  clear hb ho hi q0 q1
  have q0 := (B1.out.cell (p := ⟨bp, _, none⟩) hbp).trans P0.out
  have q1 := (B1.out.cell (p := ⟨bp, _, none⟩) hbp).trans P1.out
  have d5 : (32 : Int) < (PL.length : Int) := by omega
  have g0 := bkC (v := .slice none 0 0) K1.out 0 rfl
  have g1 := bkC (v := .slice none 0 0) K1.out 1 rfl
  have zO := bkF K1.out
  go_wp2
  refine bodyPost_ret (v := .tuple #[.agg #[.slice none 0 0, .slice none 0 0], .int .i64 5]) (by simp [results, Tryz.results20, go_sem, *]) rfl ?_
  exact NewR.zero HE.out rfl ((B1.out.setCell (p := ⟨w.heap.size, 0, none⟩) (Nat.le_refl _) _).setCell (p := ⟨w.heap.size, 1, none⟩) (Nat.le_refl _) _)
theorem l28Add_fullb1 (r : DRegister) (key value : ByteArray) (day : Int) (A0 : Option Addr) (C0 : Nat) (A1 : Option Addr) (C1 : Nat) (bp : Nat) (w : World) (h0 : Rd w.heap.size w (DRecord.sT r.records) (.slice A0 r.records.length C0)) (h1 : Rd w.heap.size w (DChange.sT r.changes) (.slice A1 r.changes.length C1)) (p0 : w.cell? ⟨bp, 0, none⟩ = some (.slice A0 r.records.length C0)) (p1 : w.cell? ⟨bp, 1, none⟩ = some (.slice A1 r.changes.length C1)) (hbp : bp < w.heap.size) (hn0 : r.records.length ≤ 1000) (hn1 : r.changes.length ≤ 1000) (hr : Rise r.records) (hl : laterB r day = false) (h2 : eqS value emptyS = false) (h4 : eqS value (valOf r.records key) = false) (h5 : 32 < (putL r.records key value).length) (hz : r.changes.length = 0) :
    Calls Tryz.prog 20 #[.pointer (some ⟨bp, 0, none⟩), .string key, .string value, .int .i64 day] w (NewR (addR r key value day) w) := by
  have HE := Lib.hid (addR_4 hl (by rw [h2]; rfl) h4 h5)
  have hz1 : r.changes.length ≤ 0 := by omega
  clear hz
  have hb0 : Below w.heap.size w (w.alloc (.cells #[.slice none 0 0, .slice none 0 0] 31)) := below_alloc _ _
  have k0 := bkN w #[.slice none 0 0, .slice none 0 0] 31
  have z0 : w.heap.size + 1 ≤ (w.alloc (.cells #[.slice none 0 0, .slice none 0 0] 31)).heap.size := by simp
  have P0 := Lib.hid p0
  have P1 := Lib.hid p1
  have q0 := (hb0.cell (p := ⟨bp, _, none⟩) hbp).trans p0
  have q1 := (hb0.cell (p := ⟨bp, _, none⟩) hbp).trans p1
  have H0 := Lib.hid h0
  have H1 := Lib.hid h1
  have HRI := Lib.hid hr
  clear h0 h1 p0 p1 hr
  go_enter Tryz.func20, Tryz.ntmps20
  go_upto_region 1 with (fail)
  generalize w.alloc (.cells #[.slice none 0 0, .slice none 0 0] 31) = W0 at *
  have B0 := Lib.hid hb0
  have K0 := Lib.hid k0
  clear k0 hb0
  have i2 : decide ((0 : Int) < (r.changes.length : Int)) = false := decide_eq_false (by omega)
  have i3 : decide (0 < r.changes.length) = false := decide_eq_false (by omega)
  go_wp2_with fail
  refine (l28Get_any r.records key _ w.heap.size W0 (H0.out.below B0.out) (by omega) (by omega)).mono ?_
  rintro e _ ⟨rfl, rfl⟩
  generalize hO : valOf r.records key = O at *
  have HO := Lib.hid hO
  clear hO
  obtain ⟨n1, n2, n3⟩ := eqS_empty_list h2
  have d4 : (value.toList == O.toList) = false := h4
  go_wp2_with fail
  refine (l28Put_any r.records key value _ W0 ((H0.out.below B0.out).mono (by omega)) hn0 HRI.out).mono ?_
  generalize hPL : putL r.records key value = PL at *
  have HPL := Lib.hid hPL
  clear hPL
  rintro e X1 ⟨a3, c3, fp3, rfl, hb, ho, hi⟩
  have K1 := Lib.hid (bkB K0.out hb (by omega))
  have B1 := Lib.hid (B0.out.trans (hb.mono (by omega)))
  have O3 := Lib.hid ho
  have I3 := Lib.hid hi
  have z1 : W0.heap.size ≤ X1.heap.size := hb.size
  clear hb ho hi q0 q1
  have q0 := (B1.out.cell (p := ⟨bp, _, none⟩) hbp).trans P0.out
  have q1 := (B1.out.cell (p := ⟨bp, _, none⟩) hbp).trans P1.out
  have d5 : (32 : Int) < (PL.length : Int) := by omega
  have g0 := bkC (v := .slice none 0 0) K1.out 0 rfl
  have g1 := bkC (v := .slice none 0 0) K1.out 1 rfl
  have zO := bkF K1.out
  go_wp2
  refine bodyPost_ret (v := .tuple #[.agg #[.slice none 0 0, .slice none 0 0], .int .i64 5]) (by simp [results, Tryz.results20, go_sem, *]) rfl ?_
  exact NewR.zero HE.out rfl ((B1.out.setCell (p := ⟨w.heap.size, 0, none⟩) (Nat.le_refl _) _).setCell (p := ⟨w.heap.size, 1, none⟩) (Nat.le_refl _) _)
theorem l28Add_manyb0 (r : DRegister) (key value : ByteArray) (day : Int) (A0 : Option Addr) (C0 : Nat) (A1 : Option Addr) (C1 : Nat) (bp : Nat) (w : World) (h0 : Rd w.heap.size w (DRecord.sT r.records) (.slice A0 r.records.length C0)) (h1 : Rd w.heap.size w (DChange.sT r.changes) (.slice A1 r.changes.length C1)) (p0 : w.cell? ⟨bp, 0, none⟩ = some (.slice A0 r.records.length C0)) (p1 : w.cell? ⟨bp, 1, none⟩ = some (.slice A1 r.changes.length C1)) (hbp : bp < w.heap.size) (hn0 : r.records.length ≤ 1000) (hn1 : r.changes.length ≤ 1000) (hr : Rise r.records) (hl : laterB r day = false) (h2 : eqS value emptyS = false) (h4 : eqS value (valOf r.records key) = false) (h5 : ¬ 32 < (putL r.records key value).length) (h6 : r.changes.length = 48) (hpos : 0 < r.changes.length) :
    Calls Tryz.prog 20 #[.pointer (some ⟨bp, 0, none⟩), .string key, .string value, .int .i64 day] w (NewR (addR r key value day) w) := by
  have HE := Lib.hid (addR_5 hl (by rw [h2]; rfl) h4 h5 h6)
  have h6a : 48 ≤ r.changes.length := by omega
  have h6b : r.changes.length ≤ 48 := by omega
  clear h6
  rw [laterB_pos hpos] at hl
  obtain ⟨m, hm⟩ : ∃ m, r.changes.length = m + 1 := ⟨r.changes.length - 1, by omega⟩
  have hb0 : Below w.heap.size w (w.alloc (.cells #[.slice none 0 0, .slice none 0 0] 31)) := below_alloc _ _
  have k0 := bkN w #[.slice none 0 0, .slice none 0 0] 31
  have z0 : w.heap.size + 1 ≤ (w.alloc (.cells #[.slice none 0 0, .slice none 0 0] 31)).heap.size := by simp
  have P0 := Lib.hid p0
  have P1 := Lib.hid p1
  have q0 := (hb0.cell (p := ⟨bp, _, none⟩) hbp).trans p0
  have q1 := (hb0.cell (p := ⟨bp, _, none⟩) hbp).trans p1
  have H0 := Lib.hid h0
  have H1 := Lib.hid h1
  have HRI := Lib.hid hr
  clear h0 h1 p0 p1 hr
  go_enter Tryz.func20, Tryz.ntmps20
  go_upto_region 1 with (fail)
  generalize w.alloc (.cells #[.slice none 0 0, .slice none 0 0] 31) = W0 at *
  have B0 := Lib.hid hb0
  have K0 := Lib.hid k0
  clear k0 hb0
  obtain ⟨A9, C9, hv9, _, _, hcells⟩ := DChange.rd H1.out
  injection hv9 with e1 _ e3
  subst e1 e3
  obtain ⟨b, off, rfl, hbl, hat⟩ := hcells hpos
  have hlt_ : r.changes.length - 1 < r.changes.length := by omega
  have s0 := (B0.out.cell (p := ⟨b, _, none⟩) hbl).trans (hat (r.changes.length - 1) hlt_).1
  clear hcells hat
  have HM := Lib.hid hm
  have hix : r.changes.length - 1 = m := by omega
  have hD : (r.changes[r.changes.length - 1]'(by omega)).day = (r.changes[r.changes.length - 1]'(by omega)).day := rfl
  generalize (r.changes[r.changes.length - 1]'(by omega)).day = D at s0 hl
  rw [hix] at s0
  have i1 : (r.changes.length : Int) - 1 = (m : Int) := by omega
  have i2 : decide ((0 : Int) < (r.changes.length : Int)) = true := decide_eq_true (by omega)
  have i3 : decide (0 < r.changes.length) = true := decide_eq_true hpos
  have i4 : (0 : Int) ≤ (m : Int) := by omega
  have i5 : (m : Int) < (r.changes.length : Int) := by omega
  have hbw : b < W0.heap.size := by omega
  clear hix hlt_ hD
  clear hm
  have i6 := hl
  clear hl
  go_wp2_with fail
  refine (l28Get_any r.records key _ w.heap.size W0 (H0.out.below B0.out) (by omega) (by omega)).mono ?_
  rintro e _ ⟨rfl, rfl⟩
  generalize hO : valOf r.records key = O at *
  have HO := Lib.hid hO
  clear hO
  obtain ⟨n1, n2, n3⟩ := eqS_empty_list h2
  have d4 : (value.toList == O.toList) = false := h4
  go_wp2_with fail
  refine (l28Put_any r.records key value _ W0 ((H0.out.below B0.out).mono (by omega)) hn0 HRI.out).mono ?_
  generalize hPL : putL r.records key value = PL at *
  have HPL := Lib.hid hPL
  clear hPL
  rintro e X1 ⟨a3, c3, fp3, rfl, hb, ho, hi⟩
  have K1 := Lib.hid (bkB K0.out hb (by omega))
  have B1 := Lib.hid (B0.out.trans (hb.mono (by omega)))
  have O3 := Lib.hid ho
  have I3 := Lib.hid hi
  have z1 : W0.heap.size ≤ X1.heap.size := hb.size
  clear hb ho hi q0 q1
  have q0 := (B1.out.cell (p := ⟨bp, _, none⟩) hbp).trans P0.out
  have q1 := (B1.out.cell (p := ⟨bp, _, none⟩) hbp).trans P1.out
  have d5 : (PL.length : Int) ≤ 32 := by omega
  have d6 : ((r.changes.length : Int) == 48) = true := by simp; omega
  have d7 : (r.changes.length == 48) = true := by simp; omega
  have g0 := bkC (v := .slice none 0 0) K1.out 0 rfl
  have g1 := bkC (v := .slice none 0 0) K1.out 1 rfl
  have zO := bkF K1.out
  go_wp2
  refine bodyPost_ret (v := .tuple #[.agg #[.slice none 0 0, .slice none 0 0], .int .i64 5]) (by simp [results, Tryz.results20, go_sem, *]) rfl ?_
  exact NewR.zero HE.out rfl ((B1.out.setCell (p := ⟨w.heap.size, 0, none⟩) (Nat.le_refl _) _).setCell (p := ⟨w.heap.size, 1, none⟩) (Nat.le_refl _) _)
theorem l28Add_manyb1 (r : DRegister) (key value : ByteArray) (day : Int) (A0 : Option Addr) (C0 : Nat) (A1 : Option Addr) (C1 : Nat) (bp : Nat) (w : World) (h0 : Rd w.heap.size w (DRecord.sT r.records) (.slice A0 r.records.length C0)) (h1 : Rd w.heap.size w (DChange.sT r.changes) (.slice A1 r.changes.length C1)) (p0 : w.cell? ⟨bp, 0, none⟩ = some (.slice A0 r.records.length C0)) (p1 : w.cell? ⟨bp, 1, none⟩ = some (.slice A1 r.changes.length C1)) (hbp : bp < w.heap.size) (hn0 : r.records.length ≤ 1000) (hn1 : r.changes.length ≤ 1000) (hr : Rise r.records) (hl : laterB r day = false) (h2 : eqS value emptyS = false) (h4 : eqS value (valOf r.records key) = false) (h5 : ¬ 32 < (putL r.records key value).length) (h6 : r.changes.length = 48) (hz : r.changes.length = 0) :
    Calls Tryz.prog 20 #[.pointer (some ⟨bp, 0, none⟩), .string key, .string value, .int .i64 day] w (NewR (addR r key value day) w) := by
  have HE := Lib.hid (addR_5 hl (by rw [h2]; rfl) h4 h5 h6)
  exact absurd h6 (by omega)
theorem l28Add_goodb0 (r : DRegister) (key value : ByteArray) (day : Int) (A0 : Option Addr) (C0 : Nat) (A1 : Option Addr) (C1 : Nat) (bp : Nat) (w : World) (h0 : Rd w.heap.size w (DRecord.sT r.records) (.slice A0 r.records.length C0)) (h1 : Rd w.heap.size w (DChange.sT r.changes) (.slice A1 r.changes.length C1)) (p0 : w.cell? ⟨bp, 0, none⟩ = some (.slice A0 r.records.length C0)) (p1 : w.cell? ⟨bp, 1, none⟩ = some (.slice A1 r.changes.length C1)) (hbp : bp < w.heap.size) (hn0 : r.records.length ≤ 1000) (hn1 : r.changes.length ≤ 1000) (hr : Rise r.records) (hl : laterB r day = false) (h2 : eqS value emptyS = false) (h4 : eqS value (valOf r.records key) = false) (h5 : ¬ 32 < (putL r.records key value).length) (h6 : ¬ r.changes.length = 48) (hpos : 0 < r.changes.length) :
    Calls Tryz.prog 20 #[.pointer (some ⟨bp, 0, none⟩), .string key, .string value, .int .i64 day] w (NewR (addR r key value day) w) := by
  have HE := Lib.hid (addR_6 hl (by rw [h2]; rfl) h4 h5 h6)
  rw [laterB_pos hpos] at hl
  obtain ⟨m, hm⟩ : ∃ m, r.changes.length = m + 1 := ⟨r.changes.length - 1, by omega⟩
  have hb0 : Below w.heap.size w (w.alloc (.cells #[.slice none 0 0, .slice none 0 0] 31)) := below_alloc _ _
  have k0 := bkN w #[.slice none 0 0, .slice none 0 0] 31
  have z0 : w.heap.size + 1 ≤ (w.alloc (.cells #[.slice none 0 0, .slice none 0 0] 31)).heap.size := by simp
  have P0 := Lib.hid p0
  have P1 := Lib.hid p1
  have q0 := (hb0.cell (p := ⟨bp, _, none⟩) hbp).trans p0
  have q1 := (hb0.cell (p := ⟨bp, _, none⟩) hbp).trans p1
  have H0 := Lib.hid h0
  have H1 := Lib.hid h1
  have HRI := Lib.hid hr
  clear h0 h1 p0 p1 hr
  go_enter Tryz.func20, Tryz.ntmps20
  go_upto_region 1 with (fail)
  generalize w.alloc (.cells #[.slice none 0 0, .slice none 0 0] 31) = W0 at *
  have B0 := Lib.hid hb0
  have K0 := Lib.hid k0
  clear k0 hb0
  obtain ⟨A9, C9, hv9, _, _, hcells⟩ := DChange.rd H1.out
  injection hv9 with e1 _ e3
  subst e1 e3
  obtain ⟨b, off, rfl, hbl, hat⟩ := hcells hpos
  have hlt_ : r.changes.length - 1 < r.changes.length := by omega
  have s0 := (B0.out.cell (p := ⟨b, _, none⟩) hbl).trans (hat (r.changes.length - 1) hlt_).1
  clear hcells hat
  have HM := Lib.hid hm
  have hix : r.changes.length - 1 = m := by omega
  have hD : (r.changes[r.changes.length - 1]'(by omega)).day = (r.changes[r.changes.length - 1]'(by omega)).day := rfl
  generalize (r.changes[r.changes.length - 1]'(by omega)).day = D at s0 hl
  rw [hix] at s0
  have i1 : (r.changes.length : Int) - 1 = (m : Int) := by omega
  have i2 : decide ((0 : Int) < (r.changes.length : Int)) = true := decide_eq_true (by omega)
  have i3 : decide (0 < r.changes.length) = true := decide_eq_true hpos
  have i4 : (0 : Int) ≤ (m : Int) := by omega
  have i5 : (m : Int) < (r.changes.length : Int) := by omega
  have hbw : b < W0.heap.size := by omega
  clear hix hlt_ hD
  clear hm
  have i6 := hl
  clear hl
  go_wp2_with fail
  refine (l28Get_any r.records key _ w.heap.size W0 (H0.out.below B0.out) (by omega) (by omega)).mono ?_
  rintro e _ ⟨rfl, rfl⟩
  generalize hO : valOf r.records key = O at *
  have HO := Lib.hid hO
  clear hO
  obtain ⟨n1, n2, n3⟩ := eqS_empty_list h2
  have d4 : (value.toList == O.toList) = false := h4
  go_wp2_with fail
  refine (l28Put_any r.records key value _ W0 ((H0.out.below B0.out).mono (by omega)) hn0 HRI.out).mono ?_
  generalize hPL : putL r.records key value = PL at *
  have HPL := Lib.hid hPL
  clear hPL
  rintro e X1 ⟨a3, c3, fp3, rfl, hb, ho, hi⟩
  have K1 := Lib.hid (bkB K0.out hb (by omega))
  have B1 := Lib.hid (B0.out.trans (hb.mono (by omega)))
  have O3 := Lib.hid ho
  have I3 := Lib.hid hi
  have z1 : W0.heap.size ≤ X1.heap.size := hb.size
  clear hb ho hi q0 q1
  have q0 := (B1.out.cell (p := ⟨bp, _, none⟩) hbp).trans P0.out
  have q1 := (B1.out.cell (p := ⟨bp, _, none⟩) hbp).trans P1.out
  have d5 : (PL.length : Int) ≤ 32 := by omega
  have d6 : ((r.changes.length : Int) == 48) = false := by simp; omega
  have d7 : (r.changes.length == 48) = false := by simp; omega
  have hbx : bp < X1.heap.size := by omega
  obtain ⟨iC, hC0, hC1, hC2, hC3⟩ := info_parts infoChange
  have hrd := H1.out.below B1.out
  rw [DChange.sT_vs] at hrd
  have HRD := Lib.hid (hrd.readsV (by omega))
  have HV1 := Lib.hid (DChange.vs_one r.changes)
  clear hrd
  go_upto_region 13 with (at_builtin; refine wpList_append_first rfl (.tmp 67) (.tmp 71) _ rfl 40 iC _ 4 56 Tryz.underlying29 hC0 hC1 hC2 hC3 rfl (by omega) rfl _ _ _ _ _ rfl HRD.out (by omega) HV1.out (by unfold maxLen; omega) (by omega) ?_; intro a5 c5 X2 ho2 hb2 hz2)
  have G2 : Hid (Grow X2 X1.heap.size 40 4 (.slice a5 r.changes.length c5) r.changes.length (r.changes.flatMap DChange.tr) []) := by
    show Grow _ _ _ _ _ _ _ _
    rw [flat_lits DChange.tr DChange.vs DChange.tr_vs]
    exact ⟨⟨_, ho2, RepV_lits _ _⟩, List.nodup_nil, fun b h => by simp at h, fun g _ => by simp⟩
  have HB2 := Lib.hid hb2
  clear ho2 hb2
  go_upto_region 14 with (at_builtin; refine wpList_append1 rfl (.tmp 73) (.tmp 79) _ rfl X1.heap.size 40 iC _ 4 56 Tryz.underlying29 hC0 hC1 hC2 hC3 rfl (by omega) _ _ _ [] rfl G2.out [.int .i64 day, .string key, .string O, .string value] [intT day, strT key, strT O, strT value] [] rfl 1 rfl (fun u hu => by simp at hu; rcases hu with rfl | rfl | rfl | rfl <;> rfl) (RepV.lits [.int .i64 day, .string key, .string O, .string value]) List.nodup_nil (fun b h => by simp at h) 0 In.nil In.nil (by simp) (by simp) (by unfold maxLen; omega) (by omega) (by omega) ?_; intro v6 X3 hgn)
  have HGN := Lib.hid hgn
  have hb3 : Below X1.heap.size X1 X3 := HB2.out.trans hgn.below
  have hg3 := hgn.grow
  obtain ⟨a6, c6, fq, ev, oq, iq⟩ := hg3.toOwn (lo := X1.heap.size) (by omega) In.nil (by omega)
  subst ev
  have K3 := Lib.hid (bkB K1.out hb3 (by omega))
  have B3 := Lib.hid (B1.out.trans (hb3.mono (by omega)))
  have O4 := Lib.hid (O3.out.below I3.out (Nat.le_refl _) hb3)
  have z3 : X1.heap.size ≤ X3.heap.size := hb3.size
  have OQ : Hid (Own X3 (DChange.sT (r.changes ++ [⟨day, key, O, value⟩])) (.slice a6 (r.changes.length + 1) c6) fq) := by
    unfold DChange.sT
    rw [List.flatMap_append]
    exact oq
  have IQ := Lib.hid iq
  clear hgn hb3 hg3 oq iq HGN HB2 G2 HRD HV1 hC0 hC1 hC2 hC3
  have OV : Hid (OwnV X3 (DRegister.tr ⟨PL, r.changes ++ [⟨day, key, O, value⟩]⟩) [.slice a3 PL.length c3, .slice a6 (r.changes.length + 1) c6] (fp3 ++ (fq ++ []))) := OwnV.cons O4.out (OwnV.cons OQ.out OwnV.nil (fun x _ hx => by simp at hx)) (fun y hy h => by have := I3.out y hy; have := IQ.out y (by simpa using h); omega)
  have IVF : Hid (In w.heap.size X3.heap.size (fp3 ++ (fq ++ []))) := fun y hy => by
    simp only [List.append_nil, List.mem_append] at hy
    rcases hy with h | h
    · have := I3.out y h; omega
    · have := IQ.out y h; omega
  have INE : Hid (w.heap.size ∉ fp3 ++ (fq ++ [])) := fun e => by
    simp only [List.append_nil, List.mem_append] at e
    rcases e with h | h
    · have := I3.out _ h; omega
    · have := IQ.out _ h; omega
  have g0 := bkC (v := .slice none 0 0) K3.out 0 rfl
  have g1 := bkC (v := .slice none 0 0) K3.out 1 rfl
  have zO := bkF K3.out
  go_wp2
  refine bodyPost_ret (v := .tuple #[.agg #[.slice a3 PL.length c3, .slice a6 (r.changes.length + 1) c6], .int .i64 0]) (by simp [results, Tryz.results20, go_sem, *]) rfl ?_
  rw [HE.out]
  unfold NewR
  simp only [List.length_append, List.length_cons, List.length_nil, Nat.zero_add]
  exact ⟨a3, c3, a6, c6, _, rfl, ((B3.out).setCell (p := ⟨w.heap.size, 0, none⟩) (Nat.le_refl _) _).setCell (p := ⟨w.heap.size, 1, none⟩) (Nat.le_refl _) _, (OV.out.setFar (p := ⟨w.heap.size, 0, none⟩) INE.out _).setFar (p := ⟨w.heap.size, 1, none⟩) INE.out _, by simp only [size_setCell]; exact IVF.out⟩
theorem l28Add_goodb1 (r : DRegister) (key value : ByteArray) (day : Int) (A0 : Option Addr) (C0 : Nat) (A1 : Option Addr) (C1 : Nat) (bp : Nat) (w : World) (h0 : Rd w.heap.size w (DRecord.sT r.records) (.slice A0 r.records.length C0)) (h1 : Rd w.heap.size w (DChange.sT r.changes) (.slice A1 r.changes.length C1)) (p0 : w.cell? ⟨bp, 0, none⟩ = some (.slice A0 r.records.length C0)) (p1 : w.cell? ⟨bp, 1, none⟩ = some (.slice A1 r.changes.length C1)) (hbp : bp < w.heap.size) (hn0 : r.records.length ≤ 1000) (hn1 : r.changes.length ≤ 1000) (hr : Rise r.records) (hl : laterB r day = false) (h2 : eqS value emptyS = false) (h4 : eqS value (valOf r.records key) = false) (h5 : ¬ 32 < (putL r.records key value).length) (h6 : ¬ r.changes.length = 48) (hz : r.changes.length = 0) :
    Calls Tryz.prog 20 #[.pointer (some ⟨bp, 0, none⟩), .string key, .string value, .int .i64 day] w (NewR (addR r key value day) w) := by
  have HE := Lib.hid (addR_6 hl (by rw [h2]; rfl) h4 h5 h6)
  have hz1 : r.changes.length ≤ 0 := by omega
  clear hz
  have hb0 : Below w.heap.size w (w.alloc (.cells #[.slice none 0 0, .slice none 0 0] 31)) := below_alloc _ _
  have k0 := bkN w #[.slice none 0 0, .slice none 0 0] 31
  have z0 : w.heap.size + 1 ≤ (w.alloc (.cells #[.slice none 0 0, .slice none 0 0] 31)).heap.size := by simp
  have P0 := Lib.hid p0
  have P1 := Lib.hid p1
  have q0 := (hb0.cell (p := ⟨bp, _, none⟩) hbp).trans p0
  have q1 := (hb0.cell (p := ⟨bp, _, none⟩) hbp).trans p1
  have H0 := Lib.hid h0
  have H1 := Lib.hid h1
  have HRI := Lib.hid hr
  clear h0 h1 p0 p1 hr
  go_enter Tryz.func20, Tryz.ntmps20
  go_upto_region 1 with (fail)
  generalize w.alloc (.cells #[.slice none 0 0, .slice none 0 0] 31) = W0 at *
  have B0 := Lib.hid hb0
  have K0 := Lib.hid k0
  clear k0 hb0
  have i2 : decide ((0 : Int) < (r.changes.length : Int)) = false := decide_eq_false (by omega)
  have i3 : decide (0 < r.changes.length) = false := decide_eq_false (by omega)
  go_wp2_with fail
  refine (l28Get_any r.records key _ w.heap.size W0 (H0.out.below B0.out) (by omega) (by omega)).mono ?_
  rintro e _ ⟨rfl, rfl⟩
  generalize hO : valOf r.records key = O at *
  have HO := Lib.hid hO
  clear hO
  obtain ⟨n1, n2, n3⟩ := eqS_empty_list h2
  have d4 : (value.toList == O.toList) = false := h4
  go_wp2_with fail
  refine (l28Put_any r.records key value _ W0 ((H0.out.below B0.out).mono (by omega)) hn0 HRI.out).mono ?_
  generalize hPL : putL r.records key value = PL at *
  have HPL := Lib.hid hPL
  clear hPL
  rintro e X1 ⟨a3, c3, fp3, rfl, hb, ho, hi⟩
  have K1 := Lib.hid (bkB K0.out hb (by omega))
  have B1 := Lib.hid (B0.out.trans (hb.mono (by omega)))
  have O3 := Lib.hid ho
  have I3 := Lib.hid hi
  have z1 : W0.heap.size ≤ X1.heap.size := hb.size
  clear hb ho hi q0 q1
  have q0 := (B1.out.cell (p := ⟨bp, _, none⟩) hbp).trans P0.out
  have q1 := (B1.out.cell (p := ⟨bp, _, none⟩) hbp).trans P1.out
  have d5 : (PL.length : Int) ≤ 32 := by omega
  have d6 : ((r.changes.length : Int) == 48) = false := by simp; omega
  have d7 : (r.changes.length == 48) = false := by simp; omega
  have hbx : bp < X1.heap.size := by omega
  obtain ⟨iC, hC0, hC1, hC2, hC3⟩ := info_parts infoChange
  have hrd := H1.out.below B1.out
  rw [DChange.sT_vs] at hrd
  have HRD := Lib.hid (hrd.readsV (by omega))
  have HV1 := Lib.hid (DChange.vs_one r.changes)
  clear hrd
  go_upto_region 13 with (at_builtin; refine wpList_append_first rfl (.tmp 67) (.tmp 71) _ rfl 40 iC _ 4 56 Tryz.underlying29 hC0 hC1 hC2 hC3 rfl (by omega) rfl _ _ _ _ _ rfl HRD.out (by omega) HV1.out (by unfold maxLen; omega) (by omega) ?_; intro a5 c5 X2 ho2 hb2 hz2)
  have G2 : Hid (Grow X2 X1.heap.size 40 4 (.slice a5 r.changes.length c5) r.changes.length (r.changes.flatMap DChange.tr) []) := by
    show Grow _ _ _ _ _ _ _ _
    rw [flat_lits DChange.tr DChange.vs DChange.tr_vs]
    exact ⟨⟨_, ho2, RepV_lits _ _⟩, List.nodup_nil, fun b h => by simp at h, fun g _ => by simp⟩
  have HB2 := Lib.hid hb2
  clear ho2 hb2
  go_upto_region 14 with (at_builtin; refine wpList_append1 rfl (.tmp 73) (.tmp 79) _ rfl X1.heap.size 40 iC _ 4 56 Tryz.underlying29 hC0 hC1 hC2 hC3 rfl (by omega) _ _ _ [] rfl G2.out [.int .i64 day, .string key, .string O, .string value] [intT day, strT key, strT O, strT value] [] rfl 1 rfl (fun u hu => by simp at hu; rcases hu with rfl | rfl | rfl | rfl <;> rfl) (RepV.lits [.int .i64 day, .string key, .string O, .string value]) List.nodup_nil (fun b h => by simp at h) 0 In.nil In.nil (by simp) (by simp) (by unfold maxLen; omega) (by omega) (by omega) ?_; intro v6 X3 hgn)
  have HGN := Lib.hid hgn
  have hb3 : Below X1.heap.size X1 X3 := HB2.out.trans hgn.below
  have hg3 := hgn.grow
  obtain ⟨a6, c6, fq, ev, oq, iq⟩ := hg3.toOwn (lo := X1.heap.size) (by omega) In.nil (by omega)
  subst ev
  have K3 := Lib.hid (bkB K1.out hb3 (by omega))
  have B3 := Lib.hid (B1.out.trans (hb3.mono (by omega)))
  have O4 := Lib.hid (O3.out.below I3.out (Nat.le_refl _) hb3)
  have z3 : X1.heap.size ≤ X3.heap.size := hb3.size
  have OQ : Hid (Own X3 (DChange.sT (r.changes ++ [⟨day, key, O, value⟩])) (.slice a6 (r.changes.length + 1) c6) fq) := by
    unfold DChange.sT
    rw [List.flatMap_append]
    exact oq
  have IQ := Lib.hid iq
  clear hgn hb3 hg3 oq iq HGN HB2 G2 HRD HV1 hC0 hC1 hC2 hC3
  have OV : Hid (OwnV X3 (DRegister.tr ⟨PL, r.changes ++ [⟨day, key, O, value⟩]⟩) [.slice a3 PL.length c3, .slice a6 (r.changes.length + 1) c6] (fp3 ++ (fq ++ []))) := OwnV.cons O4.out (OwnV.cons OQ.out OwnV.nil (fun x _ hx => by simp at hx)) (fun y hy h => by have := I3.out y hy; have := IQ.out y (by simpa using h); omega)
  have IVF : Hid (In w.heap.size X3.heap.size (fp3 ++ (fq ++ []))) := fun y hy => by
    simp only [List.append_nil, List.mem_append] at hy
    rcases hy with h | h
    · have := I3.out y h; omega
    · have := IQ.out y h; omega
  have INE : Hid (w.heap.size ∉ fp3 ++ (fq ++ [])) := fun e => by
    simp only [List.append_nil, List.mem_append] at e
    rcases e with h | h
    · have := I3.out _ h; omega
    · have := IQ.out _ h; omega
  have g0 := bkC (v := .slice none 0 0) K3.out 0 rfl
  have g1 := bkC (v := .slice none 0 0) K3.out 1 rfl
  have zO := bkF K3.out
  go_wp2
  refine bodyPost_ret (v := .tuple #[.agg #[.slice a3 PL.length c3, .slice a6 (r.changes.length + 1) c6], .int .i64 0]) (by simp [results, Tryz.results20, go_sem, *]) rfl ?_
  rw [HE.out]
  unfold NewR
  simp only [List.length_append, List.length_cons, List.length_nil, Nat.zero_add]
  exact ⟨a3, c3, a6, c6, _, rfl, ((B3.out).setCell (p := ⟨w.heap.size, 0, none⟩) (Nat.le_refl _) _).setCell (p := ⟨w.heap.size, 1, none⟩) (Nat.le_refl _) _, (OV.out.setFar (p := ⟨w.heap.size, 0, none⟩) INE.out _).setFar (p := ⟨w.heap.size, 1, none⟩) INE.out _, by simp only [size_setCell]; exact IVF.out⟩
theorem l28Add_any (r : DRegister) (key value : ByteArray) (day : Int) (A0 : Option Addr) (C0 : Nat) (A1 : Option Addr) (C1 : Nat) (bp : Nat) (w : World) (h0 : Rd w.heap.size w (DRecord.sT r.records) (.slice A0 r.records.length C0)) (h1 : Rd w.heap.size w (DChange.sT r.changes) (.slice A1 r.changes.length C1)) (p0 : w.cell? ⟨bp, 0, none⟩ = some (.slice A0 r.records.length C0)) (p1 : w.cell? ⟨bp, 1, none⟩ = some (.slice A1 r.changes.length C1)) (hbp : bp < w.heap.size) (hn0 : r.records.length ≤ 1000) (hn1 : r.changes.length ≤ 1000) (hr : Rise r.records) :
    Calls Tryz.prog 20 #[.pointer (some ⟨bp, 0, none⟩), .string key, .string value, .int .i64 day] w (NewR (addR r key value day) w) := by
  cases hl : laterB r day
  case true => exact l28Add_later r key value day A0 C0 A1 C1 bp w h0 h1 p0 p1 hbp hn0 hn1 hr hl
  case false =>
    have two : ∀ {P : Prop}, (r.changes.length = 0 → P) → (0 < r.changes.length → P) → P := fun h1 h2 => by
      rcases Nat.eq_zero_or_pos r.changes.length with h | h
      · exact h1 h
      · exact h2 h
    cases h2 : eqS value emptyS
    case true =>
      cases h3 : eqS (valOf r.records key) emptyS
      case true => exact two (l28Add_none1 r key value day A0 C0 A1 C1 bp w h0 h1 p0 p1 hbp hn0 hn1 hr hl h2 h3) (l28Add_none0 r key value day A0 C0 A1 C1 bp w h0 h1 p0 p1 hbp hn0 hn1 hr hl h2 h3)
      case false =>
        cases h4 : eqS value (valOf r.records key)
        case true => exact two (l28Add_samea1 r key value day A0 C0 A1 C1 bp w h0 h1 p0 p1 hbp hn0 hn1 hr hl h2 h3 h4) (l28Add_samea0 r key value day A0 C0 A1 C1 bp w h0 h1 p0 p1 hbp hn0 hn1 hr hl h2 h3 h4)
        case false =>
          by_cases h5 : 32 < (putL r.records key value).length
          · exact two (l28Add_fulla1 r key value day A0 C0 A1 C1 bp w h0 h1 p0 p1 hbp hn0 hn1 hr hl h2 h3 h4 h5) (l28Add_fulla0 r key value day A0 C0 A1 C1 bp w h0 h1 p0 p1 hbp hn0 hn1 hr hl h2 h3 h4 h5)
          · by_cases h6 : r.changes.length = 48
            · exact two (l28Add_manya1 r key value day A0 C0 A1 C1 bp w h0 h1 p0 p1 hbp hn0 hn1 hr hl h2 h3 h4 h5 h6) (l28Add_manya0 r key value day A0 C0 A1 C1 bp w h0 h1 p0 p1 hbp hn0 hn1 hr hl h2 h3 h4 h5 h6)
            · exact two (l28Add_gooda1 r key value day A0 C0 A1 C1 bp w h0 h1 p0 p1 hbp hn0 hn1 hr hl h2 h3 h4 h5 h6) (l28Add_gooda0 r key value day A0 C0 A1 C1 bp w h0 h1 p0 p1 hbp hn0 hn1 hr hl h2 h3 h4 h5 h6)
    case false =>
      cases h4 : eqS value (valOf r.records key)
      case true => exact two (l28Add_sameb1 r key value day A0 C0 A1 C1 bp w h0 h1 p0 p1 hbp hn0 hn1 hr hl h2 h4) (l28Add_sameb0 r key value day A0 C0 A1 C1 bp w h0 h1 p0 p1 hbp hn0 hn1 hr hl h2 h4)
      case false =>
        by_cases h5 : 32 < (putL r.records key value).length
        · exact two (l28Add_fullb1 r key value day A0 C0 A1 C1 bp w h0 h1 p0 p1 hbp hn0 hn1 hr hl h2 h4 h5) (l28Add_fullb0 r key value day A0 C0 A1 C1 bp w h0 h1 p0 p1 hbp hn0 hn1 hr hl h2 h4 h5)
        · by_cases h6 : r.changes.length = 48
          · exact two (l28Add_manyb1 r key value day A0 C0 A1 C1 bp w h0 h1 p0 p1 hbp hn0 hn1 hr hl h2 h4 h5 h6) (l28Add_manyb0 r key value day A0 C0 A1 C1 bp w h0 h1 p0 p1 hbp hn0 hn1 hr hl h2 h4 h5 h6)
          · exact two (l28Add_goodb1 r key value day A0 C0 A1 C1 bp w h0 h1 p0 p1 hbp hn0 hn1 hr hl h2 h4 h5 h6) (l28Add_goodb0 r key value day A0 C0 A1 C1 bp w h0 h1 p0 p1 hbp hn0 hn1 hr hl h2 h4 h5 h6)
end
end Go.Proofs.YtjkpadfolkniaaaGreatDoor
