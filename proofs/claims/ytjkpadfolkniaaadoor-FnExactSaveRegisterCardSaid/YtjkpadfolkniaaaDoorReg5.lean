/- Contracts: rows of records are equal, for the program and for the reference. Conditions: bounded lengths. -/
import Derived.Test.YtjkpadfolkniaaaDoorReg0
import Derived.Test.YtjkpadfolkniaaaDoorHRecord
import Derived.Test.YtjkpadfolkniaaaDoorOver
import Derived.Deep.DeepCutAuto
import Derived.Laws.StructEq
namespace Go.Proofs.YtjkpadfolkniaaaDoor
open Go.RowKit
set_option linter.unusedVariables false
set_option linter.unusedSimpArgs false

theorem sameRs_len {l m : List DRecord} (h : l.length ≠ m.length) : sameRs l m = false := by unfold sameRs; rw [decide_eq_false h]; rfl
theorem sameRs_at {l m : List DRecord} {k : Nat} (hl : k < l.length) (hm : k < m.length) (h : sameRec l[k] m[k] = false) : sameRs l m = false := by
  unfold sameRs
  rw [Bool.and_eq_false_iff]
  right
  rw [List.all_eq_false]
  exact ⟨k, by simpa using hl, by rw [List.getElem?_eq_getElem hl, List.getElem?_eq_getElem hm]; simp [h]⟩
theorem sameRs_all {l m : List DRecord} (e : l.length = m.length) (h : ∀ j (hl : j < l.length), sameRec l[j] (m[j]'(by omega)) = true) : sameRs l m = true := by
  unfold sameRs
  rw [decide_eq_true e, Bool.true_and, List.all_eq_true]
  intro j hj
  have hj' : j < l.length := by simpa using hj
  rw [List.getElem?_eq_getElem hj', List.getElem?_eq_getElem (show j < m.length by omega)]
  exact h j hj'
set_option maxHeartbeats 2000000 in
set_option maxRecDepth 100000 in
theorem equalRecord_any (l m : List DRecord) (v u : Value) (B : Nat) (w : World) (h : Rd B w (DRecord.sT l) v) (h' : Rd B w (DRecord.sT m) u) (hB : B ≤ w.heap.size) (hn : l.length ≤ 1099511627776) (hm : m.length ≤ 1099511627776) :
    Calls Tryd.prog 31 #[v, u] w fun e w' => e = .returned (.bool (sameRs l m)) ∧ Below w.heap.size w w' := by
  obtain ⟨a, c, rfl, hnc, hcm, hcells⟩ := DRecord.rd h
  obtain ⟨a', c', rfl, hnc', hcm', hcells'⟩ := DRecord.rd h'
  clear h h'
  by_cases hl : l.length = m.length
  case neg =>
    have HE := Lib.hid (sameRs_len hl)
    have hne : ((l.length : Int) != (m.length : Int)) = true := by simp; omega
    clear hcells hcells'
    go_enter Tryd.func31, Tryd.ntmps31
    go_wp2
    go_ret
    exact ⟨by rw [HE.out]; rfl, Below.refl _ _⟩
  have hnb : (l.length : Int) ≤ 1099511627776 := by omega
  have hne : ((l.length : Int) != (m.length : Int)) = false := by simp; omega
  have HL := Lib.hid hl
  clear hl
  go_enter Tryd.func31, Tryd.ntmps31
  go_wp2
  go_loopw [13] (fun i wr => ∃ (k : Nat), k ≤ l.length ∧ i = .int .i64 k ∧ (∀ j (hl : j < l.length), j < k → sameRec l[j] (m[j]'(by have := HL.out; omega)) = true) ∧ Below w.heap.size w wr) (fun i wr => l.length - (intOf i).toNat)
  case atStart => exact ⟨0, Nat.zero_le _, rfl, fun j hl h => absurd h (by omega), Below.refl _ _⟩
  case round =>
    obtain ⟨k, hk, rfl, hall, hb⟩ := hrel
    have HA := Lib.hid hall
    have HB := Lib.hid hb
    clear hall hb
    by_cases hlt : k < l.length
    · have hlm : k < m.length := by rw [← HL.out]; exact hlt
      obtain ⟨b, off, rfl, hbl, hat⟩ := hcells (by omega)
      obtain ⟨b', off', rfl, hbl', hat'⟩ := hcells' (by omega)
      obtain ⟨s0, s1⟩ := hat k hlt
      obtain ⟨t0, t1⟩ := hat' k hlm
      rw [← HB.out.cell (p := ⟨b, _, none⟩) (show b < w.heap.size by omega)] at s0 s1
      rw [← HB.out.cell (p := ⟨b', _, none⟩) (show b' < w.heap.size by omega)] at t0 t1
      have j0 : (0 : Int) ≤ (k : Int) := by omega
      have j1 : (k : Int) < (l.length : Int) := by omega
      have j2 : (k : Int) < (m.length : Int) := by omega
      have yr : w.heap.size ≤ wr.heap.size := HB.out.size
      clear hcells hat hcells' hat'
      have HF : Hid (sameRec l[k] m[k] = false → sameRs l m = false) := fun h => sameRs_at hlt hlm h
      have HT : Hid (sameRec l[k] m[k] = true → ∀ j (hl : j < l.length), j < k + 1 → sameRec l[j] (m[j]'(by have := HL.out; omega)) = true) := fun h j hl hj => by
        by_cases e : j = k
        · subst e; exact h
        · exact HA.out j hl (by omega)
      have oB := overC (w0 := wr) (show b < wr.heap.size by omega)
      have oB2 := overC (w0 := wr) (show b' < wr.heap.size by omega)
      generalize l[k] = X at *
      generalize m[k] = Y at *
      go_upto_region 6 with (fail)
      by_cases e0 : X.key.toList = Y.key.toList
      case neg =>
        have e0b : (X.key.toList == Y.key.toList) = false := beq_eq_false_iff_ne.2 e0
        have HE := Lib.hid (HF.out (by unfold sameRec; simp only [eqS, e0b, Bool.false_and, Bool.and_false]))
        clear e0b
        refine wp_region_over wr.heap.size wr (Below.refl _ _) (by kernel_rfl) (by kernel_rfl) ?_
        repeat (go_big_quiet_step (fail))
        refine wpQuiet_nil ?_
        rintro _ ⟨Z, rfl⟩
        have BE := Lib.hid (HB.out.trans ((over_below wr.heap.size wr Z).mono (by omega)))
        clear oB oB2
        generalize over wr.heap.size wr Z = w2 at *
        go_wp2
        go_ret
        exact ⟨by rw [HE.out]; rfl, BE.out⟩
      by_cases e1 : X.value.toList = Y.value.toList
      case neg =>
        have e1b : (X.value.toList == Y.value.toList) = false := beq_eq_false_iff_ne.2 e1
        have HE := Lib.hid (HF.out (by unfold sameRec; simp only [eqS, e1b, Bool.false_and, Bool.and_false]))
        clear e1b
        refine wp_region_over wr.heap.size wr (Below.refl _ _) (by kernel_rfl) (by kernel_rfl) ?_
        repeat (go_big_quiet_step (fail))
        refine wpQuiet_nil ?_
        rintro _ ⟨Z, rfl⟩
        have BE := Lib.hid (HB.out.trans ((over_below wr.heap.size wr Z).mono (by omega)))
        clear oB oB2
        generalize over wr.heap.size wr Z = w2 at *
        go_wp2
        go_ret
        exact ⟨by rw [HE.out]; rfl, BE.out⟩
      have HE := Lib.hid (HT.out (by unfold sameRec; simp [eqS, e0, e1]))
      refine wp_region_over wr.heap.size wr (Below.refl _ _) (by kernel_rfl) (by kernel_rfl) ?_
      repeat (go_big_quiet_step (fail))
      refine wpQuiet_nil ?_
      rintro _ ⟨Z, rfl⟩
      have BE := Lib.hid (HB.out.trans ((over_below wr.heap.size wr Z).mono (by omega)))
      clear oB oB2
      generalize over wr.heap.size wr Z = w2 at *
      clear e0 e1
      go_wp2
      go_roundw
      case rel => exact ⟨k + 1, by omega, by go_num, HE.out, BE.out⟩
      case measure => simp [intOf]; omega
    · obtain rfl : k = l.length := by omega
      have HE := Lib.hid (sameRs_all HL.out (fun j hl => HA.out j hl hl))
      clear hcells hcells'
      go_wp2
      go_ret
      exact ⟨by rw [HE.out]; rfl, HB.out⟩
set_option maxHeartbeats 2000000 in
set_option maxRecDepth 100000 in
theorem l28Same_any (l m : List DRecord) (v u : Value) (B : Nat) (w : World) (h : Rd B w (DRecord.sT l) v) (h' : Rd B w (DRecord.sT m) u) (hB : B ≤ w.heap.size) (hn : l.length ≤ 1099511627776) (hm : m.length ≤ 1099511627776) :
    Calls Tryd.prog 25 #[v, u] w fun e w' => e = .returned (.bool (sameRs l m)) ∧ Below w.heap.size w w' := by
  obtain ⟨a, c, rfl, hnc, hcm, hcells⟩ := DRecord.rd h
  obtain ⟨a', c', rfl, hnc', hcm', hcells'⟩ := DRecord.rd h'
  clear h h'
  by_cases hl : l.length = m.length
  case neg =>
    have HE := Lib.hid (sameRs_len hl)
    have hne : ((l.length : Int) != (m.length : Int)) = true := by simp; omega
    clear hcells hcells'
    go_enter Tryd.func25, Tryd.ntmps25
    go_wp2
    go_ret
    exact ⟨by rw [HE.out]; rfl, Below.refl _ _⟩
  have hnb : (l.length : Int) ≤ 1099511627776 := by omega
  have hne : ((l.length : Int) != (m.length : Int)) = false := by simp; omega
  have HL := Lib.hid hl
  clear hl
  go_enter Tryd.func25, Tryd.ntmps25
  go_wp2
  go_loopw [5] (fun i wr => ∃ (k : Nat), k ≤ l.length ∧ i = .int .i64 k ∧ (∀ j (hl : j < l.length), j < k → sameRec l[j] (m[j]'(by have := HL.out; omega)) = true) ∧ Below w.heap.size w wr) (fun i wr => l.length - (intOf i).toNat)
  case atStart => exact ⟨0, Nat.zero_le _, rfl, fun j hl h => absurd h (by omega), Below.refl _ _⟩
  case round =>
    obtain ⟨k, hk, rfl, hall, hb⟩ := hrel
    have HA := Lib.hid hall
    have HB := Lib.hid hb
    clear hall hb
    by_cases hlt : k < l.length
    · have hlm : k < m.length := by rw [← HL.out]; exact hlt
      obtain ⟨b, off, rfl, hbl, hat⟩ := hcells (by omega)
      obtain ⟨b', off', rfl, hbl', hat'⟩ := hcells' (by omega)
      obtain ⟨s0, s1⟩ := hat k hlt
      obtain ⟨t0, t1⟩ := hat' k hlm
      rw [← HB.out.cell (p := ⟨b, _, none⟩) (show b < w.heap.size by omega)] at s0 s1
      rw [← HB.out.cell (p := ⟨b', _, none⟩) (show b' < w.heap.size by omega)] at t0 t1
      have j0 : (0 : Int) ≤ (k : Int) := by omega
      have j1 : (k : Int) < (l.length : Int) := by omega
      have j2 : (k : Int) < (m.length : Int) := by omega
      have yr : w.heap.size ≤ wr.heap.size := HB.out.size
      clear hcells hat hcells' hat'
      have HF : Hid (sameRec l[k] m[k] = false → sameRs l m = false) := fun h => sameRs_at hlt hlm h
      have HT : Hid (sameRec l[k] m[k] = true → ∀ j (hl : j < l.length), j < k + 1 → sameRec l[j] (m[j]'(by have := HL.out; omega)) = true) := fun h j hl hj => by
        by_cases e : j = k
        · subst e; exact h
        · exact HA.out j hl (by omega)
      have oB := overC (w0 := wr) (show b < wr.heap.size by omega)
      have oB2 := overC (w0 := wr) (show b' < wr.heap.size by omega)
      generalize l[k] = X at *
      generalize m[k] = Y at *
      go_upto_region 6 with (fail)
      by_cases e0 : X.key.toList = Y.key.toList
      case neg =>
        have e0b : (X.key.toList == Y.key.toList) = false := beq_eq_false_iff_ne.2 e0
        have HE := Lib.hid (HF.out (by unfold sameRec; simp only [eqS, e0b, Bool.false_and, Bool.and_false]))
        clear e0b
        refine wp_region_over wr.heap.size wr (Below.refl _ _) (by kernel_rfl) (by kernel_rfl) ?_
        repeat (go_big_quiet_step (fail))
        refine wpQuiet_nil ?_
        rintro _ ⟨Z, rfl⟩
        have BE := Lib.hid (HB.out.trans ((over_below wr.heap.size wr Z).mono (by omega)))
        clear oB oB2
        generalize over wr.heap.size wr Z = w2 at *
        go_wp2
        go_ret
        exact ⟨by rw [HE.out]; rfl, BE.out⟩
      by_cases e1 : X.value.toList = Y.value.toList
      case neg =>
        have e1b : (X.value.toList == Y.value.toList) = false := beq_eq_false_iff_ne.2 e1
        have HE := Lib.hid (HF.out (by unfold sameRec; simp only [eqS, e1b, Bool.false_and, Bool.and_false]))
        clear e1b
        refine wp_region_over wr.heap.size wr (Below.refl _ _) (by kernel_rfl) (by kernel_rfl) ?_
        repeat (go_big_quiet_step (fail))
        refine wpQuiet_nil ?_
        rintro _ ⟨Z, rfl⟩
        have BE := Lib.hid (HB.out.trans ((over_below wr.heap.size wr Z).mono (by omega)))
        clear oB oB2
        generalize over wr.heap.size wr Z = w2 at *
        go_wp2
        go_ret
        exact ⟨by rw [HE.out]; rfl, BE.out⟩
      have HE := Lib.hid (HT.out (by unfold sameRec; simp [eqS, e0, e1]))
      refine wp_region_over wr.heap.size wr (Below.refl _ _) (by kernel_rfl) (by kernel_rfl) ?_
      repeat (go_big_quiet_step (fail))
      refine wpQuiet_nil ?_
      rintro _ ⟨Z, rfl⟩
      have BE := Lib.hid (HB.out.trans ((over_below wr.heap.size wr Z).mono (by omega)))
      clear oB oB2
      generalize over wr.heap.size wr Z = w2 at *
      clear e0 e1
      go_wp2
      go_roundw
      case rel => exact ⟨k + 1, by omega, by go_num, HE.out, BE.out⟩
      case measure => simp [intOf]; omega
    · obtain rfl : k = l.length := by omega
      have HE := Lib.hid (sameRs_all HL.out (fun j hl => HA.out j hl hl))
      clear hcells hcells'
      go_wp2
      go_ret
      exact ⟨by rw [HE.out]; rfl, HB.out⟩
end Go.Proofs.YtjkpadfolkniaaaDoor
