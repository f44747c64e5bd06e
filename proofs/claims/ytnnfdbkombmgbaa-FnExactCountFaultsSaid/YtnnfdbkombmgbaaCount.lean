/- Contracts: what CountFaults of the program and of the reference return: a new slice with the numbers of faults of each kind. Condition: at most 2^40 faults. -/
import Derived.Test.YtnnfdbkombmgbaaHFault
namespace Go.Proofs.Ytnnfdbkombmgbaa
open Go.RowKit
set_option linter.unusedVariables false

/-- the number of faults of kind q; at 0 of all kinds -/
def cf (l : List DFault) (q : Nat) : Int := ((l.filter fun f => decide (1 ≤ f.kind ∧ f.kind ≤ 7 ∧ (q = 0 ∨ f.kind = (q : Int)))).length : Int)
def cfL (l : List DFault) : List Int := (List.range 8).map (cf l)
def cfArr (l : List DFault) : Array Value := ((cfL l).map (Value.int .i64)).toArray
theorem cf_le (l : List DFault) (q : Nat) : 0 ≤ cf l q ∧ cf l q ≤ l.length := by
  unfold cf
  exact ⟨by omega, by have := List.length_filter_le (fun f : DFault => decide (1 ≤ f.kind ∧ f.kind ≤ 7 ∧ (q = 0 ∨ f.kind = (q : Int)))) l; omega⟩
theorem cf_snoc_in (l : List DFault) (f : DFault) (q : Nat) (h : 1 ≤ f.kind ∧ f.kind ≤ 7) : cf (l ++ [f]) q = if q = 0 ∨ q = f.kind.toNat then cf l q + 1 else cf l q := by
  unfold cf
  rw [List.filter_append]
  by_cases c : q = 0 ∨ q = f.kind.toNat
  · rw [if_pos c]
    rw [List.filter_cons, if_pos (by simp; omega)]; simp
  · rw [if_neg c]
    rw [List.filter_cons, if_neg (by simp; omega)]; simp
theorem cf_snoc_out (l : List DFault) (f : DFault) (h : ¬ (1 ≤ f.kind ∧ f.kind ≤ 7)) : cf (l ++ [f]) = cf l := by
  funext q
  unfold cf
  rw [List.filter_append]
  rw [List.filter_cons, if_neg (by simp; omega)]; simp
theorem cfArr_get (l : List DFault) (q : Nat) (hq : q < 8) : (cfArr l)[q]? = some (.int .i64 (cf l q)) := by
  simp [cfArr, cfL, hq]
theorem cfArr_size (l : List DFault) : (cfArr l).size = 8 := by simp [cfArr, cfL]
theorem cfArr_step (l : List DFault) (f : DFault) (h : 1 ≤ f.kind ∧ f.kind ≤ 7) :
    ((cfArr l).setIfInBounds f.kind.toNat (.int .i64 (cf l f.kind.toNat + 1))).setIfInBounds 0 (.int .i64 (cf l 0 + 1)) = cfArr (l ++ [f]) := by
  apply Array.ext
  · simp [cfArr_size]
  · intro i h1 h2
    rw [cfArr_size] at h2
    apply Option.some.inj
    rw [← Array.getElem?_eq_getElem, ← Array.getElem?_eq_getElem, cfArr_get _ i h2, Array.getElem?_setIfInBounds, Array.getElem?_setIfInBounds, cfArr_get _ i h2, cf_snoc_in l f i h, cfArr_size]
    by_cases c0 : 0 = i
    · subst c0; simp [cfArr_size]
    · rw [if_neg c0]
      by_cases c1 : f.kind.toNat = i
      · rw [if_pos c1, if_pos (Or.inr c1.symm)]; subst c1; simp; omega
      · rw [if_neg c1, if_neg (by omega)]
theorem cfArr_step' (l : List DFault) (f : DFault) (h : 1 ≤ f.kind ∧ f.kind ≤ 7) :
    ((cfArr l).setIfInBounds 0 (.int .i64 (cf l 0 + 1))).setIfInBounds f.kind.toNat (.int .i64 (cf l f.kind.toNat + 1)) = cfArr (l ++ [f]) := by
  rw [← cfArr_step l f h, Array.setIfInBounds_comm]
  omega

/-- the counts as an owned slice -/
theorem cf_own {w : World} {B E : Nat} {l : List DFault} (h : w.heap[B]? = some (.cells (cfArr l) E (0, 0))) : Own w (intsT (cfL l)) (.slice (some ⟨B, 0, none⟩) 8 8) [B] := by
  refine ⟨Rep_sl.2 ⟨_, 8, 8, rfl, by simp [cfL], Nat.le_refl _, by unfold maxLen; omega, Or.inr ⟨B, 0, [], by simp [cfL], rfl, rfl, ?_⟩⟩, by simp, fun b hb i => ?_⟩
  · have := Reps.lits (w := w) ((cfL l).map (Value.int .i64)) B 0 (fun i hi => by
      rw [Nat.zero_add, cell_of_row' h]
      simp only [cfArr, List.getElem?_toArray]
      rw [List.getElem?_eq_getElem hi])
    rw [List.map_map] at this
    exact this
  · obtain rfl : b = B := by simpa using hb
    exact free_of_row h i

set_option maxHeartbeats 400000 in
theorem sCount_any (l : List DFault) (v : Value) (w : World) (h : Rd w.heap.size w (DFault.sT l) v) (hn : l.length ≤ 1099511627776) :
    Calls Try.prog 13 #[v] w fun e w' => ∃ a' c' fp, e = .returned (.slice a' 8 c') ∧ Below w.heap.size w w' ∧ Own w' (intsT (cfL l)) (.slice a' 8 c') fp ∧ In w.heap.size w'.heap.size fp := by
  have hnb : (l.length : Int) ≤ 1099511627776 := by omega
  obtain ⟨a, c, rfl, hnc, hcm, hcells⟩ := DFault.rd h
  clear h
  have hmk : ∀ W : World, (Instr.makeSlice 33 (.int .i64 8) (.int .i64 8)).run Try.prog W = .ok (.slice (some ⟨W.heap.size, 0, none⟩) 8 8) (W.alloc (.cells (cfArr []) 2)) := fun _ => by kernel_rfl
  go_enter Try.func13, Try.ntmps13
  go_wp2
  clear hmk
  go_loopw [4] (fun i wr => ∃ (k : Nat), k ≤ l.length ∧ i = .int .i64 k ∧ Below w.heap.size w wr ∧ wr.heap[w.heap.size]? = some (.cells (cfArr (l.take k)) 2 (0, 0))) (fun i wr => l.length - (intOf i).toNat)
  case atStart => exact ⟨0, Nat.zero_le _, rfl, (Below.refl _ _).alloc (Nat.le_refl _) _, by show (w.heap.push _)[w.heap.size]? = _; simp⟩
  case round =>
    obtain ⟨k, hk, rfl, hb, hrow⟩ := hrel
    by_cases hlt : k < l.length
    · obtain ⟨b, off, rfl, hbl, hat⟩ := hcells (by omega)
      obtain ⟨s0, s1, s2⟩ := hat k hlt
      rw [← hb.cell (p := ⟨b, _, none⟩) hbl] at s0 s1 s2
      have hts : l.take (k + 1) = l.take k ++ [l[k]] := List.take_succ_eq_append_getElem hlt
      have HT := Lib.hid hts
      have HB := Lib.hid hb
      have HR := Lib.hid hrow
      have hfz : ∀ i, wr.frozen? ⟨w.heap.size, i, none⟩ = false := free_of_row hrow
      have hne : b ≠ w.heap.size := by omega
      clear hcells hat hb hrow hts s1 s2
      by_cases hin : 1 ≤ l[k].kind ∧ l[k].kind ≤ 7
      · have p0 : wr.cell? ⟨w.heap.size, 0, none⟩ = some (.int .i64 (cf (l.take k) 0)) := by rw [cell_of_row' HR.out, cfArr_get _ _ (by omega)]
        have p1 : wr.cell? ⟨w.heap.size, l[k].kind.toNat, none⟩ = some (.int .i64 (cf (l.take k) l[k].kind.toNat)) := by rw [cell_of_row' HR.out, cfArr_get _ _ (by omega)]
        have c1 := cf_le (l.take k) 0
        have c2 := cf_le (l.take k) l[k].kind.toNat
        have c3 : (l.take k).length ≤ k := List.length_take_le _ _
        have k1 : 1 ≤ l[k].kind := hin.1
        have k2 : decide (l[k].kind ≤ 7) = true := by simp; omega
        have k3 : 0 ≤ l[k].kind := by omega
        have k4 : l[k].kind < 8 := by omega
        have k5 : l[k].kind.toNat ≠ 0 := by omega
        have HI := Lib.hid hin
        clear hin
        obtain ⟨c1a, c1b⟩ := c1
        obtain ⟨c2a, c2b⟩ := c2
        go_wp2
        refine ⟨⟨k + 1, by omega, by go_num, (HB.out.setCell (Nat.le_refl _) _).setCell (Nat.le_refl _) _, ?_⟩, by simp [intOf]; omega⟩
        rw [row_setCell (row_setCell HR.out _ _) _ _, cfArr_step _ _ HI.out, HT.out]
      · have HI := Lib.hid hin
        by_cases k1 : 1 ≤ l[k].kind
        · have k2 : decide (l[k].kind ≤ 7) = false := by simp; omega
          clear hin
          go_wp2
          refine ⟨⟨k + 1, by omega, by go_num, HB.out, ?_⟩, by simp [intOf]; omega⟩
          rw [HR.out, HT.out, cfArr, cfL, cfArr, cfL, cf_snoc_out _ _ HI.out]
        · clear hin
          go_wp2
          refine ⟨⟨k + 1, by omega, by go_num, HB.out, ?_⟩, by simp [intOf]; omega⟩
          rw [HR.out, HT.out, cfArr, cfL, cfArr, cfL, cf_snoc_out _ _ HI.out]
    · obtain rfl : k = l.length := by omega
      clear hcells
      go_wp2
      go_ret
      rw [List.take_length] at hrow
      exact ⟨_, _, [w.heap.size], rfl, hb, cf_own hrow, fun x hx => by simp at hx; subst hx; exact ⟨Nat.le_refl _, by rcases Nat.lt_or_ge w.heap.size wr.heap.size with h | h; exact h; rw [Array.getElem?_eq_none h] at hrow; cases hrow⟩⟩
set_option maxHeartbeats 400000 in
theorem iCount_any (l : List DFault) (v : Value) (w : World) (h : Rd w.heap.size w (DFault.sT l) v) (hn : l.length ≤ 1099511627776) :
    Calls Try.prog 15 #[v] w fun e w' => ∃ a' c' fp, e = .returned (.slice a' 8 c') ∧ Below w.heap.size w w' ∧ Own w' (intsT (cfL l)) (.slice a' 8 c') fp ∧ In w.heap.size w'.heap.size fp := by
  have hnb : (l.length : Int) ≤ 1099511627776 := by omega
  obtain ⟨a, c, rfl, hnc, hcm, hcells⟩ := DFault.rd h
  clear h
  have hmk : ∀ W : World, (Instr.makeSlice 33 (.int .i64 8) (.int .i64 8)).run Try.prog W = .ok (.slice (some ⟨W.heap.size, 0, none⟩) 8 8) (W.alloc (.cells (cfArr []) 2)) := fun _ => by kernel_rfl
  go_enter Try.func15, Try.ntmps15
  go_wp2
  clear hmk
  go_loopw [9] (fun i wr => ∃ (k : Nat), k ≤ l.length ∧ i = .int .i64 k ∧ Below w.heap.size w wr ∧ wr.heap[w.heap.size]? = some (.cells (cfArr (l.take k)) 2 (0, 0))) (fun i wr => l.length - (intOf i).toNat)
  case atStart => exact ⟨0, Nat.zero_le _, rfl, (Below.refl _ _).alloc (Nat.le_refl _) _, by show (w.heap.push _)[w.heap.size]? = _; simp⟩
  case round =>
    obtain ⟨k, hk, rfl, hb, hrow⟩ := hrel
    by_cases hlt : k < l.length
    · obtain ⟨b, off, rfl, hbl, hat⟩ := hcells (by omega)
      obtain ⟨s0, s1, s2⟩ := hat k hlt
      rw [← hb.cell (p := ⟨b, _, none⟩) hbl] at s0 s1 s2
      have hts : l.take (k + 1) = l.take k ++ [l[k]] := List.take_succ_eq_append_getElem hlt
      have HT := Lib.hid hts
      have HB := Lib.hid hb
      have HR := Lib.hid hrow
      have hfz : ∀ i, wr.frozen? ⟨w.heap.size, i, none⟩ = false := free_of_row hrow
      have hne : b ≠ w.heap.size := by omega
      have hz : w.heap.size < wr.heap.size := by
        rcases Nat.lt_or_ge w.heap.size wr.heap.size with h | h
        · exact h
        · rw [Array.getElem?_eq_none h] at hrow; cases hrow
      have hz2 : b < wr.heap.size := by omega
      have HR2 := fun o => Lib.hid ((Below.heap_alloc wr o w.heap.size hz).trans hrow)
      clear hcells hat hb hrow hts
      by_cases hin : 1 ≤ l[k].kind ∧ l[k].kind ≤ 7
      · have p0 : wr.cell? ⟨w.heap.size, 0, none⟩ = some (.int .i64 (cf (l.take k) 0)) := by rw [cell_of_row' HR.out, cfArr_get _ _ (by omega)]
        have p1 : wr.cell? ⟨w.heap.size, l[k].kind.toNat, none⟩ = some (.int .i64 (cf (l.take k) l[k].kind.toNat)) := by rw [cell_of_row' HR.out, cfArr_get _ _ (by omega)]
        have c1 := cf_le (l.take k) 0
        have c2 := cf_le (l.take k) l[k].kind.toNat
        have c3 : (l.take k).length ≤ k := List.length_take_le _ _
        have k1 : 1 ≤ l[k].kind := hin.1
        have k2 : decide (l[k].kind ≤ 7) = true := by simp; omega
        have k3 : 0 ≤ l[k].kind := by omega
        have k4 : l[k].kind < 8 := by omega
        have k5 : l[k].kind.toNat ≠ 0 := by omega
        have HI := Lib.hid hin
        clear hin
        obtain ⟨c1a, c1b⟩ := c1
        obtain ⟨c2a, c2b⟩ := c2
        go_wp2
        refine ⟨⟨k + 1, by omega, by go_num, ((HB.out.setCell (Nat.le_refl _) _).setCell (Nat.le_refl _) _).alloc (by simp only [size_setCell]; exact HB.out.size) _, ?_⟩, by simp [intOf]; omega⟩
        rw [Below.heap_alloc _ _ _ (by simp only [size_setCell]; exact hz), row_setCell (row_setCell HR.out _ _) _ _, cfArr_step' _ _ HI.out, HT.out]
      · have HI := Lib.hid hin
        by_cases k1 : 1 ≤ l[k].kind
        · have k2 : decide (l[k].kind ≤ 7) = false := by simp; omega
          clear hin
          go_wp2
          refine ⟨⟨k + 1, by omega, by go_num, HB.out.alloc HB.out.size _, ?_⟩, by simp [intOf]; omega⟩
          rw [(HR2 _).out, HT.out, cfArr, cfL, cfArr, cfL, cf_snoc_out _ _ HI.out]
        · clear hin
          go_wp2
          refine ⟨⟨k + 1, by omega, by go_num, HB.out.alloc HB.out.size _, ?_⟩, by simp [intOf]; omega⟩
          rw [(HR2 _).out, HT.out, cfArr, cfL, cfArr, cfL, cf_snoc_out _ _ HI.out]
    · obtain rfl : k = l.length := by omega
      clear hcells
      go_wp2
      go_ret
      rw [List.take_length] at hrow
      exact ⟨_, _, [w.heap.size], rfl, hb, cf_own hrow, fun x hx => by simp at hx; subst hx; exact ⟨Nat.le_refl _, by rcases Nat.lt_or_ge w.heap.size wr.heap.size with h | h; exact h; rw [Array.getElem?_eq_none h] at hrow; cases hrow⟩⟩
end Go.Proofs.Ytnnfdbkombmgbaa
