/- Contracts: the value of a key, for the program and for the reference. Conditions: bounded lengths. -/
import Derived.Test.YtjkpadfolkniaaaGreatDoorReg1
import Derived.Test.YtjkpadfolkniaaaGreatDoorProb1
namespace Go.Proofs.YtjkpadfolkniaaaGreatDoor
open Go.RowKit
set_option linter.unusedVariables false
set_option linter.unusedSimpArgs false

set_option maxHeartbeats 1000000 in
set_option maxRecDepth 100000 in
theorem indexFuncRecord_any (l : List DRecord) (p : DRecord → Bool) (fn : FuncId) (cap : List Value) (v : Value) (B : Nat) (w : World) (h : Rd B w (DRecord.sT l) v) (hB : B ≤ w.heap.size) (hn : l.length ≤ 1099511627776)
    (hcf : ∀ (args : Array Value) (W : World), (callFunc fn args).run Tryz.prog W = .ok (.enter fn args) W)
    (hf : ∀ x ∈ l, ∀ W : World, Below w.heap.size w W → Calls Tryz.prog fn (Value.agg #[.string x.key, .string x.value] :: cap).toArray W fun e W' => e = .returned (.bool (p x)) ∧ Below W.heap.size W W') :
    Calls Tryz.prog 50 #[v, .func (.func fn) #[] cap.toArray] w fun e w' => e = .returned (.int .i64 (firstIdx' p l)) ∧ Below w.heap.size w w' := by
  obtain ⟨a, c, rfl, hnc, hcm, hcells⟩ := DRecord.rd h
  clear h
  have hnb : (l.length : Int) ≤ 1099511627776 := by omega
  have HF := Lib.hid hf
  clear hf
  go_enter Tryz.func50, Tryz.ntmps50
  go_wp2
  go_loopw [8] (fun i wr => ∃ (k : Nat), k ≤ l.length ∧ i = .int .i64 k ∧ (l.take k).any p = false ∧ Below w.heap.size w wr) (fun i wr => l.length - (intOf i).toNat)
  case atStart => exact ⟨0, Nat.zero_le _, rfl, by simp, Below.refl _ _⟩
  case round =>
    obtain ⟨k, hk, rfl, hno, hb⟩ := hrel
    have HN := Lib.hid hno
    clear hno
    by_cases hlt : k < l.length
    · obtain ⟨b, off, rfl, hbl, hat⟩ := hcells (by omega)
      obtain ⟨s0, s1⟩ := hat k hlt
      rw [← hb.cell (p := ⟨b, _, none⟩) (show b < w.heap.size by omega)] at s0 s1
      have HB := Lib.hid hb
      clear hcells hat hb
      go_wp2_with fail
      refine (HF.out l[k] (List.getElem_mem hlt) _ HB.out).mono ?_
      rintro e w1 ⟨rfl, hb1⟩
      have HB1 := Lib.hid (HB.out.trans (hb1.mono HB.out.size))
      clear hb1
      by_cases hp : p l[k] = true
      · go_wp2
        go_ret
        exact ⟨by rw [firstIdx_at p l k hlt hp HN.out]; rfl, HB1.out⟩
      · have hp' : p l[k] = false := by simpa using hp
        clear hp
        go_wp2
        go_roundw
        case rel => exact ⟨k + 1, by omega, by go_num, by rw [any_take_succ p l k hlt, HN.out, hp']; rfl, HB1.out⟩
        case measure => simp [intOf]; omega
    · obtain rfl : k = l.length := by omega
      clear hcells
      go_wp2
      go_ret
      have := HN.out
      rw [List.take_length] at this
      exact ⟨by rw [firstIdx_none p l this]; rfl, hb⟩
set_option maxHeartbeats 1000000 in
theorem valueOf_any (l : List DRecord) (nm : ByteArray) (v : Value) (B : Nat) (w : World) (h : Rd B w (DRecord.sT l) v) (hB : B ≤ w.heap.size) (hn : l.length ≤ 1099511627776) :
    Calls Tryz.prog 21 #[v, .string nm] w fun e w' => e = .returned (.string (valOf l nm)) ∧ Below w.heap.size w w' := by
  have hw0 : Hid (Below w.heap.size w (w.alloc (.cells #[.string nm] 9))) := (Below.refl _ _).alloc (Nat.le_refl _) _
  have HC := Lib.hid (indexFuncRecord_any l (fun x : DRecord => eqS x.key nm) 51 [.pointer (some ⟨w.heap.size, 0, none⟩)] v B (w.alloc (.cells #[.string nm] 9)) (h.below (hw0.out.mono hB)) (by simp; omega) hn (fun _ _ => by kernel_rfl) (fun x _ W hW => by
    have c1 : W.cell? ⟨w.heap.size, 0, none⟩ = some (.string nm) := by rw [hW.cell (p := ⟨w.heap.size, 0, none⟩) (by simp)]; simp [go_sem]
    have c2 : w.heap.size < W.heap.size := by have := hW.size; simp at this; omega
    clear hW
    go_enter Tryz.func51, Tryz.ntmps51
    go_wp2
    go_ret
    exact ⟨rfl, (Below.refl _ _).alloc (Nat.le_refl _) _⟩))
  obtain ⟨a, c, rfl, hnc, hcm, hcells⟩ := DRecord.rd h
  clear h
  rcases firstIdx_cases' (fun x : DRecord => eqS x.key nm) l with ⟨hi, hno⟩ | ⟨i, hlt, hi, hp, hno⟩
  · have HV := Lib.hid (valOf_none hno)
    rw [hi] at HC
    clear hi hno hcells
    go_enter Tryz.func21, Tryz.ntmps21
    go_wp2_with fail
    refine HC.out.mono ?_
    rintro e w1 ⟨rfl, hb1⟩
    go_wp2
    go_ret
    exact ⟨by rw [HV.out]; rfl, hw0.out.trans (hb1.mono (by simp))⟩
  · have HV := Lib.hid (valOf_some hlt hp hno)
    rw [hi] at HC
    clear hi hno hp
    obtain ⟨b, off, rfl, hbl, hat⟩ := hcells (by omega)
    obtain ⟨s0, s1⟩ := hat i hlt
    have HS0 := Lib.hid s0
    have HS1 := Lib.hid s1
    have j1 : (i : Int) < (l.length : Int) := by omega
    clear hcells hat s0 s1
    go_enter Tryz.func21, Tryz.ntmps21
    go_wp2_with fail
    refine HC.out.mono ?_
    rintro e w1 ⟨rfl, hb1⟩
    have HB := Lib.hid (hw0.out.trans (hb1.mono (by simp)))
    clear hb1
    have t0 := (HB.out.cell (p := ⟨b, _, none⟩) (show b < w.heap.size by omega)).trans HS0.out
    have t1 := (HB.out.cell (p := ⟨b, _, none⟩) (show b < w.heap.size by omega)).trans HS1.out
    go_wp2
    go_ret
    exact ⟨by rw [HV.out]; rfl, HB.out⟩
set_option maxHeartbeats 1000000 in
theorem l28Find_any (l : List DRecord) (nm : ByteArray) (v : Value) (B : Nat) (w : World) (h : Rd B w (DRecord.sT l) v) (hB : B ≤ w.heap.size) (hn : l.length ≤ 1099511627776) :
    Calls Tryz.prog 48 #[v, .string nm] w fun e w' => e = .returned (.int .i64 (idxRec l nm)) ∧ w = w' := by
  obtain ⟨a, c, rfl, hnc, hcm, hcells⟩ := DRecord.rd h
  clear h
  have hnb : (l.length : Int) ≤ 1099511627776 := by omega
  go_enter Tryz.func48, Tryz.ntmps48
  go_wp2
  go_loop [5] (fun i => ∃ (k : Nat), k ≤ l.length ∧ i = .int .i64 k ∧ (l.take k).any (fun x : DRecord => eqS x.key nm) = false) (fun i => l.length - (intOf i).toNat)
  case atStart => exact ⟨0, Nat.zero_le _, rfl, by simp⟩
  case round =>
    obtain ⟨k, hk, rfl, hno⟩ := hrel
    have HN := Lib.hid hno
    clear hno
    by_cases hlt : k < l.length
    · obtain ⟨b, off, rfl, hbl, hat⟩ := hcells (by omega)
      have s0 := (hat k hlt).1
      clear hcells hat
      by_cases hp1 : (l[k].key.toList == nm.toList) = true
      · have HP := Lib.hid hp1
        go_wp2
        go_ret
        exact ⟨by unfold idxRec; rw [firstIdx_at (fun x : DRecord => eqS x.key nm) l k hlt HP.out HN.out]; rfl, rfl⟩
      · have hp' : (l[k].key.toList == nm.toList) = false := Bool.eq_false_iff.2 hp1
        have HP := Lib.hid hp'
        clear hp1
        go_wp2
        go_round
        case rel => exact ⟨k + 1, by omega, by go_num, by rw [any_take_succ _ l k hlt, HN.out]; exact HP.out⟩
        case measure => simp [intOf]; omega
    · obtain rfl : k = l.length := by omega
      clear hcells
      go_wp2
      go_ret
      have := HN.out
      rw [List.take_length] at this
      exact ⟨by unfold idxRec; rw [firstIdx_none _ l this]; rfl, rfl⟩
set_option maxHeartbeats 1000000 in
theorem l28Get_any (l : List DRecord) (nm : ByteArray) (v : Value) (B : Nat) (w : World) (h : Rd B w (DRecord.sT l) v) (hB : B ≤ w.heap.size) (hn : l.length ≤ 1099511627776) :
    Calls Tryz.prog 19 #[v, .string nm] w fun e w' => e = .returned (.string (valOf l nm)) ∧ w = w' := by
  have HC := Lib.hid (l28Find_any l nm v B w h hB hn)
  obtain ⟨a, c, rfl, hnc, hcm, hcells⟩ := DRecord.rd h
  clear h
  unfold idxRec at HC
  rcases firstIdx_cases' (fun x : DRecord => eqS x.key nm) l with ⟨hi, hno⟩ | ⟨i, hlt, hi, hp, hno⟩
  · have HV := Lib.hid (valOf_none hno)
    rw [hi] at HC
    clear hi hno hcells
    go_enter Tryz.func19, Tryz.ntmps19
    go_wp2_with fail
    refine HC.out.mono ?_
    rintro e w1 ⟨rfl, rfl⟩
    go_wp2
    go_ret
    exact ⟨by rw [HV.out]; rfl, rfl⟩
  · have HV := Lib.hid (valOf_some hlt hp hno)
    rw [hi] at HC
    clear hi hno hp
    obtain ⟨b, off, rfl, hbl, hat⟩ := hcells (by omega)
    obtain ⟨s0, s1⟩ := hat i hlt
    have j1 : (i : Int) < (l.length : Int) := by omega
    clear hcells hat
    go_enter Tryz.func19, Tryz.ntmps19
    go_wp2_with fail
    refine HC.out.mono ?_
    rintro e w1 ⟨rfl, rfl⟩
    go_wp2
    go_ret
    exact ⟨by rw [HV.out]; rfl, rfl⟩
end Go.Proofs.YtjkpadfolkniaaaGreatDoor
