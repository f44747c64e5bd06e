/- Contracts: what the laws choose by their inputs (r8Long, r8At, r8Same). Conditions: bounded lengths. -/
import Derived.Test.YtpnllibboeeaaaaSrc
namespace Go.Proofs.Ytpnllibboeeaaaa
open Go.RowKit
set_option linter.unusedVariables false
set_option linter.unusedSimpArgs false

def longB (l m : List UInt8) : Bool := decide (1048576 < l.length) || decide (1048576 < m.length)
theorem r8Long_any (l m : List UInt8) (v u : Value) (w : World) (h : Rd w.heap.size w (bsT l) v) (k : Rd w.heap.size w (bsT m) u) :
    Calls Try.prog 4 #[v, u] w fun e w' => e = .returned (.bool (longB l m)) ∧ w = w' := by
  obtain ⟨a, c, rfl, _, _, _⟩ := h.bs
  obtain ⟨a', c', rfl, _, _, _⟩ := k.bs
  clear h k
  by_cases c1 : 1048576 < l.length
  · have HE : Hid (longB l m = true) := by show _ = _; rw [longB, decide_eq_true c1, Bool.true_or]
    have i1 : (1048576 : Int) < (l.length : Int) := by omega
    clear c1
    go_enter Try.func4, Try.ntmps4
    go_wp2
    go_ret
    exact ⟨by rw [HE.out]; rfl, rfl⟩
  · have HE : Hid (longB l m = decide ((1048576 : Int) < (m.length : Int))) := by
      show _ = _
      rw [longB, decide_eq_false c1, Bool.false_or]
      exact decide_eq_decide.2 ⟨fun h => by omega, fun h => by omega⟩
    have i1 : ¬ (1048576 : Int) < (l.length : Int) := by omega
    clear c1
    go_enter Try.func4, Try.ntmps4
    go_wp2
    go_ret
    exact ⟨by rw [HE.out]; rfl, rfl⟩
def r8V (l : List UInt8) (k n : Int) : Int := if n ≤ 1 ∨ (l.length : Int) ≤ k then 0 else ((l.getD k.toNat 0).toNat : Int) % n
theorem r8V_bd (l : List UInt8) (k n : Int) (h : 1 ≤ n) : 0 ≤ r8V l k n ∧ r8V l k n < n := by
  unfold r8V
  split
  · omega
  · exact ⟨Int.emod_nonneg _ (by omega), Int.emod_lt_of_pos _ (by omega)⟩
theorem r8At_any (l : List UInt8) (k n : Int) (v : Value) (w : World) (h : Rd w.heap.size w (bsT l) v) (hk : 0 ≤ k ∧ k ≤ 9223372036854775807) (hn : I64 n) :
    Calls Try.prog 6 #[v, .int .i64 k, .int .i64 n] w fun e w' => e = .returned (.int .i64 (r8V l k n)) ∧ w = w' := by
  obtain ⟨a, c, rfl, _, _, hc⟩ := h.bs
  clear h
  obtain ⟨k0, k1⟩ := hk
  obtain ⟨n0, n1⟩ := hn
  by_cases c1 : n ≤ 1
  · have HE : Hid (r8V l k n = 0) := by show _ = _; rw [r8V, if_pos (Or.inl c1)]
    clear hc
    go_enter Try.func6, Try.ntmps6
    go_wp2
    go_ret
    exact ⟨by rw [HE.out]; rfl, rfl⟩
  · by_cases c2 : (l.length : Int) ≤ k
    · have HE : Hid (r8V l k n = 0) := by show _ = _; rw [r8V, if_pos (Or.inr c2)]
      clear hc
      go_enter Try.func6, Try.ntmps6
      go_wp2
      go_ret
      exact ⟨by rw [HE.out]; rfl, rfl⟩
    · obtain ⟨b, off, rfl, hb, hat⟩ := hc (by omega)
      obtain ⟨q, rfl⟩ := Int.eq_ofNat_of_zero_le k0
      have hq : q < l.length := by omega
      have s0 := hat q hq
      have HE : Hid (r8V l (q : Int) n = ((l[q].toNat : Nat) : Int) % n) := by
        show _ = _
        rw [r8V, if_neg (by omega), Int.toNat_natCast, List.getD_eq_getElem?_getD, List.getElem?_eq_getElem hq]; rfl
      have hx : ((l[q].toNat : Nat) : Int) ≤ 255 := by have := l[q].toNat_lt; omega
      have hx0 : (0 : Int) ≤ ((l[q].toNat : Nat) : Int) := by omega
      generalize ((l[q].toNat : Nat) : Int) = x at *
      clear hc hat hq
      go_enter Try.func6, Try.ntmps6
      go_wp2
      go_ret
      exact ⟨by rw [HE.out]; rfl, rfl⟩
theorem r8Same_one (x : Int) (v : Value) (u : Value) (w : World) (h : Rd w.heap.size w (intsT [x]) v) (k : Rd w.heap.size w (intsT [x]) u) :
    Calls Try.prog 13 #[v, u] w fun e w' => e = .returned (.bool true) ∧ Below w.heap.size w w' := by
  obtain ⟨a, c, rfl, _, _, hc⟩ := h.ints
  obtain ⟨a', c', rfl, _, _, hc'⟩ := k.ints
  obtain ⟨b, off, rfl, hb_, hat⟩ := hc (by simp)
  obtain ⟨b', off', rfl, hb', hat'⟩ := hc' (by simp)
  have s0 := hat 0 (by simp)
  have s1 := hat' 0 (by simp)
  simp only [List.getElem_cons_zero, Nat.add_zero] at s0 s1
  clear h k hc hc' hat hat'
  simp only [List.length_cons, List.length_nil]
  go_enter Try.func13, Try.ntmps13
  go_wp2
  go_loopw [5] (fun i wr => ∃ (k : Nat), k ≤ 1 ∧ i = .int .i64 k ∧ Below w.heap.size w wr) (fun i wr => 1 - (intOf i).toNat)
  case atStart => exact ⟨0, Nat.zero_le _, rfl, Below.refl _ _⟩
  case round =>
    obtain ⟨k, hk, rfl, hb⟩ := hrel
    have u0 := (bat hb _ _ hb_).trans s0
    have u1 := (bat hb _ _ hb').trans s1
    have HB := Lib.hid hb
    clear hb s0 s1
    by_cases hlt : k < 1
    · obtain rfl : k = 0 := by omega
      clear hlt hk
      have e0 : (x != x) = false := by simp
      go_wp2
      go_quiet (fail)
      go_wp2
      go_roundw
      case rel => exact ⟨1, Nat.le_refl _, by go_num, below_drewN HB.out _⟩
      case measure => simp [intOf]
    · obtain rfl : k = 1 := by omega
      go_wp2
      go_ret
      exact ⟨rfl, HB.out⟩
end Go.Proofs.Ytpnllibboeeaaaa
