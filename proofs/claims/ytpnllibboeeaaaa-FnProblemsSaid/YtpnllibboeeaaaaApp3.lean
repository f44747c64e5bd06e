/- Appending rows of plain values: to a new empty row, and to a row of the call's own; everything below the row's base stays. Plain lemmas; no program. -/
import Derived.Test.YtpnllibboeeaaaaRowV
namespace Go.Proofs.Ytpnllibboeeaaaa
open Go.RowKit
set_option linter.unusedVariables false

theorem RepV_lits (w : World) : (xs : List Value) → RepV w (xs.map .lit) xs [] := by
  intro xs
  induction xs with
  | nil => rfl
  | cons x xs ih => exact ⟨[], [], Rep_lit.2 ⟨rfl, rfl⟩, ih, rfl⟩
theorem ownsRow_own {w : World} {base E k n lo : Nat} {v : Value} {xs : List Value} (h : w.ownsRow base E k v n xs) (hk : 0 < k) (hlo : lo ≤ base) : ∃ a c fp, v = .slice a n c ∧ Own w (.sl k (xs.map .lit)) (.slice a n c) fp ∧ In lo w.heap.size fp :=
  Grow.toOwn (f := []) ⟨⟨xs, h, RepV_lits w xs⟩, List.nodup_nil, fun b h => by simp at h, fun g _ => by simp⟩ hk In.nil hlo
theorem Rd.readsV {B : Nat} {w : World} {k n c : Nat} {a : Option Addr} {xs : List Value} (h : Rd B w (.sl k (xs.map .lit)) (.slice a n c)) (hk : 0 < k) : Reads w B k a n xs := by
  obtain ⟨a', n', c', hv, hl, _, _, hcells⟩ := h.sl
  injection hv with e1 e2 e3
  subst e1 e2 e3
  have hlen : xs.length = n * k := by simpa using hl
  refine ⟨hlen, fun hn => ?_⟩
  have hpos := Nat.mul_pos hn hk
  obtain ⟨b, off, ha, hb, hat⟩ := hcells (by intro e; have := congrArg List.length e; simp at this; rw [this] at hlen; simp at hlen; omega)
  refine ⟨⟨b, off, none⟩, ha, hb, fun j u hu => ?_⟩
  obtain ⟨hj, hju⟩ := List.getElem?_eq_some_iff.1 hu
  obtain ⟨u', hc, hr⟩ := hat j (by simpa using hj)
  rw [add_mk, hc]
  have := Rd.lit.1 (show Rd B w (.lit xs[j]) u' by simpa using hr)
  rw [this, hju]
theorem Reads.head {w : World} {B size n : Nat} {A : Option Addr} {xs : List Value} (h : Reads w B size A n xs) {k : Nat} (hk : k ≤ n) : Reads w B size A k (xs.take (k * size)) := by
  refine ⟨by rw [List.length_take, h.1, Nat.min_eq_left (Nat.mul_le_mul_right _ hk)], fun hn => ?_⟩
  obtain ⟨ad, e, hb, hc⟩ := h.2 (by omega)
  refine ⟨ad, e, hb, fun j u hu => hc j u ?_⟩
  have := (List.getElem?_eq_some_iff.1 hu).1
  rw [List.length_take] at this
  rw [List.getElem?_take_of_lt (by omega)] at hu
  exact hu
section
variable {P : Program}
/-- append to a new empty row -/
theorem wpList_append_first {Y : World} {ops : Array Oper} {rest : List Oper} {o : Oper} {a : Act} {Q : Exit → Act → World → Prop} (hgd : o.guard = none) (s x : Operand) (t : TypeId)
    (ho : o.op = .call { callee := .builtin .append, args := #[s, x], argTypes := #[t, t] })
    (e : TypeId) (i : TypeInfo) (z : Value) (size bytes : Nat) (ht : P.underlying t = some (.slice e)) (hi : P.info? e = some i) (hz : i.zero = some z)
    (hsize : i.size = size) (hby : i.bytes = bytes) (hzs : z.cells.size = size) (hsz : 0 < size)
    (hs : a.eval s = .slice (some ⟨Y.heap.size, 0, none⟩) 0 0) (B : Nat) (A : Option Addr) (m c : Nat) (news : List Value) (hx : a.eval x = .slice A m c) (hr : Reads Y B size A m news) (hB : B ≤ Y.heap.size) (h1 : ∀ u ∈ news, u.oneCell' = true)
    (h63 : m ≤ maxLen) (hbytes : m * bytes ≤ 140737488355328)
    (h : ∀ a' c' w', w'.ownsRow Y.heap.size e size (.slice a' m c') m news → Below Y.heap.size Y w' → Y.heap.size < w'.heap.size → wpList P ops Q rest (a.put o.dst (.slice a' m c')) w') : wpList P ops Q (o :: rest) a (Y.alloc (.cells #[] e)) := by
  refine wpList_append_any _ hgd s x t ho Y.heap.size e i z size bytes ht hi hz hsize hby hzs hsz (.slice (some ⟨Y.heap.size, 0, none⟩) 0 0) 0 [] hs (own_emptyK Y e size) B A m c news hx (hr.alloc hB _) h1 (by omega) (by rw [Nat.zero_add]; exact hbytes) (by simp) ?_
  intro v' w' hown hg hat
  simp only [Nat.zero_add, List.nil_append] at hown
  obtain ⟨a', c', rfl, _⟩ := ownsRow_slice hown
  exact h a' c' w' hown (((Below.refl _ _).alloc (Nat.le_refl _) _).grown hg (by simp) (fun k hk => by simp [Value.ownBlock] at hk; omega)) (by have := hg.size; simp at this; omega)
/-- append to a row of the call's own -/
theorem wpList_append_more {w : World} {ops : Array Oper} {rest : List Oper} {o : Oper} {a : Act} {Q : Exit → Act → World → Prop} (hgd : o.guard = none) (s x : Operand) (t : TypeId)
    (ho : o.op = .call { callee := .builtin .append, args := #[s, x], argTypes := #[t, t] })
    (base : Nat) (e : TypeId) (i : TypeInfo) (z : Value) (size bytes : Nat) (ht : P.underlying t = some (.slice e)) (hi : P.info? e = some i) (hz : i.zero = some z)
    (hsize : i.size = size) (hby : i.bytes = bytes) (hzs : z.cells.size = size) (hsz : 0 < size)
    (v : Value) (n : Nat) (xs : List Value) (hs : a.eval s = v) (hown : w.ownsRow base e size v n xs)
    (B : Nat) (A : Option Addr) (m c : Nat) (news : List Value) (hx : a.eval x = .slice A m c) (hr : Reads w B size A m news) (h1 : ∀ u ∈ news, u.oneCell' = true)
    (h63 : n + m ≤ maxLen) (hbytes : (n + m) * bytes ≤ 140737488355328) (hbase : base ≤ w.heap.size)
    (h : ∀ a' c' w', w'.ownsRow base e size (.slice a' (n + m) c') (n + m) (xs ++ news) → Below base w w' → wpList P ops Q rest (a.put o.dst (.slice a' (n + m) c')) w') : wpList P ops Q (o :: rest) a w := by
  refine wpList_append_any _ hgd s x t ho base e i z size bytes ht hi hz hsize hby hzs hsz v n xs hs hown B A m c news hx hr h1 h63 hbytes hbase ?_
  intro v' w' hown' hg hat
  obtain ⟨a', c', rfl, _⟩ := ownsRow_slice hown'
  exact h a' c' w' hown' ((Below.refl _ _).grown hg hbase (fun k hk => (ownsRow_block hown hk).1))
end
end Go.Proofs.Ytpnllibboeeaaaa
