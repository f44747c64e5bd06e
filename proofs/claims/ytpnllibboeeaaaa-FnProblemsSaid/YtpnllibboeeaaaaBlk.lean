/- Blocks that are known whole; rows of the call's own. Plain lemmas; no program. -/
import Derived.Test.YtpnllibboeeaaaaRowV
import Derived.Test.YtpnllibboeeaaaaApp3
namespace Go.Proofs.Ytpnllibboeeaaaa
open Go.RowKit
set_option linter.unusedVariables false

section
variable {w w' : World} {B T : Nat} {cs : Array Value}
theorem bkC {v : Value} (h : w.heap[B]? = some (.cells cs T (0, 0))) (j : Nat) (hj : cs[j]? = some v) : w.cell? ⟨B, j, none⟩ = some v := (cell_of_row' h j).trans hj
theorem bkF (h : w.heap[B]? = some (.cells cs T (0, 0))) (j : Nat) : w.frozen? ⟨B, j, none⟩ = false := free_of_row h j
theorem bkS (h : w.heap[B]? = some (.cells cs T (0, 0))) (j : Nat) (v : Value) : (w.setCell ⟨B, j, none⟩ v).heap[B]? = some (.cells (cs.setIfInBounds j v) T (0, 0)) := row_setCell h j v
theorem bkO {o : Option Obj} (h : w.heap[B]? = o) {p : Addr} (hp : B ≠ p.block) (v : Value) : (w.setCell p v).heap[B]? = o := (Below.heap_setCell w p v B hp).trans h
theorem bkB {o : Option Obj} (h : w.heap[B]? = o) (hb : Below w.heap.size w w') (hl : B < w.heap.size) : w'.heap[B]? = o := (hb.block B hl).trans h
theorem bkN (w : World) (cs : Array Value) (T : Nat) : (w.alloc (.cells cs T)).heap[w.heap.size]? = some (.cells cs T (0, 0)) := by show (w.heap.push _)[w.heap.size]? = _; simp
theorem bkA {o : Option Obj} (h : w.heap[B]? = o) (hl : B < w.heap.size) (x : Obj) : (w.alloc x).heap[B]? = o := (Below.heap_alloc w x B hl).trans h
end
theorem below_alloc (w : World) (o : Obj) : Below w.heap.size w (w.alloc o) := (Below.refl _ _).alloc (Nat.le_refl _) _
theorem below_drew1 (w : World) : Below w.heap.size w w.drew := ⟨rfl, rfl, rfl, Nat.le_refl _, fun _ _ => rfl⟩
theorem rowOwnB {w : World} {base E k n lo : Nat} {v : Value} {xs : List Value} (h : w.ownsRow base E k v n xs) (hk : 0 < k) (hlo : lo ≤ base) : ∃ fp, Own w (.sl k (xs.map .lit)) v fp ∧ In lo w.heap.size fp ∧ ∀ x ∈ fp, v.ownBlock = some x := by
  obtain ⟨fp, h1, h2, h3⟩ := Grow.toOwnB (f := []) ⟨⟨xs, h, RepV_lits w xs⟩, List.nodup_nil, fun b h => by simp at h, fun g _ => by simp⟩ hk In.nil hlo
  exact ⟨fp, h1, h2, fun x hx => by rcases h3 x hx with e | e; exact e; simp at e⟩
theorem flatSplit {α β : Type} (g : α → List β) (l : List α) (k : Nat) (h : k < l.length) : l.flatMap g = (l.take k).flatMap g ++ (g l[k] ++ (l.drop (k + 1)).flatMap g) := by
  conv => lhs; rw [← List.take_append_drop k l]
  rw [List.flatMap_append, List.drop_eq_getElem_cons h, List.flatMap_cons]
theorem flatSet {α β : Type} (g : α → List β) (l : List α) (k : Nat) (h : k < l.length) (x : α) : (l.set k x).flatMap g = (l.take k).flatMap g ++ (g x ++ (l.drop (k + 1)).flatMap g) := by
  rw [List.set_eq_take_append_cons_drop, if_pos h, List.flatMap_append, List.flatMap_cons]
theorem RdV_vals {B : Nat} {w : World} : (vs : List Value) → (xs : List Value) → RdV B w (vs.map .lit) xs → xs = vs := by
  intro vs
  induction vs with
  | nil => intro xs h; exact h.unnil
  | cons v vs ih =>
    intro xs h
    obtain ⟨u, r, rfl, h1, h2⟩ := h.uncons
    rw [Rd.lit.1 h1, ih r h2]
end Go.Proofs.Ytpnllibboeeaaaa
