/- Boxes: cells made one behind the other; stores into a block above a bound. Plain lemmas; no program. -/
import Derived.Test.YtpnllibboeeaaaaBlk
namespace Go.Proofs.Ytpnllibboeeaaaa
open Go.RowKit
set_option linter.unusedVariables false

theorem boxes1 (w : World) (c0 : Array Value) (t0 : Nat) : ∃ W0, w.alloc (.cells c0 t0) = W0 ∧ Below w.heap.size w W0 ∧ w.heap.size + 1 ≤ W0.heap.size ∧ W0.heap[w.heap.size]? = some (.cells c0 t0 (0, 0)) :=
  ⟨_, rfl, below_alloc _ _, by simp, bkN _ _ _⟩
theorem boxes2 (w : World) (c0 : Array Value) (t0 : Nat) (c1 : Array Value) (t1 : Nat) : ∃ W0, (w.alloc (.cells c0 t0)).alloc (.cells c1 t1) = W0 ∧ Below w.heap.size w W0 ∧ w.heap.size + 2 ≤ W0.heap.size ∧ W0.heap[w.heap.size]? = some (.cells c0 t0 (0, 0)) ∧ W0.heap[w.heap.size + 1]? = some (.cells c1 t1 (0, 0)) := by
  refine ⟨_, rfl, (below_alloc _ _).alloc (by simp) _, by simp, bkA (bkN _ _ _) (by simp) _, ?_⟩
  have h := bkN (w.alloc (.cells c0 t0)) c1 t1
  rwa [show (w.alloc (.cells c0 t0)).heap.size = w.heap.size + 1 by simp] at h
theorem boxes3 (w : World) (c0 : Array Value) (t0 : Nat) (c1 : Array Value) (t1 : Nat) (c2 : Array Value) (t2 : Nat) : ∃ W0, ((w.alloc (.cells c0 t0)).alloc (.cells c1 t1)).alloc (.cells c2 t2) = W0 ∧ Below w.heap.size w W0 ∧ w.heap.size + 3 ≤ W0.heap.size ∧ W0.heap[w.heap.size]? = some (.cells c0 t0 (0, 0)) ∧ W0.heap[w.heap.size + 1]? = some (.cells c1 t1 (0, 0)) ∧ W0.heap[w.heap.size + 2]? = some (.cells c2 t2 (0, 0)) := by
  obtain ⟨W, e, h1, h2, h3, h4⟩ := boxes2 w c0 t0 c1 t1
  have hs : W.heap.size = w.heap.size + 2 := by subst e; simp
  rw [e]
  refine ⟨_, rfl, h1.alloc (by omega) _, by simp; omega, bkA h3 (by omega) _, bkA h4 (by omega) _, ?_⟩
  have h := bkN W c2 t2
  rwa [hs] at h
theorem bset {B : Nat} {a w : World} {b : Nat} (h : Below B a w) (hb : B ≤ b) (j : Nat) (v : Value) : Below B a (w.setCell ⟨b, j, none⟩ v) := h.setCell (p := ⟨b, j, none⟩) hb v
end Go.Proofs.Ytpnllibboeeaaaa
