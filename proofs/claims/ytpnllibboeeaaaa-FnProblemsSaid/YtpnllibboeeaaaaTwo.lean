/- Two rows of rows of numbers that grow side by side, apart from each other. Plain lemmas; no program. -/
import Derived.Test.YtpnllibboeeaaaaBlk
namespace Go.Proofs.Ytpnllibboeeaaaa
open Go.RowKit
set_option linter.unusedVariables false

/-- two rows of rows, all blocks from base on, no block in common -/
structure Two (w : World) (base E : Nat) (v0 v1 : Value) (m0 m1 : List (List Int)) (f0 f1 : List Nat) : Prop where
  g0 : Grow w base E 1 v0 m0.length (m0.map intsT) f0
  g1 : Grow w base E 1 v1 m1.length (m1.map intsT) f1
  i0 : In base w.heap.size f0
  i1 : In base w.heap.size f1
  d : ∀ y, (v0.ownBlock = some y ∨ y ∈ f0) → ¬ (v1.ownBlock = some y ∨ y ∈ f1)
theorem Two.lt0 {w : World} {base E : Nat} {v0 v1 : Value} {m0 m1 : List (List Int)} {f0 f1 : List Nat} (h : Two w base E v0 v1 m0 m1 f0 f1) {y : Nat} (hy : v0.ownBlock = some y ∨ y ∈ f0) : base ≤ y ∧ y < w.heap.size := by
  rcases hy with e | e
  · exact h.g0.block e
  · exact h.i0 y e
theorem Two.lt1 {w : World} {base E : Nat} {v0 v1 : Value} {m0 m1 : List (List Int)} {f0 f1 : List Nat} (h : Two w base E v0 v1 m0 m1 f0 f1) {y : Nat} (hy : v1.ownBlock = some y ∨ y ∈ f1) : base ≤ y ∧ y < w.heap.size := by
  rcases hy with e | e
  · exact h.g1.block e
  · exact h.i1 y e
theorem Two.start (w : World) (base E : Nat) : Two w base E (.slice none 0 0) (.slice none 0 0) [] [] [] [] :=
  ⟨Grow.nil, Grow.nil, In.nil, In.nil, fun y h => by rcases h with e | e; exact absurd e (by simp [Value.ownBlock]); simp at e⟩
theorem Two.frame {w w' : World} {base E : Nat} {v0 v1 : Value} {m0 m1 : List (List Int)} {f0 f1 : List Nat} (h : Two w base E v0 v1 m0 m1 f0 f1) (hz : w.heap.size ≤ w'.heap.size) (hf : ∀ y, base ≤ y → y < w.heap.size → w'.heap[y]? = w.heap[y]?) : Two w' base E v0 v1 m0 m1 f0 f1 :=
  ⟨h.g0.frame (fun g hg => hf g (h.lt0 (Or.inl hg)).1 (h.lt0 (Or.inl hg)).2) (fun b hb => hf b (h.lt0 (Or.inr hb)).1 (h.lt0 (Or.inr hb)).2),
   h.g1.frame (fun g hg => hf g (h.lt1 (Or.inl hg)).1 (h.lt1 (Or.inl hg)).2) (fun b hb => hf b (h.lt1 (Or.inr hb)).1 (h.lt1 (Or.inr hb)).2),
   h.i0.mono (Nat.le_refl _) hz, h.i1.mono (Nat.le_refl _) hz, h.d⟩
theorem Two.below {w w' : World} {base E : Nat} {v0 v1 : Value} {m0 m1 : List (List Int)} {f0 f1 : List Nat} (h : Two w base E v0 v1 m0 m1 f0 f1) (hb : Below w.heap.size w w') : Two w' base E v0 v1 m0 m1 f0 f1 := h.frame hb.size (fun y _ hy => hb.block y hy)
theorem Two.chg {w w' : World} {base E : Nat} {v0 v1 : Value} {m0 m1 : List (List Int)} {f0 f1 fp : List Nat} (h : Two w base E v0 v1 m0 m1 f0 f1) (hc : Chg fp w w') (hf : ∀ y ∈ fp, y < base) : Two w' base E v0 v1 m0 m1 f0 f1 :=
  h.frame hc.size (fun y hy hl => hc.block y hl (fun e => by have := hf y e; omega))
theorem Two.app0 {w w' : World} {base E lo : Nat} {v0 v1 v' : Value} {m0 m1 : List (List Int)} {f0 f1 g : List Nat} {d : List Int} (h : Two w base E v0 v1 m0 m1 f0 f1) (hg : Grown w w' base E 1 v0 v' (m0.length + 1) (m0.map intsT ++ [intsT d]) (f0 ++ g))
    (hgi : In base w.heap.size g) (hd : ∀ y ∈ g, ¬ (v1.ownBlock = some y ∨ y ∈ f1)) : Two w' base E v' v1 (m0 ++ [d]) m1 (f0 ++ g) f1 := by
  have hk : ∀ y, (v1.ownBlock = some y ∨ y ∈ f1) → w'.heap[y]? = w.heap[y]? := fun y hy => hg.keep y (h.lt1 hy).2 (fun e => h.d y (Or.inl e) hy)
  refine ⟨by rw [List.length_append, List.map_append]; exact hg.grow, h.g1.frame (fun y hy => hk y (Or.inl hy)) (fun y hy => hk y (Or.inr hy)), (h.i0.append hgi).mono (Nat.le_refl _) (Nat.le_of_lt hg.size), h.i1.mono (Nat.le_refl _) (Nat.le_of_lt hg.size), fun y hy hn => ?_⟩
  rcases hy with e | e
  · rcases hg.row with r | ⟨b, r, hb⟩
    · exact h.d y (Or.inl (r ▸ e)) hn
    · rw [r] at e
      injection e with e
      have := (h.lt1 hn).2
      omega
  · rcases List.mem_append.1 e with e | e
    · exact h.d y (Or.inr e) hn
    · exact hd y e hn
theorem Two.app1 {w w' : World} {base E lo : Nat} {v0 v1 v' : Value} {m0 m1 : List (List Int)} {f0 f1 g : List Nat} {d : List Int} (h : Two w base E v0 v1 m0 m1 f0 f1) (hg : Grown w w' base E 1 v1 v' (m1.length + 1) (m1.map intsT ++ [intsT d]) (f1 ++ g))
    (hgi : In base w.heap.size g) (hd : ∀ y ∈ g, ¬ (v0.ownBlock = some y ∨ y ∈ f0)) : Two w' base E v0 v' m0 (m1 ++ [d]) f0 (f1 ++ g) := by
  have hk : ∀ y, (v0.ownBlock = some y ∨ y ∈ f0) → w'.heap[y]? = w.heap[y]? := fun y hy => hg.keep y (h.lt0 hy).2 (fun e => h.d y hy (Or.inl e))
  refine ⟨h.g0.frame (fun y hy => hk y (Or.inl hy)) (fun y hy => hk y (Or.inr hy)), by rw [List.length_append, List.map_append]; exact hg.grow, h.i0.mono (Nat.le_refl _) (Nat.le_of_lt hg.size), (h.i1.append hgi).mono (Nat.le_refl _) (Nat.le_of_lt hg.size), fun y hn hy => ?_⟩
  rcases hy with e | e
  · rcases hg.row with r | ⟨b, r, hb⟩
    · exact h.d y hn (Or.inl (r ▸ e))
    · rw [r] at e
      injection e with e
      have := (h.lt0 hn).2
      omega
  · rcases List.mem_append.1 e with e | e
    · exact h.d y hn (Or.inr e)
    · exact hd y e hn
/-- new blocks are no blocks of theirs -/
theorem Two.fresh {w : World} {base E : Nat} {v0 v1 : Value} {m0 m1 : List (List Int)} {f0 f1 : List Nat} (h : Two w base E v0 v1 m0 m1 f0 f1) {y : Nat} (hy : w.heap.size ≤ y) : ¬ (v0.ownBlock = some y ∨ y ∈ f0) ∧ ¬ (v1.ownBlock = some y ∨ y ∈ f1) :=
  ⟨fun e => by have := (h.lt0 e).2; omega, fun e => by have := (h.lt1 e).2; omega⟩
/-- done growing -/
theorem Two.own {w : World} {base E : Nat} {v0 v1 : Value} {m0 m1 : List (List Int)} {f0 f1 : List Nat} (h : Two w base E v0 v1 m0 m1 f0 f1) :
    ∃ a0 c0 a1 c1 p0 p1, v0 = .slice a0 m0.length c0 ∧ v1 = .slice a1 m1.length c1 ∧ Own w (intssT m0) (.slice a0 m0.length c0) p0 ∧ Own w (intssT m1) (.slice a1 m1.length c1) p1 ∧ In base w.heap.size p0 ∧ In base w.heap.size p1 ∧ ∀ y ∈ p0, y ∉ p1 := by
  obtain ⟨p0, o0, q0, r0⟩ := h.g0.toOwnB (by decide) h.i0 (Nat.le_refl _)
  obtain ⟨p1, o1, q1, r1⟩ := h.g1.toOwnB (by decide) h.i1 (Nat.le_refl _)
  obtain ⟨a0, c0, _, e0, _, _⟩ := h.g0.toOwn (lo := base) (by decide) h.i0 (Nat.le_refl _)
  obtain ⟨a1, c1, _, e1, _, _⟩ := h.g1.toOwn (lo := base) (by decide) h.i1 (Nat.le_refl _)
  subst e0 e1
  exact ⟨a0, c0, a1, c1, p0, p1, rfl, rfl, o0, o1, q0, q1, fun y hy hn => h.d y (r0 y hy) (r1 y hn)⟩
end Go.Proofs.Ytpnllibboeeaaaa
