/- Rows of an owned list of lists: one row made new. -/
import Derived.Test.YtpnllibboeeaaaaTight
import Derived.Test.YtpnllibboeeaaaaDel
namespace Go.Proofs.Ytpnllibboeeaaaa
open Go.RowKit
set_option linter.unusedVariables false

/-- a row of cells after a store beside it -/
theorem Reps.beside {w W : World} {b idx : Nat} {u : Value} (hb : W.heap[b]? = w.heap[b]?) : (ls : List Tr) → (o : Nat) → (fa : List Nat) → Reps w ls b o fa → (o + ls.length ≤ idx ∨ idx < o) → (∀ x ∈ fa, x ≠ b ∧ W.heap[x]? = w.heap[x]?) → Reps (W.setCell ⟨b, idx, none⟩ u) ls b o fa := by
  intro ls
  induction ls with
  | nil => intro o fa hr _ _; exact Reps_nil.2 (Reps_nil.1 hr)
  | cons t ls ih =>
    intro o fa hr ho hin
    obtain ⟨v', g', f', hc', hr', hrs', rfl⟩ := Reps_cons.1 hr
    refine Reps_cons.2 ⟨v', g', f', ?_, hr'.frame (fun x hx => ?_), ih (o + 1) f' hrs' (by simp at ho; omega) (fun x hx => hin x (by simp [hx])), rfl⟩
    · rw [← hc', ← World.cell?_of_block (w := w) (w' := W) hb]
      exact World.cell?_setCell_other W _ _ u (fun e => by injection e with _ e; simp at ho; omega)
    · rw [Below.heap_setCell W _ u x (hin x (by simp [hx])).1]; exact (hin x (by simp [hx])).2
/-- an owned slice: one of its cells, owned itself, and what a new part stored there leaves -/
theorem Own.partNew {w : World} {k : Nat} {ts us : List Tr} {t : Tr} {v : Value} {fp : List Nat} (h : Own w (.sl k (ts ++ t :: us)) v fp) :
    ∃ b off n c x g, v = .slice (some ⟨b, off, none⟩) n c ∧ b ∈ fp ∧ b ∉ g ∧ w.cell? ⟨b, off + ts.length, none⟩ = some x ∧ (∀ i, w.frozen? ⟨b, i, none⟩ = false) ∧ Own w t x g ∧ (∀ y ∈ g, y ∈ fp) ∧
      ∀ W t' x' g', (∀ y ∈ fp, y ∉ g → W.heap[y]? = w.heap[y]?) → Own W t' x' g' → (∀ y ∈ g', y ∈ g ∨ y ∉ fp) → ∃ fq, Own (W.setCell ⟨b, off + ts.length, none⟩ x') (.sl k (ts ++ t' :: us)) v fq ∧ ∀ y ∈ fq, y ∈ fp ∨ y ∈ g' := by
  obtain ⟨a, n, c, hv, hl, hn, hc, hh⟩ := Rep_sl.1 h.rep
  rcases hh with ⟨he, _⟩ | ⟨b, off, f, hne, ha, hfp, hr⟩
  · simp at he
  · subst ha hfp
    have hnb : b ∉ f := (List.nodup_cons.1 h.nd).1
    have hnf : f.Nodup := (List.nodup_cons.1 h.nd).2
    obtain ⟨f1, h1, hs1, hs2, rfl⟩ := hr.split
    obtain ⟨x, g, f2, hcell, hrep, hrs, rfl⟩ := Reps_cons.1 hs2
    obtain ⟨n1, n2, n3⟩ := List.nodup_append.1 hnf
    obtain ⟨n4, n5, n6⟩ := List.nodup_append.1 n2
    have hbg : b ∉ g := fun e => hnb (by simp [e])
    have h1g : ∀ y ∈ f1, y ∉ g := fun y hy e => n3 y hy y (by simp [e]) rfl
    have h2g : ∀ y ∈ f2, y ∉ g := fun y hy e => n6 y e y hy rfl
    refine ⟨b, off, n, c, x, g, hv, by simp, hbg, hcell, h.free b (by simp), ⟨hrep, n4, fun y hy i => h.free y (by simp [hy]) i⟩, fun y hy => by simp [hy], fun W t' x' g' hk ho hg' => ?_⟩
    have hbW := hk b (by simp) hbg
    have g1 : ∀ y ∈ g', y ≠ b := fun y hy e => by
      rcases hg' y hy with h | h
      · exact hbg (e ▸ h)
      · exact h (by simp [e])
    have g2 : ∀ y ∈ g', y ∉ f1 ∧ y ∉ f2 := fun y hy => by
      rcases hg' y hy with h | h
      · exact ⟨fun e => h1g y e h, fun e => h2g y e h⟩
      · exact ⟨fun e => h (by simp [e]), fun e => h (by simp [e])⟩
    have hcW : W.cell? ⟨b, off + ts.length, none⟩ = some x := by rw [World.cell?_of_block (w := w) hbW]; exact hcell
    refine ⟨b :: (f1 ++ (g' ++ f2)), ⟨Rep_sl.2 ⟨_, n, c, hv, by simpa using hl, hn, hc, Or.inr ⟨b, off, _, by simp, rfl, rfl, ?_⟩⟩, ?_, fun y hy i => ?_⟩, fun y hy => ?_⟩
    · refine Reps.append (Reps.beside hbW ts off f1 hs1 (by omega) (fun y hy => ⟨fun e => hnb (by simp [← e, hy]), hk y (by simp [hy]) (h1g y hy)⟩)) (Reps_cons.2 ⟨x', g', f2, ?_, ?_, Reps.beside hbW us _ f2 hrs (by omega) (fun y hy => ⟨fun e => hnb (by simp [← e, hy]), hk y (by simp [hy]) (h2g y hy)⟩), rfl⟩)
      · exact World.cell?_setCell_same W ⟨b, off + ts.length, none⟩ x' hcW
      · exact ho.rep.frame (fun y hy => Below.heap_setCell W _ x' y (g1 y hy))
    · refine List.nodup_cons.2 ⟨fun e => ?_, List.nodup_append.2 ⟨n1, List.nodup_append.2 ⟨ho.nd, n5, fun y hy z hz e => (g2 y hy).2 (e ▸ hz)⟩, fun y hy z hz e => ?_⟩⟩
      · simp only [List.mem_append] at e
        rcases e with e | e | e
        · exact hnb (by simp [e])
        · exact g1 b e rfl
        · exact hnb (by simp [e])
      · simp only [List.mem_append] at hz
        rcases hz with hz | hz
        · exact (g2 z hz).1 (e ▸ hy)
        · exact n3 y hy z (by simp [hz]) e
    · rw [frozen_setCell]
      simp only [List.mem_cons, List.mem_append] at hy
      rcases hy with rfl | hy | hy | hy
      · rw [World.frozen?_of_block (w := w) hbW]; exact h.free _ (by simp) i
      · rw [World.frozen?_of_block (w := w) (hk y (by simp [hy]) (h1g y hy))]; exact h.free y (by simp [hy]) i
      · exact ho.free y hy i
      · rw [World.frozen?_of_block (w := w) (hk y (by simp [hy]) (h2g y hy))]; exact h.free y (by simp [hy]) i
    · simp only [List.mem_cons, List.mem_append] at hy ⊢
      rcases hy with hy | hy | hy | hy <;> simp [hy]
theorem Own.rowNew {w : World} {m : List (List Int)} {v : Value} {fp : List Nat} (h : Own w (intssT m) v fp) (i : Nat) (hi : i < m.length) :
    ∃ b off n c x g, v = .slice (some ⟨b, off, none⟩) n c ∧ b ∈ fp ∧ b ∉ g ∧ w.cell? ⟨b, off + i, none⟩ = some x ∧ (∀ q, w.frozen? ⟨b, q, none⟩ = false) ∧ Own w (intsT (row m i)) x g ∧ (∀ y ∈ g, y ∈ fp) ∧
      ∀ W l x' g', (∀ y ∈ fp, y ∉ g → W.heap[y]? = w.heap[y]?) → Own W (intsT l) x' g' → (∀ y ∈ g', y ∈ g ∨ y ∉ fp) → ∃ fq, Own (W.setCell ⟨b, off + i, none⟩ x') (intssT (m.set i l)) v fq ∧ ∀ y ∈ fq, y ∈ fp ∨ y ∈ g' := by
  have e1 : (m.map intsT)[i]? = some (intsT (row m i)) := by rw [List.getElem?_map, List.getElem?_eq_getElem hi, ← row_eq hi]; rfl
  obtain ⟨s1, s2⟩ := split_at e1
  have hl : ((m.map intsT).take i).length = i := by rw [List.length_take, List.length_map]; omega
  rw [intssT, s1] at h
  obtain ⟨b, off, n, c, x, g, hv, hbf, hbg, hc, hfz, hox, hgf, hset⟩ := h.partNew
  rw [hl] at hc hset
  refine ⟨b, off, n, c, x, g, hv, hbf, hbg, hc, hfz, hox, hgf, fun W l x' g' h1 h2 h3 => ?_⟩
  obtain ⟨fq, ho, hq⟩ := hset W (intsT l) x' g' h1 h2 h3
  rw [← s2] at ho
  rw [intssT, set_map]
  exact ⟨fq, ho, hq⟩
/-- an owned row of integers that is not empty, cell by cell -/
theorem Own.rowF {w : World} {l : List Int} {x : Value} {g : List Nat} (h : Own w (intsT l) x g) (hl : 0 < l.length) : ∃ b off c, x = .slice (some ⟨b, off, none⟩) l.length c ∧ l.length ≤ c ∧ c ≤ maxLen ∧ b ∈ g ∧ RowF w b off l.length (fun q => l.getD q 0) ∧ (∀ i, w.frozen? ⟨b, i, none⟩ = false) := by
  obtain ⟨a, n, c, hv, hl', hn, hc, hh⟩ := Rep_sl.1 h.rep
  have hln : l.length = n := by simpa using hl'
  subst hln
  rcases hh with ⟨he, _⟩ | ⟨b, off, f, hne, ha, hfp, hr⟩
  · simp at he; subst he; simp at hl
  · subst ha hfp
    refine ⟨b, off, c, hv, hn, hc, by simp, fun q hq => ?_, h.free b (by simp)⟩
    obtain ⟨u, f', hu, hr', _⟩ := hr.at_ q (by simpa using hq)
    rw [hu]
    rw [List.getElem_map, intT, Rep_lit] at hr'
    simp [hr'.1, hq]

end Go.Proofs.Ytpnllibboeeaaaa
