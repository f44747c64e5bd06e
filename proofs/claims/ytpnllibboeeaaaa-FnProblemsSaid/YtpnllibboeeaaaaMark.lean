/- Words for memory, continued: what a store or a change of a part does to an owned structure; marks read back. Plain lemmas; no program. -/
import Derived.Test.YtpnllibboeeaaaaOwn
namespace Go.Proofs.Ytpnllibboeeaaaa
open Go.RowKit
set_option linter.unusedVariables false

theorem cntL_take_le (es : List Tr) (i : Nat) : cntL (es.take i) ≤ cntL es := by
  have h := cntL_append (es.take i) (es.drop i)
  rw [List.take_append_drop] at h
  omega
theorem cntL_flat_take_le {α : Type} (g : α → List Tr) (l : List α) (i : Nat) : cntL ((l.take i).flatMap g) ≤ cntL (l.flatMap g) := by
  have h := cntL_append ((l.take i).flatMap g) ((l.drop i).flatMap g)
  rw [← List.flatMap_append, List.take_append_drop] at h
  omega
theorem cntL_map_lit (vs : List Value) : cntL (vs.map .lit) = vs.length := by
  induction vs with
  | nil => rfl
  | cons v vs ih => simp [cntL, cnt, ih]; omega

/-- one cell's part changes -/
theorem Reps.change {w : World} : {ts us : List Tr} → {t : Tr} → {b off : Nat} → {f : List Nat} → Reps w (ts ++ t :: us) b off f →
    ∃ f1 g f2 v, f = f1 ++ (g ++ f2) ∧ w.cell? ⟨b, off + ts.length, none⟩ = some v ∧ Rep w t v g ∧
      ∀ w' t', (w'.heap[b]? = w.heap[b]?) → (∀ x, x ∈ f1 ∨ x ∈ f2 → w'.heap[x]? = w.heap[x]?) → Rep w' t' v g → Reps w' (ts ++ t' :: us) b off f := by
  intro ts us t b off f h
  obtain ⟨f1, h1, hs1, hs2, rfl⟩ := h.split
  obtain ⟨v, g, f2, hc, hr, hrs, rfl⟩ := Reps_cons.1 hs2
  refine ⟨f1, g, f2, v, rfl, hc, hr, fun w' t' hb hx hr' => ?_⟩
  refine Reps.append (hs1.frame hb (fun x hx' => hx x (Or.inl hx'))) (Reps_cons.2 ⟨v, g, f2, ?_, hr', hrs.frame hb (fun x hx' => hx x (Or.inr hx')), rfl⟩)
  rw [World.cell?_of_block (w := w) hb]; exact hc

/-- one cell is stored: its footprint changes from nothing to nothing -/
theorem Reps.setLit {w : World} : {ts us : List Tr} → {v0 : Value} → {b off : Nat} → {f : List Nat} → Reps w (ts ++ .lit v0 :: us) b off f → b ∉ f → (u : Value) →
    Reps (w.setCell ⟨b, off + ts.length, none⟩ u) (ts ++ .lit u :: us) b off f := by
  intro ts us v0 b off f h hb u
  obtain ⟨f1, h1, hs1, hs2, rfl⟩ := h.split
  obtain ⟨v, g, f2, hc, hr, hrs, rfl⟩ := Reps_cons.1 hs2
  obtain ⟨rfl, rfl⟩ := Rep_lit.1 hr
  have hfar : ∀ x ∈ f1 ++ ([] ++ f2), (w.setCell ⟨b, off + ts.length, none⟩ u).heap[x]? = w.heap[x]? := fun x hx => Below.heap_setCell w _ u x (fun e => by subst e; exact hb hx)
  have keep : ∀ (as : List Tr) (o : Nat) (fa : List Nat), Reps w as b o fa → (o + as.length ≤ off + ts.length ∨ off + ts.length < o) → (∀ x ∈ fa, x ∈ f1 ++ ([] ++ f2)) → Reps (w.setCell ⟨b, off + ts.length, none⟩ u) as b o fa := by
    intro as
    induction as with
    | nil => intro o fa hr _ _; exact Reps_nil.2 (Reps_nil.1 hr)
    | cons t as ih =>
      intro o fa hr ho hin
      obtain ⟨v', g', f', hc', hr', hrs', rfl⟩ := Reps_cons.1 hr
      refine Reps_cons.2 ⟨v', g', f', ?_, hr'.frame (fun x hx => hfar x (hin x (by simp [hx]))), ih (o + 1) f' hrs' (by simp at ho; omega) (fun x hx => hin x (by simp [hx])), rfl⟩
      rw [← hc']
      exact World.cell?_setCell_other w _ _ u (fun e => by injection e with _ e; simp at ho; omega)
  refine Reps.append (keep ts off f1 hs1 (by omega) (fun x hx => by simp [hx])) (Reps_cons.2 ⟨u, [], f2, ?_, Rep_lit.2 ⟨rfl, rfl⟩, keep us _ f2 hrs (by omega) (fun x hx => by simp [hx]), rfl⟩)
  exact World.cell?_setCell_same w ⟨b, off + ts.length, none⟩ u hc

theorem frozen_setCell (w : World) (a : Addr) (u : Value) (p : Addr) : (w.setCell a u).frozen? p = w.frozen? p := by
  by_cases h : p.block = a.block
  · simp only [World.frozen?, World.setCell, Array.getElem?_modify, h, if_true]
    cases w.heap[a.block]? with
    | none => rfl
    | some o => cases o <;> rfl
  · exact World.frozen?_of_block (w := w) (Below.heap_setCell w a u p.block h)

/-- an owned slice: its form; one of its cells that is plain, and what a store there leaves -/
theorem Own.litAt {w : World} {k : Nat} {ts us : List Tr} {v0 : Value} {v : Value} {fp : List Nat} (h : Own w (.sl k (ts ++ .lit v0 :: us)) v fp) :
    ∃ b off f n c, v = .slice (some ⟨b, off, none⟩) n c ∧ fp = b :: f ∧ w.cell? ⟨b, off + ts.length, none⟩ = some v0 ∧ (∀ i, w.frozen? ⟨b, i, none⟩ = false) ∧
      ∀ u, Own (w.setCell ⟨b, off + ts.length, none⟩ u) (.sl k (ts ++ .lit u :: us)) v fp := by
  obtain ⟨a, n, c, hv, hl, hn, hc, hh⟩ := Rep_sl.1 h.rep
  rcases hh with ⟨he, _⟩ | ⟨b, off, f, hne, ha, hfp, hr⟩
  · simp at he
  · subst ha hfp
    have hnb : b ∉ f := (List.nodup_cons.1 h.nd).1
    obtain ⟨f1, g, f2, x, hf, hcell, hrep, _⟩ := hr.change
    obtain ⟨rfl, rfl⟩ := Rep_lit.1 hrep
    refine ⟨b, off, f, n, c, hv, rfl, hcell, h.free b (by simp), fun u => ⟨?_, h.nd, ?_⟩⟩
    · exact Rep_sl.2 ⟨_, n, c, hv, by simpa using hl, hn, hc, Or.inr ⟨b, off, f, by simp, rfl, rfl, hr.setLit hnb u⟩⟩
    · intro b' hb' i
      rw [frozen_setCell]
      exact h.free b' hb' i

/-- an owned slice: one of its cells, owned itself, and what a change of it leaves -/
theorem Own.partAt {w : World} {k : Nat} {ts us : List Tr} {t : Tr} {v : Value} {fp : List Nat} (h : Own w (.sl k (ts ++ t :: us)) v fp) :
    ∃ b off n c x g, v = .slice (some ⟨b, off, none⟩) n c ∧ b ∈ fp ∧ b ∉ g ∧ w.cell? ⟨b, off + ts.length, none⟩ = some x ∧ Own w t x g ∧ (∀ y ∈ g, y ∈ fp) ∧
      ∀ w' t', (∀ y ∈ fp, y ∉ g → w'.heap[y]? = w.heap[y]?) → Own w' t' x g → Own w' (.sl k (ts ++ t' :: us)) v fp := by
  obtain ⟨a, n, c, hv, hl, hn, hc, hh⟩ := Rep_sl.1 h.rep
  rcases hh with ⟨he, _⟩ | ⟨b, off, f, hne, ha, hfp, hr⟩
  · simp at he
  · subst ha hfp
    have hnb : b ∉ f := (List.nodup_cons.1 h.nd).1
    have hnf : f.Nodup := (List.nodup_cons.1 h.nd).2
    obtain ⟨f1, g, f2, x, rfl, hcell, hrep, hch⟩ := hr.change
    obtain ⟨n1, n2, n3⟩ := List.nodup_append.1 hnf
    obtain ⟨n4, n5, n6⟩ := List.nodup_append.1 n2
    refine ⟨b, off, n, c, x, g, hv, by simp, fun e => hnb (by simp [e]), hcell, ⟨hrep, n4, fun y hy i => h.free y (by simp [hy]) i⟩, fun y hy => by simp [hy], fun w' t' hk ho => ?_⟩
    have hbg : b ∉ g := fun e => hnb (by simp [e])
    have h1g : ∀ y ∈ f1, y ∉ g := fun y hy e => n3 y hy y (by simp [e]) rfl
    have h2g : ∀ y ∈ f2, y ∉ g := fun y hy e => n6 y e y hy rfl
    refine ⟨Rep_sl.2 ⟨_, n, c, hv, by simpa using hl, hn, hc, Or.inr ⟨b, off, _, by simp, rfl, rfl, hch w' t' (hk b (by simp) hbg) (fun y hy => ?_) ho.rep⟩⟩, h.nd, fun y hy i => ?_⟩
    · rcases hy with hy | hy
      · exact hk y (by simp [hy]) (h1g y hy)
      · exact hk y (by simp [hy]) (h2g y hy)
    · by_cases hyg : y ∈ g
      · exact ho.free y hyg i
      · rw [World.frozen?_of_block (w := w) (hk y hy hyg)]
        exact h.free y hy i

/-- marks read back: the cells of element i -/
theorem mkL_flat_get {α : Type} (g : α → List Tr) (k : Nat) (hg : ∀ x, (g x).length = k) : (l : List α) → (m : Nat) → (i : Nat) → (hi : i < l.length) → (j : Nat) → (hj : j < k) →
    (mkL (l.flatMap g) m)[i * k + j]? = (mkL (g l[i]) (m + cntL ((l.take i).flatMap g)))[j]? := by
  intro l
  induction l with
  | nil => intro m i hi; simp at hi
  | cons x l ih =>
    intro m i hi j hj
    rw [List.flatMap_cons, mkL_append]
    cases i with
    | zero => rw [List.getElem?_append_left (by rw [mkL_length, hg]; omega)]; simp [cntL]
    | succ i =>
      have e : (i + 1) * k + j = k + (i * k + j) := by rw [Nat.succ_mul]; omega
      rw [List.getElem?_append_right (by rw [mkL_length, hg]; omega), mkL_length, hg, e, Nat.add_sub_cancel_left]
      rw [ih _ i (by simpa using hi) j hj]
      simp [List.flatMap_cons, cntL_append, Nat.add_assoc]

/-- the same as Rd.slAt, behind marking -/
theorem Rd.mkAt {α : Type} {B : Nat} {w : World} {k m : Nat} {g : α → List Tr} {l : List α} {v : Value} (hk : 0 < k) (hg : ∀ x, (g x).length = k) (h : Rd B w (mkT (.sl k (l.flatMap g)) m) v) :
    ∃ a c, v = .slice a l.length c ∧ l.length ≤ c ∧ c ≤ maxLen ∧ (0 < l.length → ∃ b off, a = some ⟨b, off, none⟩ ∧ b < B ∧ ∀ (i : Nat) (hi : i < l.length) (j : Nat) (t : Tr), (mkL (g l[i]) (m + cntL ((l.take i).flatMap g)))[j]? = some t →
      ∃ u, w.cell? ⟨b, off + i * k + j, none⟩ = some u ∧ Rd B w t u) := by
  rw [mkT] at h
  obtain ⟨a, n, c, he, hl, hnc, hcm, hcells⟩ := h.sl
  rw [mkL_length, flat_length _ k hg] at hl
  obtain rfl : l.length = n := Nat.eq_of_mul_eq_mul_right hk hl
  refine ⟨a, c, he, hnc, hcm, fun hne => ?_⟩
  obtain ⟨b, off, ha, hbl, hat⟩ := hcells (by
    intro e
    have := congrArg List.length e
    rw [mkL_length, flat_length _ k hg] at this
    have h0 : 0 < l.length * k := Nat.mul_pos hne hk
    simp at this
    omega)
  refine ⟨b, off, ha, hbl, fun i hi j t hu => ?_⟩
  have hj : j < k := by
    have := (List.getElem?_eq_some_iff.1 hu).1
    rw [mkL_length, hg] at this
    exact this
  have hlt : i * k + j < (mkL (l.flatMap g) m).length := by
    rw [mkL_length, flat_length _ k hg]
    have : (i + 1) * k ≤ l.length * k := Nat.mul_le_mul_right k hi
    rw [Nat.succ_mul] at this
    omega
  obtain ⟨u', hc, hr⟩ := hat (i * k + j) hlt
  have e := mkL_flat_get g k hg l m i hi j hj
  rw [hu, List.getElem?_eq_getElem hlt] at e
  injection e with e
  rw [e] at hr
  exact ⟨u', by rw [Nat.add_assoc]; exact hc, hr⟩

/-- the tree in the middle of marking: i elements are done -/
def mid {α : Type} (g : α → List Tr) (k : Nat) (l : List α) (m i : Nat) : Tr := .sl k (mkL ((l.take i).flatMap g) m ++ (l.drop i).flatMap g)
theorem mid_zero {α : Type} (g : α → List Tr) (k : Nat) (l : List α) (m : Nat) : mid g k l m 0 = .sl k (l.flatMap g) := by simp [mid, mkL]
theorem mid_end {α : Type} (g : α → List Tr) (k : Nat) (l : List α) (m : Nat) : mid g k l m l.length = mkT (.sl k (l.flatMap g)) m := by simp [mid, mkT]
theorem mid_at {α : Type} (g : α → List Tr) (k : Nat) (l : List α) (m i : Nat) (hi : i < l.length) : mid g k l m i = .sl k (mkL ((l.take i).flatMap g) m ++ (g l[i] ++ (l.drop (i + 1)).flatMap g)) := by
  unfold mid
  rw [List.drop_eq_getElem_cons hi, List.flatMap_cons]
theorem mid_succ {α : Type} (g : α → List Tr) (k : Nat) (l : List α) (m i : Nat) (hi : i < l.length) :
    mid g k l m (i + 1) = .sl k (mkL ((l.take i).flatMap g) m ++ (mkL (g l[i]) (m + cntL ((l.take i).flatMap g)) ++ (l.drop (i + 1)).flatMap g)) := by
  unfold mid
  rw [flat_take_succ g l i hi, mkL_append, List.append_assoc]
theorem cntL_take_succ {α : Type} (g : α → List Tr) (l : List α) (i : Nat) (hi : i < l.length) : cntL ((l.take (i + 1)).flatMap g) = cntL ((l.take i).flatMap g) + cntL (g l[i]) := by
  rw [flat_take_succ g l i hi, cntL_append]
theorem Own.form {α : Type} {w : World} {k : Nat} {g : α → List Tr} {l : List α} {v : Value} {fp : List Nat} (hk : 0 < k) (hg : ∀ x, (g x).length = k) (h : Own w (.sl k (l.flatMap g)) v fp) : ∃ a c, v = .slice a l.length c ∧ l.length ≤ c ∧ c ≤ maxLen := by
  obtain ⟨a, n, c, hv, hl, hn, hc, _⟩ := Rep_sl.1 h.rep
  rw [flat_length _ k hg] at hl
  obtain rfl : l.length = n := Nat.eq_of_mul_eq_mul_right hk hl
  exact ⟨a, c, hv, hn, hc⟩
theorem Own.form1 {α : Type} {w : World} {g : α → Tr} {l : List α} {v : Value} {fp : List Nat} (h : Own w (.sl 1 (l.map g)) v fp) : ∃ a c, v = .slice a l.length c ∧ l.length ≤ c ∧ c ≤ maxLen := by
  rw [map_flat] at h
  exact h.form (k := 1) (g := fun x => [g x]) (by decide) (fun _ => rfl)

/-! ### structs that are owned -/
structure OwnV (w : World) (ts : List Tr) (vs : List Value) (fp : List Nat) : Prop where
  rep : RepV w ts vs fp
  nd : fp.Nodup
  free : Free w fp
theorem OwnV.frame {w w' : World} {ts : List Tr} {vs : List Value} {fp : List Nat} (h : OwnV w ts vs fp) (hf : ∀ b ∈ fp, w'.heap[b]? = w.heap[b]?) : OwnV w' ts vs fp := ⟨h.rep.frame hf, h.nd, h.free.frame hf⟩
theorem OwnV.below {w w' : World} {ts : List Tr} {vs : List Value} {fp : List Nat} {lo hi B : Nat} (h : OwnV w ts vs fp) (hi' : In lo hi fp) (hB : hi ≤ B) (hb : Below B w w') : OwnV w' ts vs fp :=
  h.frame fun b hx => hb.block b (by have := (hi' b hx).2; omega)
theorem OwnV.chg {w w' : World} {ts : List Tr} {vs : List Value} {fp fq : List Nat} {lo hi : Nat} (h : OwnV w ts vs fp) (hi' : In lo hi fp) (hs : hi ≤ w.heap.size) (hc : Chg fq w w') (hd : ∀ x ∈ fp, x ∉ fq) : OwnV w' ts vs fp :=
  h.frame fun b hx => hc.block b (by have := (hi' b hx).2; omega) (hd b hx)
theorem OwnV.nil {w : World} : OwnV w [] [] [] := ⟨rfl, List.nodup_nil, fun b h => by simp at h⟩
theorem OwnV.cons {w : World} {t : Tr} {ts : List Tr} {v : Value} {vs : List Value} {f g : List Nat} (h : Own w t v f) (k : OwnV w ts vs g) (hd : ∀ x ∈ f, x ∉ g) : OwnV w (t :: ts) (v :: vs) (f ++ g) :=
  ⟨⟨f, g, h.rep, k.rep, rfl⟩, List.nodup_append.2 ⟨h.nd, k.nd, fun a ha b hb e => hd a ha (e ▸ hb)⟩, fun b hb i => by
    rcases List.mem_append.1 hb with hb | hb
    · exact h.free b hb i
    · exact k.free b hb i⟩
theorem OwnV.consLit {w : World} {u v : Value} {ts : List Tr} {vs : List Value} {g : List Nat} (k : OwnV w ts vs g) (e : v = u) : OwnV w (.lit u :: ts) (v :: vs) g := by
  subst e
  exact OwnV.cons (f := []) Own.lit k (fun x hx => by simp at hx)
theorem OwnV.uncons {w : World} {t : Tr} {ts : List Tr} {v : Value} {vs : List Value} {fp : List Nat} (h : OwnV w (t :: ts) (v :: vs) fp) : ∃ f g, fp = f ++ g ∧ Own w t v f ∧ OwnV w ts vs g ∧ ∀ x ∈ f, x ∉ g := by
  obtain ⟨f, g, h1, h2, rfl⟩ := h.rep
  obtain ⟨n1, n2, n3⟩ := List.nodup_append.1 h.nd
  exact ⟨f, g, rfl, ⟨h1, n1, fun b hb i => h.free b (by simp [hb]) i⟩, ⟨h2, n2, fun b hb i => h.free b (by simp [hb]) i⟩, fun x hx e => n3 x hx x e rfl⟩
theorem OwnV.rd {w : World} : {ts : List Tr} → {vs : List Value} → {fp : List Nat} → {lo hi : Nat} → OwnV w ts vs fp → In lo hi fp → RdV hi w ts vs := by
  intro ts
  induction ts with
  | nil => intro vs fp lo hi h _; cases vs with
    | nil => trivial
    | cons _ _ => exact h.rep.elim
  | cons t ts ih =>
    intro vs fp lo hi h hin
    cases vs with
    | nil => exact h.rep.elim
    | cons v vs =>
      obtain ⟨f, g, rfl, h1, h2, _⟩ := h.uncons
      exact ⟨h1.rd (lo := lo) (fun b hb => hin b (by simp [hb])), ih (lo := lo) h2 (fun b hb => hin b (by simp [hb]))⟩

/-! ### an element's cells, in the middle of an owned slice -/
theorem Own.someAddr {w : World} {k : Nat} {ts us : List Tr} {t : Tr} {a : Option Addr} {n c : Nat} {fp : List Nat} (h : Own w (.sl k (ts ++ (t :: us))) (.slice a n c) fp) : ∃ b off, a = some ⟨b, off, none⟩ ∧ b ∈ fp := by
  obtain ⟨a', n', c', hv, _, _, _, hh⟩ := Rep_sl.1 h.rep
  rcases hh with ⟨he, _⟩ | ⟨b, off, f, _, ha, hfp, _⟩
  · simp at he
  · injection hv with h1 _ _
    exact ⟨b, off, by rw [h1, ha], by rw [hfp]; simp⟩
theorem split_at {ch : List Tr} {q : Nat} {t : Tr} (hq : ch[q]? = some t) : ch = ch.take q ++ t :: ch.drop (q + 1) ∧ ∀ t', ch.set q t' = ch.take q ++ t' :: ch.drop (q + 1) := by
  obtain ⟨hl, he⟩ := List.getElem?_eq_some_iff.1 hq
  subst he
  refine ⟨?_, fun t' => ?_⟩
  · rw [List.getElem_cons_drop, List.take_append_drop]
  · rw [List.set_eq_take_append_cons_drop, if_pos hl]
theorem Own.setChunk {w : World} {k : Nat} {TS ch US : List Tr} {b off n c : Nat} {fp : List Nat} (h : Own w (.sl k (TS ++ (ch ++ US))) (.slice (some ⟨b, off, none⟩) n c) fp) (q : Nat) (v0 : Value) (hq : ch[q]? = some (.lit v0)) (idx : Nat) (hidx : idx = off + (TS.length + q)) (u : Value) :
    Own (w.setCell ⟨b, idx, none⟩ u) (.sl k (TS ++ (ch.set q (.lit u) ++ US))) (.slice (some ⟨b, off, none⟩) n c) fp := by
  obtain ⟨e1, e2⟩ := split_at hq
  have hl : (ch.take q).length = q := by rw [List.length_take]; have := (List.getElem?_eq_some_iff.1 hq).1; omega
  have h' : Own w (.sl k ((TS ++ ch.take q) ++ (.lit v0 :: (ch.drop (q + 1) ++ US)))) (.slice (some ⟨b, off, none⟩) n c) fp := by
    rw [e1] at h
    simpa using h
  obtain ⟨b', off', f, n', c', hv, _, _, _, hset⟩ := h'.litAt
  injection hv with h1 _ _
  injection h1 with h1
  injection h1 with hb ho _
  subst hb ho
  have := hset u
  rw [List.length_append, hl, ← hidx] at this
  rw [e2]
  simpa using this
theorem Own.cellChunk {w : World} {k : Nat} {TS ch US : List Tr} {b off n c : Nat} {fp : List Nat} (h : Own w (.sl k (TS ++ (ch ++ US))) (.slice (some ⟨b, off, none⟩) n c) fp) (q : Nat) (v0 : Value) (hq : ch[q]? = some (.lit v0)) (idx : Nat) (hidx : idx = off + (TS.length + q)) :
    w.cell? ⟨b, idx, none⟩ = some v0 ∧ ∀ i, w.frozen? ⟨b, i, none⟩ = false := by
  obtain ⟨e1, e2⟩ := split_at hq
  have hl : (ch.take q).length = q := by rw [List.length_take]; have := (List.getElem?_eq_some_iff.1 hq).1; omega
  have h' : Own w (.sl k ((TS ++ ch.take q) ++ (.lit v0 :: (ch.drop (q + 1) ++ US)))) (.slice (some ⟨b, off, none⟩) n c) fp := by
    rw [e1] at h
    simpa using h
  obtain ⟨b', off', f, n', c', hv, _, hc, hf, _⟩ := h'.litAt
  injection hv with h1 _ _
  injection h1 with h1
  injection h1 with hb ho _
  subst hb ho
  rw [List.length_append, hl, ← hidx] at hc
  exact ⟨hc, hf⟩
theorem Own.partChunk {w : World} {k : Nat} {TS ch US : List Tr} {b off n c : Nat} {fp : List Nat} (h : Own w (.sl k (TS ++ (ch ++ US))) (.slice (some ⟨b, off, none⟩) n c) fp) (q : Nat) (t : Tr) (hq : ch[q]? = some t) (idx : Nat) (hidx : idx = off + (TS.length + q)) :
    ∃ x g, w.cell? ⟨b, idx, none⟩ = some x ∧ Own w t x g ∧ (∀ y ∈ g, y ∈ fp) ∧ b ∉ g ∧
      ∀ w' t', (∀ y ∈ fp, y ∉ g → w'.heap[y]? = w.heap[y]?) → Own w' t' x g → Own w' (.sl k (TS ++ (ch.set q t' ++ US))) (.slice (some ⟨b, off, none⟩) n c) fp := by
  obtain ⟨e1, e2⟩ := split_at hq
  have hl : (ch.take q).length = q := by rw [List.length_take]; have := (List.getElem?_eq_some_iff.1 hq).1; omega
  have h' : Own w (.sl k ((TS ++ ch.take q) ++ (t :: (ch.drop (q + 1) ++ US)))) (.slice (some ⟨b, off, none⟩) n c) fp := by
    rw [e1] at h
    simpa using h
  obtain ⟨b', off', n', c', x, g, hv, _, hbg, hc, hox, hg, hset⟩ := h'.partAt
  injection hv with h1 _ _
  injection h1 with h1
  injection h1 with hb ho _
  subst hb ho
  rw [List.length_append, hl, ← hidx] at hc
  refine ⟨x, g, hc, hox, hg, hbg, fun w' t' hk ho => ?_⟩
  have := hset w' t' hk ho
  rw [e2]
  simpa using this
theorem Own.setFar {w : World} {t : Tr} {v : Value} {fp : List Nat} (h : Own w t v fp) {p : Addr} (hp : p.block ∉ fp) (u : Value) : Own (w.setCell p u) t v fp :=
  h.frame fun b hb => Below.heap_setCell w p u b (fun e => hp (e ▸ hb))
theorem OwnV.setFar {w : World} {ts : List Tr} {vs : List Value} {fp : List Nat} (h : OwnV w ts vs fp) {p : Addr} (hp : p.block ∉ fp) (u : Value) : OwnV (w.setCell p u) ts vs fp :=
  h.frame fun b hb => Below.heap_setCell w p u b (fun e => hp (e ▸ hb))
theorem OwnV.append {w : World} : {ts us : List Tr} → {vs xs : List Value} → {f g : List Nat} → OwnV w ts vs f → OwnV w us xs g → (∀ x ∈ f, x ∉ g) → OwnV w (ts ++ us) (vs ++ xs) (f ++ g) := by
  intro ts us vs xs f g h k hd
  refine ⟨?_, List.nodup_append.2 ⟨h.nd, k.nd, fun a ha b hb e => hd a ha (e ▸ hb)⟩, fun b hb i => ?_⟩
  · have : ∀ (ts : List Tr) (vs : List Value) (f : List Nat), RepV w ts vs f → RepV w (ts ++ us) (vs ++ xs) (f ++ g) := by
      intro ts
      induction ts with
      | nil => intro vs f h; cases vs with
        | nil => rw [show f = [] from h]; exact k.rep
        | cons _ _ => exact h.elim
      | cons t ts ih =>
        intro vs f h
        cases vs with
        | nil => exact h.elim
        | cons x vs =>
          obtain ⟨f1, f2, h1, h2, rfl⟩ := h
          exact ⟨f1, f2 ++ g, h1, ih vs f2 h2, by simp⟩
    exact this ts vs f h.rep
  · rcases List.mem_append.1 hb with hb | hb
    · exact h.free b hb i
    · exact k.free b hb i
end Go.Proofs.Ytpnllibboeeaaaa
