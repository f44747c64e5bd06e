/- The plain law of FnProblems: parts, tightened and restricted problems. Plain lemmas; no program. -/
import Derived.Test.YtpnllibboeeaaaaTight
import Derived.Test.YtpnllibboeeaaaaRestr
namespace Go.Proofs.Ytpnllibboeeaaaa
open Go.RowKit
set_option linter.unusedVariables false

/-- the list is an assignment of p -/
structure AsgOk (p : DProblem) (l : List Int) : Prop where
  len : l.length = p.domains.length
  mem : ∀ i, i < l.length → gi l i ∈ row p.domains i
def nearP (m : List (List Int)) (l : List Int) (a b : Nat) : Prop := max (gi l a - gi l b) (-(gi l a - gi l b)) < ap m a b
/-- no two items are too near -/
def FineP (m : List (List Int)) (l : List Int) : Prop := ∀ a b, a < b → b < l.length → ¬ nearP m l a b
noncomputable def fineB (m : List (List Int)) (l : List Int) : Bool := @decide (FineP m l) (Classical.propDecidable _)
theorem fineB_iff {m : List (List Int)} {l : List Int} : fineB m l = true ↔ FineP m l := by unfold fineB; exact @decide_eq_true_iff _ (Classical.propDecidable _)
theorem domB_bd {d : List Int} (h : domB d = true) : 1 ≤ d.length ∧ d.length ≤ 32 ∧ incB d = true ∧ ∀ i, i < d.length → 0 ≤ gi d i ∧ gi d i ≤ 999 := by
  unfold domB risesB at h
  rw [Bool.and_eq_true, Bool.and_eq_true, Bool.and_eq_true, decide_eq_true_iff, decide_eq_true_iff, all_iff] at h
  exact ⟨h.1, h.2.1, h.2.2.1, fun i hi => inB_true.1 (h.2.2.2 i hi)⟩
theorem dom_mem_bd {d : List Int} (h : domB d = true) {x : Int} (hx : x ∈ d) : 0 ≤ x ∧ x ≤ 999 := by
  obtain ⟨i, hi, rfl⟩ := List.getElem_of_mem hx
  rw [gi_eq hi]
  exact (domB_bd h).2.2.2 i hi
theorem AsgOk.bd {p : DProblem} {l : List Int} (hp : ValidP p) (h : AsgOk p l) (i : Nat) (hi : i < l.length) : 0 ≤ gi l i ∧ gi l i ≤ 999 :=
  dom_mem_bd (hp.dom i (by rw [← h.len]; exact hi)) (h.mem i hi)
theorem inc_lt {l : List Int} (h : incB l = true) : ∀ {j i : Nat}, i < j → j < l.length → gi l i < gi l j := by
  intro j
  induction j with
  | zero => intro i hi; omega
  | succ j ih =>
    intro i hi hj
    have h1 := incB_iff l |>.1 h j hj
    rcases Nat.lt_or_ge i j with c | c
    · have := ih c (by omega); omega
    · obtain rfl : i = j := by omega
      exact h1
/-- items: rising numbers below n -/
structure ItemsOk (is : List Int) (n : Nat) : Prop where
  ne : 1 ≤ is.length
  len : is.length ≤ n
  inc : incB is = true
  rng : ∀ i, i < is.length → 0 ≤ gi is i ∧ gi is i < n
def partD (m : List (List Int)) (is : List Int) : List (List Int) := is.map fun i => row m i.toNat
def partA (m : List (List Int)) (is : List Int) : List (List Int) := is.map fun i => is.map fun k => ap m i.toNat k.toNat
def partR (p : DProblem) (is : List Int) : DProblem := ⟨partD p.domains is, partA p.apart is⟩
theorem partD_row (m : List (List Int)) (is : List Int) (i : Nat) (h : i < is.length) : row (partD m is) i = row m (gi is i).toNat := by
  unfold partD; rw [row, List.getD_eq_getElem?_getD, List.getElem?_map, List.getElem?_eq_getElem h, gi_eq h]; rfl
theorem partA_row (m : List (List Int)) (is : List Int) (i : Nat) (h : i < is.length) : row (partA m is) i = is.map fun k => ap m (gi is i).toNat k.toNat := by
  unfold partA; rw [row, List.getD_eq_getElem?_getD, List.getElem?_map, List.getElem?_eq_getElem h, gi_eq h]; rfl
theorem partA_ap (m : List (List Int)) (is : List Int) (i k : Nat) (h : i < is.length) (hk : k < is.length) : ap (partA m is) i k = ap m (gi is i).toNat (gi is k).toNat := by
  rw [ap, partA_row m is i h, gi, List.getD_eq_getElem?_getD, List.getElem?_map, List.getElem?_eq_getElem hk, gi_eq hk]; rfl
theorem ValidP.sym2 {p : DProblem} (h : ValidP p) {i k : Nat} (hi : i < p.domains.length) (hk : k < p.domains.length) : ap p.apart i k = ap p.apart k i := by
  rcases Nat.lt_trichotomy i k with c | c | c
  · exact ((h.rows k hk).sym i c).symm
  · rw [c]
  · exact (h.rows i hi).sym k c
theorem part_valid {p : DProblem} {is : List Int} (hp : ValidP p) (h : ItemsOk is p.domains.length) : ValidP (partR p is) := by
  have ld : (partR p is).domains.length = is.length := by simp [partR, partD]
  have la : (partR p is).apart.length = is.length := by simp [partR, partA]
  refine ⟨by rw [ld]; exact h.ne, by rw [ld]; exact Nat.le_trans h.len hp.n2, fun i hi => ?_, by rw [ld, la], fun i hi => ?_⟩
  · rw [ld] at hi
    show domB (row (partD p.domains is) i) = true
    rw [partD_row _ _ _ hi]
    exact hp.dom _ (by have := h.rng i hi; omega)
  · rw [ld] at hi ⊢
    show RowOk (partA p.apart is) is.length i
    have ri := h.rng i hi
    refine ⟨by rw [partA_row _ _ _ hi, List.length_map], fun k hk => ?_, ?_, fun k hk => ?_⟩
    · rw [partA_ap _ _ _ _ hi hk]
      have rk := h.rng k hk
      exact (hp.rows _ (by omega)).rng _ (by omega)
    · rw [partA_ap _ _ _ _ hi hi]
      exact (hp.rows _ (by omega)).diag
    · have rk := h.rng k (by omega)
      rw [partA_ap _ _ _ _ hi (by omega), partA_ap _ _ _ _ (by omega) hi]
      exact hp.sym2 (by omega) (by omega)
def shortL (l is : List Int) : List Int := is.map fun i => gi l i.toNat
theorem shortL_gi (l is : List Int) (i : Nat) (h : i < is.length) : gi (shortL l is) i = gi l (gi is i).toNat := by
  unfold shortL; rw [gi, List.getD_eq_getElem?_getD, List.getElem?_map, List.getElem?_eq_getElem h, gi_eq h]; rfl
theorem part_asg {p : DProblem} {l is : List Int} (hp : ValidP p) (h : ItemsOk is p.domains.length) (ha : AsgOk p l) : AsgOk (partR p is) (shortL l is) := by
  have ls : (shortL l is).length = is.length := by simp [shortL]
  refine ⟨by rw [ls]; simp [partR, partD], fun i hi => ?_⟩
  rw [ls] at hi
  have ri := h.rng i hi
  show gi (shortL l is) i ∈ row (partD p.domains is) i
  rw [shortL_gi _ _ _ hi, partD_row _ _ _ hi]
  exact ha.mem _ (by rw [ha.len]; omega)
theorem part_fine {p : DProblem} {l is : List Int} (hp : ValidP p) (h : ItemsOk is p.domains.length) (ha : AsgOk p l) (hf : FineP p.apart l) : FineP (partA p.apart is) (shortL l is) := by
  intro a b hab hb hn
  have ls : (shortL l is).length = is.length := by simp [shortL]
  rw [ls] at hb
  have ra := h.rng a (by omega)
  have rb := h.rng b hb
  have hlt := inc_lt h.inc hab hb
  unfold nearP at hn
  rw [shortL_gi _ _ _ (by omega), shortL_gi _ _ _ hb, partA_ap _ _ _ _ (by omega) hb] at hn
  exact hf (gi is a).toNat (gi is b).toNat (by omega) (by rw [ha.len]; omega) hn
theorem row_set (m : List (List Int)) (i j : Nat) (r : List Int) (hi : i < m.length) : row (m.set i r) j = if j = i then r else row m j := by
  unfold row
  rw [List.getD_eq_getElem?_getD, List.getD_eq_getElem?_getD, List.getElem?_set]
  by_cases e : i = j
  · subst e; simp [hi]
  · rw [if_neg e, if_neg (fun h => e h.symm)]
theorem gi_set (l : List Int) (i j : Nat) (x : Int) (hi : i < l.length) : gi (l.set i x) j = if j = i then x else gi l j := by
  unfold gi
  rw [List.getD_eq_getElem?_getD, List.getD_eq_getElem?_getD, List.getElem?_set]
  by_cases e : i = j
  · subst e; simp [hi]
  · rw [if_neg e, if_neg (fun h => e h.symm)]
theorem ap_set2 (m : List (List Int)) (i j : Nat) (u : Int) (hi : i < m.length) (hj : j < (row m i).length) (a b : Nat) : ap (set2 m i j u) a b = if a = i ∧ b = j then u else ap m a b := by
  unfold ap set2
  rw [row_set m i a _ hi]
  by_cases e : a = i
  · subst e
    rw [if_pos rfl, gi_set _ _ _ _ hj]
    by_cases e2 : b = j
    · rw [if_pos e2, if_pos ⟨rfl, e2⟩]
    · rw [if_neg e2, if_neg (fun h => e2 h.2)]
  · rw [if_neg e, if_neg (fun h => e h.1)]
theorem row_set2_len (m : List (List Int)) (i j : Nat) (u : Int) (hi : i < m.length) (a : Nat) : (row (set2 m i j u) a).length = (row m a).length := by
  unfold set2
  rw [row_set m i a _ hi]
  split
  · rename_i e; subst e; rw [List.length_set]
  · rfl
/-- the constraints of i and k set to u -/
def sym2 (m : List (List Int)) (i k : Nat) (u : Int) : List (List Int) := set2 (set2 m i k u) k i u
theorem ap_sym2 {m : List (List Int)} {n i k : Nat} (hn : m.length = n) (hl : ∀ a, a < n → (row m a).length = n) (hi : i < n) (hk : k < n) (u : Int) (a b : Nat) :
    ap (sym2 m i k u) a b = if a = i ∧ b = k ∨ a = k ∧ b = i then u else ap m a b := by
  unfold sym2
  rw [ap_set2 _ k i u (by rw [set2_len]; omega) (by rw [row_set2_len _ _ _ _ (by omega), hl k hk]; exact hi), ap_set2 m i k u (by omega) (by rw [hl i hi]; exact hk)]
  by_cases c : a = k ∧ b = i
  · rw [if_pos c, if_pos (Or.inr c)]
  · rw [if_neg c]
    by_cases d : a = i ∧ b = k
    · rw [if_pos d, if_pos (Or.inl d)]
    · rw [if_neg d, if_neg (fun h => h.elim d c)]
theorem sym2_len (m : List (List Int)) (i k : Nat) (u : Int) : (sym2 m i k u).length = m.length := by unfold sym2; rw [set2_len, set2_len]
theorem row_sym2_len {m : List (List Int)} {i k : Nat} (u : Int) (hi : i < m.length) (hk : k < m.length) (a : Nat) : (row (sym2 m i k u) a).length = (row m a).length := by
  unfold sym2
  rw [row_set2_len _ _ _ _ (by rw [set2_len]; exact hk), row_set2_len _ _ _ _ hi]
/-- a valid problem stays so when the constraint of two items is set -/
theorem sym2_rows {m : List (List Int)} {n i k : Nat} (hn : m.length = n) (hr : ∀ a, a < n → RowOk m n a) (hi : i < n) (hk : k < n) (hik : i ≠ k) {u : Int} (hu : inB u 0 100 = true) : ∀ a, a < n → RowOk (sym2 m i k u) n a := by
  have hl : ∀ a, a < n → (row m a).length = n := fun a h => (hr a h).len
  intro a ha
  have hs : ∀ x y, x < n → y < n → ap m x y = ap m y x := by
    intro x y hx hy
    rcases Nat.lt_trichotomy x y with c | c | c
    · exact ((hr y hy).sym x c).symm
    · rw [c]
    · exact (hr x hx).sym y c
  refine ⟨by rw [row_sym2_len u (by omega) (by omega), hl a ha], fun b hb => ?_, ?_, fun b hb => ?_⟩
  · rw [ap_sym2 hn hl hi hk]
    split
    · exact hu
    · exact (hr a ha).rng b hb
  · rw [ap_sym2 hn hl hi hk, if_neg (by omega)]
    exact (hr a ha).diag
  · rw [ap_sym2 hn hl hi hk, ap_sym2 hn hl hi hk]
    by_cases c : a = i ∧ b = k ∨ a = k ∧ b = i
    · rw [if_pos c, if_pos (by omega)]
    · rw [if_neg c, if_neg (by omega)]
      exact hs a b ha (by omega)
theorem sym2_valid {p : DProblem} {i k : Nat} (hp : ValidP p) (hi : i < p.domains.length) (hk : k < p.domains.length) (hik : i ≠ k) {u : Int} (hu : inB u 0 100 = true) : ValidP ⟨p.domains, sym2 p.apart i k u⟩ :=
  ⟨hp.n1, hp.n2, hp.dom, by show (sym2 p.apart i k u).length = _; rw [sym2_len]; exact hp.len, sym2_rows hp.len hp.rows hi hk hik hu⟩
/-- the tightened problem of the law -/
theorem tight_fact {p : DProblem} (hp : ValidP p) (n2 : 1 < p.domains.length) {x : Int} (hx : 0 ≤ x ∧ x ≤ 4) :
    ∃ q, tightR p 0 ((p.domains.length : Int) - 1) x = (q, 0) ∧ q.domains = p.domains ∧ ValidP q ∧ ∀ l, l.length = p.domains.length → FineP q.apart l → FineP p.apart l := by
  have e1 : ((p.domains.length : Int) - 1).toNat = p.domains.length - 1 := by omega
  have hr := inB_true.1 ((hp.rows 0 (by omega)).rng (p.domains.length - 1) (by omega))
  refine ⟨⟨p.domains, sym2 p.apart 0 (p.domains.length - 1) (max (ap p.apart 0 (p.domains.length - 1)) x)⟩, ?_, rfl, sym2_valid hp (by omega) (by omega) (by omega) (inB_true.2 (by omega)), fun l hl hf a b hab hb hn => ?_⟩
  · unfold tightR
    rw [if_pos (vP_true hp), if_pos ⟨inB_true.2 (by omega), inB_true.2 (by omega), by omega, inB_true.2 (by omega)⟩, e1]
    rfl
  · refine hf a b hab hb ?_
    unfold nearP at hn ⊢
    show _ < ap (sym2 p.apart 0 (p.domains.length - 1) _) a b
    rw [ap_sym2 hp.len (fun a h => (hp.rows a h).len) (by omega) (by omega)]
    split
    · rename_i c
      have : ap p.apart a b = ap p.apart 0 (p.domains.length - 1) := by
        rcases c with c | c
        · rw [c.1, c.2]
        · omega
      omega
    · exact hn
theorem outB_one (x y : Int) : (!outB [x] y) = decide (y = x) := by
  have e : (y == x) = decide (y = x) := by rw [Bool.eq_iff_iff]; simp
  simp [outB, e]
theorem kept_one {d : List Int} (h : incB d = true) {x : Int} (hx : x ∈ d) : kept (outB [x]) d = [x] := by
  unfold kept
  have e : (fun y => !outB [x] y) = fun y => decide (y = x) := funext fun y => outB_one x y
  rw [e]
  clear e
  have key : ∀ (l : List Int), l.Pairwise (· < ·) → x ∈ l → l.filter (fun y => decide (y = x)) = [x] := by
    intro l
    induction l with
    | nil => intro _ h; simp at h
    | cons a l ih =>
      intro hp hm
      rw [List.pairwise_cons] at hp
      by_cases c : a = x
      · subst c
        rw [List.filter_cons_of_pos (by simp)]
        congr 1
        rw [List.filter_eq_nil_iff]
        intro y hy
        have := hp.1 y hy
        simp; omega
      · rw [List.filter_cons_of_neg (by simpa using c)]
        exact ih hp.2 (by rcases List.mem_cons.1 hm with h | h; exact absurd h.symm c; exact h)
  refine key d ?_ hx
  rw [List.pairwise_iff_getElem]
  intro i j hi hj hij
  rw [gi_eq hi, gi_eq hj]
  exact inc_lt h hij hj
theorem restr_fact {p : DProblem} {l : List Int} (hp : ValidP p) (ha : AsgOk p l) :
    ∃ q, restR p 0 [gi l 0] = (q, 0) ∧ q.apart = p.apart ∧ q.domains.length = p.domains.length ∧ row q.domains 0 = [gi l 0] ∧ ValidP q ∧ AsgOk q l := by
  have n1 := hp.n1
  have hm := ha.mem 0 (by rw [ha.len]; omega)
  have hd := domB_bd (hp.dom 0 (by omega))
  have hk : kept (outB [gi l 0]) (row p.domains 0) = [gi l 0] := kept_one hd.2.2.1 hm
  have hb := ha.bd hp 0 (by rw [ha.len]; omega)
  have hr : ∀ j, row (p.domains.set 0 [gi l 0]) j = if j = 0 then [gi l 0] else row p.domains j := fun j => row_set _ _ _ _ (by omega)
  refine ⟨⟨p.domains.set 0 [gi l 0], p.apart⟩, ?_, rfl, List.length_set .., by rw [hr, if_pos rfl], ⟨?_, ?_, fun i hi => ?_, ?_, fun i hi => ?_⟩, ⟨?_, fun i hi => ?_⟩⟩
  · unfold restR
    rw [if_pos (vP_true hp), if_pos (inB_true.2 (by omega)), show (0 : Int).toNat = 0 from rfl, hk, if_neg (by simp)]
  · simpa using n1
  · simpa using hp.n2
  · show domB (row (p.domains.set 0 [gi l 0]) i) = true
    rw [hr]
    split
    · unfold domB risesB; simp [incB, inB]; omega
    · exact hp.dom i (by simpa using hi)
  · simpa using hp.len
  · simpa using hp.rows i (by simpa using hi)
  · simpa using ha.len
  · show gi l i ∈ row (p.domains.set 0 [gi l 0]) i
    rw [hr]
    split
    · rename_i e; rw [e]; simp
    · exact ha.mem i hi
end Go.Proofs.Ytpnllibboeeaaaa
