/- The order of texts, and where a name belongs in a row of rising names. Plain lemmas; no program. -/
import Derived.Test.YtjkpadfolkniaaaGreatDoorRowOk
namespace Go.Proofs.YtjkpadfolkniaaaGreatDoor
set_option linter.unusedVariables false

def eqS (a b : ByteArray) : Bool := a.toList == b.toList
theorem eqS_iff {a b : ByteArray} : eqS a b = true ↔ a = b := by
  unfold eqS
  rw [beq_iff_eq, ByteArray.toList_eq, ByteArray.toList_eq]
  constructor
  · intro h
    obtain ⟨⟨a⟩⟩ := a
    obtain ⟨⟨b⟩⟩ := b
    simp only at h
    rw [h]
  · intro h; rw [h]

theorem firstIdx_cases' {α : Type} (p : α → Bool) (l : List α) : (firstIdx' p l = -1 ∧ l.any p = false) ∨ ∃ i, ∃ h : i < l.length, firstIdx' p l = (i : Int) ∧ p l[i] = true ∧ (l.take i).any p = false := by
  unfold firstIdx'
  cases h : l.findIdx? p with
  | none =>
    left
    refine ⟨rfl, ?_⟩
    rw [List.any_eq_false]
    intro x hx
    have := List.findIdx?_eq_none_iff.1 h x hx
    simp [this]
  | some i =>
    right
    obtain ⟨hi, hp, hno⟩ := List.findIdx?_eq_some_iff_getElem.1 h
    refine ⟨i, hi, rfl, hp, ?_⟩
    rw [List.any_eq_false]
    intro x hx
    obtain ⟨j, hj, rfl⟩ := List.mem_take_iff_getElem.1 hx
    have := hno j (by omega)
    simpa using this
theorem bytesLess_trans : (a b c : List UInt8) → Op.bytesLess a b = true → Op.bytesLess b c = true → Op.bytesLess a c = true := by
  intro a
  induction a with
  | nil =>
    intro b c h1 h2
    cases c with
    | nil => cases b <;> simp [Op.bytesLess] at h2
    | cons z c => simp [Op.bytesLess]
  | cons x a ih =>
    intro b c h1 h2
    cases b with
    | nil => simp [Op.bytesLess] at h1
    | cons y b =>
      cases c with
      | nil => simp [Op.bytesLess] at h2
      | cons z c =>
        simp only [Op.bytesLess, Bool.or_eq_true, decide_eq_true_eq, Bool.and_eq_true, beq_iff_eq] at h1 h2 ⊢
        rcases h1 with h1 | ⟨rfl, h1⟩ <;> rcases h2 with h2 | ⟨rfl, h2⟩
        · left; rw [UInt8.lt_iff_toNat_lt] at *; omega
        · exact Or.inl h1
        · exact Or.inl h2
        · exact Or.inr ⟨rfl, ih b c h1 h2⟩
theorem ltS_trans {a b c : ByteArray} (h1 : ltS a b = true) (h2 : ltS b c = true) : ltS a c = true := bytesLess_trans _ _ _ h1 h2
theorem ltS_asymm {a b : ByteArray} (h : ltS a b = true) : ltS b a = false := by
  have := bytesLess_total a.toList b.toList
  unfold ltS at h ⊢
  rw [h] at this
  simpa using this.symm
theorem ltS_of_not {a b : ByteArray} (h : ltS b a = false) (hne : eqS a b = false) : ltS a b = true := by
  have := bytesLess_total a.toList b.toList
  unfold ltS at h ⊢
  unfold eqS at hne
  rw [h, hne] at this
  simpa using this
def posOf {α : Type} (f : α → ByteArray) (l : List α) (nm : ByteArray) : Nat := l.countP (fun y => ltS (f y) nm)
section
variable {α : Type} {f : α → ByteArray} {l : List α} {nm : ByteArray}
theorem pos_of (hs : ∀ i (h : i + 1 < l.length), ltS (f (l[i]'(by omega))) (f l[i + 1]) = true) {k : Nat} (hk : k ≤ l.length) (hlo : ∀ h : 0 < k, ltS (f (l[k - 1]'(by omega))) nm = true) (hhi : ∀ h : k < l.length, ltS (f l[k]) nm = false) : posOf f l nm = k := by
  have down : ∀ d j (hj : j < l.length), j + d + 1 = k → ltS (f l[j]) nm = true := by
    intro d
    induction d with
    | zero =>
      intro j hj e
      have := hlo (by omega)
      rw [show l[j] = l[k - 1]'(by omega) by congr 1; omega]
      exact this
    | succ d ih =>
      intro j hj e
      exact ltS_trans (hs j (by omega)) (ih (j + 1) (by omega) (by omega))
  have up : ∀ d (hj : k + d < l.length), ltS (f (l[k + d]'hj)) nm = false := by
    intro d
    induction d with
    | zero => intro hj; exact hhi hj
    | succ d ih =>
      intro hj
      have h1 := ih (by omega)
      have h2 := hs (k + d) (by omega)
      rw [Bool.eq_false_iff]
      intro h3
      rw [ltS_trans h2 h3] at h1
      cases h1
  have e1 : (l.take k).countP (fun y => ltS (f y) nm) = k := by
    have h : ∀ a ∈ l.take k, ltS (f a) nm = true := by
      intro a ha
      obtain ⟨j, hj, rfl⟩ := List.mem_take_iff_getElem.1 ha
      exact down (k - 1 - j) j (by omega) (by omega)
    rw [List.countP_eq_length.2 h, List.length_take]
    omega
  have e2 : (l.drop k).countP (fun y => ltS (f y) nm) = 0 := by
    rw [List.countP_eq_zero]
    intro a ha
    obtain ⟨j, hj, rfl⟩ := List.getElem_of_mem ha
    rw [List.length_drop] at hj
    rw [List.getElem_drop, up j (by omega)]
    simp
  unfold posOf
  rw [← List.take_append_drop k l, List.countP_append, e1, e2]
  rfl
theorem pos_le : posOf f l nm ≤ l.length := List.countP_le_length ..
/-- the reference's search, from the end -/
theorem pos_of_end (hs : ∀ i (h : i + 1 < l.length), ltS (f (l[i]'(by omega))) (f l[i + 1]) = true) (hno : ∀ i (h : i < l.length), eqS (f l[i]) nm = false) {k : Nat} (hk : k ≤ l.length) (hlo : ∀ h : 0 < k, ltS nm (f (l[k - 1]'(by omega))) = false) (hhi : ∀ h : k < l.length, ltS nm (f l[k]) = true) : posOf f l nm = k :=
  pos_of hs hk (fun h => ltS_of_not (hlo h) (hno _ _)) (fun h => ltS_asymm (hhi h))
end
theorem none_eqS {α : Type} {f : α → ByteArray} {l : List α} {nm : ByteArray} (h : l.any (fun y => eqS (f y) nm) = false) : ∀ i (hi : i < l.length), eqS (f l[i]) nm = false := fun i hi => by
  have := List.any_eq_false.1 h _ (List.getElem_mem hi)
  simpa using this
def insAt {α : Type} (l : List α) (x : α) (k : Nat) : List α := l.take k ++ x :: l.drop k
theorem insAt_length {α : Type} (l : List α) (x : α) {k : Nat} (h : k ≤ l.length) : (insAt l x k).length = l.length + 1 := by unfold insAt; simp; omega
end Go.Proofs.YtjkpadfolkniaaaGreatDoor
