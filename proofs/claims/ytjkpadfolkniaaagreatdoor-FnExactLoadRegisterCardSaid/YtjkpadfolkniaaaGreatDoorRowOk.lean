/- Rows whose elements are valid and rise. Plain lemmas; no program. -/
import Derived.Test.YtjkpadfolkniaaaGreatDoorName
namespace Go.Proofs.YtjkpadfolkniaaaGreatDoor
set_option linter.unusedVariables false

/-- element j is fine, and in order with the one before it -/
def upOk {α : Type} (ok : α → Bool) (rel : α → α → Bool) (l : List α) (j : Nat) : Bool :=
  match l[j]? with
  | none => true
  | some x => ok x && (match j with | 0 => true | i + 1 => match l[i]? with | none => true | some p => rel p x)
def rowOk {α : Type} (ok : α → Bool) (rel : α → α → Bool) (l : List α) : Bool := (List.range l.length).all (upOk ok rel l)
section
variable {α : Type} {ok : α → Bool} {rel : α → α → Bool} {l : List α}
theorem upOk_zero (h : 0 < l.length) : upOk ok rel l 0 = ok l[0] := by
  simp only [upOk, List.getElem?_eq_getElem h, Bool.and_true]
theorem upOk_pos {k : Nat} (hk : 0 < k) (h : k < l.length) : upOk ok rel l k = (ok l[k] && rel (l[k - 1]'(by omega)) l[k]) := by
  obtain ⟨i, rfl⟩ : ∃ i, k = i + 1 := ⟨k - 1, by omega⟩
  simp only [upOk, List.getElem?_eq_getElem h, List.getElem?_eq_getElem (show i < l.length by omega), Nat.add_sub_cancel]
theorem upOk_not {k : Nat} (h : k < l.length) (hn : ok l[k] = false) : upOk ok rel l k = false := by
  simp only [upOk, List.getElem?_eq_getElem h, hn, Bool.false_and]
theorem rowOk_true (h : ∀ j, j < l.length → upOk ok rel l j = true) : rowOk ok rel l = true := by
  rw [rowOk, List.all_eq_true]
  intro j hj
  exact h j (by simpa using hj)
theorem rowOk_false {k : Nat} (h : k < l.length) (hn : upOk ok rel l k = false) : rowOk ok rel l = false := by
  rw [rowOk, List.all_eq_false]
  exact ⟨k, by simpa using h, by simp [hn]⟩
theorem rowOk_at (h : rowOk ok rel l = true) {k : Nat} (hk : k < l.length) : upOk ok rel l k = true := by
  rw [rowOk, List.all_eq_true] at h
  exact h k (by simpa using hk)
theorem rowOk_ok (h : rowOk ok rel l = true) {k : Nat} (hk : k < l.length) : ok l[k] = true := by
  have := rowOk_at h hk
  simp only [upOk, List.getElem?_eq_getElem hk, Bool.and_eq_true] at this
  exact this.1
theorem rowOk_rel (h : rowOk ok rel l = true) {k : Nat} (hk : k + 1 < l.length) : rel (l[k]'(by omega)) l[k + 1] = true := by
  have := rowOk_at h hk
  rw [upOk_pos (by omega) hk, Bool.and_eq_true] at this
  simpa using this.2
theorem rowOk_mem (h : rowOk ok rel l = true) {x : α} (hx : x ∈ l) : ok x = true := by
  obtain ⟨i, hi, rfl⟩ := List.getElem_of_mem hx
  exact rowOk_ok h hi
end
theorem upTo_succ {p : Nat → Bool} {k : Nat} (h : ∀ j, j < k → p j = true) (hk : p k = true) : ∀ j, j < k + 1 → p j = true := fun j hj => by
  by_cases e : j = k
  · rw [e]; exact hk
  · exact h j (by omega)

/-! ### the order of texts -/
def ltS (a b : ByteArray) : Bool := Op.bytesLess a.toList b.toList
theorem bytesLess_total : (a b : List UInt8) → (Op.bytesLess a b || a == b) = !(Op.bytesLess b a) := by
  intro a
  induction a with
  | nil => intro b; cases b <;> simp [Op.bytesLess]
  | cons x a ih =>
    intro b
    cases b with
    | nil => simp [Op.bytesLess]
    | cons y b =>
      simp only [Op.bytesLess, List.cons_beq_cons]
      have := ih b
      rcases Nat.lt_trichotomy x.toNat y.toNat with h | h | h
      · have h1 : x < y := UInt8.lt_iff_toNat_lt.2 h
        have h2 : ¬ y < x := fun e => by have := UInt8.lt_iff_toNat_lt.1 e; omega
        have h3 : (y == x) = false := by rw [beq_eq_false_iff_ne]; intro e; subst e; omega
        simp [h1, h2, h3]
      · have e : x = y := UInt8.toNat_inj.1 h
        subst e
        have h2 : ¬ x < x := fun e => by have := UInt8.lt_iff_toNat_lt.1 e; omega
        simp [h2, this]
      · have h1 : y < x := UInt8.lt_iff_toNat_lt.2 h
        have h2 : ¬ x < y := fun e => by have := UInt8.lt_iff_toNat_lt.1 e; omega
        have h3 : (x == y) = false := by rw [beq_eq_false_iff_ne]; intro e; subst e; omega
        simp [h1, h2, h3]
theorem geS_of_lt {a b : ByteArray} (h : ltS a b = true) : (Op.bytesLess b.toList a.toList || b.toList == a.toList) = false := by
  rw [bytesLess_total]; unfold ltS at h; rw [h]; rfl
theorem geS_of_not {a b : ByteArray} (h : ltS a b = false) : (Op.bytesLess b.toList a.toList || b.toList == a.toList) = true := by
  rw [bytesLess_total]; unfold ltS at h; rw [h]; rfl
end Go.Proofs.YtjkpadfolkniaaaGreatDoor
