/- Registers as texts: the lines of a text, the change of a line, as plain functions, in the program's way and in the reference's way. Plain lemmas. -/
import Derived.Test.YtjkpadfolkniaaaGreatDoorSr3
import Derived.Test.YtjkpadfolkniaaaGreatDoorReg0
namespace Go.Proofs.YtjkpadfolkniaaaGreatDoor
open Go.RowKit
set_option linter.unusedVariables false
set_option linter.unusedSimpArgs false

/-- cut at the last place of a byte -/
def lastCut (c : UInt8) : List UInt8 → Option (List UInt8 × List UInt8)
  | [] => none
  | b :: l => match lastCut c l with
    | some (x, y) => some (b :: x, y)
    | none => if b = c then some ([], l) else none
theorem lastCut_none {c : UInt8} {l : List UInt8} (h : c ∉ l) : lastCut c l = none := by
  induction l with
  | nil => rfl
  | cons b l ih =>
    rw [lastCut, ih (fun e => h (by simp [e])), if_neg (fun e => h (by simp [e]))]
theorem lastCut_of {c : UInt8} {x y : List UInt8} (h : c ∉ y) : lastCut c (x ++ c :: y) = some (x, y) := by
  induction x with
  | nil => rw [List.nil_append, lastCut, lastCut_none h, if_pos rfl]
  | cons b x ih => rw [List.cons_append, lastCut, ih]
theorem lastCut_some {c : UInt8} {l x y : List UInt8} (h : lastCut c l = some (x, y)) : l = x ++ c :: y ∧ c ∉ y := by
  induction l generalizing x y with
  | nil => cases h
  | cons b l ih =>
    rw [lastCut] at h
    cases hl : lastCut c l with
    | some p =>
      obtain ⟨u, v⟩ := p
      rw [hl] at h
      obtain ⟨rfl, rfl⟩ := Prod.mk.inj (Option.some.inj h)
      obtain ⟨e, hn⟩ := ih hl
      exact ⟨by rw [e]; rfl, hn⟩
    | none =>
      rw [hl] at h
      have h' : (if b = c then some (([] : List UInt8), l) else none) = some (x, y) := h
      by_cases hb : b = c
      · rw [if_pos hb] at h'
        obtain ⟨rfl, rfl⟩ := Prod.mk.inj (Option.some.inj h')
        refine ⟨by rw [hb]; rfl, fun hm => ?_⟩
        have : ∀ m : List UInt8, c ∈ m → lastCut c m ≠ none := by
          intro m
          induction m with
          | nil => intro h; cases h
          | cons d m im =>
            intro hd hn
            rw [lastCut] at hn
            cases hm2 : lastCut c m with
            | some p => rw [hm2] at hn; obtain ⟨_, _⟩ := p; cases hn
            | none =>
              rw [hm2] at hn
              rcases List.mem_cons.1 hd with e | e
              · rw [e] at hn; simp at hn
              · exact im e hm2
        exact this _ hm hl
      · rw [if_neg hb] at h'; cases h'
theorem join_splitN (c : UInt8) (k : Nat) (l : List UInt8) : Go.Lib.join (splitN c k l) [c] = l := by
  induction l generalizing k with
  | nil => cases k <;> simp [splitN, Go.Lib.join_one]
  | cons b l ih =>
    cases k with
    | zero => rw [splitN, Go.Lib.join_one]
    | succ k =>
      rw [splitN]
      by_cases h : b = c
      · subst h; rw [if_pos rfl, join_nilcons _ _ (splitN_ne _ _ _), ih]
      · rw [if_neg h, join_onto _ _ _ (splitN_ne _ _ _), ih]
theorem splitN_len (c : UInt8) (k : Nat) (l : List UInt8) : (splitN c k l).length ≤ k + 1 := by
  induction l generalizing k with
  | nil => cases k <;> simp [splitN]
  | cons b l ih =>
    cases k with
    | zero => simp [splitN]
    | succ k =>
      rw [splitN]
      by_cases h : b = c
      · rw [if_pos h, List.length_cons]; have := ih k; omega
      · rw [if_neg h, onto_len _ _ (splitN_ne _ _ _)]; exact ih (k + 1)
/-- so many parts ahead, the rest is one part -/
theorem splitN_app (c : UInt8) (x y : List UInt8) : ∀ (ws : List (List UInt8)) (k : Nat), splitC c x = ws ++ [[]] → ws.length = k → splitN c k (x ++ y) = ws ++ [y] := by
  induction x with
  | nil =>
    intro ws k h hk
    rw [splitC] at h
    have : ws = [] := by
      cases ws with
      | nil => rfl
      | cons w ws => simp at h
    subst this
    obtain rfl : k = 0 := by simpa using hk.symm
    simp [splitN]
  | cons b x ih =>
    intro ws k h hk
    rw [splitC] at h
    by_cases hb : b = c
    · rw [if_pos hb] at h
      cases ws with
      | nil =>
        simp at h
        exact absurd h (splitC_ne _ _)
      | cons w ws =>
        rw [List.cons_append] at h
        injection h with h1 h2
        obtain ⟨j, rfl⟩ : ∃ j, k = j + 1 := ⟨k - 1, by simp at hk; omega⟩
        rw [List.cons_append, splitN, if_pos hb, ih ws j h2 (by simpa using hk), ← h1]
        rfl
    · rw [if_neg hb] at h
      cases hs : splitC c x with
      | nil => exact absurd hs (splitC_ne _ _)
      | cons p ps =>
        rw [hs] at h
        cases ws with
        | nil => rw [onto, List.nil_append] at h; injection h with h1 _; cases h1
        | cons w ws =>
          rw [onto, List.cons_append] at h
          injection h with h1 h2
          obtain ⟨j, rfl⟩ : ∃ j, k = j + 1 := ⟨k - 1, by simp at hk; omega⟩
          rw [List.cons_append, splitN, if_neg hb, ih (p :: ws) (j + 1) (by rw [hs, h2]; rfl) (by simpa using hk), ← h1]
          rfl
def zChg : DChange := ⟨0, ⟨#[]⟩, ⟨#[]⟩, ⟨#[]⟩⟩
def chgOf (d : Int) (p1 t : List UInt8) (n : Nat) : DChange := ⟨d, ofL p1, ofL (t.take n), ofL (t.drop n)⟩
/-- the change of a line, and a code -/
def chgR (line : List UInt8) : DChange × Int := match lastCut 32 line with
  | none => (zChg, 10)
  | some (body, sum) => if sum = Go.Lib.itoa (crcL body 65535) then (match splitN 32 4 body with
      | [p0, p1, p2, p3, t] => match num p0, num p2, num p3 with
        | some d, some n, some m => if 0 ≤ n ∧ n + m = (t.length : Int) ∧ n ≤ (t.length : Int) ∧ changeB (chgOf d p1 t n.toNat) = true then (chgOf d p1 t n.toNat, 0) else (zChg, 9)
        | _, _, _ => (zChg, 9)
      | _ => (zChg, 9)) else (zChg, 10)
theorem itoa_no32 (n : Int) : (32 : UInt8) ∉ Go.Lib.itoa n := fun h => by
  rcases itoa_mem h with e | e
  · exact absurd e (by decide)
  · exact absurd e (by decide)
/-- the program's way: the line of the change is the line -/
theorem line_iff {line body p0 p1 p2 p3 t : List UInt8} {d n : Int} (hc : lastCut 32 line = some (body, Go.Lib.itoa (crcL body 65535))) (hp : splitN 32 4 body = [p0, p1, p2, p3, t]) (h0 : num p0 = some d) (h2 : num p2 = some n) (hn0 : 0 ≤ n) (hn1 : n ≤ (t.length : Int)) (hl : t.length ≤ 1048576) :
    (lineL (chgOf d p1 t n.toNat) = line ↔ num p3 = some ((t.length : Int) - n)) := by
  have hj := join_splitN 32 4 body
  rw [hp] at hj
  have e0 := (num_some h0).1
  have e2 := (num_some h2).1
  have hs1 : ((chgOf d p1 t n.toNat).old_.size : Int) = n := by
    show (((t.take n.toNat).length : Nat) : Int) = n
    rw [List.length_take]; omega
  have hs2 : ((chgOf d p1 t n.toNat).new_.size : Int) = (t.length : Int) - n := by
    show (((t.drop n.toNat).length : Nat) : Int) = _
    rw [List.length_drop]; omega
  have hb : bodyL (chgOf d p1 t n.toNat) = Go.Lib.join [p0, p1, p2, Go.Lib.itoa ((t.length : Int) - n), t] [32] := by
    unfold bodyL
    rw [hs1, hs2, ← e2]
    have : bl (chgOf d p1 t n.toNat).old_ ++ bl (chgOf d p1 t n.toNat).new_ = t := by
      show bl (ofL (t.take n.toNat)) ++ bl (ofL (t.drop n.toNat)) = t
      rw [bl_ofL, bl_ofL, List.take_append_drop]
    rw [this, show (chgOf d p1 t n.toNat).day = d from rfl, ← e0, show bl (chgOf d p1 t n.toNat).key = p1 from bl_ofL p1]
  have hline := (lastCut_some hc).1
  constructor
  · intro e
    have h1 : lastCut 32 (lineL (chgOf d p1 t n.toNat)) = some (bodyL (chgOf d p1 t n.toNat), Go.Lib.itoa (crcL (bodyL (chgOf d p1 t n.toNat)) 65535)) := lastCut_of (itoa_no32 _)
    rw [e, hc] at h1
    have hbe : bodyL (chgOf d p1 t n.toNat) = body := (Prod.mk.inj (Option.some.inj h1)).1.symm
    rw [hb, ← hj] at hbe
    simp only [Go.Lib.join_cons, Go.Lib.joinTail, List.map_cons, List.map_nil, List.flatten_cons, List.flatten_nil, List.append_nil, List.cons_append, List.nil_append] at hbe
    have h3 := List.append_cancel_left hbe
    injection h3 with _ h3
    have h4 := List.append_cancel_left h3
    injection h4 with _ h4
    have h5 := List.append_cancel_left h4
    injection h5 with _ h5
    have h6 : Go.Lib.itoa ((t.length : Int) - n) = p3 := by simpa using h5
    rw [← h6]
    exact num_itoa _ (by omega)
  · intro e
    have e3 := (num_some e).1
    rw [← e3] at hb
    have hbe : bodyL (chgOf d p1 t n.toNat) = body := by rw [hb, hj]
    unfold lineL
    rw [hbe, hline]
/-- the first line -/
def headR (l : List UInt8) : Option Int := match splitC 32 l with
  | [r, w] => if r = [114, 101, 103, 105, 115, 116, 101, 114] then (match num w with
      | some n => if 0 ≤ n ∧ n ≤ 48 then some n else none
      | none => none) else none
  | _ => none
theorem headR_iff (l : List UInt8) (n : Int) (h0 : 0 ≤ n) (h1 : n ≤ 48) : headL n = l ↔ headR l = some n := by
  constructor
  · rintro rfl
    have hs : splitC 32 (headL n) = [[114, 101, 103, 105, 115, 116, 101, 114], Go.Lib.itoa n] := by
      unfold headL REG
      rw [show ([114, 101, 103, 105, 115, 116, 101, 114, 32] : List UInt8) ++ Go.Lib.itoa n = [114, 101, 103, 105, 115, 116, 101, 114] ++ 32 :: Go.Lib.itoa n from rfl, splitC_app _ _ _ (by decide), splitC_plain _ _ (itoa_no32 n)]
    unfold headR
    rw [hs]
    simp only [if_true]
    rw [num_itoa n (by omega)]
    simp only
    rw [if_pos ⟨h0, h1⟩]
  · intro h
    unfold headR at h
    split at h
    · rename_i r w hs
      split at h
      · rename_i hr
        cases hn : num w with
        | none => rw [hn] at h; cases h
        | some m =>
          rw [hn] at h
          have h' : (if 0 ≤ m ∧ m ≤ 48 then some m else none) = some n := h
          split at h'
          · obtain rfl := Option.some.inj h'
            have hj := join_splitC 32 l
            rw [hs, hr, (num_some hn).1] at hj
            rw [← hj]
            simp [headL, REG, Go.Lib.join_cons, Go.Lib.joinTail]
          · cases h'
      · cases h
    · cases h
theorem headR_range {l : List UInt8} {n : Int} (h : headR l = some n) : 0 ≤ n ∧ n ≤ 48 := by
  unfold headR at h
  split at h
  · rename_i r w hs
    split at h
    · cases hn : num w with
      | none => rw [hn] at h; cases h
      | some m =>
        rw [hn] at h
        have h' : (if 0 ≤ m ∧ m ≤ 48 then some m else none) = some n := h
        split at h'
        · obtain rfl := Option.some.inj h'
          assumption
        · cases h'
    · cases h
  · cases h
/-- the lines of a text, and a code: t is the text without its last line's end -/
def linesT (t : List UInt8) : List (List UInt8) × Int := match headR ((splitC 10 t).headD []) with
  | none => ([], 9)
  | some m => if ((splitC 10 t).length : Int) - 1 < m then ([], 11) else if m < ((splitC 10 t).length : Int) - 1 then ([], 9) else ((splitC 10 t).tail, 0)
def linesR (s : List UInt8) : List (List UInt8) × Int := if s.getLast? = some 10 then linesT s.dropLast else ([], 11)
theorem splitC_end (c : UInt8) (t : List UInt8) : splitC c (t ++ [c]) = splitC c t ++ [[]] := by
  induction t with
  | nil => simp [splitC]
  | cons b t ih =>
    rw [List.cons_append, splitC, splitC]
    by_cases h : b = c
    · rw [if_pos h, if_pos h, ih]; rfl
    · rw [if_neg h, if_neg h, ih]
      cases hs : splitC c t with
      | nil => exact absurd hs (splitC_ne _ _)
      | cons p ps => rfl
theorem splitC_last (c : UInt8) (l : List UInt8) (ps : List (List UInt8)) (h : splitC c l = ps ++ [[]]) (hp : ps ≠ []) : ∃ t, l = t ++ [c] := by
  have hj := join_splitC c l
  rw [h] at hj
  have : ∀ (qs : List (List UInt8)), qs ≠ [] → ∃ t, Go.Lib.join (qs ++ [[]]) [c] = t ++ [c] := by
    intro qs
    induction qs with
    | nil => intro h; exact absurd rfl h
    | cons q qs ih =>
      intro _
      cases qs with
      | nil => exact ⟨q, by simp [Go.Lib.join_cons, Go.Lib.joinTail]⟩
      | cons r rs =>
        obtain ⟨t, ht⟩ := ih (by simp)
        refine ⟨q ++ c :: t, ?_⟩
        simp only [List.cons_append, Go.Lib.join_cons, Go.Lib.joinTail, List.map_cons, List.flatten_cons, List.append_assoc, List.nil_append] at ht ⊢
        rw [ht]
  obtain ⟨t, ht⟩ := this ps hp
  exact ⟨t, by rw [← hj, ht]⟩
end Go.Proofs.YtjkpadfolkniaaaGreatDoor
