/- Requests and samples that texts spell. Plain lemmas; no program. -/
import Derived.Test.YtjgolknofmnppaaDoorTx2
import Derived.Test.YtjgolknofmnppaaDoorPlReq
import Derived.Lib.IndexMore
namespace Go.Proofs.YtjgolknofmnppaaDoor
set_option linter.unusedVariables false
set_option linter.unusedSimpArgs false

/-- what each of some parts spells -/
def optAll {α : Type} (f : List UInt8 → Option α) : List (List UInt8) → Option (List α)
  | [] => some []
  | p :: ps => match f p, optAll f ps with
    | some v, some vs => some (v :: vs)
    | _, _ => none
theorem optAll_cons {α : Type} {f : List UInt8 → Option α} {p : List UInt8} {ps : List (List UInt8)} {l : List α} (h : optAll f (p :: ps) = some l) : ∃ v vs, l = v :: vs ∧ f p = some v ∧ optAll f ps = some vs := by
  rw [optAll] at h
  cases h1 : f p with
  | none => rw [h1] at h; cases h
  | some v =>
    cases h2 : optAll f ps with
    | none => rw [h1, h2] at h; cases h
    | some vs => rw [h1, h2] at h; exact ⟨v, vs, (Option.some.inj h).symm, rfl, rfl⟩
theorem optAll_snoc {α : Type} {f : List UInt8 → Option α} (ps : List (List UInt8)) (p : List UInt8) (l : List α) (h : optAll f ps = some l) : optAll f (ps ++ [p]) = match f p with | some v => some (l ++ [v]) | none => none := by
  induction ps generalizing l with
  | nil =>
    obtain rfl : l = [] := (Option.some.inj h).symm
    rw [List.nil_append, optAll, optAll]
    cases f p <;> rfl
  | cons q ps ih =>
    obtain ⟨v, vs, rfl, h1, h2⟩ := optAll_cons h
    rw [List.cons_append, optAll, ih vs h2, h1]
    cases f p <;> rfl
theorem optAll_none {α : Type} {f : List UInt8 → Option α} {ps : List (List UInt8)} (p : List UInt8) (hp : p ∈ ps) (h : f p = none) : optAll f ps = none := by
  induction ps with
  | nil => cases hp
  | cons q ps ih =>
    rcases List.mem_cons.1 hp with rfl | hp
    · rw [optAll, h]
    · rw [optAll, ih hp]; cases f q <;> rfl
theorem optAll_len {α : Type} {f : List UInt8 → Option α} {ps : List (List UInt8)} {l : List α} (h : optAll f ps = some l) : l.length = ps.length := by
  induction ps generalizing l with
  | nil => obtain rfl : l = [] := (Option.some.inj h).symm; rfl
  | cons p ps ih =>
    obtain ⟨v, vs, rfl, _, h2⟩ := optAll_cons h
    rw [List.length_cons, List.length_cons, ih h2]
theorem optAll_map {α : Type} {f : List UInt8 → Option α} {t : α → List UInt8} (ht : ∀ p v, f p = some v → t v = p) {ps : List (List UInt8)} {l : List α} (h : optAll f ps = some l) : l.map t = ps := by
  induction ps generalizing l with
  | nil => obtain rfl : l = [] := (Option.some.inj h).symm; rfl
  | cons p ps ih =>
    obtain ⟨v, vs, rfl, h1, h2⟩ := optAll_cons h
    rw [List.map_cons, ih h2, ht p v h1]
theorem nums_optAll (ps : List (List UInt8)) : nums ps = optAll num ps := by
  induction ps with
  | nil => rfl
  | cons p ps ih => rw [nums, optAll, ih]; cases num p <;> cases optAll num ps <;> rfl

/-- cut at the first such byte -/
theorem cut_split (c : UInt8) (l : List UInt8) : ∃ a r, splitC c l = a :: r ∧ (Go.Lib.cut l [c]).1 = a ∧ (Go.Lib.cut l [c]).2.1 = Go.Lib.join r [c] := by
  induction l with
  | nil => exact ⟨[], [], rfl, rfl, rfl⟩
  | cons b l ih =>
    obtain ⟨a, r, hs, h1, h2⟩ := ih
    unfold Go.Lib.cut at h1 h2 ⊢
    rw [index_cons_one, splitC]
    by_cases h : b = c
    · subst h
      simp only [if_true]
      exact ⟨[], splitC b l, rfl, by simp, by simp [join_splitC]⟩
    · simp only [h, if_false]
      rw [hs]
      have hge := Go.Lib.index_ge l [c]
      by_cases hm : Go.Lib.index l [c] = -1
      · simp only [hm] at h1 h2 ⊢
        simp at h1 h2 ⊢
        exact ⟨b :: a, r, rfl, by rw [h1], h2⟩
      · obtain ⟨j, hj⟩ : ∃ j : Nat, Go.Lib.index l [c] = j := ⟨(Go.Lib.index l [c]).toNat, by omega⟩
        simp only [hj] at h1 h2 ⊢
        have e1 : ¬ ((j : Int) = -1) := by omega
        have e2 : (0 : Int) ≤ (j : Int) + 1 := by omega
        have e3 : ((j : Int) + 1).toNat = j + 1 := by omega
        have e4 : (0 : Int) ≤ (j : Int) := by omega
        simp only [e1, e2, e3, e4, if_true, if_false, Int.toNat_natCast] at h1 h2 ⊢
        refine ⟨b :: a, r, rfl, by simp [h1], ?_⟩
        rw [← h2]
        simp [Nat.add_right_comm]

/-- a sample: a distance and a level -/
def smpB (x : DSample) : Bool := inB x.distance 1 283000 && inB x.level (-300000) 300000
def smpsB (l : List DSample) : Bool := decide (l.length ≤ 64) && l.all smpB
def smpText (x : DSample) : List UInt8 := Go.Lib.itoa x.distance ++ 58 :: Go.Lib.itoa x.level
def smpsText (l : List DSample) : List UInt8 := if smpsB l then (if l = [] then [110, 111, 110, 101] else Go.Lib.join (l.map smpText) [32]) else []
/-- the program's way -/
def smpI (l : List UInt8) : Option DSample := match num (Go.Lib.cut l [58]).1, num (Go.Lib.cut l [58]).2.1 with
  | some d, some v => some ⟨d, v⟩
  | _, _ => none
/-- the reference's way -/
def smpS (l : List UInt8) : Option DSample := match splitC 58 l with
  | [a, b] => match num a, num b with
    | some d, some v => some ⟨d, v⟩
    | _, _ => none
  | _ => none
theorem num_nil : num [] = none := rfl
theorem join_mem {c : UInt8} {a b : List UInt8} {r : List (List UInt8)} : c ∈ Go.Lib.join (a :: b :: r) [c] := by
  rw [Go.Lib.join_cons]; simp [Go.Lib.joinTail]
theorem smpI_eq (l : List UInt8) : smpI l = smpS l := by
  obtain ⟨a, r, hs, h1, h2⟩ := cut_split 58 l
  unfold smpI smpS
  rw [h1, h2, hs]
  match r with
  | [] =>
    rw [Go.Lib.join_nil, num_nil]
    cases num a <;> rfl
  | [b] => rw [Go.Lib.join_one]
  | b :: b' :: r =>
    rw [num_ne (c := 58) (by decide) (by decide) join_mem]
    cases num a <;> rfl
theorem smpS_text (p : List UInt8) (v : DSample) (h : smpS p = some v) : smpText v = p := by
  unfold smpS at h
  match hs : splitC 58 p with
  | [] => rw [hs] at h; cases h
  | [a] => rw [hs] at h; cases h
  | a :: b :: c :: r => rw [hs] at h; cases h
  | [a, b] =>
    rw [hs] at h
    cases h1 : num a with
    | none => simp only [h1] at h; cases h
    | some d =>
      cases h2 : num b with
      | none => simp only [h1, h2] at h; cases h
      | some w =>
        simp only [h1, h2] at h
        obtain rfl := Option.some.inj h
        unfold smpText
        rw [← (num_some h1).1, ← (num_some h2).1, ← join_splitC 58 p, hs]
        simp [Go.Lib.join_cons, Go.Lib.joinTail]
theorem smpS_ne {p : List UInt8} (h : 32 ∈ p) : smpS p = none := by
  cases hs : smpS p with
  | none => rfl
  | some v =>
    exfalso
    have := smpS_text p v hs
    rw [← this] at h
    unfold smpText at h
    rcases List.mem_append.1 h with h | h
    · rcases itoa_mem h with e | e
      · exact absurd e (by decide)
      · exact absurd e (by decide)
    · rcases List.mem_cons.1 h with e | h
      · exact absurd e (by decide)
      · rcases itoa_mem h with e | e
        · exact absurd e (by decide)
        · exact absurd e (by decide)
def NONE : List UInt8 := [110, 111, 110, 101]
def samplesR (l : List UInt8) : Option (List DSample) := if l = NONE then some [] else match optAll smpI (splitN 32 64 l) with
  | none => none
  | some vs => if smpsText vs = l then some vs else none
def samplesS (l : List UInt8) : Option (List DSample) := if l = NONE then some [] else if 64 < (splitC 32 l).length then none else match optAll smpS (splitC 32 l) with
  | none => none
  | some vs => if smpsB vs then some vs else none
theorem samplesR_eq (l : List UInt8) : samplesR l = samplesS l := by
  have ei : smpI = smpS := funext smpI_eq
  unfold samplesR samplesS
  rw [ei]
  by_cases h0 : l = NONE
  · rw [if_pos h0, if_pos h0]
  · rw [if_neg h0, if_neg h0]
    have hlen := splitC_len 32 l
    by_cases h1 : 64 < (splitC 32 l).length
    · rw [if_pos h1]
      by_cases h2 : 64 < l.count 32
      · obtain ⟨p, hp, hc⟩ := splitN_over 32 l 64 h2
        rw [optAll_none p hp (smpS_ne hc)]
      · rw [splitN_full 32 l 64 (by omega)]
        cases hn : optAll smpS (splitC 32 l) with
        | none => rfl
        | some vs =>
          have hv := optAll_len hn
          have ht : smpsText vs = [] := by
            unfold smpsText smpsB
            rw [decide_eq_false (by omega)]; rfl
          show (if smpsText vs = l then some vs else none) = none
          rw [ht, if_neg]
          rintro rfl
          simp at hlen; omega
    · rw [if_neg h1, splitN_full 32 l 64 (by omega)]
      cases hn : optAll smpS (splitC 32 l) with
      | none => rfl
      | some vs =>
        have hv := optAll_len hn
        have hi := optAll_map smpS_text hn
        have hne : vs ≠ [] := by
          rintro rfl
          simp at hv; omega
        show (if smpsText vs = l then some vs else none) = (if smpsB vs then some vs else none)
        unfold smpsText
        by_cases hb : smpsB vs = true
        · rw [if_pos hb, if_pos hb, if_neg hne, hi, join_splitC, if_pos rfl]
        · rw [if_neg hb, if_neg hb, if_neg]
          rintro rfl
          simp [splitC, optAll, smpS, num] at hn

/-- the names of states -/
def stateText (k : Int) : List UInt8 := if k = 1 then [111, 112, 101, 110] else if k = 2 then [97, 103, 114, 101, 101, 100] else if k = 3 then [114, 101, 102, 117, 115, 101, 100] else if k = 4 then [119, 105, 116, 104, 100, 114, 97, 119, 110] else if k = 5 then [108, 97, 112, 115, 101, 100] else []
def stateOf (l : List UInt8) : Int := if l = [111, 112, 101, 110] then 1 else if l = [97, 103, 114, 101, 101, 100] then 2 else if l = [114, 101, 102, 117, 115, 101, 100] then 3 else if l = [119, 105, 116, 104, 100, 114, 97, 119, 110] then 4 else if l = [108, 97, 112, 115, 101, 100] then 5 else 0
theorem stateText_of {l : List UInt8} (h : stateOf l ≠ 0) : stateText (stateOf l) = l := by
  unfold stateOf at h ⊢
  split <;> rename_i h1
  · rw [h1]; rfl
  · rw [if_neg h1] at h
    split <;> rename_i h2
    · rw [h2]; rfl
    · rw [if_neg h2] at h
      split <;> rename_i h3
      · rw [h3]; rfl
      · rw [if_neg h3] at h
        split <;> rename_i h4
        · rw [h4]; rfl
        · rw [if_neg h4] at h
          split <;> rename_i h5
          · rw [h5]; rfl
          · rw [if_neg h5] at h; exact absurd rfl h
def reqR (s : ByteArray) : Option DRequest := match splitC 32 (bl s) with
  | [a, b, c, n, t] => match readM n 4 with
    | some [x, y, z, u] => if reqB ⟨ofL a, ofL b, ofL c, x, y, z, u, stateOf t⟩ then some ⟨ofL a, ofL b, ofL c, x, y, z, u, stateOf t⟩ else none
    | _ => none
  | _ => none
def reqText (x : DRequest) : ByteArray := if reqB x then ofL (Go.Lib.join [bl x.id, bl x.applicant, bl x.partner, listText [x.low, x.high, x.filed, x.deadline], stateText x.state] [32]) else ofL []
theorem reqText_of {s : ByteArray} {a b c n t : List UInt8} {x y z u : Int} (h : splitC 32 (bl s) = [a, b, c, n, t]) (hr : readM n 4 = some [x, y, z, u]) (hs : stateOf t ≠ 0) :
    (reqText ⟨ofL a, ofL b, ofL c, x, y, z, u, stateOf t⟩ = s ↔ reqB ⟨ofL a, ofL b, ofL c, x, y, z, u, stateOf t⟩ = true) := by
  unfold reqText
  by_cases hv : reqB ⟨ofL a, ofL b, ofL c, x, y, z, u, stateOf t⟩ = true
  · rw [if_pos hv]
    simp only [bl_ofL, hv, iff_true]
    rw [ofL_eq, readM_text hr, stateText_of hs]
    exact join_words h
  · rw [if_neg hv]
    refine ⟨fun hs => ?_, fun e => absurd e hv⟩
    rw [← hs] at h
    rw [bl_ofL] at h
    simp [splitC] at h
end Go.Proofs.YtjgolknofmnppaaDoor
