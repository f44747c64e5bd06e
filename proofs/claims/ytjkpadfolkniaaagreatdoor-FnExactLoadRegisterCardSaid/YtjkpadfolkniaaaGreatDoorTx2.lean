/- Points, sites, sectors that texts spell. Plain lemmas; no program. -/
import Derived.Test.YtjkpadfolkniaaaGreatDoorTx1
import Derived.Test.YtjkpadfolkniaaaGreatDoorNetA
namespace Go.Proofs.YtjkpadfolkniaaaGreatDoor
set_option linter.unusedVariables false
set_option linter.unusedSimpArgs false

def bl (s : ByteArray) : List UInt8 := s.data.toList
def ofL (l : List UInt8) : ByteArray := ⟨l.toArray⟩
theorem bl_ofL (l : List UInt8) : bl (ofL l) = l := by simp [bl, ofL]
theorem ofL_bl (s : ByteArray) : ofL (bl s) = s := by simp [bl, ofL]
theorem ofL_inj {a b : List UInt8} (h : ofL a = ofL b) : a = b := by rw [← bl_ofL a, h, bl_ofL]
theorem ofL_size (l : List UInt8) : (ofL l).size = l.length := rfl
theorem bl_len (s : ByteArray) : (bl s).length = s.size := rfl
theorem ofL_eq {l : List UInt8} {s : ByteArray} : ofL l = s ↔ l = bl s := by
  constructor
  · rintro rfl; rw [bl_ofL]
  · rintro rfl; rw [ofL_bl]

/-- the words of a text -/
def wordsB (c : UInt8) (s : ByteArray) : List ByteArray := (splitC c (bl s)).map ofL
theorem wordsB_len (c : UInt8) (s : ByteArray) : (wordsB c s).length = (bl s).count c + 1 := by rw [wordsB, List.length_map, splitC_len]
theorem map_ofL_bl (l : List ByteArray) : (l.map bl).map ofL = l := by
  rw [List.map_map]
  conv => rhs; rw [← List.map_id l]
  exact List.map_congr_left fun x _ => ofL_bl x
theorem splitB_words (c : UInt8) (k : Nat) (s : ByteArray) : Go.Lib.splitB ⟨#[c]⟩ 0 k s = (splitN c k (bl s)).map ofL := by
  rw [← splitK_eq, ← map_ofL_bl (Go.Lib.splitB ⟨#[c]⟩ 0 k s)]
  congr 1
  exact Go.Lib.splitB_data ⟨#[c]⟩ 0 k s
theorem countB_one (c : UInt8) (s : ByteArray) : Go.Lib.countB s ⟨#[c]⟩ = (bl s).count c := Go.Lib.count_one c (bl s)
theorem splitB_all_words (c : UInt8) (s : ByteArray) : Go.Lib.splitB ⟨#[c]⟩ 0 (Go.Lib.countB s ⟨#[c]⟩) s = wordsB c s := by
  rw [splitB_words, countB_one, splitN_full c _ _ (Nat.le_refl _)]; rfl
theorem splitN_min (c : UInt8) (k : Nat) (l : List UInt8) : splitN c (min (k + 1) (l.length + 1) - 1) l = splitN c k l := by
  by_cases h : k ≤ l.length
  · rw [show min (k + 1) (l.length + 1) - 1 = k by omega]
  · have := List.count_le_length (a := c) (l := l)
    rw [splitN_full c l _ (by omega), splitN_full c l k (by omega)]
theorem words_of (c : UInt8) (s : ByteArray) (ws : List (List UInt8)) (h : splitC c (bl s) = ws) : wordsB c s = ws.map ofL := by rw [wordsB, h]
theorem join_words {c : UInt8} {s : ByteArray} {ws : List (List UInt8)} (h : splitC c (bl s) = ws) : Go.Lib.join ws [c] = bl s := by rw [← h, join_splitC]

/-- a point as text -/
def pointText (p : DPoint) : List UInt8 := if pointB p then Go.Lib.itoa p.x ++ 44 :: Go.Lib.itoa p.y else []
def pointR (l : List UInt8) : Option DPoint := match readM l 2 with
  | some [x, y] => if pointB ⟨x, y⟩ then some ⟨x, y⟩ else none
  | _ => none
theorem readM_some {l : List UInt8} {k : Nat} {vs : List Int} (h : readM l k = some vs) : readL l = some vs ∧ vs.length = k := by
  unfold readM at h
  cases hr : readL l with
  | none => rw [hr] at h; cases h
  | some us =>
    rw [hr] at h
    have h' : (if us.length = k then some us else none) = some vs := h
    by_cases e : us.length = k
    · rw [if_pos e] at h'
      obtain rfl := Option.some.inj h'
      exact ⟨rfl, e⟩
    · rw [if_neg e] at h'; cases h'
theorem readM_text {l : List UInt8} {k : Nat} {vs : List Int} (h : readM l (k + 1) = some vs) : listText vs = l := by
  obtain ⟨h1, h2⟩ := readM_some h
  exact readL_text h1 (by rintro rfl; simp at h2)
theorem readM_bnd {l : List UInt8} {k : Nat} {vs : List Int} (h : readM l (k + 1) = some vs) : ∀ n ∈ vs, -1000000000000 ≤ n ∧ n ≤ 1000000000000 := by
  obtain ⟨h1, h2⟩ := readM_some h
  rw [readL_eq] at h1
  unfold readS at h1
  split at h1
  · obtain rfl := Option.some.inj h1; simp at h2
  · split at h1
    · cases h1
    · split at h1
      · cases h1
      · rename_i us hn
        split at h1
        · rename_i hb
          obtain rfl := Option.some.inj h1
          intro n hn
          have := List.all_eq_true.1 hb n hn
          unfold bnd at this
          simpa using this
        · cases h1
theorem readM_two {l : List UInt8} {vs : List Int} (h : readM l 2 = some vs) : ∃ x y, vs = [x, y] := by
  have := (readM_some h).2
  match vs, this with
  | [x, y], _ => exact ⟨x, y, rfl⟩
theorem readM_four {l : List UInt8} {vs : List Int} (h : readM l 4 = some vs) : ∃ a b c d, vs = [a, b, c, d] := by
  have := (readM_some h).2
  match vs, this with
  | [a, b, c, d], _ => exact ⟨a, b, c, d, rfl⟩
theorem listText_two (x y : Int) (h : listText [x, y] ≠ []) : listText [x, y] = Go.Lib.itoa x ++ 44 :: Go.Lib.itoa y := by
  unfold listText at h ⊢
  rw [if_neg (by simp), if_neg (by simp)] at h ⊢
  by_cases hb : [x, y].all bnd = true
  · rw [if_pos hb]; simp [Go.Lib.join_cons, Go.Lib.joinTail]
  · rw [if_neg hb] at h; exact absurd rfl h
/-- the program: a valid point's text is the text read -/
theorem pointText_of {l : List UInt8} {x y : Int} (h : readM l 2 = some [x, y]) (hv : pointB ⟨x, y⟩ = true) : pointText ⟨x, y⟩ = l := by
  have ht := readM_text h
  have hne : listText [x, y] ≠ [] := by
    rw [ht]
    rintro rfl
    have := (readM_some h).1
    rw [readL_eq] at this
    simp [readS, splitC, nums, num] at this
  rw [← ht, listText_two x y hne]
  unfold pointText
  rw [if_pos hv]
theorem readM_ne {k : Nat} : readM [] k = none := by
  unfold readM
  rw [readL_eq]
  simp [readS, splitC, nums, num]
theorem pointB_bnd {p : DPoint} (h : pointB p = true) : bnd p.x = true ∧ bnd p.y = true := by
  unfold pointB inB at h
  simp only [Bool.and_eq_true, decide_eq_true_eq] at h
  unfold bnd
  simp only [Bool.and_eq_true, decide_eq_true_eq]
  omega
/-- the reference: two numbers that a comma divides -/
def pointS (l : List UInt8) : Option DPoint := match splitC 44 l with
  | [a, b] => match num a, num b with
    | some x, some y => if pointB ⟨x, y⟩ then some ⟨x, y⟩ else none
    | _, _ => none
  | _ => none
theorem pointR_eq (l : List UInt8) : pointR l = pointS l := by
  unfold pointR pointS readM
  rw [readL_eq]
  unfold readS
  by_cases h0 : l = [45]
  · subst h0; rw [if_pos rfl]; rfl
  · rw [if_neg h0]
    by_cases h1 : 64 < (splitC 44 l).length
    · rw [if_pos h1]
      match h : splitC 44 l with
      | [] => rfl
      | [a] => rfl
      | [a, b] => rw [h] at h1; simp at h1
      | a :: b :: c :: r => rfl
    · rw [if_neg h1]
      match h : splitC 44 l with
      | [] => exact absurd h (splitC_ne _ _)
      | [a] =>
        simp only [nums]
        cases num a with
        | none => rfl
        | some v => by_cases hb : [v].all bnd = true <;> simp [hb]
      | [a, b] =>
        simp only [nums]
        cases num a with
        | none => rfl
        | some x =>
          cases num b with
          | none => rfl
          | some y =>
            by_cases hp : pointB ⟨x, y⟩ = true
            · have hb := pointB_bnd hp
              have hall : [x, y].all bnd = true := by simp [hb.1, hb.2]
              simp [hall, hp]
            · by_cases hall : [x, y].all bnd = true
              · simp only [hall, if_true]; simp [hp]
              · simp only [hall]; simp [hp]
      | a :: b :: c :: r =>
        cases hn : nums (a :: b :: c :: r) with
        | none => rfl
        | some vs =>
          have hl := nums_len hn
          by_cases hb : vs.all bnd = true
          · simp only [hb, if_true]
            rw [if_neg (by rw [hl]; simp)]
          · simp only [hb]; rfl

/-- a site -/
def siteR (s : ByteArray) : Option DSite := match splitC 32 (bl s) with
  | [a, b, n] => match pointR n with
    | some p => if siteB ⟨ofL a, ofL b, p⟩ then some ⟨ofL a, ofL b, p⟩ else none
    | none => none
  | _ => none
def siteText (x : DSite) : ByteArray := if siteB x then ofL (bl x.name ++ 32 :: (bl x.holder ++ 32 :: pointText x.place)) else ofL []
/-- a sector -/
def sectorR (s : ByteArray) : Option DSector := match splitC 32 (bl s) with
  | [a, b, c, d, e, n] => match readM n 4 with
    | some [x, y, z, u] => if sectorB ⟨ofL a, ofL b, ofL c, ofL d, ofL e, x, y, z, u⟩ then some ⟨ofL a, ofL b, ofL c, ofL d, ofL e, x, y, z, u⟩ else none
    | _ => none
  | _ => none
def sectorText (x : DSector) : ByteArray := if sectorB x then ofL (Go.Lib.join [bl x.name, bl x.site, bl x.antenna, bl x.radio, bl x.band, listText [x.azimuth, x.tilt, x.above, x.channel]] [32]) else ofL []

theorem sectorText_of {s : ByteArray} {a b c d e n : List UInt8} {x y z u : Int} (h : splitC 32 (bl s) = [a, b, c, d, e, n]) (hr : readM n 4 = some [x, y, z, u]) :
    (sectorText ⟨ofL a, ofL b, ofL c, ofL d, ofL e, x, y, z, u⟩ = s ↔ sectorB ⟨ofL a, ofL b, ofL c, ofL d, ofL e, x, y, z, u⟩ = true) := by
  unfold sectorText
  by_cases hv : sectorB ⟨ofL a, ofL b, ofL c, ofL d, ofL e, x, y, z, u⟩ = true
  · rw [if_pos hv]
    simp only [bl_ofL, hv, iff_true]
    rw [ofL_eq, readM_text hr]
    exact join_words h
  · rw [if_neg hv]
    refine ⟨fun hs => ?_, fun e => absurd e hv⟩
    rw [← hs] at h
    rw [bl_ofL] at h
    simp [splitC] at h
theorem siteText_of {s : ByteArray} {a b n : List UInt8} {p : DPoint} (h : splitC 32 (bl s) = [a, b, n]) (hr : pointR n = some p) :
    (siteText ⟨ofL a, ofL b, p⟩ = s ↔ siteB ⟨ofL a, ofL b, p⟩ = true) := by
  unfold siteText
  by_cases hv : siteB ⟨ofL a, ofL b, p⟩ = true
  · rw [if_pos hv]
    simp only [bl_ofL, hv, iff_true]
    have ht : pointText p = n := by
      unfold pointR at hr
      cases hm : readM n 2 with
      | none => rw [hm] at hr; cases hr
      | some vs =>
        obtain ⟨x, y, rfl⟩ := readM_two hm
        rw [hm] at hr
        have hr' : (if pointB ⟨x, y⟩ then some (⟨x, y⟩ : DPoint) else none) = some p := hr
        by_cases hp : pointB ⟨x, y⟩ = true
        · rw [if_pos hp] at hr'
          obtain rfl := Option.some.inj hr'
          exact pointText_of hm hp
        · rw [if_neg hp] at hr'; cases hr'
    rw [ofL_eq, ht, ← join_words h]
    simp [Go.Lib.join_cons, Go.Lib.joinTail]
  · rw [if_neg hv]
    refine ⟨fun hs => ?_, fun e => absurd e hv⟩
    rw [← hs] at h
    rw [bl_ofL] at h
    simp [splitC] at h
end Go.Proofs.YtjkpadfolkniaaaGreatDoor
