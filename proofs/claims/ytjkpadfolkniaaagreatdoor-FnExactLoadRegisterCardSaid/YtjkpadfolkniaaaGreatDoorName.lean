/- Contracts: names, for the program and for the reference. Conditions: bounded lengths. -/
import Derived.Test.YtjkpadfolkniaaaGreatDoorSl
import Derived.WalkLawsBesides
namespace Go.Proofs.YtjkpadfolkniaaaGreatDoor
open Go.RowKit
set_option linter.unusedVariables false

def smallN (n : Int) : Bool := decide (97 ≤ n) && decide (n ≤ 122)
def digitN (n : Int) : Bool := decide (48 ≤ n) && decide (n ≤ 57)
def nameN (n : Int) : Bool := smallN n || digitN n
def bytesN (s : ByteArray) : List Int := s.data.toList.map fun c => (c.toNat : Int)
theorem bytesN_len (s : ByteArray) : (bytesN s).length = s.size := by rw [bytesN, List.length_map, Array.length_toList]; rfl
theorem toList_len (s : ByteArray) : s.toList.length = s.size := by rw [ByteArray.toList_eq, Array.length_toList]; rfl
theorem bytesN_get (s : ByteArray) (k : Nat) (h : k < s.size) : (bytesN s)[k]'(by rw [bytesN_len]; exact h) = (s[k].toNat : Int) := by
  simp only [bytesN, List.getElem_map, Array.getElem_toList]; rfl
def nameB (s : ByteArray) : Bool := decide (1 ≤ s.size) && (decide (s.size ≤ 10) && (((bytesN s).take 1).all smallN && (bytesN s).all nameN))
theorem smallN_true {n : Int} : smallN n = true ↔ 97 ≤ n ∧ n ≤ 122 := by simp [smallN]
theorem digitN_true {n : Int} : digitN n = true ↔ 48 ≤ n ∧ n ≤ 57 := by simp [digitN]
theorem nameN_true {n : Int} : nameN n = true ↔ (97 ≤ n ∧ n ≤ 122) ∨ (48 ≤ n ∧ n ≤ 57) := by simp [nameN, smallN_true, digitN_true]
theorem nameN_false {n : Int} : nameN n = false ↔ ¬ ((97 ≤ n ∧ n ≤ 122) ∨ (48 ≤ n ∧ n ≤ 57)) := by rw [← nameN_true]; simp
theorem smallN_false {n : Int} : smallN n = false ↔ ¬ (97 ≤ n ∧ n ≤ 122) := by rw [← smallN_true]; simp
theorem all_take_succ {α : Type} (p : α → Bool) (l : List α) (k : Nat) (h : k < l.length) : (l.take (k + 1)).all p = ((l.take k).all p && p l[k]) := by
  rw [List.take_succ_eq_append_getElem h, List.all_append]; simp
theorem all_false_at {α : Type} (p : α → Bool) (l : List α) (k : Nat) (h : k < l.length) (hp : p l[k] = false) : l.all p = false := by
  rw [List.all_eq_false]; exact ⟨l[k], List.getElem_mem h, by simp [hp]⟩
theorem size_zero {s : ByteArray} (h : s.size = 0) : s = ⟨#[]⟩ := by
  obtain ⟨⟨l⟩⟩ := s
  have : l.length = 0 := h
  rw [List.length_eq_zero_iff.1 this]
theorem take1 (s : ByteArray) (h : 0 < s.size) : (bytesN s).take 1 = [(s[0].toNat : Int)] := by
  have h' : 0 < (bytesN s).length := by rw [bytesN_len]; exact h
  have := List.take_succ_eq_append_getElem h'
  rw [List.take_zero, List.nil_append] at this
  rw [this, bytesN_get s 0 h]
theorem nameB_short {s : ByteArray} (h : s.size < 1) : nameB s = false := by unfold nameB; rw [decide_eq_false (by omega)]; rfl
theorem nameB_long {s : ByteArray} (h : 10 < s.size) : nameB s = false := by unfold nameB; rw [decide_eq_false (p := s.size ≤ 10) (by omega)]; simp
theorem nameB_first {s : ByteArray} (h : 0 < s.size) (hs : smallN (s[0].toNat : Int) = false) : nameB s = false := by
  unfold nameB; rw [take1 s h]; simp [hs]
theorem nameB_rest {s : ByteArray} (h : 0 < s.size) (h2 : s.size ≤ 10) (hs : smallN (s[0].toNat : Int) = true) : nameB s = (bytesN s).all nameN := by
  unfold nameB; rw [take1 s h, decide_eq_true (by omega), decide_eq_true h2]; simp [hs]

theorem onlyNameBytes_any (s : ByteArray) (w : World) (hs : s.size ≤ 1099511627776) :
    Calls Tryz.prog 88 #[.string s] w fun e w' => e = .returned (.bool ((bytesN s).all nameN)) ∧ w = w' := by
  have hnb : (s.size : Int) ≤ 1099511627776 := by omega
  go_enter Tryz.func88, Tryz.ntmps88
  go_wp2
  go_loop [7] (fun i => ∃ (k : Nat), k ≤ s.size ∧ i = .int .i64 k ∧ ((bytesN s).take k).all nameN = true) (fun i => s.size - (intOf i).toNat)
  case atStart => exact ⟨0, Nat.zero_le _, rfl, by simp⟩
  case round =>
    obtain ⟨k, hk, rfl, hno⟩ := hrel
    have HN := Lib.hid hno
    clear hno
    by_cases hlt : k < s.size
    · have hlt' : k < (bytesN s).length := by rw [bytesN_len]; exact hlt
      have hg := bytesN_get s k hlt
      have HG := Lib.hid hg
      clear hg
      by_cases hp : nameN (s[k].toNat : Int) = true
      · have hp' := nameN_true.1 hp
        have HP := Lib.hid hp
        clear hp
        rcases hp' with ⟨h1, h2⟩ | ⟨h1, h2⟩
        · go_wp2
          all_goals
            go_round
            case rel => exact ⟨k + 1, by omega, by go_num, by rw [all_take_succ _ _ k hlt', HN.out, HG.out, HP.out]; rfl⟩
            case measure => simp [intOf]; omega
        · have h3 : (s[k].toNat : Int) < 97 := by omega
          go_wp2
          all_goals
            go_round
            case rel => exact ⟨k + 1, by omega, by go_num, by rw [all_take_succ _ _ k hlt', HN.out, HG.out, HP.out]; rfl⟩
            case measure => simp [intOf]; omega
      · have hp0 : nameN (s[k].toNat : Int) = false := Bool.eq_false_iff.2 hp
        have hp' := nameN_false.1 hp0
        have HE := Lib.hid (all_false_at nameN (bytesN s) k hlt' (by rw [HG.out]; exact hp0))
        clear hp hp0
        rcases Int.lt_or_le (s[k].toNat : Int) 48 with h1 | h1
        · have h3 : (s[k].toNat : Int) < 97 := by omega
          clear hp'
          go_wp2
          go_ret
          exact ⟨by rw [HE.out]; rfl, rfl⟩
        · rcases Int.lt_or_le (s[k].toNat : Int) 97 with h2 | h2
          · have h3 : 57 < (s[k].toNat : Int) := by omega
            clear hp'
            go_wp2
            go_ret
            exact ⟨by rw [HE.out]; rfl, rfl⟩
          · have h3 : 122 < (s[k].toNat : Int) := by omega
            have h4 : 57 < (s[k].toNat : Int) := by omega
            clear hp'
            go_wp2
            go_ret
            exact ⟨by rw [HE.out]; rfl, rfl⟩
    · obtain rfl : k = s.size := by omega
      go_wp2
      go_ret
      have := HN.out
      rw [← bytesN_len, List.take_length] at this
      exact ⟨by rw [this]; rfl, rfl⟩
theorem isName_any (s : ByteArray) (w : World) (hs : s.size ≤ maxLen) :
    Calls Tryz.prog 71 #[.string s] w fun e w' => e = .returned (.bool (nameB s)) ∧ w = w' := by
  unfold maxLen at hs
  by_cases h1 : s.size < 1
  · have HE := Lib.hid (nameB_short h1)
    have h1' : (s.size : Int) < 1 := by omega
    go_enter Tryz.func71, Tryz.ntmps71
    go_wp2
    go_ret
    exact ⟨by rw [HE.out]; rfl, rfl⟩
  · by_cases h2 : 10 < s.size
    · have HE := Lib.hid (nameB_long h2)
      have h1' : 1 ≤ s.size := by omega
      clear h1
      go_enter Tryz.func71, Tryz.ntmps71
      go_wp2
      go_ret
      exact ⟨by rw [HE.out]; rfl, rfl⟩
    · have h0 : 0 < s.size := by omega
      have h1' : 1 ≤ s.size := by omega
      have h2' : s.size ≤ 10 := by omega
      clear h1 h2
      by_cases h3 : smallN (s[0].toNat : Int) = true
      · have HE := Lib.hid (nameB_rest h0 h2' h3)
        obtain ⟨h4, h5⟩ := smallN_true.1 h3
        clear h3
        go_enter Tryz.func71, Tryz.ntmps71
        go_wp2_with (go_at_call 88; refine (onlyNameBytes_any s _ (by omega)).mono ?_; rintro e w1 ⟨rfl, rfl⟩)
        go_ret
        exact ⟨by rw [HE.out]; rfl, rfl⟩
      · have h3' : smallN (s[0].toNat : Int) = false := Bool.eq_false_iff.2 h3
        have HE := Lib.hid (nameB_first h0 h3')
        have h4 := smallN_false.1 h3'
        clear h3 h3'
        rcases Int.lt_or_le (s[0].toNat : Int) 97 with h5 | h5
        · clear h4
          go_enter Tryz.func71, Tryz.ntmps71
          go_wp2
          go_ret
          exact ⟨by rw [HE.out]; rfl, rfl⟩
        · have h6 : 122 < (s[0].toNat : Int) := by omega
          clear h4
          go_enter Tryz.func71, Tryz.ntmps71
          go_wp2
          go_ret
          exact ⟨by rw [HE.out]; rfl, rfl⟩
theorem l01Small_any (n : Int) (w : World) : Calls Tryz.prog 78 #[.int .u8 n] w fun e w' => e = .returned (.bool (smallN n)) ∧ w = w' := by
  by_cases h1 : 97 ≤ n
  · have e : smallN n = decide (n ≤ 122) := by unfold smallN; simp [h1]
    rw [e]; clear e
    go_enter Tryz.func78, Tryz.ntmps78
    go_wp2
    go_ret
    exact ⟨rfl, rfl⟩
  · have e : smallN n = false := by unfold smallN; simp [h1]
    rw [e]; clear e
    go_enter Tryz.func78, Tryz.ntmps78
    go_wp2
    go_ret
    exact ⟨rfl, rfl⟩
theorem l01Digit_any (n : Int) (w : World) : Calls Tryz.prog 57 #[.int .u8 n] w fun e w' => e = .returned (.bool (digitN n)) ∧ w = w' := by
  by_cases h1 : 48 ≤ n
  · have e : digitN n = decide (n ≤ 57) := by unfold digitN; simp [h1]
    rw [e]; clear e
    go_enter Tryz.func57, Tryz.ntmps57
    go_wp2
    go_ret
    exact ⟨rfl, rfl⟩
  · have e : digitN n = false := by unfold digitN; simp [h1]
    rw [e]; clear e
    go_enter Tryz.func57, Tryz.ntmps57
    go_wp2
    go_ret
    exact ⟨rfl, rfl⟩
theorem l01Name_any (s : ByteArray) (w : World) (hs : s.size ≤ maxLen) :
    Calls Tryz.prog 61 #[.string s] w fun e w' => e = .returned (.bool (nameB s)) ∧ w = w' := by
  unfold maxLen at hs
  by_cases h1 : s.size < 1
  · have HE := Lib.hid (nameB_short h1)
    obtain rfl := size_zero (s := s) (by omega)
    clear h1
    go_enter Tryz.func61, Tryz.ntmps61
    go_wp2
    go_ret
    exact ⟨by rw [HE.out]; rfl, rfl⟩
  · have h0 : 0 < s.size := by omega
    have hemp : s.toList.isEmpty = false := by
      rw [List.isEmpty_eq_false_iff]
      intro e
      have : s.toList.length = 0 := by rw [e]; rfl
      rw [toList_len] at this
      omega
    have hemp2 : (s.toList == []) = false := by
      rw [beq_eq_false_iff_ne]
      intro e
      rw [e] at hemp
      cases hemp
    by_cases h2 : 10 < s.size
    · have HE := Lib.hid (nameB_long h2)
      clear h1
      go_enter Tryz.func61, Tryz.ntmps61
      go_wp2
      go_ret
      exact ⟨by rw [HE.out]; rfl, rfl⟩
    · have h2' : s.size ≤ 10 := by omega
      clear h1 h2
      by_cases h3 : smallN (s[0].toNat : Int) = true
      · have HE := Lib.hid (nameB_rest h0 h2' h3)
        go_enter Tryz.func61, Tryz.ntmps61
        go_wp2_with (go_at_call 78; refine (l01Small_any _ _).mono ?_; rintro e w1 ⟨rfl, rfl⟩)
        go_loop [3] (fun i => ∃ (k : Nat), k ≤ s.size ∧ i = .int .i64 k ∧ ((bytesN s).take k).all nameN = true) (fun i => s.size - (intOf i).toNat)
        case atStart => exact ⟨0, Nat.zero_le _, rfl, by simp⟩
        case round =>
          obtain ⟨k, hk, rfl, hno⟩ := hrel
          have HN := Lib.hid hno
          clear hno h3
          by_cases hlt : k < s.size
          · have hlt' : k < (bytesN s).length := by rw [bytesN_len]; exact hlt
            have HG := Lib.hid (bytesN_get s k hlt)
            by_cases hp : smallN (s[k].toNat : Int) = true
            · have HP : Hid (nameN (s[k].toNat : Int) = true) := by show nameN _ = true; unfold nameN; rw [hp]; rfl
              go_wp2_with (go_at_call 78; refine (l01Small_any _ _).mono ?_; rintro e w1 ⟨rfl, rfl⟩)
              go_round
              case rel => exact ⟨k + 1, by omega, by go_num, by rw [all_take_succ _ _ k hlt', HN.out, HG.out, HP.out]; rfl⟩
              case measure => simp [intOf]; omega
            · have hp' : smallN (s[k].toNat : Int) = false := Bool.eq_false_iff.2 hp
              clear hp
              by_cases hd : digitN (s[k].toNat : Int) = true
              · have HP : Hid (nameN (s[k].toNat : Int) = true) := by show nameN _ = true; unfold nameN; rw [hd]; simp
                go_wp2_with (first | (go_at_call 78; refine (l01Small_any _ _).mono ?_; rintro e w1 ⟨rfl, rfl⟩) | (go_at_call 57; refine (l01Digit_any _ _).mono ?_; rintro e w1 ⟨rfl, rfl⟩))
                go_round
                case rel => exact ⟨k + 1, by omega, by go_num, by rw [all_take_succ _ _ k hlt', HN.out, HG.out, HP.out]; rfl⟩
                case measure => simp [intOf]; omega
              · have hd' : digitN (s[k].toNat : Int) = false := Bool.eq_false_iff.2 hd
                clear hd
                have HE2 := Lib.hid (all_false_at nameN (bytesN s) k hlt' (by rw [HG.out]; unfold nameN; rw [hp', hd']; rfl))
                go_wp2_with (first | (go_at_call 78; refine (l01Small_any _ _).mono ?_; rintro e w1 ⟨rfl, rfl⟩) | (go_at_call 57; refine (l01Digit_any _ _).mono ?_; rintro e w1 ⟨rfl, rfl⟩))
                go_ret
                exact ⟨by rw [HE.out, HE2.out]; rfl, rfl⟩
          · obtain rfl : k = s.size := by omega
            go_wp2
            go_ret
            have := HN.out
            rw [← bytesN_len, List.take_length] at this
            exact ⟨by rw [HE.out, this]; rfl, rfl⟩
      · have h3' : smallN (s[0].toNat : Int) = false := Bool.eq_false_iff.2 h3
        have HE := Lib.hid (nameB_first h0 h3')
        clear h3
        go_enter Tryz.func61, Tryz.ntmps61
        go_wp2_with (go_at_call 78; refine (l01Small_any _ _).mono ?_; rintro e w1 ⟨rfl, rfl⟩)
        go_ret
        exact ⟨by rw [HE.out]; rfl, rfl⟩
end Go.Proofs.YtjkpadfolkniaaaGreatDoor
