/- Contracts: numbers, lists of numbers and divided texts, read, for the program and for the reference. Conditions: bounded sizes; the library's own variables hold what they hold at the start. -/
import Derived.Test.YtjkpadfolkniaaaGreatDoorRd1
import Derived.Lib.CutLaws
import Derived.Lib.JoinLaws
namespace Go.Proofs.YtjkpadfolkniaaaGreatDoor
section
open Go.RowKit
set_option linter.unusedVariables false
set_option linter.unusedSimpArgs false

/-- the digits from a place up to another one -/
def seg (l : List UInt8) (a k : Nat) : List UInt8 := (l.take k).drop a
theorem seg_self (l : List UInt8) (a : Nat) : seg l a a = [] := by unfold seg; exact List.drop_eq_nil_of_le (List.length_take_le _ _)
theorem seg_succ (l : List UInt8) (a k : Nat) (h : k < l.length) (ha : a ≤ k) : seg l a (k + 1) = seg l a k ++ [l[k]] := by
  unfold seg
  rw [List.take_succ_eq_append_getElem h, List.drop_append_of_le_length (by rw [List.length_take]; omega)]
theorem seg_full (l : List UInt8) (a : Nat) : seg l a l.length = l.drop a := by unfold seg; rw [List.take_length]
theorem seg_len (l : List UInt8) (a k : Nat) (h : k ≤ l.length) : (seg l a k).length = k - a := by unfold seg; rw [List.length_drop, List.length_take]; omega
theorem valD_pow (d : List UInt8) (h : d.all isD = true) : valD d < 10 ^ d.length := by
  generalize hk : d.length = k
  induction k generalizing d with
  | zero => obtain rfl := List.length_eq_zero_iff.1 hk; decide
  | succ k ih =>
    rcases snoc_cases d with rfl | ⟨d', c, rfl⟩
    · simp at hk
    · rw [List.all_append, Bool.and_eq_true] at h
      have := ih d' h.1 (by simpa using hk)
      have hc := isD_iff.1 (show isD c = true by simpa using h.2)
      rw [valD_snoc, Nat.pow_succ]; omega
theorem bl_get (s : ByteArray) (k : Nat) (h : k < (bl s).length) : (bl s)[k] = s[k]'(by rw [bl_len] at h; exact h) := by simp only [bl, Array.getElem_toList]; rfl
theorem seg_succS (s : ByteArray) (a k : Nat) (h : k < s.size) (ha : a ≤ k) : seg (bl s) a (k + 1) = seg (bl s) a k ++ [s[k]] := by
  have hk : k < (bl s).length := by rw [bl_len]; exact h
  rw [seg_succ _ _ _ hk ha, bl_get s k hk]
theorem mem_dropS (s : ByteArray) (a k : Nat) (h : k < s.size) (ha : a ≤ k) : s[k] ∈ (bl s).drop a := by
  have hk : k < (bl s).length := by rw [bl_len]; exact h
  have : (bl s)[k] ∈ (bl s).drop a := List.mem_drop_iff_getElem.2 ⟨k - a, by omega, by congr 1; omega⟩
  rw [bl_get s k hk] at this
  exact this
theorem digitN_isD (c : UInt8) : digitN (c.toNat : Int) = isD c := by
  rw [Bool.eq_iff_iff, digitN_true, isD_iff]; omega
theorem bl_cons {s : ByteArray} (h : 0 < s.size) : ∃ r, bl s = s[0] :: r := by
  have hl : 0 < (bl s).length := by rw [bl_len]; exact h
  cases hb : bl s with
  | nil => rw [hb] at hl; simp at hl
  | cons c r =>
    have := bl_get s 0 hl
    simp only [hb, List.getElem_cons_zero] at this
    exact ⟨r, by rw [this]⟩
theorem numF (l : List UInt8) (h : num l = none) : numV l = 0 ∧ numB l = false := by unfold numV numB; rw [h]; exact ⟨rfl, rfl⟩
theorem numT (l : List UInt8) (v : Int) (h : num l = some v) : numV l = v ∧ numB l = true := by unfold numV numB; rw [h]; exact ⟨rfl, rfl⟩
/-- a minus sign ahead, or none -/
def signA (l : List UInt8) : Nat := if l.head? = some 45 then 1 else 0
def numA (l : List UInt8) (a : Nat) : Option Int :=
  if (l.drop a).isEmpty then none else if 18 < (l.drop a).length then none else if (l.drop a).head? = some 48 ∧ 1 < l.length then none
  else if (l.drop a).all isD then some (if a = 1 then -(valD (l.drop a) : Int) else (valD (l.drop a) : Int)) else none
theorem num_numA (l : List UInt8) (a : Nat) (ha : a = signA l) : num l = numA l a := by
  subst ha
  unfold signA numA num
  cases l with
  | nil => rfl
  | cons c r =>
    by_cases hc : c = 45
    · subst hc
      simp only [List.head?_cons, if_true, List.drop_succ_cons, List.drop_zero]
      unfold goodD
      cases r with
      | nil => simp
      | cons d r =>
        by_cases h1 : 18 < (d :: r).length
        · have e : decide ((d :: r).length ≤ 18) = false := decide_eq_false (by omega)
          simp only [e, h1]; simp
        · have e : decide ((d :: r).length ≤ 18) = true := decide_eq_true (by omega)
          by_cases h2 : d = 48
          · subst h2; simp only [e, h1]; simp
          · simp only [e, h1, h2]; simp [h2]
    · have hh : ¬ ((c :: r).head? = some 45) := by simpa using hc
      simp only [hh, hc, if_false, List.drop_zero]
      unfold goodD headOk
      by_cases h1 : 18 < (c :: r).length
      · have e : decide ((c :: r).length ≤ 18) = false := decide_eq_false (by omega)
        simp only [e, h1]; simp
      · have e : decide ((c :: r).length ≤ 18) = true := decide_eq_true (by omega)
        by_cases h2 : c = 48
        · subst h2
          cases r with
          | nil => simp only [e, h1]; simp
          | cons d r => simp only [e, h1]; simp
        · simp only [e, h1, h2]; simp [h2]

set_option maxHeartbeats 8000000 in
set_option maxRecDepth 100000 in
theorem l01Number_any (s : ByteArray) (hs : s.size ≤ 1099511627776) (w : World) :
    Calls Tryz.prog 31 #[.string s] w fun e w' => e = .returned (.tuple #[.int .i64 (numV (bl s)), .bool (numB (bl s))]) ∧ w = w' := by
  have hD : Hid (∀ n (W : World), Calls Tryz.prog 57 #[.int .u8 n] W fun e w' => e = .returned (.bool (digitN n)) ∧ W = w') := fun n W => l01Digit_any n W
  by_cases h0 : s.size = 0
  case pos =>
    obtain rfl := size_zero h0
    clear h0 hs
    go_enter Tryz.func31, Tryz.ntmps31
    go_wp2
    go_ret2
    exact ⟨rfl, rfl⟩
  have hpos : 0 < s.size := by omega
  have hi : (0 : Int) < (s.size : Int) := by omega
  obtain ⟨r, hr⟩ := bl_cons hpos
  have hlen : (bl s).length = s.size := bl_len s
  clear h0
  by_cases hm : s[0].toNat = 45
  case pos =>
    have hmi : ((s[0].toNat : Int) == 45) = true := beq_iff_eq.2 (by omega)
    have ha : 1 = signA (bl s) := by
      unfold signA; rw [hr, List.head?_cons, if_pos]
      rw [Option.some.injEq]; exact UInt8.toNat_inj.1 hm
    have hn := num_numA (bl s) 1 ha
    unfold numA at hn
    have hdl : ((bl s).drop 1).length = s.size - 1 := by rw [List.length_drop, hlen]
    clear ha hm
    by_cases h1 : s.size = 1
    case pos =>
      rw [if_pos (by rw [List.isEmpty_iff]; exact List.length_eq_zero_iff.1 (by omega))] at hn
      have hq : ((s.size : Int) == 1) = true := beq_iff_eq.2 (by omega)
      have HN := Lib.hid hn
      clear hn h1 hdl hlen hr
      obtain ⟨nv, nb⟩ := numF _ HN.out
      have HV := Lib.hid nv
      have HB := Lib.hid nb
      clear nv nb
      go_enter Tryz.func31, Tryz.ntmps31
      go_wp2
      go_ret2
      exact ⟨by rw [HV.out, HB.out]; rfl, rfl⟩
    have hq : ((s.size : Int) == 1) = false := by rw [beq_eq_false_iff_ne]; omega
    have hz1 : 1 < s.size := by omega
    have hz1i : (1 : Int) < (s.size : Int) := by omega
    rw [if_neg (by rw [List.isEmpty_iff]; intro e; rw [e] at hdl; simp at hdl; omega)] at hn
    by_cases h2 : 18 < s.size - 1
    case pos =>
      rw [if_pos (by omega)] at hn
      have hl : 18 < (s.size : Int) - 1 := by omega
      have HN := Lib.hid hn
      clear hn h2 hdl hlen hr h1
      obtain ⟨nv, nb⟩ := numF _ HN.out
      have HV := Lib.hid nv
      have HB := Lib.hid nb
      clear nv nb
      go_enter Tryz.func31, Tryz.ntmps31
      go_wp2
      go_ret2
      exact ⟨by rw [HV.out, HB.out]; rfl, rfl⟩
    rw [if_neg (by omega)] at hn
    have hl : decide (18 < (s.size : Int) - 1) = false := decide_eq_false (by omega)
    have hat : 1 < s.size := by omega
    have hg : 1 < (bl s).length := by omega
    have hd : ((bl s).drop 1).head? = some s[1] := by
      rw [List.head?_drop, List.getElem?_eq_getElem hg, bl_get s 1 hg]
      try rfl
    by_cases h3 : s[1].toNat = 48
    case pos =>
      rw [if_pos ⟨by rw [hd, Option.some.injEq]; exact UInt8.toNat_inj.1 h3, by omega⟩] at hn
      have hz : (s[1].toNat : Int) = 48 := by omega
      have HN := Lib.hid hn
      clear hn h2 h3 hdl hlen hr hd h1
      obtain ⟨nv, nb⟩ := numF _ HN.out
      have HV := Lib.hid nv
      have HB := Lib.hid nb
      clear nv nb
      go_enter Tryz.func31, Tryz.ntmps31
      go_wp2
      go_ret2
      exact ⟨by rw [HV.out, HB.out]; rfl, rfl⟩
    rw [if_neg (by rw [hd, Option.some.injEq]; rintro ⟨e1, e2⟩; exact h3 (by rw [e1]; rfl))] at hn
    have hz : ¬ (s[1].toNat : Int) = 48 := by omega
    clear h3
    have HN := Lib.hid hn
    have hsz18 : s.size ≤ 18 + 1 := by omega
    clear hn hdl hd hr
    go_enter Tryz.func31, Tryz.ntmps31
    go_wp2
    go_loop [5, 6] (fun n i => ∃ (k m : Nat), 1 ≤ k ∧ k ≤ s.size ∧ i = .int .i64 k ∧ n = .int .i64 m ∧ m = valD (seg (bl s) 1 k) ∧ (seg (bl s) 1 k).all isD = true) (fun _ i => s.size - (intOf i).toNat)
    case atStart => exact ⟨1, 0, Nat.le_refl _, by omega, rfl, rfl, by rw [seg_self]; rfl, by rw [seg_self]; rfl⟩
    case round =>
      obtain ⟨k, m, hk1, hk, rfl, rfl, hm, hall⟩ := hrel
      have HM := Lib.hid hm
      have HA := Lib.hid hall
      clear hm hall hz hmi hq hl
      (try clear hz1i)
      by_cases hlt : k < s.size
      · have hkl : k ≤ (bl s).length := by omega
        have hpw := valD_pow _ HA.out
        rw [← HM.out, seg_len _ _ _ (by omega)] at hpw
        have hpw2 : (10 : Nat) ^ (k - 1) ≤ 10 ^ 17 := Nat.pow_le_pow_right (by omega) (by omega)
        have hmb : (m : Int) < 100000000000000000 := by omega
        have hmb0 : (0 : Int) ≤ (m : Int) := by omega
        clear hpw hpw2
        have HMB := Lib.hid hmb
        have HMB0 := Lib.hid hmb0
        clear hmb hmb0
        have HS := Lib.hid (seg_succS s 1 k hlt hk1)
        clear hg hkl hlen
        by_cases hdg : digitN (s[k].toNat : Int) = true
        · have hb := digitN_true.1 hdg
          obtain ⟨hb1, hb2⟩ := hb
          have HI : Hid (isD s[k] = true) := by show _ = _; rw [← digitN_isD]; exact hdg
          go_wp2_with (go_at_call 57; refine (hD.out _ _).mono ?_; rintro e w1 ⟨rfl, rfl⟩)
          go_round
          case rel =>
            refine ⟨k + 1, 10 * m + (s[k].toNat - 48), by omega, by omega, by go_num, ?_, ?_, ?_⟩
            · have h1 := HMB.out
              have h2 := HMB0.out
              rw [IntWalk.wrap64_in (10 * (m : Int)) (by omega), IntWalk.wrap64_in _ (by omega)]
              congr 1; omega
            · rw [HS.out, valD_snoc, ← HM.out]
            · rw [HS.out, List.all_append, HA.out]; simp [HI.out]
          case measure => simp [intOf]; omega
        · have hdg' : digitN (s[k].toNat : Int) = false := Bool.eq_false_iff.2 hdg
          clear hdg
          have hno : ((bl s).drop 1).all isD = false := by
            rw [List.all_eq_false]
            exact ⟨s[k], mem_dropS s 1 k hlt hk1, by rw [← digitN_isD]; exact fun e => Bool.false_ne_true (hdg'.symm.trans e)⟩
          have hn2 := HN.out
          rw [if_neg (by rw [hno]; simp)] at hn2
          obtain ⟨nv, nb⟩ := numF _ hn2
          have HV := Lib.hid nv
          have HB := Lib.hid nb
          clear nv nb hn2 hno
          go_wp2_with (go_at_call 57; refine (hD.out _ _).mono ?_; rintro e w1 ⟨rfl, rfl⟩)
          go_ret2
          exact ⟨by rw [HV.out, HB.out]; rfl, rfl⟩
      · obtain rfl : k = s.size := by omega
        have hall := HA.out
        have hm := HM.out
        rw [← hlen, seg_full] at hall hm
        have hn2 := HN.out
        rw [if_pos hall, ← hm] at hn2
        obtain ⟨nv, nb⟩ := numT _ _ hn2
        have HV := Lib.hid nv
        have HB := Lib.hid nb
        have hmb : (m : Int) < 1000000000000000000 := by
          have := valD_pow _ hall
          rw [← hm, List.length_drop, hlen] at this
          have h2 : (10 : Nat) ^ (s.size - 1) ≤ 10 ^ 18 := Nat.pow_le_pow_right (by omega) (by omega)
          omega
        have hmb0 : (0 : Int) ≤ (m : Int) := by omega
        have HMB := Lib.hid hmb
        have HMB0 := Lib.hid hmb0
        clear nv nb hn2 hall hm hmb hmb0 hlen hg
        go_wp2
        go_ret2
        exact ⟨by rw [HV.out, HB.out, show wrap64 (-(m : Int)) = -(m : Int) from IntWalk.wrap64_in _ (by have := HMB.out; have := HMB0.out; omega)]; rfl, rfl⟩
  have hmi : ((s[0].toNat : Int) == 45) = false := by rw [beq_eq_false_iff_ne]; omega
  have ha : 0 = signA (bl s) := by
    unfold signA; rw [hr, List.head?_cons, if_neg]
    rw [Option.some.injEq]; intro e; exact hm (by rw [e]; rfl)
  have hn := num_numA (bl s) 0 ha
  unfold numA at hn
  have hdl : ((bl s).drop 0).length = s.size - 0 := by rw [List.length_drop, hlen]
  clear ha hm
  have hq : ((s.size : Int) == 0) = false := by rw [beq_eq_false_iff_ne]; omega
  rw [if_neg (by rw [List.isEmpty_iff]; intro e; rw [e] at hdl; simp at hdl; omega)] at hn
  by_cases h2 : 18 < s.size - 0
  case pos =>
    rw [if_pos (by omega)] at hn
    have hl : 18 < (s.size : Int) := by omega
    have HN := Lib.hid hn
    clear hn h2 hdl hlen hr
    obtain ⟨nv, nb⟩ := numF _ HN.out
    have HV := Lib.hid nv
    have HB := Lib.hid nb
    clear nv nb
    go_enter Tryz.func31, Tryz.ntmps31
    go_wp2
    go_ret2
    exact ⟨by rw [HV.out, HB.out]; rfl, rfl⟩
  rw [if_neg (by omega)] at hn
  have hl : decide (18 < (s.size : Int)) = false := decide_eq_false (by omega)
  have hat : 0 < s.size := by omega
  have hg : 0 < (bl s).length := by omega
  have hd : ((bl s).drop 0).head? = some s[0] := by
    rw [List.head?_drop, List.getElem?_eq_getElem hg, bl_get s 0 hg]
    try rfl
  by_cases h3 : s[0].toNat = 48 ∧ 1 < s.size
  case pos =>
    rw [if_pos ⟨by rw [hd, Option.some.injEq]; exact UInt8.toNat_inj.1 h3.1, by omega⟩] at hn
    have hz : (s[0].toNat : Int) = 48 := by omega
    have hz1i : (1 : Int) < (s.size : Int) := by omega
    have HN := Lib.hid hn
    clear hn h2 h3 hdl hlen hr hd
    obtain ⟨nv, nb⟩ := numF _ HN.out
    have HV := Lib.hid nv
    have HB := Lib.hid nb
    clear nv nb
    go_enter Tryz.func31, Tryz.ntmps31
    go_wp2
    go_ret2
    exact ⟨by rw [HV.out, HB.out]; rfl, rfl⟩
  rw [if_neg (by rw [hd, Option.some.injEq]; rintro ⟨e1, e2⟩; exact h3 ⟨by rw [e1]; rfl, by omega⟩)] at hn
  by_cases h4 : s[0].toNat = 48
  case pos =>
    have hz : (s[0].toNat : Int) = 48 := by omega
    have hz1i : (s.size : Int) ≤ 1 := by omega
    clear h3 h4
    have HN := Lib.hid hn
    have hsz18 : s.size ≤ 18 + 0 := by omega
    clear hn hdl hd hr
    go_enter Tryz.func31, Tryz.ntmps31
    go_wp2
    go_loop [5, 6] (fun n i => ∃ (k m : Nat), 0 ≤ k ∧ k ≤ s.size ∧ i = .int .i64 k ∧ n = .int .i64 m ∧ m = valD (seg (bl s) 0 k) ∧ (seg (bl s) 0 k).all isD = true) (fun _ i => s.size - (intOf i).toNat)
    case atStart => exact ⟨0, 0, Nat.le_refl _, by omega, rfl, rfl, by rw [seg_self]; rfl, by rw [seg_self]; rfl⟩
    case round =>
      obtain ⟨k, m, hk1, hk, rfl, rfl, hm, hall⟩ := hrel
      have HM := Lib.hid hm
      have HA := Lib.hid hall
      clear hm hall hz hmi hq hl
      (try clear hz1i)
      by_cases hlt : k < s.size
      · have hkl : k ≤ (bl s).length := by omega
        have hpw := valD_pow _ HA.out
        rw [← HM.out, seg_len _ _ _ (by omega)] at hpw
        have hpw2 : (10 : Nat) ^ (k - 0) ≤ 10 ^ 17 := Nat.pow_le_pow_right (by omega) (by omega)
        have hmb : (m : Int) < 100000000000000000 := by omega
        have hmb0 : (0 : Int) ≤ (m : Int) := by omega
        clear hpw hpw2
        have HMB := Lib.hid hmb
        have HMB0 := Lib.hid hmb0
        clear hmb hmb0
        have HS := Lib.hid (seg_succS s 0 k hlt hk1)
        clear hg hkl hlen
        by_cases hdg : digitN (s[k].toNat : Int) = true
        · have hb := digitN_true.1 hdg
          obtain ⟨hb1, hb2⟩ := hb
          have HI : Hid (isD s[k] = true) := by show _ = _; rw [← digitN_isD]; exact hdg
          go_wp2_with (go_at_call 57; refine (hD.out _ _).mono ?_; rintro e w1 ⟨rfl, rfl⟩)
          go_round
          case rel =>
            refine ⟨k + 1, 10 * m + (s[k].toNat - 48), by omega, by omega, by go_num, ?_, ?_, ?_⟩
            · have h1 := HMB.out
              have h2 := HMB0.out
              rw [IntWalk.wrap64_in (10 * (m : Int)) (by omega), IntWalk.wrap64_in _ (by omega)]
              congr 1; omega
            · rw [HS.out, valD_snoc, ← HM.out]
            · rw [HS.out, List.all_append, HA.out]; simp [HI.out]
          case measure => simp [intOf]; omega
        · have hdg' : digitN (s[k].toNat : Int) = false := Bool.eq_false_iff.2 hdg
          clear hdg
          have hno : ((bl s).drop 0).all isD = false := by
            rw [List.all_eq_false]
            exact ⟨s[k], mem_dropS s 0 k hlt hk1, by rw [← digitN_isD]; exact fun e => Bool.false_ne_true (hdg'.symm.trans e)⟩
          have hn2 := HN.out
          rw [if_neg (by rw [hno]; simp)] at hn2
          obtain ⟨nv, nb⟩ := numF _ hn2
          have HV := Lib.hid nv
          have HB := Lib.hid nb
          clear nv nb hn2 hno
          go_wp2_with (go_at_call 57; refine (hD.out _ _).mono ?_; rintro e w1 ⟨rfl, rfl⟩)
          go_ret2
          exact ⟨by rw [HV.out, HB.out]; rfl, rfl⟩
      · obtain rfl : k = s.size := by omega
        have hall := HA.out
        have hm := HM.out
        rw [← hlen, seg_full] at hall hm
        have hn2 := HN.out
        rw [if_pos hall, ← hm] at hn2
        obtain ⟨nv, nb⟩ := numT _ _ hn2
        have HV := Lib.hid nv
        have HB := Lib.hid nb
        have hmb : (m : Int) < 1000000000000000000 := by
          have := valD_pow _ hall
          rw [← hm, List.length_drop, hlen] at this
          have h2 : (10 : Nat) ^ (s.size - 0) ≤ 10 ^ 18 := Nat.pow_le_pow_right (by omega) (by omega)
          omega
        have hmb0 : (0 : Int) ≤ (m : Int) := by omega
        have HMB := Lib.hid hmb
        have HMB0 := Lib.hid hmb0
        clear nv nb hn2 hall hm hmb hmb0 hlen hg
        go_wp2
        go_ret2
        exact ⟨by rw [HV.out, HB.out]; rfl, rfl⟩
  have hz : ¬ (s[0].toNat : Int) = 48 := by omega
  clear h3 h4
  have HN := Lib.hid hn
  have hsz18 : s.size ≤ 18 + 0 := by omega
  clear hn hdl hd hr
  go_enter Tryz.func31, Tryz.ntmps31
  go_wp2
  go_loop [5, 6] (fun n i => ∃ (k m : Nat), 0 ≤ k ∧ k ≤ s.size ∧ i = .int .i64 k ∧ n = .int .i64 m ∧ m = valD (seg (bl s) 0 k) ∧ (seg (bl s) 0 k).all isD = true) (fun _ i => s.size - (intOf i).toNat)
  case atStart => exact ⟨0, 0, Nat.le_refl _, by omega, rfl, rfl, by rw [seg_self]; rfl, by rw [seg_self]; rfl⟩
  case round =>
    obtain ⟨k, m, hk1, hk, rfl, rfl, hm, hall⟩ := hrel
    have HM := Lib.hid hm
    have HA := Lib.hid hall
    clear hm hall hz hmi hq hl
    (try clear hz1i)
    by_cases hlt : k < s.size
    · have hkl : k ≤ (bl s).length := by omega
      have hpw := valD_pow _ HA.out
      rw [← HM.out, seg_len _ _ _ (by omega)] at hpw
      have hpw2 : (10 : Nat) ^ (k - 0) ≤ 10 ^ 17 := Nat.pow_le_pow_right (by omega) (by omega)
      have hmb : (m : Int) < 100000000000000000 := by omega
      have hmb0 : (0 : Int) ≤ (m : Int) := by omega
      clear hpw hpw2
      have HMB := Lib.hid hmb
      have HMB0 := Lib.hid hmb0
      clear hmb hmb0
      have HS := Lib.hid (seg_succS s 0 k hlt hk1)
      clear hg hkl hlen
      by_cases hdg : digitN (s[k].toNat : Int) = true
      · have hb := digitN_true.1 hdg
        obtain ⟨hb1, hb2⟩ := hb
        have HI : Hid (isD s[k] = true) := by show _ = _; rw [← digitN_isD]; exact hdg
        go_wp2_with (go_at_call 57; refine (hD.out _ _).mono ?_; rintro e w1 ⟨rfl, rfl⟩)
        go_round
        case rel =>
          refine ⟨k + 1, 10 * m + (s[k].toNat - 48), by omega, by omega, by go_num, ?_, ?_, ?_⟩
          · have h1 := HMB.out
            have h2 := HMB0.out
            rw [IntWalk.wrap64_in (10 * (m : Int)) (by omega), IntWalk.wrap64_in _ (by omega)]
            congr 1; omega
          · rw [HS.out, valD_snoc, ← HM.out]
          · rw [HS.out, List.all_append, HA.out]; simp [HI.out]
        case measure => simp [intOf]; omega
      · have hdg' : digitN (s[k].toNat : Int) = false := Bool.eq_false_iff.2 hdg
        clear hdg
        have hno : ((bl s).drop 0).all isD = false := by
          rw [List.all_eq_false]
          exact ⟨s[k], mem_dropS s 0 k hlt hk1, by rw [← digitN_isD]; exact fun e => Bool.false_ne_true (hdg'.symm.trans e)⟩
        have hn2 := HN.out
        rw [if_neg (by rw [hno]; simp)] at hn2
        obtain ⟨nv, nb⟩ := numF _ hn2
        have HV := Lib.hid nv
        have HB := Lib.hid nb
        clear nv nb hn2 hno
        go_wp2_with (go_at_call 57; refine (hD.out _ _).mono ?_; rintro e w1 ⟨rfl, rfl⟩)
        go_ret2
        exact ⟨by rw [HV.out, HB.out]; rfl, rfl⟩
    · obtain rfl : k = s.size := by omega
      have hall := HA.out
      have hm := HM.out
      rw [← hlen, seg_full] at hall hm
      have hn2 := HN.out
      rw [if_pos hall, ← hm] at hn2
      obtain ⟨nv, nb⟩ := numT _ _ hn2
      have HV := Lib.hid nv
      have HB := Lib.hid nb
      have hmb : (m : Int) < 1000000000000000000 := by
        have := valD_pow _ hall
        rw [← hm, List.length_drop, hlen] at this
        have h2 : (10 : Nat) ^ (s.size - 0) ≤ 10 ^ 18 := Nat.pow_le_pow_right (by omega) (by omega)
        omega
      have hmb0 : (0 : Int) ≤ (m : Int) := by omega
      have HMB := Lib.hid hmb
      have HMB0 := Lib.hid hmb0
      clear nv nb hn2 hall hm hmb hmb0 hlen hg
      go_wp2
      go_ret2
      exact ⟨by rw [HV.out, HB.out]; rfl, rfl⟩
end
section
open Go.RowKit
set_option linter.unusedVariables false
set_option linter.unusedSimpArgs false

theorem own_emptyS (w : World) (E : Nat) (cells : Array Value) (c : Nat) (hc : cells.size = c) (hm : c ≤ maxLen) : (w.alloc (.cells cells E)).ownsRow w.heap.size E 1 (.slice (some ⟨w.heap.size, 0, none⟩) 0 c) 0 [] :=
  ⟨rfl, Or.inr ⟨w.heap.size, c, cells, rfl, Nat.le_refl _, by show (w.heap.push _)[w.heap.size]? = _; simp, Nat.zero_le _, hm, by omega, by simp⟩⟩
theorem grow_room (w : World) (E : Nat) (cells : Array Value) (c : Nat) (hc : cells.size = c) (hm : c ≤ maxLen) : Grow (w.alloc (.cells cells E)) w.heap.size E 1 (.slice (some ⟨w.heap.size, 0, none⟩) 0 c) 0 [] [] :=
  ⟨⟨[], own_emptyS w E cells c hc hm, rfl⟩, List.nodup_nil, fun b h => by simp at h, fun g _ => by simp⟩
theorem infoStr : (Tryz.prog.info? 9).map (fun i => (i.zero, i.size, i.bytes)) = some (some (.string ⟨#[]⟩), 1, 16) := by kernel_rfl
theorem extract_seg (s : ByteArray) (f k : Nat) (hk : k ≤ s.size) : s.extract f k = ofL (seg (bl s) f k) := by
  rw [← ofL_bl (s.extract f k)]
  congr 1
  unfold seg bl
  rw [ByteArray.data_extract, Array.toList_extract]
  unfold List.extract
  rw [List.drop_take]
theorem rd_fresh (w : World) (E : Nat) (cells : Array Value) (l : List ByteArray) (c : Nat) (hc : l.length ≤ c) (hm : c ≤ maxLen) (h : ∀ (i : Nat) (hi : i < l.length), cells[i]? = some (.string l[i])) :
    Rd (w.heap.size + 1) (w.alloc (.cells cells E)) (strsT l) (.slice (some ⟨w.heap.size, 0, none⟩) l.length c) := by
  by_cases h0 : l = []
  · subst h0
    exact ⟨[], Rep_sl.2 ⟨_, 0, c, rfl, by simp, Nat.zero_le _, hm, Or.inl ⟨rfl, rfl⟩⟩, fun b hb => by simp at hb⟩
  · refine ⟨[w.heap.size], Rep_sl.2 ⟨_, l.length, c, rfl, by simp, hc, hm, Or.inr ⟨w.heap.size, 0, [], by simpa using h0, rfl, rfl, ?_⟩⟩, fun b hb => by simp at hb; omega⟩
    have e : l.map strT = (l.map Value.string).map Tr.lit := by rw [List.map_map]; rfl
    rw [e]
    refine Reps.lits _ _ _ (fun i hi => ?_)
    have hi' : i < l.length := by simpa using hi
    have := h i hi'
    have hh : (w.alloc (.cells cells E)).heap[w.heap.size]? = some (.cells cells E (0, 0)) := by show (w.heap.push _)[w.heap.size]? = _; simp
    simp only [List.getElem_map, Nat.zero_add]
    rw [cell_of_row' hh]
    exact this
theorem len_words (c : UInt8) (s : ByteArray) : (wordsB c s).length ≤ s.size + 1 := by
  rw [wordsB_len]
  have := List.count_le_length (a := c) (l := bl s)
  rw [bl_len] at this; omega
set_option maxHeartbeats 8000000 in
set_option maxRecDepth 100000 in
theorem l01Split_any (s : ByteArray) (c : UInt8) (ci : Int) (hc : ci = (c.toNat : Int)) (hs : s.size ≤ 1048576) (w : World) :
    Calls Tryz.prog 30 #[.string s, .int .u8 ci] w fun e w' => ∃ a cc, e = .returned (.slice a (wordsB c s).length cc) ∧ Below w.heap.size w w' ∧ Rd w'.heap.size w' (strsT (wordsB c s)) (.slice a (wordsB c s).length cc) := by
  have hB : Hid (Below w.heap.size w (w.alloc (.cells #[] 9))) := (Below.refl _ _).alloc (Nat.le_refl _) _
  obtain ⟨i0, hi0, hz0, hz1, hz2⟩ := info_parts infoStr
  have hci : Hid (ci = (c.toNat : Int)) := hc
  clear hc
  go_enter Tryz.func30, Tryz.ntmps30
  go_wp2
  go_loopw [5, 6, 7] (fun v fr i wr => ∃ (k f : Nat) (out : List (List UInt8)), k ≤ s.size ∧ f ≤ k ∧ out.length ≤ k ∧ i = .int .i64 k ∧ fr = .int .i64 f ∧ splitC c ((bl s).take k) = out ++ [seg (bl s) f k] ∧ Below w.heap.size w wr ∧ Grow wr w.heap.size 9 1 v out.length (out.map (fun p => strT (ofL p))) []) (fun _ _ i wr => s.size - (intOf i).toNat)
  case atStart => exact ⟨0, 0, [], Nat.zero_le _, Nat.le_refl _, Nat.zero_le _, rfl, rfl, rfl, hB.out, by simpa using grow_room w 9 #[] 0 rfl (by unfold maxLen; omega)⟩
  case round =>
    obtain ⟨k, f, out, hk, hf, ho, rfl, rfl, hsp, hb, hgr⟩ := hrel
    have HS := Lib.hid hsp
    have HB := Lib.hid hb
    have HG := Lib.hid hgr
    have zr := hb.size
    clear hb hgr hsp
    by_cases hlt : k < s.size
    · have HSN := Lib.hid (seg_succS s f k hlt hf)
      have HTK : Hid ((bl s).take (k + 1) = (bl s).take k ++ [s[k]]) := by
        have hkl : k < (bl s).length := by rw [bl_len]; exact hlt
        show _ = _
        rw [List.take_succ_eq_append_getElem hkl, bl_get s k hkl]
      by_cases hm : s[k] = c
      · have hmi : ((s[k].toNat : Int) == ci) = true := by rw [hci.out, hm]; exact beq_iff_eq.2 rfl
        have HE := Lib.hid (extract_seg s f k hk)
        have HM := Lib.hid hm
        clear hm
        go_wp2_with (at_builtin; refine wpList_append1 rfl (.tmp 20) (.tmp 25) _ rfl (w.heap.size) 9 i0 _ 1 16 Tryz.underlying36 hi0 hz0 hz1 hz2 rfl (by omega) _ _ _ [] rfl HG.out [.string (s.extract f k)] [strT (s.extract f k)] [] rfl 1 rfl (fun u hu => by simp at hu; subst hu; rfl) (RepV.lits [.string (s.extract f k)]) List.nodup_nil (fun b h => by simp at h) 0 In.nil In.nil (by simp) (by simp) (by unfold maxLen; omega) (by omega) (by omega) ?_; intro v2 w2 hgn)
        have HGN := Lib.hid hgn
        clear hgn
        go_wp2
        go_roundw
        case rel =>
          refine ⟨k + 1, k + 1, out ++ [seg (bl s) f k], by omega, Nat.le_refl _, by simp; omega, by go_num, by go_num, ?_, HB.out.trans HGN.out.below, ?_⟩
          · rw [HTK.out, splitC_snoc c _ _ _ _ HS.out, if_pos HM.out, seg_self]
          · rw [List.length_append, List.map_append]
            have := HGN.out.grow
            rw [HE.out] at this
            exact this
        case measure => simp [intOf]; omega
      · have hmi : ((s[k].toNat : Int) == ci) = false := by
          rw [hci.out, beq_eq_false_iff_ne]
          intro e
          exact hm (UInt8.toNat_inj.1 (by omega))
        have HM := Lib.hid hm
        clear hm
        go_wp2
        go_roundw
        case rel =>
          refine ⟨k + 1, f, out, by omega, by omega, by omega, by go_num, rfl, ?_, HB.out, HG.out⟩
          rw [HTK.out, splitC_snoc c _ _ _ _ HS.out, if_neg HM.out, HSN.out]
        case measure => simp [intOf]; omega
    · obtain rfl : k = s.size := by omega
      have HE := Lib.hid (extract_seg s f s.size (Nat.le_refl _))
      have HW : Hid (wordsB c s = (out ++ [seg (bl s) f s.size]).map ofL) := by
        have := HS.out
        rw [← bl_len, List.take_length] at this
        rw [bl_len] at this
        show _ = _
        unfold wordsB
        rw [this]
      go_wp2_with (at_builtin; refine wpList_append1 rfl (.tmp 29) (.tmp 33) _ rfl (w.heap.size) 9 i0 _ 1 16 Tryz.underlying36 hi0 hz0 hz1 hz2 rfl (by omega) _ _ _ [] rfl HG.out [.string (s.extract f s.size)] [strT (s.extract f s.size)] [] rfl 1 rfl (fun u hu => by simp at hu; subst hu; rfl) (RepV.lits [.string (s.extract f s.size)]) List.nodup_nil (fun b h => by simp at h) 0 In.nil In.nil (by simp) (by simp) (by unfold maxLen; omega) (by omega) (by omega) ?_; intro v2 w2 hgn)
      have HGN := Lib.hid hgn
      clear hgn
      obtain ⟨av, cv, fv, ev, ov, iv⟩ := HGN.out.grow.toOwn (lo := w.heap.size) (by omega) In.nil (by omega)
      have BW := Lib.hid (HB.out.trans HGN.out.below)
      subst ev
      clear HGN
      go_wp2
      go_ret
      rw [HW.out]
      have hr := ov.rd iv
      rw [HE.out] at hr
      refine ⟨av, cv, by simp, BW.out, ?_⟩
      have e : strsT (List.map ofL (out ++ [seg (bl s) f s.size])) = .sl 1 (out.map (fun p => strT (ofL p)) ++ [strT (ofL (seg (bl s) f s.size))]) := by
        unfold strsT; simp [List.map_map]
      rw [e]
      simpa using hr
theorem iSplit_any (s : ByteArray) (c : UInt8) (hs : s.size ≤ 1048576) (w : World) (L : LibW w) :
    Calls Tryz.prog 36 #[.string s, .string ⟨#[c]⟩] w fun e w' => ∃ a cc, e = .returned (.slice a (wordsB c s).length cc) ∧ Below w.heap.size w w' ∧ Rd w'.heap.size w' (strsT (wordsB c s)) (.slice a (wordsB c s).length cc) := by
  obtain ⟨m, hm⟩ := L.m
  refine (Tryz.strings_Split s ⟨#[c]⟩ m w (by omega) hm (Nat.le_refl 1)).mono fun e w' ⟨he, hw⟩ => ?_
  have hl : Go.Lib.countB s ⟨#[c]⟩ + 1 = (wordsB c s).length := by rw [countB_one, wordsB_len]
  have hlw := len_words c s
  subst hw
  rw [hl] at he
  refine ⟨_, _, he, (Below.refl _ _).alloc (Nat.le_refl _) _, ?_⟩
  have := rd_fresh w 9 ((Go.Lib.splitB ⟨#[c]⟩ 0 (Go.Lib.countB s ⟨#[c]⟩) s).map Value.string).toArray (wordsB c s) (wordsB c s).length (Nat.le_refl _) (by unfold maxLen; omega) (fun i hi => by
    rw [splitB_all_words]; simp [hi])
  exact this.mono (by simp)
def wordsN (c : UInt8) (s : ByteArray) : List ByteArray := (splitN c 64 (bl s)).map ofL
theorem iSplitN_any (s : ByteArray) (c : UInt8) (hs : s.size ≤ 1048576) (w : World) (L : LibW w) :
    Calls Tryz.prog 43 #[.string s, .string ⟨#[c]⟩, .int .i64 65] w fun e w' => ∃ a cc, e = .returned (.slice a (wordsN c s).length cc) ∧ Below w.heap.size w w' ∧ Rd w'.heap.size w' (strsT (wordsN c s)) (.slice a (wordsN c s).length cc) ∧ (wordsN c s).length ≤ 65 := by
  obtain ⟨m, hm⟩ := L.m
  refine (Tryz.strings_SplitN s ⟨#[c]⟩ 65 m w (by omega) hm (Nat.le_refl 1) (by omega) (by omega)).mono fun e w' ⟨he, hw⟩ => ?_
  have hk : splitN c (min 65 (s.size + 1) - 1) (bl s) = splitN c 64 (bl s) := by
    have := splitN_min c 64 (bl s)
    rw [bl_len] at this
    exact this
  have hwd : Go.Lib.splitB ⟨#[c]⟩ 0 (min 65 (s.size + 1) - 1) s = wordsN c s := by rw [splitB_words, hk]; rfl
  have hle := Go.Lib.splitB_length_le ⟨#[c]⟩ 0 (min 65 (s.size + 1) - 1) s
  rw [hwd] at he hle
  subst hw
  rw [hwd]
  refine ⟨_, _, he, (Below.refl _ _).alloc (Nat.le_refl _) _, ?_, by omega⟩
  have := rd_fresh w 9 (Go.Lib.cellsOf (wordsN c s) (min 65 (s.size + 1))) (wordsN c s) (min 65 (s.size + 1)) (by omega) (by unfold maxLen; omega) (fun i hi => by
    unfold Go.Lib.cellsOf
    rw [List.getElem?_toArray, List.getElem?_append_left (by simpa using hi)]; simp [hi])
  exact this.mono (by simp)
def ReadP (o : Option (List Int)) (w : World) (e : Ending) (w' : World) : Prop := match o with
  | some vs => ∃ a c, e = .returned (.tuple #[.slice a vs.length c, .bool true]) ∧ Below w.heap.size w w' ∧ Rd w'.heap.size w' (intsT vs) (.slice a vs.length c)
  | none => e = .returned (.tuple #[.slice none 0 0, .bool false]) ∧ Below w.heap.size w w'
theorem rd_nilI (B : Nat) (w : World) (a : Option Addr) (c : Nat) (h : c ≤ maxLen) : Rd B w (intsT []) (.slice a 0 c) := ⟨[], Rep_sl.2 ⟨a, 0, c, rfl, rfl, Nat.zero_le _, h, Or.inl ⟨rfl, rfl⟩⟩, fun b hb => by simp at hb⟩
theorem eqS_dash (s : ByteArray) : (s.toList == [45]) = decide (bl s = [45]) := by
  rw [Bool.eq_iff_iff, beq_iff_eq, decide_eq_true_eq, ByteArray.toList_eq]
  exact Iff.rfl
theorem nums_take {ps : List (List UInt8)} (k : Nat) (vs : List Int) (h : k < ps.length) (hn : nums (ps.take k) = some vs) : nums (ps.take (k + 1)) = match num ps[k] with | some v => some (vs ++ [v]) | none => none := by
  rw [List.take_succ_eq_append_getElem h]; exact nums_snoc _ _ _ hn
theorem I64_num {l : List UInt8} {v : Int} (h : num l = some v) : I64 v := by
  have := (num_some h).2
  constructor <;> omega
theorem splitN_size (c : UInt8) : ∀ (l : List UInt8) (k : Nat) (p : List UInt8), p ∈ splitN c k l → p.length ≤ l.length := by
  intro l
  induction l with
  | nil => intro k p hp; cases k <;> · simp [splitN] at hp; subst hp; simp
  | cons b l ih =>
    intro k p hp
    cases k with
    | zero => simp [splitN] at hp; subst hp; exact Nat.le_refl _
    | succ k =>
      rw [splitN] at hp
      by_cases h : b = c
      · rw [if_pos h] at hp
        rcases List.mem_cons.1 hp with rfl | hp
        · simp
        · have := ih k p hp; simp; omega
      · rw [if_neg h] at hp
        cases hs : splitN c (k + 1) l with
        | nil => exact absurd hs (splitN_ne _ _ _)
        | cons q qs =>
          rw [hs] at hp
          rcases List.mem_cons.1 hp with rfl | hp
          · have := ih (k + 1) q (by rw [hs]; simp); simp; omega
          · have := ih (k + 1) p (by rw [hs]; simp [hp]); simp; omega
theorem words_size (c : UInt8) (s : ByteArray) (p : ByteArray) (h : p ∈ wordsB c s) : p.size ≤ s.size := by
  unfold wordsB at h
  obtain ⟨q, hq, rfl⟩ := List.mem_map.1 h
  rw [← splitN_full c (bl s) _ (Nat.le_refl _)] at hq
  have := splitN_size c _ _ _ hq
  rw [ofL_size, ← bl_len]; exact this
theorem words_sizeN (c : UInt8) (s : ByteArray) (p : ByteArray) (h : p ∈ wordsN c s) : p.size ≤ s.size := by
  unfold wordsN at h
  obtain ⟨q, hq, rfl⟩ := List.mem_map.1 h
  have := splitN_size c _ _ _ hq
  rw [ofL_size, ← bl_len]; exact this
theorem nums_I64 {ps : List (List UInt8)} {l : List Int} (h : nums ps = some l) : ∀ n ∈ l, I64 n := by
  induction ps generalizing l with
  | nil => obtain rfl : l = [] := (Option.some.inj h).symm; intro n hn; cases hn
  | cons p ps ih =>
    obtain ⟨v, vs, rfl, h1, h2⟩ := nums_cons_some h
    intro n hn
    rcases List.mem_cons.1 hn with rfl | hn
    · exact I64_num h1
    · exact ih h2 n hn
theorem nums_prefix {ps : List (List UInt8)} {l : List Int} (k : Nat) (us : List Int) (h : nums ps = some l) (hk : nums (ps.take k) = some us) : us = l.take k := by
  induction ps generalizing k us l with
  | nil =>
    obtain rfl : l = [] := (Option.some.inj h).symm
    rw [List.take_nil] at hk
    rw [← Option.some.inj hk]; simp
  | cons p ps ih =>
    obtain ⟨v, vs, rfl, h1, h2⟩ := nums_cons_some h
    cases k with
    | zero => rw [← Option.some.inj hk]; rfl
    | succ k =>
      rw [List.take_succ_cons] at hk
      obtain ⟨v', vs', rfl, h1', h2'⟩ := nums_cons_some hk
      rw [ih k vs' h2 h2', Option.some.inj (h1'.symm.trans h1)]; rfl
theorem readS_bad (ps : List (List UInt8)) (k : Nat) (vs : List Int) (n : Int) (h : nums (ps.take (k + 1)) = some (vs ++ [n])) (hb : bnd n = false) :
    (match nums ps with | none => none | some us => if us.all bnd = true then some us else none) = (none : Option (List Int)) := by
  cases hn : nums ps with
  | none => rfl
  | some us =>
    refine if_neg fun hall => ?_
    have hp := nums_prefix (k + 1) _ hn h
    have : n ∈ us := List.mem_of_mem_take (by rw [← hp]; simp : n ∈ us.take (k + 1))
    have := List.all_eq_true.1 hall n this
    rw [hb] at this; cases this
end
end Go.Proofs.YtjkpadfolkniaaaGreatDoor
