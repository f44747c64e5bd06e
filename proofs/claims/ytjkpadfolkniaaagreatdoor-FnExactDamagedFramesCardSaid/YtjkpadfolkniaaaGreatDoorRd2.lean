/- Contracts: numbers, lists of numbers and divided texts, read, for the program and for the reference. Conditions: bounded sizes; the library's own variables hold what they hold at the start. -/
import Derived.Test.YtjkpadfolkniaaaGreatDoorRd1
namespace Go.Proofs.YtjkpadfolkniaaaGreatDoor
open Go.RowKit
set_option linter.unusedVariables false
set_option linter.unusedSimpArgs false

/-- the digits from a place up to another one -/
def seg (l : List UInt8) (a k : Nat) : List UInt8 := (l.take k).drop a
theorem seg_self (l : List UInt8) (a : Nat) : seg l a a = [] := by unfold seg; exact List.drop_eq_nil_of_le (List.length_take_le _ _)
theorem seg_succ (l : List UInt8) (a k : Nat) (h : k < l.length) (ha : a ≤ k) : seg l a (k + 1) = seg l a k ++ [l[k]] := by
  unfold seg
  rw [List.take_succ_eq_append_getElem h, List.drop_append_of_le_length (by rw [List.length_take]; omega)]
theorem seg_full (l : List UInt8) (a : Nat) : seg l a l.length = l.drop a := by unfold seg; rw [List.take_length]
theorem seg_len (l : List UInt8) (a k : Nat) (h : k ≤ l.length) : (seg l a k).length = k - a := by unfold seg; rw [List.length_drop, List.length_take]; omega
theorem valD_pow (d : List UInt8) (h : d.all isD = true) : valD d < 10 ^ d.length := by
  generalize hk : d.length = k
  induction k generalizing d with
  | zero => obtain rfl := List.length_eq_zero_iff.1 hk; decide
  | succ k ih =>
    rcases snoc_cases d with rfl | ⟨d', c, rfl⟩
    · simp at hk
    · rw [List.all_append, Bool.and_eq_true] at h
      have := ih d' h.1 (by simpa using hk)
      have hc := isD_iff.1 (show isD c = true by simpa using h.2)
      rw [valD_snoc, Nat.pow_succ]; omega
theorem bl_get (s : ByteArray) (k : Nat) (h : k < (bl s).length) : (bl s)[k] = s[k]'(by rw [bl_len] at h; exact h) := by simp only [bl, Array.getElem_toList]; rfl
theorem seg_succS (s : ByteArray) (a k : Nat) (h : k < s.size) (ha : a ≤ k) : seg (bl s) a (k + 1) = seg (bl s) a k ++ [s[k]] := by
  have hk : k < (bl s).length := by rw [bl_len]; exact h
  rw [seg_succ _ _ _ hk ha, bl_get s k hk]
theorem mem_dropS (s : ByteArray) (a k : Nat) (h : k < s.size) (ha : a ≤ k) : s[k] ∈ (bl s).drop a := by
  have hk : k < (bl s).length := by rw [bl_len]; exact h
  have : (bl s)[k] ∈ (bl s).drop a := List.mem_drop_iff_getElem.2 ⟨k - a, by omega, by congr 1; omega⟩
  rw [bl_get s k hk] at this
  exact this
theorem digitN_isD (c : UInt8) : digitN (c.toNat : Int) = isD c := by
  rw [Bool.eq_iff_iff, digitN_true, isD_iff]; omega
theorem bl_cons {s : ByteArray} (h : 0 < s.size) : ∃ r, bl s = s[0] :: r := by
  have hl : 0 < (bl s).length := by rw [bl_len]; exact h
  cases hb : bl s with
  | nil => rw [hb] at hl; simp at hl
  | cons c r =>
    have := bl_get s 0 hl
    simp only [hb, List.getElem_cons_zero] at this
    exact ⟨r, by rw [this]⟩
theorem numF (l : List UInt8) (h : num l = none) : numV l = 0 ∧ numB l = false := by unfold numV numB; rw [h]; exact ⟨rfl, rfl⟩
theorem numT (l : List UInt8) (v : Int) (h : num l = some v) : numV l = v ∧ numB l = true := by unfold numV numB; rw [h]; exact ⟨rfl, rfl⟩
/-- a minus sign ahead, or none -/
def signA (l : List UInt8) : Nat := if l.head? = some 45 then 1 else 0
def numA (l : List UInt8) (a : Nat) : Option Int :=
  if (l.drop a).isEmpty then none else if 18 < (l.drop a).length then none else if (l.drop a).head? = some 48 ∧ 1 < l.length then none
  else if (l.drop a).all isD then some (if a = 1 then -(valD (l.drop a) : Int) else (valD (l.drop a) : Int)) else none
theorem num_numA (l : List UInt8) (a : Nat) (ha : a = signA l) : num l = numA l a := by
  subst ha
  unfold signA numA num
  cases l with
  | nil => rfl
  | cons c r =>
    by_cases hc : c = 45
    · subst hc
      simp only [List.head?_cons, if_true, List.drop_succ_cons, List.drop_zero]
      unfold goodD
      cases r with
      | nil => simp
      | cons d r =>
        by_cases h1 : 18 < (d :: r).length
        · have e : decide ((d :: r).length ≤ 18) = false := decide_eq_false (by omega)
          simp only [e, h1]; simp
        · have e : decide ((d :: r).length ≤ 18) = true := decide_eq_true (by omega)
          by_cases h2 : d = 48
          · subst h2; simp only [e, h1]; simp
          · simp only [e, h1, h2]; simp [h2]
    · have hh : ¬ ((c :: r).head? = some 45) := by simpa using hc
      simp only [hh, hc, if_false, List.drop_zero]
      unfold goodD headOk
      by_cases h1 : 18 < (c :: r).length
      · have e : decide ((c :: r).length ≤ 18) = false := decide_eq_false (by omega)
        simp only [e, h1]; simp
      · have e : decide ((c :: r).length ≤ 18) = true := decide_eq_true (by omega)
        by_cases h2 : c = 48
        · subst h2
          cases r with
          | nil => simp only [e, h1]; simp
          | cons d r => simp only [e, h1]; simp
        · simp only [e, h1, h2]; simp [h2]

set_option maxHeartbeats 8000000 in
set_option maxRecDepth 100000 in
theorem l01Number_any (s : ByteArray) (hs : s.size ≤ 1099511627776) (w : World) :
    Calls Tryz.prog 31 #[.string s] w fun e w' => e = .returned (.tuple #[.int .i64 (numV (bl s)), .bool (numB (bl s))]) ∧ w = w' := by
  have hD : Hid (∀ n (W : World), Calls Tryz.prog 57 #[.int .u8 n] W fun e w' => e = .returned (.bool (digitN n)) ∧ W = w') := fun n W => l01Digit_any n W
  by_cases h0 : s.size = 0
  case pos =>
    obtain rfl := size_zero h0
    clear h0 hs
    go_enter Tryz.func31, Tryz.ntmps31
    go_wp2
    go_ret2
    exact ⟨rfl, rfl⟩
  have hpos : 0 < s.size := by omega
  have hi : (0 : Int) < (s.size : Int) := by omega
  obtain ⟨r, hr⟩ := bl_cons hpos
  have hlen : (bl s).length = s.size := bl_len s
  clear h0
  by_cases hm : s[0].toNat = 45
  case pos =>
    have hmi : ((s[0].toNat : Int) == 45) = true := beq_iff_eq.2 (by omega)
    have ha : 1 = signA (bl s) := by
      unfold signA; rw [hr, List.head?_cons, if_pos]
      rw [Option.some.injEq]; exact UInt8.toNat_inj.1 hm
    have hn := num_numA (bl s) 1 ha
    unfold numA at hn
    have hdl : ((bl s).drop 1).length = s.size - 1 := by rw [List.length_drop, hlen]
    clear ha hm
    by_cases h1 : s.size = 1
    case pos =>
      rw [if_pos (by rw [List.isEmpty_iff]; exact List.length_eq_zero_iff.1 (by omega))] at hn
      have hq : ((s.size : Int) == 1) = true := beq_iff_eq.2 (by omega)
      have HN := Lib.hid hn
      clear hn h1 hdl hlen hr
      obtain ⟨nv, nb⟩ := numF _ HN.out
      have HV := Lib.hid nv
      have HB := Lib.hid nb
      clear nv nb
      go_enter Tryz.func31, Tryz.ntmps31
      go_wp2
      go_ret2
      exact ⟨by rw [HV.out, HB.out]; rfl, rfl⟩
    have hq : ((s.size : Int) == 1) = false := by rw [beq_eq_false_iff_ne]; omega
    have hz1 : 1 < s.size := by omega
    have hz1i : (1 : Int) < (s.size : Int) := by omega
    rw [if_neg (by rw [List.isEmpty_iff]; intro e; rw [e] at hdl; simp at hdl; omega)] at hn
    by_cases h2 : 18 < s.size - 1
    case pos =>
      rw [if_pos (by omega)] at hn
      have hl : 18 < (s.size : Int) - 1 := by omega
      have HN := Lib.hid hn
      clear hn h2 hdl hlen hr h1
      obtain ⟨nv, nb⟩ := numF _ HN.out
      have HV := Lib.hid nv
      have HB := Lib.hid nb
      clear nv nb
      go_enter Tryz.func31, Tryz.ntmps31
      go_wp2
      go_ret2
      exact ⟨by rw [HV.out, HB.out]; rfl, rfl⟩
    rw [if_neg (by omega)] at hn
    have hl : decide (18 < (s.size : Int) - 1) = false := decide_eq_false (by omega)
    have hat : 1 < s.size := by omega
    have hg : 1 < (bl s).length := by omega
    have hd : ((bl s).drop 1).head? = some s[1] := by
      rw [List.head?_drop, List.getElem?_eq_getElem hg, bl_get s 1 hg]
      try rfl
    by_cases h3 : s[1].toNat = 48
    case pos =>
      rw [if_pos ⟨by rw [hd, Option.some.injEq]; exact UInt8.toNat_inj.1 h3, by omega⟩] at hn
      have hz : (s[1].toNat : Int) = 48 := by omega
      have HN := Lib.hid hn
      clear hn h2 h3 hdl hlen hr hd h1
      obtain ⟨nv, nb⟩ := numF _ HN.out
      have HV := Lib.hid nv
      have HB := Lib.hid nb
      clear nv nb
      go_enter Tryz.func31, Tryz.ntmps31
      go_wp2
      go_ret2
      exact ⟨by rw [HV.out, HB.out]; rfl, rfl⟩
    rw [if_neg (by rw [hd, Option.some.injEq]; rintro ⟨e1, e2⟩; exact h3 (by rw [e1]; rfl))] at hn
    have hz : ¬ (s[1].toNat : Int) = 48 := by omega
    clear h3
    have HN := Lib.hid hn
    have hsz18 : s.size ≤ 18 + 1 := by omega
    clear hn hdl hd hr
    go_enter Tryz.func31, Tryz.ntmps31
    go_wp2
    go_loop [5, 6] (fun n i => ∃ (k m : Nat), 1 ≤ k ∧ k ≤ s.size ∧ i = .int .i64 k ∧ n = .int .i64 m ∧ m = valD (seg (bl s) 1 k) ∧ (seg (bl s) 1 k).all isD = true) (fun _ i => s.size - (intOf i).toNat)
    case atStart => exact ⟨1, 0, Nat.le_refl _, by omega, rfl, rfl, by rw [seg_self]; rfl, by rw [seg_self]; rfl⟩
    case round =>
      obtain ⟨k, m, hk1, hk, rfl, rfl, hm, hall⟩ := hrel
      have HM := Lib.hid hm
      have HA := Lib.hid hall
      clear hm hall hz hmi hq hl
      (try clear hz1i)
      by_cases hlt : k < s.size
      · have hkl : k ≤ (bl s).length := by omega
        have hpw := valD_pow _ HA.out
        rw [← HM.out, seg_len _ _ _ (by omega)] at hpw
        have hpw2 : (10 : Nat) ^ (k - 1) ≤ 10 ^ 17 := Nat.pow_le_pow_right (by omega) (by omega)
        have hmb : (m : Int) < 100000000000000000 := by omega
        have hmb0 : (0 : Int) ≤ (m : Int) := by omega
        clear hpw hpw2
        have HMB := Lib.hid hmb
        have HMB0 := Lib.hid hmb0
        clear hmb hmb0
        have HS := Lib.hid (seg_succS s 1 k hlt hk1)
        clear hg hkl hlen
        by_cases hdg : digitN (s[k].toNat : Int) = true
        · have hb := digitN_true.1 hdg
          obtain ⟨hb1, hb2⟩ := hb
          have HI : Hid (isD s[k] = true) := by show _ = _; rw [← digitN_isD]; exact hdg
          go_wp2_with (go_at_call 57; refine (hD.out _ _).mono ?_; rintro e w1 ⟨rfl, rfl⟩)
          go_round
          case rel =>
            refine ⟨k + 1, 10 * m + (s[k].toNat - 48), by omega, by omega, by go_num, ?_, ?_, ?_⟩
            · have h1 := HMB.out
              have h2 := HMB0.out
              rw [IntWalk.wrap64_in (10 * (m : Int)) (by omega), IntWalk.wrap64_in _ (by omega)]
              congr 1; omega
            · rw [HS.out, valD_snoc, ← HM.out]
            · rw [HS.out, List.all_append, HA.out]; simp [HI.out]
          case measure => simp [intOf]; omega
        · have hdg' : digitN (s[k].toNat : Int) = false := Bool.eq_false_iff.2 hdg
          clear hdg
          have hno : ((bl s).drop 1).all isD = false := by
            rw [List.all_eq_false]
            exact ⟨s[k], mem_dropS s 1 k hlt hk1, by rw [← digitN_isD]; exact fun e => Bool.false_ne_true (hdg'.symm.trans e)⟩
          have hn2 := HN.out
          rw [if_neg (by rw [hno]; simp)] at hn2
          obtain ⟨nv, nb⟩ := numF _ hn2
          have HV := Lib.hid nv
          have HB := Lib.hid nb
          clear nv nb hn2 hno
          go_wp2_with (go_at_call 57; refine (hD.out _ _).mono ?_; rintro e w1 ⟨rfl, rfl⟩)
          go_ret2
          exact ⟨by rw [HV.out, HB.out]; rfl, rfl⟩
      · obtain rfl : k = s.size := by omega
        have hall := HA.out
        have hm := HM.out
        rw [← hlen, seg_full] at hall hm
        have hn2 := HN.out
        rw [if_pos hall, ← hm] at hn2
        obtain ⟨nv, nb⟩ := numT _ _ hn2
        have HV := Lib.hid nv
        have HB := Lib.hid nb
        have hmb : (m : Int) < 1000000000000000000 := by
          have := valD_pow _ hall
          rw [← hm, List.length_drop, hlen] at this
          have h2 : (10 : Nat) ^ (s.size - 1) ≤ 10 ^ 18 := Nat.pow_le_pow_right (by omega) (by omega)
          omega
        have hmb0 : (0 : Int) ≤ (m : Int) := by omega
        have HMB := Lib.hid hmb
        have HMB0 := Lib.hid hmb0
        clear nv nb hn2 hall hm hmb hmb0 hlen hg
        go_wp2
        go_ret2
        exact ⟨by rw [HV.out, HB.out, show wrap64 (-(m : Int)) = -(m : Int) from IntWalk.wrap64_in _ (by have := HMB.out; have := HMB0.out; omega)]; rfl, rfl⟩
  have hmi : ((s[0].toNat : Int) == 45) = false := by rw [beq_eq_false_iff_ne]; omega
  have ha : 0 = signA (bl s) := by
    unfold signA; rw [hr, List.head?_cons, if_neg]
    rw [Option.some.injEq]; intro e; exact hm (by rw [e]; rfl)
  have hn := num_numA (bl s) 0 ha
  unfold numA at hn
  have hdl : ((bl s).drop 0).length = s.size - 0 := by rw [List.length_drop, hlen]
  clear ha hm
  have hq : ((s.size : Int) == 0) = false := by rw [beq_eq_false_iff_ne]; omega
  rw [if_neg (by rw [List.isEmpty_iff]; intro e; rw [e] at hdl; simp at hdl; omega)] at hn
  by_cases h2 : 18 < s.size - 0
  case pos =>
    rw [if_pos (by omega)] at hn
    have hl : 18 < (s.size : Int) := by omega
    have HN := Lib.hid hn
    clear hn h2 hdl hlen hr
    obtain ⟨nv, nb⟩ := numF _ HN.out
    have HV := Lib.hid nv
    have HB := Lib.hid nb
    clear nv nb
    go_enter Tryz.func31, Tryz.ntmps31
    go_wp2
    go_ret2
    exact ⟨by rw [HV.out, HB.out]; rfl, rfl⟩
  rw [if_neg (by omega)] at hn
  have hl : decide (18 < (s.size : Int)) = false := decide_eq_false (by omega)
  have hat : 0 < s.size := by omega
  have hg : 0 < (bl s).length := by omega
  have hd : ((bl s).drop 0).head? = some s[0] := by
    rw [List.head?_drop, List.getElem?_eq_getElem hg, bl_get s 0 hg]
    try rfl
  by_cases h3 : s[0].toNat = 48 ∧ 1 < s.size
  case pos =>
    rw [if_pos ⟨by rw [hd, Option.some.injEq]; exact UInt8.toNat_inj.1 h3.1, by omega⟩] at hn
    have hz : (s[0].toNat : Int) = 48 := by omega
    have hz1i : (1 : Int) < (s.size : Int) := by omega
    have HN := Lib.hid hn
    clear hn h2 h3 hdl hlen hr hd
    obtain ⟨nv, nb⟩ := numF _ HN.out
    have HV := Lib.hid nv
    have HB := Lib.hid nb
    clear nv nb
    go_enter Tryz.func31, Tryz.ntmps31
    go_wp2
    go_ret2
    exact ⟨by rw [HV.out, HB.out]; rfl, rfl⟩
  rw [if_neg (by rw [hd, Option.some.injEq]; rintro ⟨e1, e2⟩; exact h3 ⟨by rw [e1]; rfl, by omega⟩)] at hn
  by_cases h4 : s[0].toNat = 48
  case pos =>
    have hz : (s[0].toNat : Int) = 48 := by omega
    have hz1i : (s.size : Int) ≤ 1 := by omega
    clear h3 h4
    have HN := Lib.hid hn
    have hsz18 : s.size ≤ 18 + 0 := by omega
    clear hn hdl hd hr
    go_enter Tryz.func31, Tryz.ntmps31
    go_wp2
    go_loop [5, 6] (fun n i => ∃ (k m : Nat), 0 ≤ k ∧ k ≤ s.size ∧ i = .int .i64 k ∧ n = .int .i64 m ∧ m = valD (seg (bl s) 0 k) ∧ (seg (bl s) 0 k).all isD = true) (fun _ i => s.size - (intOf i).toNat)
    case atStart => exact ⟨0, 0, Nat.le_refl _, by omega, rfl, rfl, by rw [seg_self]; rfl, by rw [seg_self]; rfl⟩
    case round =>
      obtain ⟨k, m, hk1, hk, rfl, rfl, hm, hall⟩ := hrel
      have HM := Lib.hid hm
      have HA := Lib.hid hall
      clear hm hall hz hmi hq hl
      (try clear hz1i)
      by_cases hlt : k < s.size
      · have hkl : k ≤ (bl s).length := by omega
        have hpw := valD_pow _ HA.out
        rw [← HM.out, seg_len _ _ _ (by omega)] at hpw
        have hpw2 : (10 : Nat) ^ (k - 0) ≤ 10 ^ 17 := Nat.pow_le_pow_right (by omega) (by omega)
        have hmb : (m : Int) < 100000000000000000 := by omega
        have hmb0 : (0 : Int) ≤ (m : Int) := by omega
        clear hpw hpw2
        have HMB := Lib.hid hmb
        have HMB0 := Lib.hid hmb0
        clear hmb hmb0
        have HS := Lib.hid (seg_succS s 0 k hlt hk1)
        clear hg hkl hlen
        by_cases hdg : digitN (s[k].toNat : Int) = true
        · have hb := digitN_true.1 hdg
          obtain ⟨hb1, hb2⟩ := hb
          have HI : Hid (isD s[k] = true) := by show _ = _; rw [← digitN_isD]; exact hdg
          go_wp2_with (go_at_call 57; refine (hD.out _ _).mono ?_; rintro e w1 ⟨rfl, rfl⟩)
          go_round
          case rel =>
            refine ⟨k + 1, 10 * m + (s[k].toNat - 48), by omega, by omega, by go_num, ?_, ?_, ?_⟩
            · have h1 := HMB.out
              have h2 := HMB0.out
              rw [IntWalk.wrap64_in (10 * (m : Int)) (by omega), IntWalk.wrap64_in _ (by omega)]
              congr 1; omega
            · rw [HS.out, valD_snoc, ← HM.out]
            · rw [HS.out, List.all_append, HA.out]; simp [HI.out]
          case measure => simp [intOf]; omega
        · have hdg' : digitN (s[k].toNat : Int) = false := Bool.eq_false_iff.2 hdg
          clear hdg
          have hno : ((bl s).drop 0).all isD = false := by
            rw [List.all_eq_false]
            exact ⟨s[k], mem_dropS s 0 k hlt hk1, by rw [← digitN_isD]; exact fun e => Bool.false_ne_true (hdg'.symm.trans e)⟩
          have hn2 := HN.out
          rw [if_neg (by rw [hno]; simp)] at hn2
          obtain ⟨nv, nb⟩ := numF _ hn2
          have HV := Lib.hid nv
          have HB := Lib.hid nb
          clear nv nb hn2 hno
          go_wp2_with (go_at_call 57; refine (hD.out _ _).mono ?_; rintro e w1 ⟨rfl, rfl⟩)
          go_ret2
          exact ⟨by rw [HV.out, HB.out]; rfl, rfl⟩
      · obtain rfl : k = s.size := by omega
        have hall := HA.out
        have hm := HM.out
        rw [← hlen, seg_full] at hall hm
        have hn2 := HN.out
        rw [if_pos hall, ← hm] at hn2
        obtain ⟨nv, nb⟩ := numT _ _ hn2
        have HV := Lib.hid nv
        have HB := Lib.hid nb
        have hmb : (m : Int) < 1000000000000000000 := by
          have := valD_pow _ hall
          rw [← hm, List.length_drop, hlen] at this
          have h2 : (10 : Nat) ^ (s.size - 0) ≤ 10 ^ 18 := Nat.pow_le_pow_right (by omega) (by omega)
          omega
        have hmb0 : (0 : Int) ≤ (m : Int) := by omega
        have HMB := Lib.hid hmb
        have HMB0 := Lib.hid hmb0
        clear nv nb hn2 hall hm hmb hmb0 hlen hg
        go_wp2
        go_ret2
        exact ⟨by rw [HV.out, HB.out]; rfl, rfl⟩
  have hz : ¬ (s[0].toNat : Int) = 48 := by omega
  clear h3 h4
  have HN := Lib.hid hn
  have hsz18 : s.size ≤ 18 + 0 := by omega
  clear hn hdl hd hr
  go_enter Tryz.func31, Tryz.ntmps31
  go_wp2
  go_loop [5, 6] (fun n i => ∃ (k m : Nat), 0 ≤ k ∧ k ≤ s.size ∧ i = .int .i64 k ∧ n = .int .i64 m ∧ m = valD (seg (bl s) 0 k) ∧ (seg (bl s) 0 k).all isD = true) (fun _ i => s.size - (intOf i).toNat)
  case atStart => exact ⟨0, 0, Nat.le_refl _, by omega, rfl, rfl, by rw [seg_self]; rfl, by rw [seg_self]; rfl⟩
  case round =>
    obtain ⟨k, m, hk1, hk, rfl, rfl, hm, hall⟩ := hrel
    have HM := Lib.hid hm
    have HA := Lib.hid hall
    clear hm hall hz hmi hq hl
    (try clear hz1i)
    by_cases hlt : k < s.size
    · have hkl : k ≤ (bl s).length := by omega
      have hpw := valD_pow _ HA.out
      rw [← HM.out, seg_len _ _ _ (by omega)] at hpw
      have hpw2 : (10 : Nat) ^ (k - 0) ≤ 10 ^ 17 := Nat.pow_le_pow_right (by omega) (by omega)
      have hmb : (m : Int) < 100000000000000000 := by omega
      have hmb0 : (0 : Int) ≤ (m : Int) := by omega
      clear hpw hpw2
      have HMB := Lib.hid hmb
      have HMB0 := Lib.hid hmb0
      clear hmb hmb0
      have HS := Lib.hid (seg_succS s 0 k hlt hk1)
      clear hg hkl hlen
      by_cases hdg : digitN (s[k].toNat : Int) = true
      · have hb := digitN_true.1 hdg
        obtain ⟨hb1, hb2⟩ := hb
        have HI : Hid (isD s[k] = true) := by show _ = _; rw [← digitN_isD]; exact hdg
        go_wp2_with (go_at_call 57; refine (hD.out _ _).mono ?_; rintro e w1 ⟨rfl, rfl⟩)
        go_round
        case rel =>
          refine ⟨k + 1, 10 * m + (s[k].toNat - 48), by omega, by omega, by go_num, ?_, ?_, ?_⟩
          · have h1 := HMB.out
            have h2 := HMB0.out
            rw [IntWalk.wrap64_in (10 * (m : Int)) (by omega), IntWalk.wrap64_in _ (by omega)]
            congr 1; omega
          · rw [HS.out, valD_snoc, ← HM.out]
          · rw [HS.out, List.all_append, HA.out]; simp [HI.out]
        case measure => simp [intOf]; omega
      · have hdg' : digitN (s[k].toNat : Int) = false := Bool.eq_false_iff.2 hdg
        clear hdg
        have hno : ((bl s).drop 0).all isD = false := by
          rw [List.all_eq_false]
          exact ⟨s[k], mem_dropS s 0 k hlt hk1, by rw [← digitN_isD]; exact fun e => Bool.false_ne_true (hdg'.symm.trans e)⟩
        have hn2 := HN.out
        rw [if_neg (by rw [hno]; simp)] at hn2
        obtain ⟨nv, nb⟩ := numF _ hn2
        have HV := Lib.hid nv
        have HB := Lib.hid nb
        clear nv nb hn2 hno
        go_wp2_with (go_at_call 57; refine (hD.out _ _).mono ?_; rintro e w1 ⟨rfl, rfl⟩)
        go_ret2
        exact ⟨by rw [HV.out, HB.out]; rfl, rfl⟩
    · obtain rfl : k = s.size := by omega
      have hall := HA.out
      have hm := HM.out
      rw [← hlen, seg_full] at hall hm
      have hn2 := HN.out
      rw [if_pos hall, ← hm] at hn2
      obtain ⟨nv, nb⟩ := numT _ _ hn2
      have HV := Lib.hid nv
      have HB := Lib.hid nb
      have hmb : (m : Int) < 1000000000000000000 := by
        have := valD_pow _ hall
        rw [← hm, List.length_drop, hlen] at this
        have h2 : (10 : Nat) ^ (s.size - 0) ≤ 10 ^ 18 := Nat.pow_le_pow_right (by omega) (by omega)
        omega
      have hmb0 : (0 : Int) ≤ (m : Int) := by omega
      have HMB := Lib.hid hmb
      have HMB0 := Lib.hid hmb0
      clear nv nb hn2 hall hm hmb hmb0 hlen hg
      go_wp2
      go_ret2
      exact ⟨by rw [HV.out, HB.out]; rfl, rfl⟩
end Go.Proofs.YtjkpadfolkniaaaGreatDoor
