/- Contracts: a line without its check value, for the reference; cuts at the last place. Conditions: bounded sizes. -/
import Derived.Test.YtjkpadfolkniaaaGreatDoorLr2
namespace Go.Proofs.YtjkpadfolkniaaaGreatDoor
open Go.RowKit
set_option linter.unusedVariables false
set_option linter.unusedSimpArgs false

theorem mem_bl {s : ByteArray} {c : UInt8} (h : c ∈ bl s) : ∃ (i : Nat) (hi : i < s.size), s[i] = c := by
  obtain ⟨i, hi, e⟩ := List.mem_iff_getElem.1 h
  have hi' : i < s.size := by rw [← bl_len]; exact hi
  exact ⟨i, hi', by rw [← e, bl_get s i hi]⟩
theorem cut_no {s : ByteArray} (hn : ∀ (i : Nat) (hi : i < s.size), s[i] ≠ 32) : lastCut 32 (bl s) = none := lastCut_none fun h => by
  obtain ⟨i, hi, e⟩ := mem_bl h
  exact hn i hi e
theorem cut_at {s : ByteArray} (j : Nat) (hj : j < s.size) (hc : s[j] = 32) (hn : ∀ (i : Nat) (hi : i < s.size), j < i → s[i] ≠ 32) : lastCut 32 (bl s) = some ((bl s).take j, (bl s).drop (j + 1)) := by
  have hjl : j < (bl s).length := by rw [bl_len]; exact hj
  have hb : (bl s)[j] = 32 := by rw [bl_get s j hjl]; exact hc
  have hl : bl s = (bl s).take j ++ 32 :: (bl s).drop (j + 1) := by
    conv => lhs; rw [← List.take_append_drop j (bl s), List.drop_eq_getElem_cons hjl, hb]
  conv => lhs; rw [hl]
  refine lastCut_of fun h => ?_
  obtain ⟨i, hi, e⟩ := List.mem_iff_getElem.1 h
  rw [List.length_drop, bl_len] at hi
  rw [List.getElem_drop, bl_get] at e
  exact hn (j + 1 + i) (by omega) (by omega) e
theorem bl_extract (s : ByteArray) (f k : Nat) (hk : k ≤ s.size) : bl (s.extract f k) = seg (bl s) f k := by rw [extract_seg s f k hk, bl_ofL]
theorem seg_take (l : List UInt8) (k : Nat) : seg l 0 k = l.take k := by unfold seg; rfl
theorem seg_drop (l : List UInt8) (k n : Nat) (h : l.length ≤ n) : seg l k n = l.drop k := by unfold seg; rw [List.take_of_length_le h]
/-- a line without its check value, and a code -/
def bodyR (l : List UInt8) : List UInt8 × Int := match lastCut 32 l with
  | none => ([], 10)
  | some (body, sum) => if sum = Go.Lib.itoa (crcL body 65535) then (body, 0) else ([], 10)
set_option maxHeartbeats 4000000 in
set_option maxRecDepth 100000 in
theorem l28Body_any (s : ByteArray) (hs : s.size ≤ 1048576) (w : World) : Calls Tryz.prog 33 #[.string s] w fun e w' => e = .returned (.tuple #[.string (ofL (bodyR (bl s)).1), .int .i64 (bodyR (bl s)).2]) ∧ Below w.heap.size w w' := by
  have hsi : (s.size : Int) ≤ 1048576 := by omega
  go_enter Tryz.func33, Tryz.ntmps33
  go_wp2
  go_loop [4] (fun i => ∃ (k : Nat), k ≤ s.size ∧ i = .int .i64 ((k : Int) - 1) ∧ (∀ (i : Nat) (hi : i < s.size), k ≤ i → s[i] ≠ 32)) (fun i => (intOf i + 1).toNat)
  case atStart => exact ⟨s.size, Nat.le_refl _, rfl, fun i hi h => by omega⟩
  case round =>
    obtain ⟨k, hk, rfl, hno⟩ := hrel
    have HN := Lib.hid hno
    clear hno
    cases k with
    | zero =>
      have HE : Hid (bodyR (bl s) = ([], 10)) := by
        show _ = _
        unfold bodyR
        rw [cut_no (fun i hi => HN.out i hi (Nat.zero_le _))]
      have e1 : ((0 : Nat) : Int) - 1 = -1 := rfl
      rw [e1]
      have gd : decide ((-1 : Int) < 0) = true := rfl
      go_upto_region 4 with (fail)
      refine wp_region_over w.heap.size w (Below.refl _ _) (by kernel_rfl) (by kernel_rfl) ?_
      repeat (go_big_quiet_step (fail))
      refine wpQuiet_nil ?_
      rintro _ ⟨X, rfl⟩
      have BE := Lib.hid (over_below w.heap.size w X)
      generalize over w.heap.size w X = w9 at *
      go_wp2
      go_ret2
      rw [HE.out]
      exact ⟨rfl, BE.out⟩
    | succ j =>
      have e1 : ((j + 1 : Nat) : Int) - 1 = (j : Int) := by omega
      rw [e1]
      have hj : j < s.size := by omega
      have hj0 : (0 : Int) ≤ (j : Int) := by omega
      have hji : (j : Int) < (s.size : Int) := by omega
      by_cases hm : s[j] = 32
      case neg =>
        have hmi : ((s[j].toNat : Int) == 32) = false := by
          rw [beq_eq_false_iff_ne]
          intro e
          exact hm (UInt8.toNat_inj.1 (show s[j].toNat = 32 by omega))
        have hmn : ((s[j].toNat : Int) != 32) = true := by unfold bne; rw [hmi]; rfl
        have HM := Lib.hid hm
        clear hm
        go_wp2
        go_round
        case rel => exact ⟨j, by omega, rfl, fun i hi h => by
          by_cases he : i = j
          · subst he; exact HM.out
          · exact HN.out i hi (by omega)⟩
        case measure => simp [intOf]
      case pos =>
        have hmi : ((s[j].toNat : Int) == 32) = true := by rw [hm]; rfl
        have hmn : ((s[j].toNat : Int) != 32) = false := by unfold bne; rw [hmi]; rfl
        have hct := cut_at j hj hm (fun i hi h => HN.out i hi (by omega))
        have hb : bl (s.extract 0 j) = (bl s).take j := by rw [bl_extract s 0 j (by omega), seg_take]
        have hx : bl (s.extract (j + 1) s.size) = (bl s).drop (j + 1) := by rw [bl_extract s _ _ (Nat.le_refl _), seg_drop _ _ _ (by rw [bl_len]; exact Nat.le_refl _)]
        rw [← hb, ← hx] at hct
        have hz : (s.extract 0 j).size ≤ 1048576 := by rw [ByteArray.size_extract]; omega
        have hcI := crcL_I64 (bl (s.extract 0 j)) 65535 (by constructor <;> omega)
        have HCR : Hid (∀ W, Calls Tryz.prog 59 #[.string (s.extract 0 j), .int .i64 65535] W fun e w' => e = .returned (.int .i64 (crcL (bl (s.extract 0 j)) 65535)) ∧ Below W.heap.size W w') := fun W => (l01Crc_any (s.extract 0 j) 65535 (by omega) W).mono fun e w' ⟨he, hw⟩ => ⟨he, hw ▸ Below.refl _ _⟩
        have HDC : Hid (∀ W, Calls Tryz.prog 58 #[.int .i64 (crcL (bl (s.extract 0 j)) 65535)] W fun e w' => e = .returned (.string (ofL (Go.Lib.itoa (crcL (bl (s.extract 0 j)) 65535)))) ∧ Below W.heap.size W w') := fun W => l01Dec_any _ hcI W
        have hbd : bodyR (bl s) = if s.extract (j + 1) s.size = ofL (Go.Lib.itoa (crcL (bl (s.extract 0 j)) 65535)) then (bl (s.extract 0 j), 0) else ([], 10) := by
          unfold bodyR
          rw [hct]
          simp only
          by_cases h : bl (s.extract (j + 1) s.size) = Go.Lib.itoa (crcL (bl (s.extract 0 j)) 65535)
          · rw [if_pos h, if_pos (by rw [← h, ofL_bl])]
          · rw [if_neg h, if_neg (fun e => h (by rw [e, bl_ofL]))]
        have hoe : ofL (bl (s.extract 0 j)) = s.extract 0 j := ofL_bl _
        clear hct hm hb hx hcI
        generalize ofL (Go.Lib.itoa (crcL (bl (s.extract 0 j)) 65535)) = tx at *
        generalize crcL (bl (s.extract 0 j)) 65535 = c at *
        have gd : decide ((j : Int) < 0) = false := decide_eq_false (by omega)
        have hbi : (j : Int) + 1 ≤ (s.size : Int) := by omega
        by_cases he : s.extract (j + 1) s.size = tx
        case pos =>
          have hq : ((s.extract (j + 1) s.size).toList == tx.toList) = true := by rw [he]; exact beq_iff_eq.2 rfl
          have hqn : ((s.extract (j + 1) s.size).toList != tx.toList) = false := by unfold bne; rw [hq]; rfl
          rw [if_pos he] at hbd
          have HE := Lib.hid hbd
          have HO := Lib.hid hoe
          clear hbd hoe he
          go_upto_region 4 with (fail)
          refine wp_region_over w.heap.size w (Below.refl _ _) (by kernel_rfl) (by kernel_rfl) ?_
          repeat (go_big_quiet_step (first | (go_at_call 59; with_reducible exact over_left (Nat.le_refl _) (HCR.out _)) | (go_at_call 58; with_reducible exact over_left (Nat.le_refl _) (HDC.out _))))
          refine wpQuiet_nil ?_
          rintro _ ⟨X, rfl⟩
          have BE := Lib.hid (over_below w.heap.size w X)
          generalize over w.heap.size w X = w9 at *
          go_wp2
          go_ret2
          rw [HE.out]
          exact ⟨by rw [HO.out]; rfl, BE.out⟩
        case neg =>
          have hq : ((s.extract (j + 1) s.size).toList == tx.toList) = false := by
            have : eqS (s.extract (j + 1) s.size) tx = false := Bool.eq_false_iff.2 fun e => he (eqS_iff.1 e)
            exact this
          have hqn : ((s.extract (j + 1) s.size).toList != tx.toList) = true := by unfold bne; rw [hq]; rfl
          rw [if_neg he] at hbd
          have HE := Lib.hid hbd
          clear hbd hoe he
          go_upto_region 4 with (fail)
          refine wp_region_over w.heap.size w (Below.refl _ _) (by kernel_rfl) (by kernel_rfl) ?_
          repeat (go_big_quiet_step (first | (go_at_call 59; with_reducible exact over_left (Nat.le_refl _) (HCR.out _)) | (go_at_call 58; with_reducible exact over_left (Nat.le_refl _) (HDC.out _))))
          refine wpQuiet_nil ?_
          rintro _ ⟨X, rfl⟩
          have BE := Lib.hid (over_below w.heap.size w X)
          generalize over w.heap.size w X = w9 at *
          go_wp2
          go_ret2
          rw [HE.out]
          exact ⟨rfl, BE.out⟩
end Go.Proofs.YtjkpadfolkniaaaGreatDoor
