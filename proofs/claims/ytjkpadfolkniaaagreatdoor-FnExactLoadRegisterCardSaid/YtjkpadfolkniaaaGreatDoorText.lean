/- Contract of the laws' helper markText: the text of a mark. Condition: 0 < k at most 2^40. -/
import Derived.Test.YtjkpadfolkniaaaGreatDoorInts
namespace Go.Proofs.YtjkpadfolkniaaaGreatDoor
open Go.RowKit
set_option linter.unusedVariables false

theorem mdigits_len (k : Nat) : (mdigits k).length ≤ k := by
  induction k using Nat.strongRecOn with
  | ind k ih =>
    rcases Nat.eq_zero_or_pos k with h | h
    · subst h; rw [mdigits_zero]; simp
    · rw [mdigits_pos k h]
      have := ih (k / 10) (by omega)
      simp; omega
set_option maxHeartbeats 400000 in
theorem markText_any (k : Nat) (w : World) (hk : 0 < k) (hk2 : k ≤ 1099511627776) :
    Calls Tryz.prog 56 #[.int .i64 (k : Int)] w fun e w' => e = .returned (.string (mtext k)) ∧ Below w.heap.size w w' := by
  have hne : decide ((k : Int) ≤ 0) = false := by simp; omega
  have hlen := mdigits_len k
  go_enter Tryz.func56, Tryz.ntmps56
  go_wp2
  clear hne
  go_loopw [0, 3] (fun kv out wr => ∃ (m : Nat) (ds : List UInt8), m ≤ k ∧ kv = .int .i64 (m : Int) ∧ out = .string ⟨ds.toArray⟩ ∧ mdigits k = mdigits m ++ ds ∧ Below w.heap.size w wr) (fun kv _ _ => (intOf kv).toNat)
  case atStart => exact ⟨k, [], Nat.le_refl _, rfl, rfl, by simp, Below.refl _ _⟩
  case round =>
    obtain ⟨m, ds, hm, rfl, rfl, hd, hb⟩ := hrel
    have hds : ds.length ≤ k := by have := congrArg List.length hd; simp at this; omega
    have HD := Lib.hid hd
    have HB := Lib.hid hb
    clear hd hb
    by_cases hlt : 0 < m
    · have hcv := run_convert_bytes_back (P := Tryz.prog) (wr.alloc (.cells #[.int .u8 (48 + (m : Int) % 10)] 5)) 97 9 5 ⟨wr.heap.size, 0, none⟩ 1 [UInt8.ofNat (48 + m % 10)] Tryz.underlying97 Tryz.underlying5 Tryz.underlying9 (fun j hj => by
        simp at hj
        subst hj
        have e : ((48 + m % 10) % 256 : Nat) = 48 + m % 10 := by omega
        simp [go_sem, e])
      simp only [List.length_singleton] at hcv
      have e2 : mdigits m = mdigits (m / 10) ++ [UInt8.ofNat (48 + m % 10)] := mdigits_pos m hlt
      have E2 := Lib.hid e2
      clear e2
      generalize hc : UInt8.ofNat (48 + m % 10) = c at *
      clear hc
      go_wp2
      go_roundw
      case rel =>
        refine ⟨m / 10, c :: ds, by omega, by go_num, ?_, ?_, HB.out.alloc HB.out.size _⟩
        · show Value.string (⟨[c].toArray⟩ ++ ⟨ds.toArray⟩) = _
          rw [ByteArray.mk_append_mk]; rfl
        · rw [HD.out, E2.out]; simp
      case measure => simp [intOf]; omega
    · obtain rfl : m = 0 := by omega
      go_wp2
      go_ret
      refine ⟨?_, HB.out⟩
      have e3 : mtext k = ⟨(109 :: ds).toArray⟩ := by
        have h := HD.out
        rw [mdigits_zero, List.nil_append] at h
        unfold mtext; rw [if_neg (by omega), h]
      rw [e3]
      show Ending.returned (Value.string (⟨[109].toArray⟩ ++ ⟨ds.toArray⟩)) = _
      rw [ByteArray.mk_append_mk]; rfl
theorem markText_int (k : Int) (w : World) (hk : 0 < k) (hk2 : k ≤ 1099511627776) :
    Calls Tryz.prog 56 #[.int .i64 k] w fun e w' => e = .returned (.string (mtext k.toNat)) ∧ Below w.heap.size w w' := by
  obtain ⟨n, rfl⟩ := Int.eq_ofNat_of_zero_le (show 0 ≤ k by omega)
  rw [Int.toNat_natCast]
  exact markText_any n w (by omega) (by omega)
end Go.Proofs.YtjkpadfolkniaaaGreatDoor
