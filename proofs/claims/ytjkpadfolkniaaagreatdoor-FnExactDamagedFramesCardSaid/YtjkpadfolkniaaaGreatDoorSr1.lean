/- Contracts: check values of bytes, for the program and for the reference; numbers in decimal, written by the reference. Conditions: bounded sizes. -/
import Derived.Test.YtjkpadfolkniaaaGreatDoorRd1
import Derived.Test.YtjkpadfolkniaaaGreatDoorBlk
import Derived.Laws.IdiomStrings
namespace Go.Proofs.YtjkpadfolkniaaaGreatDoor
open Go.RowKit
set_option linter.unusedVariables false
set_option linter.unusedSimpArgs false

/-- check values -/
def crcBit (c : Int) : Int := if 65535 < wrap64 (c * 2) then bits .xor .i64 (bits .and .i64 (wrap64 (c * 2)) 65535) 4129 else wrap64 (c * 2)
def crcIt : Nat → Int → Int
  | 0, c => c
  | j + 1, c => crcBit (crcIt j c)
def crcIn (c : Int) (b : UInt8) : Int := bits .xor .i64 c (wrap64 (wrap64 (b.toNat : Int) * 256))
def crcB (c : Int) (b : UInt8) : Int := crcIt 8 (crcIn c b)
def crcL (l : List UInt8) (c : Int) : Int := l.foldl crcB c
theorem I64_wf {n : Int} (h : (Lit.int .i64 n).wf = true) : I64 n := by
  simp [Lit.wf, IntKind.min, IntKind.max, IntKind.signed, IntKind.bits] at h
  constructor <;> omega
theorem crcBit_I64 (c : Int) : I64 (crcBit c) := by
  unfold crcBit
  split
  · exact I64_wf (wf_bits _ _ _ _)
  · exact I64_wf (wrap64_wf _)
theorem crcL_I64 (l : List UInt8) (c : Int) (hc : I64 c) : I64 (crcL l c) := by
  unfold crcL
  induction l generalizing c with
  | nil => exact hc
  | cons b l ih => exact ih _ (crcBit_I64 _)
theorem crc_take (s : ByteArray) (k : Nat) (h : k < s.size) (c : Int) : crcL ((bl s).take (k + 1)) c = crcB (crcL ((bl s).take k) c) s[k] := by
  have hk : k < (bl s).length := by rw [bl_len]; exact h
  unfold crcL
  rw [List.take_succ_eq_append_getElem hk, List.foldl_append]
  have : (bl s)[k] = s[k] := by simp only [bl, Array.getElem_toList]; rfl
  rw [this]; rfl
set_option maxHeartbeats 4000000 in
set_option maxRecDepth 100000 in
theorem l01Crc_any (s : ByteArray) (c0 : Int) (hs : s.size ≤ 1099511627776) (w : World) : Calls Tryz.prog 59 #[.string s, .int .i64 c0] w fun e w' => e = .returned (.int .i64 (crcL (bl s) c0)) ∧ w = w' := by
  have hsi : (s.size : Int) ≤ 1099511627776 := by omega
  go_enter Tryz.func59, Tryz.ntmps59
  go_wp2
  go_loopw [1, 5] (fun v i wr => ∃ (k : Nat), k ≤ s.size ∧ i = .int .i64 k ∧ v = .int .i64 (crcL ((bl s).take k) c0) ∧ wr = w) (fun _ i wr => s.size - (intOf i).toNat)
  case atStart => exact ⟨0, Nat.zero_le _, rfl, rfl, rfl⟩
  case round =>
    obtain ⟨k, hk, rfl, rfl, rfl⟩ := hrel
    by_cases hlt : k < s.size
    · have HT := Lib.hid (crc_take s k hlt c0)
      generalize crcL ((bl s).take k) c0 = c at *
      generalize hb : s[k] = b at *
      go_wp2
      have HC : Hid (crcIt 8 (crcIn c b) = crcB c b) := rfl
      have HI : Hid (crcIn c b = bits .xor .i64 c (wrap64 (wrap64 (b.toNat : Int) * 256))) := rfl
      rw [← HI.out]
      generalize crcIn c b = ci at *
      go_loopw [1, 6] (fun v i wq => ∃ (j : Nat), j ≤ 8 ∧ i = .int .i64 j ∧ v = .int .i64 (crcIt j ci) ∧ wq = wr) (fun _ i wq => 8 - (intOf i).toNat)
      case atStart => exact ⟨0, by omega, rfl, rfl, rfl⟩
      case round =>
        obtain ⟨j, hj, rfl, rfl, rfl⟩ := hrel
        by_cases hlj : j < 8
        · have hji : (j : Int) < 8 := by omega
          have HJ : Hid (crcIt (j + 1) ci = crcBit (crcIt j ci)) := rfl
          generalize crcIt j ci = x at *
          by_cases hx : 65535 < wrap64 (x * 2)
          · have HX : Hid (crcBit x = bits .xor .i64 (bits .and .i64 (wrap64 (x * 2)) 65535) 4129) := by show _ = _; unfold crcBit; rw [if_pos hx]
            go_wp2
            go_roundw
            case rel => exact ⟨j + 1, by omega, by go_num, by rw [HJ.out, HX.out], by first | rfl | trivial⟩
            case measure => simp [intOf]; omega
          · have HX : Hid (crcBit x = wrap64 (x * 2)) := by show _ = _; unfold crcBit; rw [if_neg hx]
            go_wp2
            go_roundw
            case rel => exact ⟨j + 1, by omega, by go_num, by rw [HJ.out, HX.out], by first | rfl | trivial⟩
            case measure => simp [intOf]; omega
        · obtain rfl : j = 8 := by omega
          rw [HC.out, ← HT.out]
          go_wp2
          go_roundw
          case rel => exact ⟨k + 1, by omega, by go_num, by first | rfl | assumption, by first | rfl | trivial⟩
          case measure => simp [intOf]; omega
    · obtain rfl : k = s.size := by omega
      go_wp2
      go_ret
      exact ⟨by rw [List.take_of_length_le (by rw [bl_len]; exact Nat.le_refl _)]; rfl, rfl⟩
end Go.Proofs.YtjkpadfolkniaaaGreatDoor
