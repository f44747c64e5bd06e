/- Contracts: check values of bytes, for the program and for the reference; numbers in decimal, written by the reference. Conditions: bounded sizes. -/
import Derived.Test.YtjkpadfolkniaaaGreatDoorRd1
import Derived.Test.YtjkpadfolkniaaaGreatDoorBlk
import Derived.Laws.IdiomStrings
import Derived.Test.YtjkpadfolkniaaaGreatDoorTx2
import Derived.Deep.DeepCutAuto
import Derived.Test.YtjkpadfolkniaaaGreatDoorBox
import Derived.Test.YtjkpadfolkniaaaGreatDoorOrd
import Derived.Test.YtjkpadfolkniaaaGreatDoorOpen
import Derived.Lib.JoinLaws
namespace Go.Proofs.YtjkpadfolkniaaaGreatDoor
section
open Go.RowKit
set_option linter.unusedVariables false
set_option linter.unusedSimpArgs false

/-- check values -/
def crcBit (c : Int) : Int := if 65535 < wrap64 (c * 2) then bits .xor .i64 (bits .and .i64 (wrap64 (c * 2)) 65535) 4129 else wrap64 (c * 2)
def crcIt : Nat → Int → Int
  | 0, c => c
  | j + 1, c => crcBit (crcIt j c)
def crcIn (c : Int) (b : UInt8) : Int := bits .xor .i64 c (wrap64 (wrap64 (b.toNat : Int) * 256))
def crcB (c : Int) (b : UInt8) : Int := crcIt 8 (crcIn c b)
def crcL (l : List UInt8) (c : Int) : Int := l.foldl crcB c
theorem I64_wf {n : Int} (h : (Lit.int .i64 n).wf = true) : I64 n := by
  simp [Lit.wf, IntKind.min, IntKind.max, IntKind.signed, IntKind.bits] at h
  constructor <;> omega
theorem crcBit_I64 (c : Int) : I64 (crcBit c) := by
  unfold crcBit
  split
  · exact I64_wf (wf_bits _ _ _ _)
  · exact I64_wf (wrap64_wf _)
theorem crcL_I64 (l : List UInt8) (c : Int) (hc : I64 c) : I64 (crcL l c) := by
  unfold crcL
  induction l generalizing c with
  | nil => exact hc
  | cons b l ih => exact ih _ (crcBit_I64 _)
theorem crc_take (s : ByteArray) (k : Nat) (h : k < s.size) (c : Int) : crcL ((bl s).take (k + 1)) c = crcB (crcL ((bl s).take k) c) s[k] := by
  have hk : k < (bl s).length := by rw [bl_len]; exact h
  unfold crcL
  rw [List.take_succ_eq_append_getElem hk, List.foldl_append]
  have : (bl s)[k] = s[k] := by simp only [bl, Array.getElem_toList]; rfl
  rw [this]; rfl
set_option maxHeartbeats 4000000 in
set_option maxRecDepth 100000 in
theorem l01Crc_any (s : ByteArray) (c0 : Int) (hs : s.size ≤ 1099511627776) (w : World) : Calls Tryz.prog 59 #[.string s, .int .i64 c0] w fun e w' => e = .returned (.int .i64 (crcL (bl s) c0)) ∧ w = w' := by
  have hsi : (s.size : Int) ≤ 1099511627776 := by omega
  go_enter Tryz.func59, Tryz.ntmps59
  go_wp2
  go_loopw [1, 5] (fun v i wr => ∃ (k : Nat), k ≤ s.size ∧ i = .int .i64 k ∧ v = .int .i64 (crcL ((bl s).take k) c0) ∧ wr = w) (fun _ i wr => s.size - (intOf i).toNat)
  case atStart => exact ⟨0, Nat.zero_le _, rfl, rfl, rfl⟩
  case round =>
    obtain ⟨k, hk, rfl, rfl, rfl⟩ := hrel
    by_cases hlt : k < s.size
    · have HT := Lib.hid (crc_take s k hlt c0)
      generalize crcL ((bl s).take k) c0 = c at *
      generalize hb : s[k] = b at *
      go_wp2
      have HC : Hid (crcIt 8 (crcIn c b) = crcB c b) := rfl
      have HI : Hid (crcIn c b = bits .xor .i64 c (wrap64 (wrap64 (b.toNat : Int) * 256))) := rfl
      rw [← HI.out]
      generalize crcIn c b = ci at *
      go_loopw [1, 6] (fun v i wq => ∃ (j : Nat), j ≤ 8 ∧ i = .int .i64 j ∧ v = .int .i64 (crcIt j ci) ∧ wq = wr) (fun _ i wq => 8 - (intOf i).toNat)
      case atStart => exact ⟨0, by omega, rfl, rfl, rfl⟩
      case round =>
        obtain ⟨j, hj, rfl, rfl, rfl⟩ := hrel
        by_cases hlj : j < 8
        · have hji : (j : Int) < 8 := by omega
          have HJ : Hid (crcIt (j + 1) ci = crcBit (crcIt j ci)) := rfl
          generalize crcIt j ci = x at *
          by_cases hx : 65535 < wrap64 (x * 2)
          · have HX : Hid (crcBit x = bits .xor .i64 (bits .and .i64 (wrap64 (x * 2)) 65535) 4129) := by show _ = _; unfold crcBit; rw [if_pos hx]
            go_wp2
            go_roundw
            case rel => exact ⟨j + 1, by omega, by go_num, by rw [HJ.out, HX.out], by first | rfl | trivial⟩
            case measure => simp [intOf]; omega
          · have HX : Hid (crcBit x = wrap64 (x * 2)) := by show _ = _; unfold crcBit; rw [if_neg hx]
            go_wp2
            go_roundw
            case rel => exact ⟨j + 1, by omega, by go_num, by rw [HJ.out, HX.out], by first | rfl | trivial⟩
            case measure => simp [intOf]; omega
        · obtain rfl : j = 8 := by omega
          rw [HC.out, ← HT.out]
          go_wp2
          go_roundw
          case rel => exact ⟨k + 1, by omega, by go_num, by first | rfl | assumption, by first | rfl | trivial⟩
          case measure => simp [intOf]; omega
    · obtain rfl : k = s.size := by omega
      go_wp2
      go_ret
      exact ⟨by rw [List.take_of_length_le (by rw [bl_len]; exact Nat.le_refl _)]; rfl, rfl⟩
end
section
open Go.RowKit
set_option linter.unusedVariables false
set_option linter.unusedSimpArgs false
set_option maxHeartbeats 4000000 in
set_option maxRecDepth 100000 in
theorem crc16_any (s : ByteArray) (hs : s.size ≤ 1099511627776) (w : World) : Calls Tryz.prog 42 #[.string s, .int .i64 65535] w fun e w' => e = .returned (.int .i64 (crcL (bl s) 65535)) ∧ w = w' := by
  have hsi : (s.size : Int) ≤ 1099511627776 := by omega
  have HW : Hid (∀ W, Calls Tryz.prog 45 #[.int .i64 65535, .int .i64 0, .int .i64 65535] W fun e w' => e = .returned (.bool true) ∧ W = w') := fun W => within_any 65535 0 65535 W
  go_enter Tryz.func42, Tryz.ntmps42
  go_wp2_with (go_at_call 45; with_reducible refine (HW.out _).mono ?_; rintro e w1 ⟨rfl, rfl⟩)
  go_loopw [5, 13] (fun v i wr => ∃ (k : Nat), k ≤ s.size ∧ i = .int .i64 k ∧ v = .int .i64 (crcL ((bl s).take k) 65535) ∧ wr = w) (fun _ i wr => s.size - (intOf i).toNat)
  case atStart => exact ⟨0, Nat.zero_le _, rfl, rfl, rfl⟩
  case round =>
    obtain ⟨k, hk, rfl, rfl, rfl⟩ := hrel
    by_cases hlt : k < s.size
    · have HT := Lib.hid (crc_take s k hlt 65535)
      generalize crcL ((bl s).take k) 65535 = c at *
      generalize hb : s[k] = b at *
      go_wp2
      have HC : Hid (crcIt 8 (crcIn c b) = crcB c b) := rfl
      have HI : Hid (crcIn c b = bits .xor .i64 c (wrap64 (wrap64 (b.toNat : Int) * 256))) := rfl
      rw [← HI.out]
      generalize crcIn c b = ci at *
      go_loopw [5, 23] (fun v i wq => ∃ (j : Nat), j ≤ 8 ∧ i = .int .i64 j ∧ v = .int .i64 (crcIt j ci) ∧ wq = wr) (fun _ i wq => 8 - (intOf i).toNat)
      case atStart => exact ⟨0, by omega, rfl, rfl, rfl⟩
      case round =>
        obtain ⟨j, hj, rfl, rfl, rfl⟩ := hrel
        by_cases hlj : j < 8
        · have hji : (j : Int) < 8 := by omega
          have HJ : Hid (crcIt (j + 1) ci = crcBit (crcIt j ci)) := rfl
          generalize crcIt j ci = x at *
          by_cases hx : 65535 < wrap64 (x * 2)
          · have HX : Hid (crcBit x = bits .xor .i64 (bits .and .i64 (wrap64 (x * 2)) 65535) 4129) := by show _ = _; unfold crcBit; rw [if_pos hx]
            go_wp2
            go_roundw
            case rel => exact ⟨j + 1, by omega, by go_num, by rw [HJ.out, HX.out], by first | rfl | trivial⟩
            case measure => simp [intOf]; omega
          · have HX : Hid (crcBit x = wrap64 (x * 2)) := by show _ = _; unfold crcBit; rw [if_neg hx]
            go_wp2
            go_roundw
            case rel => exact ⟨j + 1, by omega, by go_num, by rw [HJ.out, HX.out], by first | rfl | trivial⟩
            case measure => simp [intOf]; omega
        · obtain rfl : j = 8 := by omega
          rw [HC.out, ← HT.out]
          go_wp2
          go_roundw
          case rel => exact ⟨k + 1, by omega, by go_num, by first | rfl | assumption, by first | rfl | trivial⟩
          case measure => simp [intOf]; omega
    · obtain rfl : k = s.size := by omega
      go_wp2
      go_ret
      exact ⟨by rw [List.take_of_length_le (by rw [bl_len]; exact Nat.le_refl _)]; rfl, rfl⟩
/-- a byte as a leaf -/
def byteT (b : UInt8) : Tr := .lit (.int .u8 (b.toNat : Int))
def bytesT (l : List UInt8) : Tr := .sl 1 (l.map byteT)
theorem Rd.bytes {B : Nat} {w : World} {l : List UInt8} {v : Value} (h : Rd B w (bytesT l) v) :
    ∃ a c, v = .slice a l.length c ∧ l.length ≤ c ∧ c ≤ maxLen ∧ (0 < l.length → ∃ b off, a = some ⟨b, off, none⟩ ∧ b < B ∧ ∀ (i : Nat) (hi : i < l.length), w.cell? ⟨b, off + i, none⟩ = some (.int .u8 (l[i].toNat : Int))) := by
  obtain ⟨a, c, hv, h1, h2, h3⟩ := Rd.slAt1 h
  refine ⟨a, c, hv, h1, h2, fun hn => ?_⟩
  obtain ⟨b, off, ha, hb, hat⟩ := h3 hn
  refine ⟨b, off, ha, hb, fun i hi => ?_⟩
  obtain ⟨u, hu, hr⟩ := hat i hi
  rw [hu, Rd.lit.1 hr]
theorem infoB : (Tryz.prog.info? 5).map (fun i => (i.zero, i.size, i.bytes)) = some (some (.int .u8 0), 1, 1) := by kernel_rfl
theorem own_empty1 (w : World) (E : Nat) : (w.alloc (.cells #[] E)).ownsRow w.heap.size E 1 (.slice (some ⟨w.heap.size, 0, none⟩) 0 0) 0 [] :=
  ⟨rfl, Or.inr ⟨w.heap.size, 0, #[], rfl, Nat.le_refl _, by show (w.heap.push _)[w.heap.size]? = _; simp, Nat.le_refl _, Nat.zero_le _, rfl, by simp⟩⟩
theorem grow_none1 (w : World) (E B : Nat) (hB : B ≤ w.heap.size) : Grow (w.alloc (.cells #[] E)) w.heap.size E 1 (.slice (some ⟨w.heap.size, 0, none⟩) 0 0) 0 [] [] := ⟨⟨[], own_empty1 w E, rfl⟩, List.nodup_nil, fun b h => by simp at h, fun g _ => by simp⟩
/-- the digits that are left -/
def decR (m : Int) : List UInt8 := if m = 0 then [] else Go.Lib.decDigits m.natAbs
theorem dec_step (u : Nat) (h : 0 < u) : Go.Lib.decDigits u = (if u / 10 = 0 then [] else Go.Lib.decDigits (u / 10)) ++ [UInt8.ofNat (48 + u % 10)] := by
  rw [Go.Lib.decDigits]
  split
  · rename_i h10
    rw [if_pos (by omega), List.nil_append]
    congr 3; omega
  · rw [if_neg (by omega)]
theorem decR_step (m : Int) (h : m ≠ 0) : decR m = decR (m.tdiv 10) ++ [UInt8.ofNat (48 + m.natAbs % 10)] := by
  unfold decR
  rw [if_neg h, dec_step m.natAbs (by omega)]
  have h1 : (m.tdiv 10).natAbs = m.natAbs / 10 := by rw [Int.natAbs_tdiv]; rfl
  rw [h1]
  by_cases h2 : m.natAbs / 10 = 0
  · rw [if_pos h2, if_pos (by omega)]
  · rw [if_neg h2, if_neg (by intro e; rw [e] at h1; simp at h1; omega)]
theorem digit_val (e : Nat) (h : e < 10) : ((UInt8.ofNat (48 + e)).toNat : Int) = 48 + (e : Int) := by
  rw [UInt8.toNat_ofNat']
  have : (48 + e) % 256 = 48 + e := Nat.mod_eq_of_lt (by omega)
  show (((48 + e) % 2 ^ 8 : Nat) : Int) = _
  rw [show (2 : Nat) ^ 8 = 256 from rfl, this]; omega
theorem tdiv_pos10 {m : Int} (h : 0 ≤ m) : m.tdiv 10 = m / 10 ∧ m.tmod 10 = m % 10 := ⟨Int.tdiv_eq_ediv_of_nonneg h, Int.tmod_eq_emod_of_nonneg h⟩
theorem tdiv_neg10 {m : Int} (h : m < 0) : m.tdiv 10 = -((-m) / 10) ∧ m.tmod 10 = -((-m) % 10) := by
  have h2 := tdiv_pos10 (m := -m) (by omega)
  rw [← h2.1, ← h2.2, Int.neg_tdiv, Int.neg_tmod, Int.neg_neg, Int.neg_neg]
  exact ⟨rfl, rfl⟩
theorem tmod_natAbs (m : Int) : (0 ≤ m → m.tmod 10 = ((m.natAbs % 10 : Nat) : Int)) ∧ (m < 0 → m.tmod 10 = -((m.natAbs % 10 : Nat) : Int)) := by
  constructor <;> intro h
  · rw [(tdiv_pos10 h).2]; omega
  · rw [(tdiv_neg10 h).2]; omega
theorem tdiv_facts (m : Int) (h1 : -9223372036854775808 ≤ m) (h2 : m ≤ 9223372036854775807) : -9223372036854775808 ≤ m.tdiv 10 ∧ m.tdiv 10 ≤ 9223372036854775807 ∧ (0 ≤ m → 0 ≤ m.tdiv 10) ∧ (m ≤ 0 → m.tdiv 10 ≤ 0) ∧ (m ≠ 0 → (m.tdiv 10).natAbs < m.natAbs) := by
  by_cases h : 0 ≤ m
  · rw [(tdiv_pos10 h).1]; omega
  · rw [(tdiv_neg10 (by omega)).1]; omega
theorem addr_add (b off j : Nat) : (⟨b, off, none⟩ : Addr).add j = ⟨b, off + j, none⟩ := by
  unfold Addr.add
  split
  · rename_i h; subst h; rfl
  · rfl
theorem itoa_zero : Go.Lib.itoa 0 = [48] := by unfold Go.Lib.itoa; rw [if_neg (by omega), show (0 : Int).toNat = 0 from rfl, Go.Lib.decDigits]; rfl
theorem itoa_dec (n : Int) : Go.Lib.itoa n = if n < 0 then 45 :: Go.Lib.decDigits n.natAbs else Go.Lib.decDigits n.natAbs := by
  unfold Go.Lib.itoa
  split
  · rfl
  · congr 1; omega
set_option maxHeartbeats 8000000 in
set_option maxRecDepth 100000 in
theorem l01Dec_any (n : Int) (hn : I64 n) (w : World) : Calls Tryz.prog 58 #[.int .i64 n] w fun e w' => e = .returned (.string (ofL (Go.Lib.itoa n))) ∧ Below w.heap.size w w' := by
  by_cases h0 : n = 0
  · subst h0
    have HE := Lib.hid itoa_zero
    go_enter Tryz.func58, Tryz.ntmps58
    go_wp2
    go_ret
    exact ⟨by rw [HE.out]; rfl, Below.refl _ _⟩
  have hn1 := hn.1
  have hn2 := hn.2
  have hlen := Go.Lib.itoa_length_le n hn1 hn2
  have HIT := Lib.hid (itoa_dec n)
  have hdl : (Go.Lib.decDigits n.natAbs).length ≤ 21 := by
    rw [itoa_dec] at hlen
    split at hlen
    · rw [List.length_cons] at hlen; omega
    · exact hlen
  have hdr : decR n = Go.Lib.decDigits n.natAbs := by unfold decR; rw [if_neg h0]
  have hne : 0 < (Go.Lib.decDigits n.natAbs).length := by
    rw [← hdr, decR_step n h0]; simp
  have hq : (n == 0) = false := by simpa using h0
  obtain ⟨i0, hi0, hz0, hz1, hz2⟩ := info_parts infoB
  have b0 : Below w.heap.size w (w.alloc (.cells #[] 5)) := below_alloc _ _
  have HB0 := Lib.hid b0
  clear b0 hlen
  generalize Go.Lib.decDigits n.natAbs = dn at *
  have HDR := Lib.hid hdr
  clear hdr
  go_enter Tryz.func58, Tryz.ntmps58
  go_wp2
  go_loopw [3, 4] (fun v i wr => ∃ (m : Int) (ds : List UInt8), i = .int .i64 m ∧ decR m ++ ds.reverse = dn ∧ ((0 ≤ n ∧ 0 ≤ m) ∨ (n < 0 ∧ m ≤ 0)) ∧ -9223372036854775808 ≤ m ∧ m ≤ 9223372036854775807 ∧ Below w.heap.size w wr ∧ Grow wr w.heap.size 5 1 v ds.length (ds.map byteT) []) (fun _ i wr => (intOf i).natAbs)
  case atStart => exact ⟨n, [], rfl, by rw [HDR.out]; simp, by omega, hn1, hn2, HB0.out, by simpa using grow_none1 w 5 0 (Nat.zero_le _)⟩
  case round =>
    obtain ⟨m, ds, rfl, heq, hsg, hm1, hm2, hb, hgr⟩ := hrel
    have HEQ := Lib.hid heq
    have HB := Lib.hid hb
    have HG := Lib.hid hgr
    have zr := hb.size
    have hdsl : ds.length ≤ 21 := by
      have := congrArg List.length heq
      rw [List.length_append, List.length_reverse] at this
      omega
    clear hb hgr heq
    by_cases hm : m = 0
    case neg =>
      have hmq : (m != 0) = true := by simpa using hm
      have HS := Lib.hid (decR_step m hm)
      have hel : m.natAbs % 10 < 10 := Nat.mod_lt _ (by omega)
      obtain ⟨e, he⟩ : ∃ e, e = m.natAbs % 10 := ⟨_, rfl⟩
      rw [← he] at hel
      have HDV := Lib.hid (digit_val e hel)
      have htm := tmod_natAbs m
      rw [← he] at htm HS
      have hdiv := tdiv_facts m hm1 hm2
      have HDI := Lib.hid hdiv
      obtain ⟨q, hqq⟩ : ∃ q, m.tmod 10 = q := ⟨_, rfl⟩
      obtain ⟨p, hpp⟩ : ∃ p, m.tdiv 10 = p := ⟨_, rfl⟩
      rw [hqq] at htm
      rw [hpp] at HS HDI
      have hrange : (0 ≤ q ∧ q ≤ 9 ∧ q = (e : Int)) ∨ (q < 0 ∧ -9 ≤ q ∧ -q = (e : Int)) := by omega
      have HSG := Lib.hid hsg
      have HM := Lib.hid hm
      have hp1 := HDI.out.1
      have hp2 := HDI.out.2.1
      clear hdiv htm he hm hsg
      rcases hrange with ⟨hr1, hr2, hr3⟩ | ⟨hr1, hr2, hr3⟩
      · have hqe := Lib.hid hr3
        clear hr3
        have w1 : (48 + q) % 256 = 48 + q := by omega
        go_wp2_with (at_builtin; refine wpList_append1 rfl (.tmp 22) (.tmp 26) _ rfl (w.heap.size) 5 i0 _ 1 1 Tryz.underlying97 hi0 hz0 hz1 hz2 rfl (by omega) _ _ _ [] rfl HG.out [_] [.lit _] [] rfl 1 rfl (fun u hu => by simp at hu; subst hu; rfl) (RepV.lits [_]) List.nodup_nil (fun b h => by simp at h) 0 In.nil In.nil (by simp) (by simp) (by unfold maxLen; omega) (by omega) (by omega) ?_; intro v2 w3 hgn)
        have HGN := Lib.hid hgn
        clear hgn
        go_wp2
        go_roundw
        case rel =>
          refine ⟨p, ds ++ [UInt8.ofNat (48 + e)], by first | assumption | rfl, ?_, ?_, HDI.out.1, HDI.out.2.1, HB.out.trans HGN.out.below, ?_⟩
          · rw [← HEQ.out, HS.out]; simp
          · have := HDI.out; have := HSG.out; omega
          · rw [List.length_append, List.map_append]
            have hx := HGN.out.grow
            have hd := HDV.out
            have he2 := hqe.out
            simp only [List.map_cons, List.map_nil, byteT, hd]
            rw [← he2]
            exact hx
        case measure => have := HDI.out; have := HM.out; simp only [intOf]; omega
      · have hqe := Lib.hid hr3
        clear hr3
        have w1 : (48 + -q) % 256 = 48 + -q := by omega
        go_wp2_with (at_builtin; refine wpList_append1 rfl (.tmp 22) (.tmp 26) _ rfl (w.heap.size) 5 i0 _ 1 1 Tryz.underlying97 hi0 hz0 hz1 hz2 rfl (by omega) _ _ _ [] rfl HG.out [_] [.lit _] [] rfl 1 rfl (fun u hu => by simp at hu; subst hu; rfl) (RepV.lits [_]) List.nodup_nil (fun b h => by simp at h) 0 In.nil In.nil (by simp) (by simp) (by unfold maxLen; omega) (by omega) (by omega) ?_; intro v2 w3 hgn)
        have HGN := Lib.hid hgn
        clear hgn
        go_wp2
        go_roundw
        case rel =>
          refine ⟨p, ds ++ [UInt8.ofNat (48 + e)], by first | assumption | rfl, ?_, ?_, HDI.out.1, HDI.out.2.1, HB.out.trans HGN.out.below, ?_⟩
          · rw [← HEQ.out, HS.out]; simp
          · have := HDI.out; have := HSG.out; omega
          · rw [List.length_append, List.map_append]
            have hx := HGN.out.grow
            have hd := HDV.out
            have he2 := hqe.out
            simp only [List.map_cons, List.map_nil, byteT, hd]
            rw [← he2]
            exact hx
        case measure => have := HDI.out; have := HM.out; simp only [intOf]; omega
    case pos =>
      subst hm
      have hrv : ds.reverse = dn := by have := HEQ.out; unfold decR at this; simpa using this
      have HRV := Lib.hid hrv
      have hdl2 : ds.length = dn.length := by rw [← hrv, List.length_reverse]
      have hpos : 0 < ds.length := by omega
      clear hsg hm1 hm2 hrv hdl2
      by_cases hneg : n < 0
      · go_upto_region 13 with (at_builtin; refine wpList_append1 rfl (.tmp 30) (.tmp 31) _ rfl (w.heap.size) 5 i0 _ 1 1 Tryz.underlying97 hi0 hz0 hz1 hz2 rfl (by omega) _ _ _ [] rfl HG.out [_] [.lit _] [] rfl 1 rfl (fun u hu => by simp at hu; subst hu; rfl) (RepV.lits [_]) List.nodup_nil (fun b h => by simp at h) 0 In.nil In.nil (by simp) (by simp) (by unfold maxLen; omega) (by omega) (by omega) ?_; intro v2 w3 hgn)
        have HX : Hid ((ds ++ [45]).reverse = Go.Lib.itoa n) := by show _ = _; rw [HIT.out, if_pos hneg, List.reverse_append, HRV.out]; rfl
        have hG2 : Grow w3 w.heap.size 5 1 v2 (ds ++ [45]).length ((ds ++ [45]).map byteT) [] := by
          rw [List.length_append, List.map_append]
          exact hgn.grow
        have HB3 := Lib.hid (HB.out.trans hgn.below)
        have z3 := hgn.below.size
        have hL1 : 0 < (ds ++ [45]).length := by simp
        have hL2 : (ds ++ [45]).length ≤ 22 := by simp; omega
        clear hgn
        generalize ds ++ [45] = es at *
        clear hneg
        obtain ⟨av, cv, fv, ev, ov, iv⟩ := hG2.toOwn (lo := w.heap.size) (by omega) In.nil (by omega)
        subst ev
        have hr := ov.rd iv
        obtain ⟨a2, c2, e2, h3, h4, hcl2⟩ := Rd.bytes (l := es) hr
        injection e2 with e3 e4 e5
        subst e3 e5
        obtain ⟨b2, off2, ea2, hb2, hat2⟩ := hcl2 hL1
        subst ea2
        have HAT := Lib.hid hat2
        clear hat2 hcl2 hr ov iv hG2 e4
        have bE := below_alloc w3 (.cells #[] 5)
        have HBE := Lib.hid bE
        have HGE := Lib.hid (grow_none1 w3 5 0 (Nat.zero_le _))
        have hLi : (es.length : Int) ≤ 22 := by omega
        clear bE
        go_wp2
        go_loopw [6, 7] (fun v i wq => ∃ (k : Nat), k ≤ es.length ∧ i = .int .i64 ((es.length : Int) - 1 - (k : Int)) ∧ Below w3.heap.size w3 wq ∧ Grow wq w3.heap.size 5 1 v k ((es.reverse.take k).map byteT) []) (fun _ i wq => (intOf i + 1).toNat)
        case atStart => exact ⟨0, Nat.zero_le _, by simp, HBE.out, by simpa using HGE.out⟩
        case round =>
          obtain ⟨k, hk, rfl, hb, hgr⟩ := hrel
          have HB4 := Lib.hid hb
          have HG4 := Lib.hid hgr
          have z4 := hb.size
          clear hb hgr
          by_cases hlt : k < es.length
          · have hj : es.length - 1 - k < es.length := by omega
            have hc := HAT.out (es.length - 1 - k) hj
            rw [← bat HB4.out b2 _ hb2] at hc
            have HTK : Hid (es.reverse.take (k + 1) = es.reverse.take k ++ [es[es.length - 1 - k]]) := by
              show _ = _
              rw [List.take_succ_eq_append_getElem (by rw [List.length_reverse]; exact hlt), List.getElem_reverse]
            have hji : (es.length : Int) - 1 - (k : Int) = ((es.length - 1 - k : Nat) : Int) := by omega
            rw [hji]
            have hjl : ((es.length - 1 - k : Nat) : Int) < (es.length : Int) := by omega
            generalize es[es.length - 1 - k] = y at *
            generalize es.length - 1 - k = j at *
            go_wp2_with (at_builtin; refine wpList_append1 rfl (.tmp 41) (.tmp 46) _ rfl (w3.heap.size) 5 i0 _ 1 1 Tryz.underlying97 hi0 hz0 hz1 hz2 rfl (by omega) _ _ _ [] rfl HG4.out [_] [.lit _] [] rfl 1 rfl (fun u hu => by simp at hu; subst hu; rfl) (RepV.lits [_]) List.nodup_nil (fun b h => by simp at h) 0 In.nil In.nil (by simp) (by simp) (by unfold maxLen; omega) (by omega) (by omega) ?_; intro v5 w5 hgn)
            have HGN := Lib.hid hgn
            clear hgn
            go_wp2
            go_roundw
            case rel =>
              refine ⟨k + 1, by omega, ?_, HB4.out.trans HGN.out.below, ?_⟩
              · congr 1; omega
              · rw [HTK.out, List.map_append]
                exact HGN.out.grow
            case measure => simp only [intOf]; omega
          · obtain rfl : k = es.length := by omega
            rw [List.take_of_length_le (by rw [List.length_reverse]; exact Nat.le_refl _), HX.out] at HG4
            have hxl : (Go.Lib.itoa n).length = es.length := by rw [← HX.out, List.length_reverse]
            rw [← hxl] at HG4
            obtain ⟨aw, cw, fw, ew, ow, iw⟩ := HG4.out.toOwn (lo := w3.heap.size) (by omega) In.nil (by omega)
            subst ew
            have hr := ow.rd iw
            obtain ⟨a5, c5, e5, h5, h6, hcl5⟩ := Rd.bytes (l := Go.Lib.itoa n) hr
            injection e5 with e6 e7 e8
            subst e6 e8
            obtain ⟨b5, off5, ea5, hb5, hat5⟩ := hcl5 (by omega)
            subst ea5
            have hcv := run_convert_bytes_back (P := Tryz.prog) wr 97 9 5 ⟨b5, off5, none⟩ cw (Go.Lib.itoa n) Tryz.underlying97 Tryz.underlying5 Tryz.underlying9 (fun j hj => by rw [addr_add]; exact hat5 j hj)
            have BE := Lib.hid (HB3.out.trans (HB4.out.mono (by omega)))
            clear hat5 hcl5 hr ow iw HG4 h5 h6 hb5 e7
            generalize hit : Go.Lib.itoa n = it at *
            rw [hxl]
            rw [hxl] at hcv
            have hki : ((es.length : Int) - 1 - (es.length : Int) < 0) := by omega
            go_wp2
            go_ret
            exact ⟨by first | rfl | (rw [hit]; rfl) | (rw [← hit]; rfl), BE.out⟩
      · have HX : Hid (ds.reverse = Go.Lib.itoa n) := by show _ = _; rw [HIT.out, if_neg hneg, HRV.out]
        have hG2 := HG.out
        have HB3 := HB
        have z3 := zr
        have hL1 : 0 < ds.length := by omega
        have hL2 : ds.length ≤ 22 := by omega
        have hng : ¬ n < 0 := hneg
        have hnn : (0 : Int) ≤ n := by omega
        clear hneg hng HEQ HRV
        generalize wr = w3 at *
        generalize ds = es at *
        obtain ⟨av, cv, fv, ev, ov, iv⟩ := hG2.toOwn (lo := w.heap.size) (by omega) In.nil (by omega)
        subst ev
        have hr := ov.rd iv
        obtain ⟨a2, c2, e2, h3, h4, hcl2⟩ := Rd.bytes (l := es) hr
        injection e2 with e3 e4 e5
        subst e3 e5
        obtain ⟨b2, off2, ea2, hb2, hat2⟩ := hcl2 hL1
        subst ea2
        have HAT := Lib.hid hat2
        clear hat2 hcl2 hr ov iv hG2 e4
        have bE := below_alloc w3 (.cells #[] 5)
        have HBE := Lib.hid bE
        have HGE := Lib.hid (grow_none1 w3 5 0 (Nat.zero_le _))
        have hLi : (es.length : Int) ≤ 22 := by omega
        clear bE
        go_wp2
        go_loopw [6, 7] (fun v i wq => ∃ (k : Nat), k ≤ es.length ∧ i = .int .i64 ((es.length : Int) - 1 - (k : Int)) ∧ Below w3.heap.size w3 wq ∧ Grow wq w3.heap.size 5 1 v k ((es.reverse.take k).map byteT) []) (fun _ i wq => (intOf i + 1).toNat)
        case atStart => exact ⟨0, Nat.zero_le _, by simp, HBE.out, by simpa using HGE.out⟩
        case round =>
          obtain ⟨k, hk, rfl, hb, hgr⟩ := hrel
          have HB4 := Lib.hid hb
          have HG4 := Lib.hid hgr
          have z4 := hb.size
          clear hb hgr
          by_cases hlt : k < es.length
          · have hj : es.length - 1 - k < es.length := by omega
            have hc := HAT.out (es.length - 1 - k) hj
            rw [← bat HB4.out b2 _ hb2] at hc
            have HTK : Hid (es.reverse.take (k + 1) = es.reverse.take k ++ [es[es.length - 1 - k]]) := by
              show _ = _
              rw [List.take_succ_eq_append_getElem (by rw [List.length_reverse]; exact hlt), List.getElem_reverse]
            have hji : (es.length : Int) - 1 - (k : Int) = ((es.length - 1 - k : Nat) : Int) := by omega
            rw [hji]
            have hjl : ((es.length - 1 - k : Nat) : Int) < (es.length : Int) := by omega
            generalize es[es.length - 1 - k] = y at *
            generalize es.length - 1 - k = j at *
            go_wp2_with (at_builtin; refine wpList_append1 rfl (.tmp 41) (.tmp 46) _ rfl (w3.heap.size) 5 i0 _ 1 1 Tryz.underlying97 hi0 hz0 hz1 hz2 rfl (by omega) _ _ _ [] rfl HG4.out [_] [.lit _] [] rfl 1 rfl (fun u hu => by simp at hu; subst hu; rfl) (RepV.lits [_]) List.nodup_nil (fun b h => by simp at h) 0 In.nil In.nil (by simp) (by simp) (by unfold maxLen; omega) (by omega) (by omega) ?_; intro v5 w5 hgn)
            have HGN := Lib.hid hgn
            clear hgn
            go_wp2
            go_roundw
            case rel =>
              refine ⟨k + 1, by omega, ?_, HB4.out.trans HGN.out.below, ?_⟩
              · congr 1; omega
              · rw [HTK.out, List.map_append]
                exact HGN.out.grow
            case measure => simp only [intOf]; omega
          · obtain rfl : k = es.length := by omega
            rw [List.take_of_length_le (by rw [List.length_reverse]; exact Nat.le_refl _), HX.out] at HG4
            have hxl : (Go.Lib.itoa n).length = es.length := by rw [← HX.out, List.length_reverse]
            rw [← hxl] at HG4
            obtain ⟨aw, cw, fw, ew, ow, iw⟩ := HG4.out.toOwn (lo := w3.heap.size) (by omega) In.nil (by omega)
            subst ew
            have hr := ow.rd iw
            obtain ⟨a5, c5, e5, h5, h6, hcl5⟩ := Rd.bytes (l := Go.Lib.itoa n) hr
            injection e5 with e6 e7 e8
            subst e6 e8
            obtain ⟨b5, off5, ea5, hb5, hat5⟩ := hcl5 (by omega)
            subst ea5
            have hcv := run_convert_bytes_back (P := Tryz.prog) wr 97 9 5 ⟨b5, off5, none⟩ cw (Go.Lib.itoa n) Tryz.underlying97 Tryz.underlying5 Tryz.underlying9 (fun j hj => by rw [addr_add]; exact hat5 j hj)
            have BE := Lib.hid (HB3.out.trans (HB4.out.mono (by omega)))
            clear hat5 hcl5 hr ow iw HG4 h5 h6 hb5 e7
            generalize hit : Go.Lib.itoa n = it at *
            rw [hxl]
            rw [hxl] at hcv
            have hki : ((es.length : Int) - 1 - (es.length : Int) < 0) := by omega
            go_wp2
            go_ret
            exact ⟨by first | rfl | (rw [hit]; rfl) | (rw [← hit]; rfl), BE.out⟩
end
section
open Go.RowKit
set_option linter.unusedVariables false
set_option linter.unusedSimpArgs false

theorem joinN_len (xs : List (List UInt8)) (c : UInt8) (m : Nat) (h : ∀ x ∈ xs, x.length ≤ m) : (Go.Lib.join xs [c]).length ≤ xs.length * (m + 1) := by
  cases xs with
  | nil => simp [Go.Lib.join_nil]
  | cons x xs =>
    rw [Go.Lib.join_cons, List.length_append]
    have h1 := h x (by simp)
    have h2 : (Go.Lib.joinTail [c] xs).length ≤ xs.length * (m + 1) := by
      have h3 : ∀ y ∈ xs, y.length ≤ m := fun y hy => h y (by simp [hy])
      clear h h1
      unfold Go.Lib.joinTail
      induction xs with
      | nil => simp
      | cons y ys ih =>
        have h4 := h3 y (by simp)
        have h5 := ih (fun z hz => h3 z (by simp [hz]))
        rw [List.map_cons, List.flatten_cons, List.length_append, List.length_append, List.length_cons, List.length_cons, Nat.succ_mul, List.length_nil]; omega
    rw [List.length_cons, Nat.succ_mul]; omega
theorem ofL_appN (a b : List UInt8) : ofL a ++ ofL b = ofL (a ++ b) := by
  rw [← ofL_bl (ofL a ++ ofL b)]
  congr 1
theorem bl_app (a b : ByteArray) : bl (a ++ b) = bl a ++ bl b := by
  conv => lhs; rw [← ofL_bl a, ← ofL_bl b, ofL_appN, bl_ofL]
theorem joinN_any (W : World) (b c : Nat) (l : List ByteArray) (m : Nat) (hc : l.length ≤ c) (hl : l.length ≤ 64) (hb : b < W.heap.size) (hm : ∀ x ∈ l, x.size ≤ m) (hm2 : m ≤ 1073741824) (h : ∀ (i : Nat) (hi : i < l.length), W.cell? ⟨b, i, none⟩ = some (.string l[i])) :
    Calls Tryz.prog 89 #[.slice (some ⟨b, 0, none⟩) l.length c, .string ⟨#[32]⟩] W fun e w' => e = .returned (.string (ofL (Go.Lib.join (l.map bl) [32]))) ∧ Below W.heap.size W w' := by
  refine Tryz.strings_Join b 0 c l ⟨#[32]⟩ W (fun j x hx => by
    obtain ⟨hj, e⟩ := List.getElem?_eq_some_iff.1 hx
    rw [Nat.zero_add, h j hj, e]) hb (by omega) hc ?_
  have := joinN_len (l.map bl) 32 m (fun x hx => by
    obtain ⟨n, hn, rfl⟩ := List.mem_map.1 hx
    exact hm n hn)
  rw [List.length_map] at this
  have h2 : l.length * (m + 1) ≤ 64 * (m + 1) := Nat.mul_le_mul_right _ hl
  exact Nat.le_trans this (by omega)
/-- the line of a change -/
def bodyL (x : DChange) : List UInt8 := Go.Lib.join [Go.Lib.itoa x.day, bl x.key, Go.Lib.itoa (x.old_.size : Int), Go.Lib.itoa (x.new_.size : Int), bl x.old_ ++ bl x.new_] [32]
def lineL (x : DChange) : List UInt8 := bodyL x ++ 32 :: Go.Lib.itoa (crcL (bodyL x) 65535)
def REG : List UInt8 := [114, 101, 103, 105, 115, 116, 101, 114, 32]
def headL (n : Int) : List UInt8 := REG ++ Go.Lib.itoa n
structure ChSmall (x : DChange) : Prop where
  day : I64 x.day
  key : x.key.size ≤ 1048576
  old_ : x.old_.size ≤ 1048576
  new_ : x.new_.size ≤ 1048576
theorem I64_nat {n : Nat} (h : n ≤ 1099511627776) : I64 (n : Int) := by constructor <;> omega
theorem bodyL_len {x : DChange} (h : ChSmall x) : (bodyL x).length ≤ 4000000 := by
  have h1 := Go.Lib.itoa_length_le x.day h.day.1 h.day.2
  have h2 := Go.Lib.itoa_length_le (x.old_.size : Int) (by omega) (by have := h.old_; omega)
  have h3 := Go.Lib.itoa_length_le (x.new_.size : Int) (by omega) (by have := h.new_; omega)
  have h4 := h.key
  have h5 := h.old_
  have h6 := h.new_
  unfold bodyL
  simp only [Go.Lib.join_cons, Go.Lib.joinTail, List.map_cons, List.map_nil, List.flatten_cons, List.flatten_nil, List.length_append, List.length_cons, List.length_nil, bl_len]
  omega
theorem lineL_len {x : DChange} (h : ChSmall x) : (lineL x).length ≤ 4000100 := by
  have h1 := bodyL_len h
  have h2 := crcL_I64 (bodyL x) 65535 (by constructor <;> omega)
  have h3 := Go.Lib.itoa_length_le _ h2.1 h2.2
  unfold lineL
  rw [List.length_append, List.length_cons]; omega
theorem headL_len {n : Int} (h : I64 n) : (headL n).length ≤ 30 := by
  have := Go.Lib.itoa_length_le n h.1 h.2
  unfold headL REG
  rw [List.length_append]; simp; omega
set_option maxHeartbeats 8000000 in
set_option maxRecDepth 100000 in
theorem changeBody_any (x : DChange) (h : ChSmall x) (w : World) (L : LibW w) : Calls Tryz.prog 73 #[.agg #[.int .i64 x.day, .string x.key, .string x.old_, .string x.new_]] w fun e w' => e = .returned (.string (ofL (bodyL x))) ∧ Below w.heap.size w w' := by
  have l1 := Go.Lib.itoa_length_le x.day h.day.1 h.day.2
  have l2 := Go.Lib.itoa_length_le (x.old_.size : Int) (by omega) (by have := h.old_; omega)
  have l3 := Go.Lib.itoa_length_le (x.new_.size : Int) (by omega) (by have := h.new_; omega)
  have l4 := h.key
  have l5 := h.old_
  have l6 := h.new_
  have HX1 : Hid (∀ W, LibW W → Calls Tryz.prog 41 #[.int .i64 x.day] W fun e w' => e = .returned (.string (ofL (Go.Lib.itoa x.day))) ∧ Below W.heap.size W w') := fun W hW => decimal_any x.day h.day W hW
  have HX2 : Hid (∀ W, LibW W → Calls Tryz.prog 41 #[.int .i64 (x.old_.size : Int)] W fun e w' => e = .returned (.string (ofL (Go.Lib.itoa (x.old_.size : Int)))) ∧ Below W.heap.size W w') := fun W hW => decimal_any _ (I64_nat (by omega)) W hW
  have HX3 : Hid (∀ W, LibW W → Calls Tryz.prog 41 #[.int .i64 (x.new_.size : Int)] W fun e w' => e = .returned (.string (ofL (Go.Lib.itoa (x.new_.size : Int)))) ∧ Below W.heap.size W w') := fun W hW => decimal_any _ (I64_nat (by omega)) W hW
  have HE : Hid (ofL (Go.Lib.join ([ofL (Go.Lib.itoa x.day), x.key, ofL (Go.Lib.itoa (x.old_.size : Int)), ofL (Go.Lib.itoa (x.new_.size : Int)), x.old_ ++ x.new_].map bl) [32]) = ofL (bodyL x)) := by
    show _ = _
    unfold bodyL
    simp only [List.map_cons, List.map_nil, bl_ofL]
    have e : bl (x.old_ ++ x.new_) = bl x.old_ ++ bl x.new_ := by
      conv => lhs; rw [← ofL_bl x.old_, ← ofL_bl x.new_, ofL_appN, bl_ofL]
    rw [e]
  have m1 : (ofL (Go.Lib.itoa x.day)).size ≤ 21 := l1
  have m2 : (ofL (Go.Lib.itoa (x.old_.size : Int))).size ≤ 21 := l2
  have m3 : (ofL (Go.Lib.itoa (x.new_.size : Int))).size ≤ 21 := l3
  have a1 := fun W : World => run_string_add_sum (P := Tryz.prog) (w := W) x.old_ x.new_ (by omega)
  have m4 : (x.old_ ++ x.new_).size ≤ 2097152 := by rw [ByteArray.size_append]; omega
  generalize ofL (Go.Lib.itoa x.day) = s1 at *
  generalize ofL (Go.Lib.itoa (x.old_.size : Int)) = s2 at *
  generalize ofL (Go.Lib.itoa (x.new_.size : Int)) = s3 at *
  generalize hs4 : x.old_ ++ x.new_ = s4 at *
  have HJ : Hid (∀ (W : World) (b : Nat), b < W.heap.size → W.heap[b]? = some (.cells #[.string s1, .string x.key, .string s2, .string s3, .string s4] 9 (0, 0)) → Calls Tryz.prog 89 #[.slice (some ⟨b, 0, none⟩) 5 5, .string ⟨#[32]⟩] W fun e w' => e = .returned (.string (ofL (bodyL x))) ∧ Below W.heap.size W w') := fun W b hb hk => by
    rw [← HE.out]
    refine joinN_any W b 5 [s1, x.key, s2, s3, s4] 2097152 (by simp) (by simp) hb (fun y hy => ?_) (by omega) (fun i hi => ?_)
    · simp only [List.mem_cons, List.not_mem_nil, or_false] at hy
      rcases hy with rfl | rfl | rfl | rfl | rfl <;> omega
    · have : i < 5 := hi
      match i, this with
      | 0, _ => exact bkC hk 0 rfl
      | 1, _ => exact bkC hk 1 rfl
      | 2, _ => exact bkC hk 2 rfl
      | 3, _ => exact bkC hk 3 rfl
      | 4, _ => exact bkC hk 4 rfl
  obtain ⟨W0, hW0, b0, z0, k0⟩ := boxes1 w #[.int .i64 x.day, .string x.key, .string x.old_, .string x.new_] 40
  have HW0 := Lib.hid hW0
  have HS2 : Hid (∀ W, Below W0.heap.size W0 W → (W.cell? ⟨w.heap.size, 0, none⟩ = some (.int .i64 x.day) ∧ W.cell? ⟨w.heap.size, 1, none⟩ = some (.string x.key) ∧ W.cell? ⟨w.heap.size, 2, none⟩ = some (.string x.old_) ∧ W.cell? ⟨w.heap.size, 3, none⟩ = some (.string x.new_))) := fun W hW => ⟨bkC (bkB k0 hW (by omega)) 0 rfl, bkC (bkB k0 hW (by omega)) 1 rfl, bkC (bkB k0 hW (by omega)) 2 rfl, bkC (bkB k0 hW (by omega)) 3 rfl⟩
  have HB0 := Lib.hid b0
  clear hW0 b0 k0 HE h l1 l2 l3 m1 m2 m3 m4 hs4
  have hcl5 : (x.old_.size : Int) ≤ 1048576 := by omega
  have hcl6 : (x.new_.size : Int) ≤ 1048576 := by omega
  have HLW : Hid (∀ W, Below W0.heap.size W0 W → LibW W) := fun W hW => L.mono (HB0.out.trans (hW.mono (by omega)))
  clear L
  go_enter Tryz.func73, Tryz.ntmps73
  go_upto_region 1 with (fail)
  rw [HW0.out]
  refine wp_region_ord 18 [(0, true), (1, true), (3, true), (4, true), (5, true), (6, true), (7, true), (9, true), (10, true), (11, true), (13, true), (14, true), (15, true), (16, true), (17, true), (2, false), (8, false), (12, false)] (fun W => W.cell? ⟨w.heap.size, 0, none⟩ = some (.int .i64 x.day) ∧ W.cell? ⟨w.heap.size, 1, none⟩ = some (.string x.key) ∧ W.cell? ⟨w.heap.size, 2, none⟩ = some (.string x.old_) ∧ W.cell? ⟨w.heap.size, 3, none⟩ = some (.string x.new_)) (by kernel_rfl) (by kernel_rfl) (HS2.out _ (below_drew1 _)) (fun hHeld => ?_)
  refine wpOrd_read (v := ?_) rfl (fun _ _ _ h => h) ?_ ?_
  rotate_left
  · (intro W hSW; (try dsimp only at hSW); (go_simp <;> with_reducible rfl))
  (try simp only [Act.put, List.setIfInBounds_toArray, List.set_cons_zero, List.set_cons_succ])
  refine wpOrd_read (v := ?_) rfl (fun _ _ _ h => h) ?_ ?_
  rotate_left
  · (intro W hSW; (try dsimp only at hSW); (go_simp <;> with_reducible rfl))
  (try simp only [Act.put, List.setIfInBounds_toArray, List.set_cons_zero, List.set_cons_succ])
  refine wpOrd_read (v := ?_) rfl (fun _ _ _ h => h) ?_ ?_
  rotate_left
  · (intro W hSW; (try dsimp only at hSW); (go_simp <;> with_reducible rfl))
  (try simp only [Act.put, List.setIfInBounds_toArray, List.set_cons_zero, List.set_cons_succ])
  refine wpOrd_read (v := ?_) rfl (fun _ _ _ h => h) ?_ ?_
  rotate_left
  · (intro W hSW; (try dsimp only at hSW); (go_simp <;> with_reducible rfl))
  (try simp only [Act.put, List.setIfInBounds_toArray, List.set_cons_zero, List.set_cons_succ])
  refine wpOrd_read (v := ?_) rfl (fun _ _ _ h => h) ?_ ?_
  rotate_left
  · (intro W hSW; (try dsimp only at hSW); (go_simp <;> with_reducible rfl))
  (try simp only [Act.put, List.setIfInBounds_toArray, List.set_cons_zero, List.set_cons_succ])
  refine wpOrd_read (v := ?_) rfl (fun _ _ _ h => h) ?_ ?_
  rotate_left
  · (intro W hSW; (try dsimp only at hSW); (go_simp <;> with_reducible rfl))
  (try simp only [Act.put, List.setIfInBounds_toArray, List.set_cons_zero, List.set_cons_succ])
  refine wpOrd_read (v := ?_) rfl (fun _ _ _ h => h) ?_ ?_
  rotate_left
  · (intro W hSW; (try dsimp only at hSW); (go_simp <;> with_reducible rfl))
  (try simp only [Act.put, List.setIfInBounds_toArray, List.set_cons_zero, List.set_cons_succ])
  refine wpOrd_read (v := ?_) rfl (fun _ _ _ h => h) ?_ ?_
  rotate_left
  · (intro W hSW; (try dsimp only at hSW); (go_simp <;> with_reducible rfl))
  (try simp only [Act.put, List.setIfInBounds_toArray, List.set_cons_zero, List.set_cons_succ])
  refine wpOrd_read (v := ?_) rfl (fun _ _ _ h => h) ?_ ?_
  rotate_left
  · (intro W hSW; (try dsimp only at hSW); (go_simp <;> with_reducible rfl))
  (try simp only [Act.put, List.setIfInBounds_toArray, List.set_cons_zero, List.set_cons_succ])
  refine wpOrd_read (v := ?_) rfl (fun _ _ _ h => h) ?_ ?_
  rotate_left
  · (intro W hSW; (try dsimp only at hSW); (go_simp <;> with_reducible rfl))
  (try simp only [Act.put, List.setIfInBounds_toArray, List.set_cons_zero, List.set_cons_succ])
  refine wpOrd_read (v := ?_) rfl (fun _ _ _ h => h) ?_ ?_
  rotate_left
  · (intro W hSW; (try dsimp only at hSW); (go_simp <;> with_reducible rfl))
  (try simp only [Act.put, List.setIfInBounds_toArray, List.set_cons_zero, List.set_cons_succ])
  refine wpOrd_read (v := ?_) rfl (fun _ _ _ h => h) ?_ ?_
  rotate_left
  · (intro W hSW; (try dsimp only at hSW); (go_simp <;> with_reducible rfl))
  (try simp only [Act.put, List.setIfInBounds_toArray, List.set_cons_zero, List.set_cons_succ])
  refine wpOrd_read (v := ?_) rfl (fun _ _ _ h => h) ?_ ?_
  rotate_left
  · (intro W hSW; (try dsimp only at hSW); (go_simp <;> with_reducible rfl))
  (try simp only [Act.put, List.setIfInBounds_toArray, List.set_cons_zero, List.set_cons_succ])
  refine wpOrd_read (v := ?_) rfl (fun _ _ _ h => h) ?_ ?_
  rotate_left
  · (intro W hSW; (try dsimp only at hSW); (go_simp <;> with_reducible rfl))
  (try simp only [Act.put, List.setIfInBounds_toArray, List.set_cons_zero, List.set_cons_succ])
  refine wpOrd_read (v := ?_) rfl (fun _ _ _ h => h) ?_ ?_
  rotate_left
  · (intro W hSW; (try dsimp only at hSW); (go_simp <;> with_reducible rfl))
  (try simp only [Act.put, List.setIfInBounds_toArray, List.set_cons_zero, List.set_cons_succ])
  have HBD := Lib.hid ((below_drew1 W0).mono (Nat.le_refl _))
  have hzd : W0.heap.size ≤ W0.drew.heap.size := Nat.le_refl _
  have HSD : Hid (∀ W, Below W0.drew.heap.size W0.drew W → (W.cell? ⟨w.heap.size, 0, none⟩ = some (.int .i64 x.day) ∧ W.cell? ⟨w.heap.size, 1, none⟩ = some (.string x.key) ∧ W.cell? ⟨w.heap.size, 2, none⟩ = some (.string x.old_) ∧ W.cell? ⟨w.heap.size, 3, none⟩ = some (.string x.new_))) := fun W hW => HS2.out W ((below_drew1 W0).trans (hW.mono hzd))
  generalize W0.drew = w3 at *
  have HL3 : Hid (∀ W, Below w3.heap.size w3 W → LibW W) := fun W hW => HLW.out W (HBD.out.trans (hW.mono hzd))
  refine wpOrd_step rfl (fun K hK => ?_)
  go_simp
  refine (HX1.out w3 (HL3.out _ (Below.refl _ _))).mono ?_
  rintro e w4 ⟨rfl, hb4⟩
  refine hK.out _ _ (HSD.out _ hb4) ?_
  clear hK K
  (try simp only [Act.put, List.setIfInBounds_toArray, List.set_cons_zero, List.set_cons_succ])
  have HB4 := Lib.hid hb4
  clear hb4
  refine wpOrd_step rfl (fun K hK => ?_)
  go_simp
  refine (HX2.out w4 (HL3.out _ HB4.out)).mono ?_
  rintro e w5 ⟨rfl, hb5⟩
  refine hK.out _ _ (HSD.out _ (HB4.out.trans (hb5.mono HB4.out.size))) ?_
  clear hK K
  (try simp only [Act.put, List.setIfInBounds_toArray, List.set_cons_zero, List.set_cons_succ])
  have HB5 := Lib.hid (HB4.out.trans (hb5.mono HB4.out.size))
  clear hb5
  refine wpOrd_step rfl (fun K hK => ?_)
  go_simp
  refine (HX3.out w5 (HL3.out _ HB5.out)).mono ?_
  rintro e w6 ⟨rfl, hb6⟩
  refine hK.out _ _ (HSD.out _ (HB5.out.trans (hb6.mono HB5.out.size))) ?_
  clear hK K
  (try simp only [Act.put, List.setIfInBounds_toArray, List.set_cons_zero, List.set_cons_succ])
  have HB6 := Lib.hid (HB5.out.trans (hb6.mono HB5.out.size))
  clear hb6
  refine wpOrd_nil ?_
  simp only [List.drop_succ_cons, List.drop_zero]
  have z6 := HB6.out.size
  go_wp2_with fail
  obtain ⟨W8, hW8, b8, z8, k8⟩ := boxes1 w6 #[.string s1, .string x.key, .string s2, .string s3, .string s4] 9
  rw [hW8]
  clear hW8
  refine (HJ.out W8 w6.heap.size (by omega) k8).mono ?_
  rintro e w9 ⟨rfl, hb9⟩
  have HB9 := Lib.hid (HB0.out.trans ((HBD.out.trans ((HB6.out.trans ((b8.trans (hb9.mono (by omega))).mono z6)).mono hzd)).mono HB0.out.size))
  clear b8 k8 hb9
  go_wp2
  go_ret
  exact ⟨rfl, HB9.out⟩
set_option maxHeartbeats 8000000 in
set_option maxRecDepth 100000 in
theorem changeLine_any (x : DChange) (h : ChSmall x) (w : World) (L : LibW w) : Calls Tryz.prog 47 #[.agg #[.int .i64 x.day, .string x.key, .string x.old_, .string x.new_]] w fun e w' => e = .returned (.string (ofL (lineL x))) ∧ Below w.heap.size w w' := by
  have lb := bodyL_len h
  have hcI := crcL_I64 (bodyL x) 65535 (by constructor <;> omega)
  have lc := Go.Lib.itoa_length_le _ hcI.1 hcI.2
  have HBO : Hid (∀ W, LibW W → Calls Tryz.prog 73 #[.agg #[.int .i64 x.day, .string x.key, .string x.old_, .string x.new_]] W fun e w' => e = .returned (.string (ofL (bodyL x))) ∧ Below W.heap.size W w') := fun W hW => changeBody_any x h W hW
  have HCR : Hid (∀ W, Calls Tryz.prog 42 #[.string (ofL (bodyL x)), .int .i64 65535] W fun e w' => e = .returned (.int .i64 (crcL (bodyL x) 65535)) ∧ Below W.heap.size W w') := fun W => (crc16_any (ofL (bodyL x)) (by rw [ofL_size]; omega) W).mono fun e w' ⟨he, hw⟩ => ⟨by rw [he, bl_ofL], hw ▸ Below.refl _ _⟩
  have HDC : Hid (∀ W, LibW W → Calls Tryz.prog 41 #[.int .i64 (crcL (bodyL x) 65535)] W fun e w' => e = .returned (.string (ofL (Go.Lib.itoa (crcL (bodyL x) 65535)))) ∧ Below W.heap.size W w') := fun W hW => decimal_any _ hcI W hW
  have HE : Hid (ofL (bodyL x) ++ ⟨#[32]⟩ ++ ofL (Go.Lib.itoa (crcL (bodyL x) 65535)) = ofL (lineL x)) := by
    show _ = _
    unfold lineL
    rw [show (⟨#[32]⟩ : ByteArray) = ofL [32] from rfl, ofL_appN, ofL_appN]
    simp
  have m1 : (ofL (bodyL x)).size ≤ 4000000 := lb
  have m2 : (ofL (Go.Lib.itoa (crcL (bodyL x) 65535))).size ≤ 21 := lc
  generalize ofL (bodyL x) = s1 at *
  generalize crcL (bodyL x) 65535 = c at *
  generalize ofL (Go.Lib.itoa c) = s2 at *
  have c1 : (⟨#[32]⟩ : ByteArray).size = 1 := rfl
  have a1 := fun W : World => run_string_add_sum (P := Tryz.prog) (w := W) s1 ⟨#[32]⟩ (by rw [c1]; omega)
  have a2 := fun W : World => run_string_add_sum (P := Tryz.prog) (w := W) (s1 ++ ⟨#[32]⟩) s2 (by rw [ByteArray.size_append, c1]; omega)
  obtain ⟨W0, hW0, b0, z0, k0⟩ := boxes1 w #[.int .i64 x.day, .string x.key, .string x.old_, .string x.new_] 40
  have HW0 := Lib.hid hW0
  have q0 := bkC (v := .int .i64 x.day) k0 0 rfl
  have q1 := bkC (v := .string x.key) k0 1 rfl
  have q2 := bkC (v := .string x.old_) k0 2 rfl
  have q3 := bkC (v := .string x.new_) k0 3 rfl
  have HB0 := Lib.hid b0
  have HLW : Hid (∀ X, LibW (over W0.heap.size W0 X)) := fun X => L.mono (HB0.out.trans ((over_below W0.heap.size W0 X).mono (by omega)))
  have oB := overC (w0 := W0) (show w.heap.size < W0.heap.size by omega)
  clear hW0 b0 k0 h lb lc hcI L c1
  go_enter Tryz.func47, Tryz.ntmps47
  go_upto_region 1 with (fail)
  rw [HW0.out]
  refine wp_region_over W0.heap.size W0 (Below.refl _ _) (by kernel_rfl) (by kernel_rfl) ?_
  repeat (go_big_quiet_step (first | (go_at_call 73; with_reducible exact over_left (Nat.le_refl _) (HBO.out _ (HLW.out _))) | (go_at_call 42; with_reducible exact over_left (Nat.le_refl _) (HCR.out _)) | (go_at_call 41; with_reducible exact over_left (Nat.le_refl _) (HDC.out _ (HLW.out _)))))
  refine wpQuiet_nil ?_
  rintro _ ⟨X, rfl⟩
  have BE := Lib.hid (HB0.out.trans ((over_below W0.heap.size W0 X).mono (by omega)))
  clear oB q0 q1 q2 q3
  generalize over W0.heap.size W0 X = w9 at *
  go_wp2
  go_ret
  exact ⟨by rw [HE.out]; rfl, BE.out⟩
set_option maxHeartbeats 2000000 in
theorem registerHead_any (n : Int) (hn : I64 n) (w : World) (L : LibW w) : Calls Tryz.prog 39 #[.int .i64 n] w fun e w' => e = .returned (.string (ofL (headL n))) ∧ Below w.heap.size w w' := by
  have lc := Go.Lib.itoa_length_le _ hn.1 hn.2
  have HDC : Hid (∀ W, LibW W → Calls Tryz.prog 41 #[.int .i64 n] W fun e w' => e = .returned (.string (ofL (Go.Lib.itoa n))) ∧ Below W.heap.size W w') := fun W hW => decimal_any _ hn W hW
  have HE : Hid (⟨#[114, 101, 103, 105, 115, 116, 101, 114, 32]⟩ ++ ofL (Go.Lib.itoa n) = ofL (headL n)) := by
    show _ = _
    unfold headL REG
    rw [← ofL_appN]; rfl
  have m2 : (ofL (Go.Lib.itoa n)).size ≤ 21 := lc
  generalize ofL (Go.Lib.itoa n) = s2 at *
  have c1 : (⟨#[114, 101, 103, 105, 115, 116, 101, 114, 32]⟩ : ByteArray).size = 9 := rfl
  have a1 := fun W : World => run_string_add_sum (P := Tryz.prog) (w := W) ⟨#[114, 101, 103, 105, 115, 116, 101, 114, 32]⟩ s2 (by rw [c1]; omega)
  have HL := Lib.hid L
  clear L c1 lc hn
  go_enter Tryz.func39, Tryz.ntmps39
  go_wp2_with (go_at_call 41; with_reducible refine (HDC.out _ HL.out).mono ?_; rintro e w1 ⟨rfl, hb1⟩)
  go_ret
  exact ⟨by rw [HE.out]; rfl, hb1⟩
end
end Go.Proofs.YtjkpadfolkniaaaGreatDoor
