/- Contracts: the change of a line, for the program. Conditions: bounded sizes; the library's own variables hold what they hold at the start. -/
import Derived.Test.YtjkpadfolkniaaaGreatDoorLr3
import Derived.Test.YtjkpadfolkniaaaGreatDoorReg1s
import Derived.Test.YtjkpadfolkniaaaGreatDoorInts
namespace Go.Proofs.YtjkpadfolkniaaaGreatDoor
section
open Go.RowKit
set_option linter.unusedVariables false
set_option linter.unusedSimpArgs false

theorem chgR_none {line : List UInt8} (h : lastCut 32 line = none) : chgR line = (zChg, 10) := by unfold chgR; rw [h]
theorem chgR_sum {line body sum : List UInt8} (h : lastCut 32 line = some (body, sum)) (hs : sum ≠ Go.Lib.itoa (crcL body 65535)) : chgR line = (zChg, 10) := by unfold chgR; rw [h]; exact if_neg hs
theorem chgR_len {line body sum : List UInt8} (h : lastCut 32 line = some (body, sum)) (hs : sum = Go.Lib.itoa (crcL body 65535)) (hl : (splitN 32 4 body).length ≠ 5) : chgR line = (zChg, 9) := by
  unfold chgR
  rw [h]
  refine (if_pos hs).trans ?_
  split
  · rename_i p0 p1 p2 p3 t e; rw [e] at hl; exact absurd rfl hl
  · rfl
theorem chgR_five {line body sum p0 p1 p2 p3 t : List UInt8} (h : lastCut 32 line = some (body, sum)) (hs : sum = Go.Lib.itoa (crcL body 65535)) (hp : splitN 32 4 body = [p0, p1, p2, p3, t]) : chgR line = match num p0, num p2, num p3 with
        | some d, some n, some m => if 0 ≤ n ∧ n + m = (t.length : Int) ∧ n ≤ (t.length : Int) ∧ changeB (chgOf d p1 t n.toNat) = true then (chgOf d p1 t n.toNat, 0) else (zChg, 9)
        | _, _, _ => (zChg, 9) := by
  unfold chgR
  rw [h]
  refine (if_pos hs).trans ?_
  rw [hp]
  rfl
theorem chgR_day {line body sum p0 p1 p2 p3 t : List UInt8} (h : lastCut 32 line = some (body, sum)) (hs : sum = Go.Lib.itoa (crcL body 65535)) (hp : splitN 32 4 body = [p0, p1, p2, p3, t]) (h0 : num p0 = none) : chgR line = (zChg, 9) := by rw [chgR_five h hs hp, h0]
theorem chgR_n {line body sum p0 p1 p2 p3 t : List UInt8} (h : lastCut 32 line = some (body, sum)) (hs : sum = Go.Lib.itoa (crcL body 65535)) (hp : splitN 32 4 body = [p0, p1, p2, p3, t]) (h2 : num p2 = none) : chgR line = (zChg, 9) := by
  rw [chgR_five h hs hp, h2]
  cases num p0 <;> rfl
theorem chgR_m {line body sum p0 p1 p2 p3 t : List UInt8} (h : lastCut 32 line = some (body, sum)) (hs : sum = Go.Lib.itoa (crcL body 65535)) (hp : splitN 32 4 body = [p0, p1, p2, p3, t]) (h3 : num p3 = none) : chgR line = (zChg, 9) := by
  rw [chgR_five h hs hp, h3]
  cases num p0 <;> cases num p2 <;> rfl
theorem chgR_out {line body sum p0 p1 p2 p3 t : List UInt8} {n : Int} (h : lastCut 32 line = some (body, sum)) (hs : sum = Go.Lib.itoa (crcL body 65535)) (hp : splitN 32 4 body = [p0, p1, p2, p3, t]) (h2 : num p2 = some n) (hn : ¬ (0 ≤ n ∧ n ≤ (t.length : Int))) : chgR line = (zChg, 9) := by
  rw [chgR_five h hs hp, h2]
  cases num p0 with
  | none => rfl
  | some d => cases num p3 with
    | none => rfl
    | some m => exact if_neg fun e => hn ⟨e.1, e.2.2.1⟩
/-- the program's way -/
theorem chgR_in {line body p0 p1 p2 p3 t : List UInt8} {d : Int} {k : Nat} (h : lastCut 32 line = some (body, Go.Lib.itoa (crcL body 65535))) (hp : splitN 32 4 body = [p0, p1, p2, p3, t]) (h0 : num p0 = some d) (h2 : num p2 = some (k : Int)) (hk : k ≤ t.length) (hl : t.length ≤ 1048576) : chgR line = if changeB (chgOf d p1 t k) = true ∧ lineL (chgOf d p1 t k) = line then (chgOf d p1 t k, 0) else (zChg, 9) := by
  have hi := line_iff (n := (k : Int)) h hp h0 h2 (by omega) (by omega) hl
  rw [Int.toNat_natCast] at hi
  rw [chgR_five h rfl hp, h0, h2]
  cases h3 : num p3 with
  | none =>
    rw [h3] at hi
    exact (if_neg fun e => by have := hi.1 e.2; cases this).symm
  | some m =>
    rw [h3] at hi
    simp only [Int.toNat_natCast]
    by_cases hc : changeB (chgOf d p1 t k) = true ∧ lineL (chgOf d p1 t k) = line
    · rw [if_pos hc]
      have := Option.some.inj (hi.1 hc.2)
      exact if_pos ⟨by omega, by omega, by omega, hc.1⟩
    · rw [if_neg hc]
      refine if_neg fun e => hc ⟨e.2.2.2, hi.2 ?_⟩
      rw [show m = (t.length : Int) - k by omega]
def chgV (x : DChange) : Value := .agg #[.int .i64 x.day, .string x.key, .string x.old_, .string x.new_]
def wordsM (c : UInt8) (s : ByteArray) : List ByteArray := (splitN c 4 (bl s)).map ofL
theorem iSplitM_any (s : ByteArray) (c : UInt8) (hs : s.size ≤ 1048576) (w : World) (L : LibW w) :
    Calls Tryz.prog 43 #[.string s, .string ⟨#[c]⟩, .int .i64 5] w fun e w' => ∃ a cc, e = .returned (.slice a (wordsM c s).length cc) ∧ Below w.heap.size w w' ∧ Rd w'.heap.size w' (strsT (wordsM c s)) (.slice a (wordsM c s).length cc) ∧ (wordsM c s).length ≤ 5 := by
  obtain ⟨m, hm⟩ := L.m
  refine (Tryz.strings_SplitN s ⟨#[c]⟩ 5 m w (by omega) hm (Nat.le_refl 1) (by omega) (by omega)).mono fun e w' ⟨he, hw⟩ => ?_
  have hk : splitN c (min 5 (s.size + 1) - 1) (bl s) = splitN c 4 (bl s) := by
    have := splitN_min c 4 (bl s)
    rw [bl_len] at this
    exact this
  have hwd : Go.Lib.splitB ⟨#[c]⟩ 0 (min 5 (s.size + 1) - 1) s = wordsM c s := by rw [splitB_words, hk]; rfl
  have hle := Go.Lib.splitB_length_le ⟨#[c]⟩ 0 (min 5 (s.size + 1) - 1) s
  rw [hwd] at he hle
  subst hw
  rw [hwd]
  refine ⟨_, _, he, (Below.refl _ _).alloc (Nat.le_refl _) _, ?_, by omega⟩
  have := rd_fresh w 9 (Go.Lib.cellsOf (wordsM c s) (min 5 (s.size + 1))) (wordsM c s) (min 5 (s.size + 1)) (by omega) (by unfold maxLen; omega) (fun i hi => by
    unfold Go.Lib.cellsOf
    rw [List.getElem?_toArray, List.getElem?_append_left (by simpa using hi)]; simp [hi])
  exact this.mono (by simp)
theorem words_sizeM (c : UInt8) (s p : ByteArray) (h : p ∈ (splitN c 4 (bl s)).map ofL) : p.size ≤ s.size := by
  obtain ⟨q, hq, rfl⟩ := List.mem_map.1 h
  have := splitN_size c (bl s) 4 q hq
  rw [bl_len] at this
  exact this
set_option maxHeartbeats 8000000 in
set_option maxRecDepth 100000 in
theorem readChange_any (s : ByteArray) (hs : s.size ≤ 1048576) (w : World) (L : LibW w) : Calls Tryz.prog 18 #[.string s] w fun e w' => e = .returned (.tuple #[chgV (chgR (bl s)).1, .int .i64 (chgR (bl s)).2]) ∧ Below w.heap.size w w' := by
  obtain ⟨W0, hW0, b0, z0, k0⟩ := boxes1 w #[.int .i64 0, .string ⟨#[]⟩, .string ⟨#[]⟩, .string ⟨#[]⟩] 40
  have HW0 := Lib.hid hW0
  clear hW0
  have B0 := Lib.hid b0
  clear b0
  have K0 := Lib.hid k0
  clear k0
  have HD : Hid (∀ W : World, Below W0.heap.size W0 W → (W.cell? ⟨w.heap.size, 0, none⟩ = some (.int .i64 0) ∧ W.cell? ⟨w.heap.size, 1, none⟩ = some (.string ⟨#[]⟩) ∧ W.cell? ⟨w.heap.size, 2, none⟩ = some (.string ⟨#[]⟩) ∧ W.cell? ⟨w.heap.size, 3, none⟩ = some (.string ⟨#[]⟩))) := fun W hW => ⟨bkC (bkB K0.out hW (by omega)) 0 rfl, bkC (bkB K0.out hW (by omega)) 1 rfl, bkC (bkB K0.out hW (by omega)) 2 rfl, bkC (bkB K0.out hW (by omega)) 3 rfl⟩
  have HB : Hid (Below W0.heap.size W0 W0) := Below.refl _ _
  have HH : Hid (∀ W : World, Below W0.heap.size W0 W → Below w.heap.size w W) := fun W hW => B0.out.trans (hW.mono (by omega))
  have hsi : (s.size : Int) ≤ 1048576 := by omega
  have HLW : Hid (∀ W, Below W0.heap.size W0 W → LibW W) := fun W hW => L.mono (HH.out W hW)
  clear L
  have HLI : Hid (∀ W, Calls Tryz.prog 40 #[.string s, .string ⟨#[32]⟩] W fun e w' => e = .returned (.int .i64 (Go.Lib.lastIndexByte s 32)) ∧ W = w') := fun W => (Tryz.strings_LastIndex_one s ⟨#[32]⟩ rfl (by omega) W).mono fun e w' ⟨he, hw⟩ => ⟨he, hw.symm⟩
  rcases Go.Lib.lastIndexByte_spec s 32 with ⟨hli, hno⟩ | ⟨j, hj, hli, hc, hno⟩
  · have HE : Hid (chgR (bl s) = (zChg, 10)) := chgR_none (cut_no fun i hi e => hno i hi (by
      rw [getElem!_pos s.data i (by simpa using hi)]
      show (((s.data[i]'(by simpa using hi)).toNat : Nat) : Int) = 32
      rw [show s.data[i]'(by simpa using hi) = s[i] from rfl, e]; rfl))
    rw [hli] at HLI
    have gd : decide ((-1 : Int) < 0) = true := rfl
    clear hli hno
    go_enter Tryz.func18, Tryz.ntmps18
    go_upto_region 1 with (fail)
    rw [HW0.out]
    go_upto_region 2 with (go_at_call 40; with_reducible refine (HLI.out _).mono ?_; rintro e w1 ⟨rfl, rfl⟩)
    refine wp_region_over W0.heap.size W0 (Below.refl _ _) (by kernel_rfl) (by kernel_rfl) ?_
    repeat (go_big_quiet_step (fail))
    refine wpQuiet_nil ?_
    rintro _ ⟨X, rfl⟩
    have HBX := Lib.hid (over_below W0.heap.size W0 X)
    generalize over W0.heap.size W0 X = w9 at *
    obtain ⟨t0, t1, t2, t3⟩ := HD.out _ HBX.out
    have gz := bkF (bkB K0.out HBX.out (by omega))
    have BF := Lib.hid (HH.out _ HBX.out)
    go_wp2_with fail
    refine bodyPost_ret (v := .tuple #[.agg #[.int .i64 0, .string ⟨#[]⟩, .string ⟨#[]⟩, .string ⟨#[]⟩], .int .i64 10]) (by simp [results, Tryz.results18, go_sem, *]) rfl ?_
    exact ⟨by rw [HE.out]; rfl, (bset (bset (bset (bset BF.out (by omega) 0 _) (by omega) 1 _) (by omega) 2 _) (by omega) 3 _)⟩
  have hc32 : s[j] = 32 := by
    rw [getElem!_pos s.data j (by simpa using hj)] at hc
    have h2 : (s[j]).toNat = 32 := by
      have : ((s[j].toNat : Nat) : Int) = 32 := hc
      omega
    exact UInt8.toNat_inj.1 h2
  have hct := cut_at j hj hc32 (fun i hi h e => hno i h hi (by
    rw [getElem!_pos s.data i (by simpa using hi)]
    show (((s.data[i]'(by simpa using hi)).toNat : Nat) : Int) = 32
    rw [show s.data[i]'(by simpa using hi) = s[i] from rfl, e]; rfl))
  rw [hli] at HLI
  have hb : bl (s.extract 0 j) = (bl s).take j := by rw [bl_extract s 0 j (by omega), seg_take]
  have hx : bl (s.extract (j + 1) s.size) = (bl s).drop (j + 1) := by rw [bl_extract s _ _ (Nat.le_refl _), seg_drop _ _ _ (by rw [bl_len]; exact Nat.le_refl _)]
  rw [← hb, ← hx] at hct
  have hz : (s.extract 0 j).size ≤ 1048576 := by rw [ByteArray.size_extract]; omega
  have hcI := crcL_I64 (bl (s.extract 0 j)) 65535 (by constructor <;> omega)
  have HCR : Hid (∀ W, Calls Tryz.prog 42 #[.string (s.extract 0 j), .int .i64 65535] W fun e w' => e = .returned (.int .i64 (crcL (bl (s.extract 0 j)) 65535)) ∧ Below W.heap.size W w') := fun W => (crc16_any (s.extract 0 j) (by omega) W).mono fun e w' ⟨he, hw⟩ => ⟨he, hw ▸ Below.refl _ _⟩
  have HDC : Hid (∀ W, LibW W → Calls Tryz.prog 41 #[.int .i64 (crcL (bl (s.extract 0 j)) 65535)] W fun e w' => e = .returned (.string (ofL (Go.Lib.itoa (crcL (bl (s.extract 0 j)) 65535)))) ∧ Below W.heap.size W w') := fun W hW => decimal_any _ hcI W hW
  have HSP : Hid (∀ W, LibW W → Calls Tryz.prog 43 #[.string (s.extract 0 j), .string ⟨#[32]⟩, .int .i64 5] W fun e w' => ∃ a cc, e = .returned (.slice a (wordsM 32 (s.extract 0 j)).length cc) ∧ Below W.heap.size W w' ∧ Rd w'.heap.size w' (strsT (wordsM 32 (s.extract 0 j))) (.slice a (wordsM 32 (s.extract 0 j)).length cc) ∧ (wordsM 32 (s.extract 0 j)).length ≤ 5) := fun W hW => iSplitM_any _ 32 hz W hW
  have hss : ∀ p ∈ wordsM 32 (s.extract 0 j), p.size ≤ 1048576 := fun p hp => Nat.le_trans (words_sizeM 32 _ p hp) hz
  have hwl : (wordsM 32 (s.extract 0 j)).length = (splitN 32 4 (bl (s.extract 0 j))).length := List.length_map _
  have hwm : wordsM 32 (s.extract 0 j) = (splitN 32 4 (bl (s.extract 0 j))).map ofL := rfl
  have gd : decide ((j : Int) < 0) = false := decide_eq_false (by omega)
  have hbi : (j : Int) + 1 ≤ (s.size : Int) := by omega
  have hj0 : (0 : Int) ≤ (j : Int) := by omega
  have hji : (j : Int) < (s.size : Int) := by omega
  clear hli hno hc hc32 hb hx hcI hz
  generalize hbd : bl (s.extract 0 j) = bd at *
  generalize hsm : bl (s.extract (j + 1) s.size) = sm at *
  have hsme : s.extract (j + 1) s.size = ofL sm := by rw [← hsm, ofL_bl]
  by_cases he : sm = Go.Lib.itoa (crcL bd 65535)
  case neg =>
    have HE : Hid (chgR (bl s) = (zChg, 10)) := chgR_sum hct he
    have hq : ((s.extract (j + 1) s.size).toList == (ofL (Go.Lib.itoa (crcL bd 65535))).toList) = false := by
      rw [hsme, toList_ofLL, toList_ofLL, beq_eq_false_iff_ne]; exact he
    generalize ofL (Go.Lib.itoa (crcL bd 65535)) = tx at *
    have hqn : ((s.extract (j + 1) s.size).toList != tx.toList) = true := by unfold bne; rw [hq]; rfl
    clear hct he hwl hwm hss hsme hsm hbd HSP
    generalize crcL bd 65535 = c at *
    go_enter Tryz.func18, Tryz.ntmps18
    go_upto_region 1 with (fail)
    rw [HW0.out]
    go_upto_region 2 with (go_at_call 40; with_reducible refine (HLI.out _).mono ?_; rintro e w1 ⟨rfl, rfl⟩)
    have HLO : Hid (∀ X, LibW (over W0.heap.size W0 X)) := fun X => HLW.out _ (over_below W0.heap.size W0 X)
    refine wp_region_over W0.heap.size W0 (Below.refl _ _) (by kernel_rfl) (by kernel_rfl) ?_
    repeat (go_big_quiet_step (first | (go_at_call 42; with_reducible exact over_left (Nat.le_refl _) (HCR.out _)) | (go_at_call 41; with_reducible exact over_left (Nat.le_refl _) (HDC.out _ (HLO.out _)))))
    refine wpQuiet_nil ?_
    rintro _ ⟨X, rfl⟩
    have HBX := Lib.hid (over_below W0.heap.size W0 X)
    generalize over W0.heap.size W0 X = w9 at *
    obtain ⟨t0, t1, t2, t3⟩ := HD.out _ HBX.out
    have gz := bkF (bkB K0.out HBX.out (by omega))
    have BF := Lib.hid (HH.out _ HBX.out)
    go_wp2_with fail
    refine bodyPost_ret (v := .tuple #[.agg #[.int .i64 0, .string ⟨#[]⟩, .string ⟨#[]⟩, .string ⟨#[]⟩], .int .i64 10]) (by simp [results, Tryz.results18, go_sem, *]) rfl ?_
    exact ⟨by rw [HE.out]; rfl, (bset (bset (bset (bset BF.out (by omega) 0 _) (by omega) 1 _) (by omega) 2 _) (by omega) 3 _)⟩
  have hq : ((s.extract (j + 1) s.size).toList == (ofL (Go.Lib.itoa (crcL bd 65535))).toList) = true := by
    rw [hsme, he]; exact beq_iff_eq.2 rfl
  have hcc : lastCut 32 (bl s) = some (bd, Go.Lib.itoa (crcL bd 65535)) := by rw [hct, he]
  have hcr : ∀ W, Calls Tryz.prog 42 #[.string (s.extract 0 j), .int .i64 65535] W fun e w' => e = .returned (.int .i64 (crcL bd 65535)) ∧ Below W.heap.size W w' := HCR.out
  obtain ⟨tx, htx⟩ : ∃ tx, tx = ofL (Go.Lib.itoa (crcL bd 65535)) := ⟨_, rfl⟩
  rw [← htx] at hq HDC
  have hqn : ((s.extract (j + 1) s.size).toList != tx.toList) = false := by unfold bne; rw [hq]; rfl
  clear hct he htx hsme hsm hbd hcr
  have HCC := Lib.hid hcc
  clear hcc
  go_enter Tryz.func18, Tryz.ntmps18
  go_upto_region 1 with (fail)
  rw [HW0.out]
  go_upto_region 2 with (go_at_call 40; with_reducible refine (HLI.out _).mono ?_; rintro e w1 ⟨rfl, rfl⟩)
  have HLO : Hid (∀ X, LibW (over W0.heap.size W0 X)) := fun X => HLW.out _ (over_below W0.heap.size W0 X)
  refine wp_region_over W0.heap.size W0 (Below.refl _ _) (by kernel_rfl) (by kernel_rfl) ?_
  repeat (go_big_quiet_step (first | (go_at_call 42; with_reducible exact over_left (Nat.le_refl _) (HCR.out _)) | (go_at_call 41; with_reducible exact over_left (Nat.le_refl _) (HDC.out _ (HLO.out _)))))
  refine wpQuiet_nil ?_
  rintro _ ⟨X, rfl⟩
  have HBX := Lib.hid (over_below W0.heap.size W0 X)
  generalize over W0.heap.size W0 X = w9 at *
  clear HLO hq hqn HCR HDC HLI
  go_wp2_with (fail)
  refine (HSP.out _ (HLW.out _ HBX.out)).mono ?_
  rintro e w2 ⟨a1, c1, rfl, hb2, hr2, hl5⟩
  have HB2 := Lib.hid (HBX.out.trans (hb2.mono HBX.out.size))
  clear hb2 HSP
  by_cases h2 : (splitN 32 4 bd).length = 5
  case neg =>
    have HE : Hid (chgR (bl s) = (zChg, 9)) := chgR_len HCC.out rfl h2
    rw [← hwl] at h2
    clear hr2 hwl hwm hss
    generalize wordsM 32 (s.extract 0 j) = ws at *
    have hq : ((ws.length : Int) != 5) = true := by rw [bne_iff_ne]; omega
    have hq2 : ((ws.length : Int) == 5) = false := by rw [beq_eq_false_iff_ne]; omega
    clear h2
    obtain ⟨t0, t1, t2, t3⟩ := HD.out _ HB2.out
    have gz := bkF (bkB K0.out HB2.out (by omega))
    have BF := Lib.hid (HH.out _ HB2.out)
    go_wp2_with fail
    refine bodyPost_ret (v := .tuple #[.agg #[.int .i64 0, .string ⟨#[]⟩, .string ⟨#[]⟩, .string ⟨#[]⟩], .int .i64 9]) (by simp [results, Tryz.results18, go_sem, *]) rfl ?_
    exact ⟨by rw [HE.out]; rfl, (bset (bset (bset (bset BF.out (by omega) 0 _) (by omega) 1 _) (by omega) 2 _) (by omega) 3 _)⟩
  obtain ⟨p0, p1, p2, p3, t, hab⟩ : ∃ p0 p1 p2 p3 t, splitN 32 4 bd = [p0, p1, p2, p3, t] := by
    match h : splitN 32 4 bd, h2 with
    | [p0, p1, p2, p3, t], _ => exact ⟨p0, p1, p2, p3, t, rfl⟩
  rw [hab] at hwm
  have hwm' : wordsM 32 (s.extract 0 j) = [ofL p0, ofL p1, ofL p2, ofL p3, ofL t] := hwm
  rw [hwm'] at hr2 hss
  rw [hwm']
  have hs0 : (ofL p0).size ≤ 1048576 := hss _ (by simp)
  have hs1 : (ofL p1).size ≤ 1048576 := hss _ (by simp)
  have hs2 : (ofL p2).size ≤ 1048576 := hss _ (by simp)
  have hst : (ofL t).size ≤ 1048576 := hss _ (by simp)
  obtain ⟨_, _, e1, _, _, hcl⟩ := Rd.strs hr2
  injection e1 with e1 _ e3
  subst e1 e3
  obtain ⟨b1, off, ea, hbb, hat⟩ := hcl (by simp)
  subst ea
  have x0 := hat 0 (by simp)
  have x1 := hat 1 (by simp)
  have x2 := hat 2 (by simp)
  have x4 := hat 4 (by simp)
  simp only [List.getElem_cons_zero, List.getElem_cons_succ, Nat.add_zero] at x0 x1 x2 x4
  clear hr2 hcl hat hl5 hwl hwm hwm' hss h2
  have HAB := Lib.hid hab
  have hts : (ofL t).size = t.length := rfl
  clear hab
  have HR0 : Hid (∀ W, Below W0.heap.size W0 W → Calls Tryz.prog 44 #[.string (ofL p0)] W fun e w' => e = .returned (.tuple #[.int .i64 (numV p0), .bool (numB p0)]) ∧ Below W.heap.size W w') := fun W hW => by
    have := readDecimal_any (ofL p0) (by omega) W (HLW.out W hW)
    rw [bl_ofL] at this
    exact this
  have HR2 : Hid (∀ W, Below W0.heap.size W0 W → Calls Tryz.prog 44 #[.string (ofL p2)] W fun e w' => e = .returned (.tuple #[.int .i64 (numV p2), .bool (numB p2)]) ∧ Below W.heap.size W w') := fun W hW => by
    have := readDecimal_any (ofL p2) (by omega) W (HLW.out W hW)
    rw [bl_ofL] at this
    exact this
  have HWI : Hid (∀ (W : World) (n : Int), Calls Tryz.prog 45 #[.int .i64 n, .int .i64 0, .int .i64 ((ofL t).size : Int)] W fun e w' => e = .returned (.bool (inB n 0 ((ofL t).size : Int))) ∧ W = w') := fun W n => within_any _ _ _ W
  have HN0 : Hid (∀ b, numB p0 = b → num p0 = if b = true then some (numV p0) else none) := fun b h1 => by
    subst h1
    unfold numB numV
    cases num p0 <;> rfl
  have HN2 : Hid (∀ b, numB p2 = b → num p2 = if b = true then some (numV p2) else none) := fun b h1 => by
    subst h1
    unfold numB numV
    cases num p2 <;> rfl
  generalize hv0 : numV p0 = d at *
  generalize hv2 : numV p2 = n at *
  have HV0 := Lib.hid hv0
  have HV2 := Lib.hid hv2
  clear hv0 hv2
  generalize ofL p0 = s0 at *
  generalize ofL p2 = s2 at *
  have HOT : Hid (bl (ofL t) = t) := bl_ofL t
  have HO1 : Hid (bl (ofL p1) = p1) := bl_ofL p1
  have HTS := Lib.hid hts
  clear hts
  generalize ofL t = tt at *
  generalize ofL p1 = s1 at *
  have z2 := HB2.out.size
  go_wp2_with (fail)
  refine (HR0.out _ HB2.out).mono ?_
  rintro e w3 ⟨rfl, hb3⟩
  have y1 := (bat hb3 b1 _ hbb).trans x1
  have y2 := (bat hb3 b1 _ hbb).trans x2
  have y4 := (bat hb3 b1 _ hbb).trans x4
  have HB3 := Lib.hid (HB2.out.trans (hb3.mono HB2.out.size))
  have z3 := hb3.size
  clear hb3 x0 x1 x2 x4
  go_wp2_with (fail)
  refine (HR2.out _ HB3.out).mono ?_
  rintro e w4 ⟨rfl, hb4⟩
  have x1 := (bat hb4 b1 _ (by omega)).trans y1
  have x4 := (bat hb4 b1 _ (by omega)).trans y4
  have HB4 := Lib.hid (HB3.out.trans (hb4.mono HB3.out.size))
  have z4 := hb4.size
  clear hb4 y1 y2 y4 HR0 HR2
  cases hn0 : numB p0 with
  | false =>
    have HE : Hid (chgR (bl s) = (zChg, 9)) := chgR_day HCC.out rfl HAB.out (HN0.out false hn0)
    clear hn0
    obtain ⟨t0, t1, t2, t3⟩ := HD.out _ HB4.out
    have gz := bkF (bkB K0.out HB4.out (by omega))
    have BF := Lib.hid (HH.out _ HB4.out)
    go_wp2_with fail
    refine bodyPost_ret (v := .tuple #[.agg #[.int .i64 0, .string ⟨#[]⟩, .string ⟨#[]⟩, .string ⟨#[]⟩], .int .i64 9]) (by simp [results, Tryz.results18, go_sem, *]) rfl ?_
    exact ⟨by rw [HE.out]; rfl, (bset (bset (bset (bset BF.out (by omega) 0 _) (by omega) 1 _) (by omega) 2 _) (by omega) 3 _)⟩
  | true =>
  have HP0 : Hid (num p0 = some d) := HN0.out true hn0
  clear hn0
  cases hn2 : numB p2 with
  | false =>
    have HE : Hid (chgR (bl s) = (zChg, 9)) := chgR_n HCC.out rfl HAB.out (HN2.out false hn2)
    clear hn2
    obtain ⟨t0, t1, t2, t3⟩ := HD.out _ HB4.out
    have gz := bkF (bkB K0.out HB4.out (by omega))
    have BF := Lib.hid (HH.out _ HB4.out)
    go_wp2_with fail
    refine bodyPost_ret (v := .tuple #[.agg #[.int .i64 0, .string ⟨#[]⟩, .string ⟨#[]⟩, .string ⟨#[]⟩], .int .i64 9]) (by simp [results, Tryz.results18, go_sem, *]) rfl ?_
    exact ⟨by rw [HE.out]; rfl, (bset (bset (bset (bset BF.out (by omega) 0 _) (by omega) 1 _) (by omega) 2 _) (by omega) 3 _)⟩
  | true =>
  have HP2 : Hid (num p2 = some n) := HN2.out true hn2
  clear hn2 HN0 HN2 HV0 HV2
  by_cases hin : 0 ≤ n ∧ n ≤ (tt.size : Int)
  case neg =>
    have HE : Hid (chgR (bl s) = (zChg, 9)) := chgR_out HCC.out rfl HAB.out HP2.out (by rw [← HTS.out]; exact hin)
    have hib : inB n 0 (tt.size : Int) = false := by
      rw [Bool.eq_false_iff]
      intro e
      unfold inB at e
      simp only [Bool.and_eq_true, decide_eq_true_eq] at e
      exact hin e
    have HWF : Hid (∀ W : World, Calls Tryz.prog 45 #[.int .i64 n, .int .i64 0, .int .i64 (tt.size : Int)] W fun e w' => e = .returned (.bool false) ∧ W = w') := fun W => by
      have := HWI.out W n
      rw [hib] at this
      exact this
    clear hin hib
    obtain ⟨t0, t1, t2, t3⟩ := HD.out _ HB4.out
    have gz := bkF (bkB K0.out HB4.out (by omega))
    have BF := Lib.hid (HH.out _ HB4.out)
    go_wp2_with (go_at_call 45; with_reducible refine (HWF.out _).mono ?_; rintro e w5 ⟨rfl, rfl⟩)
    refine bodyPost_ret (v := .tuple #[.agg #[.int .i64 0, .string ⟨#[]⟩, .string ⟨#[]⟩, .string ⟨#[]⟩], .int .i64 9]) (by simp [results, Tryz.results18, go_sem, *]) rfl ?_
    exact ⟨by rw [HE.out]; rfl, (bset (bset (bset (bset BF.out (by omega) 0 _) (by omega) 1 _) (by omega) 2 _) (by omega) 3 _)⟩
  obtain ⟨k, rfl⟩ : ∃ k : Nat, n = (k : Int) := ⟨n.toNat, by omega⟩
  have hk : k ≤ tt.size := by omega
  have hib : inB (k : Int) 0 (tt.size : Int) = true := by unfold inB; simp [hk]
  have HWT : Hid (∀ W : World, Calls Tryz.prog 45 #[.int .i64 (k : Int), .int .i64 0, .int .i64 (tt.size : Int)] W fun e w' => e = .returned (.bool true) ∧ W = w') := fun W => by
    have := HWI.out W (k : Int)
    rw [hib] at this
    exact this
  have hki : (k : Int) ≤ (tt.size : Int) := by omega
  have hk0 : (0 : Int) ≤ (k : Int) := by omega
  have hti : (tt.size : Int) ≤ 1048576 := by omega
  have HS4 : Hid (∀ W, Below w4.heap.size w4 W → ((W.cell? ⟨b1, off + 1, none⟩ = some (.string s1) ∧ W.cell? ⟨b1, off + 4, none⟩ = some (.string tt)))) := fun W hW => ⟨(bat hW b1 _ (by omega)).trans x1, (bat hW b1 _ (by omega)).trans x4⟩
  clear hin hib HWI
  go_upto_region 11 with (go_at_call 45; with_reducible refine (HWT.out _).mono ?_; rintro e w5 ⟨rfl, rfl⟩)
  clear x1 x4
  refine wp_region_ord 16 [(0, true), (1, true), (2, true), (3, true), (4, true), (5, true), (6, true), (7, true), (8, true), (9, true), (10, true), (11, true), (12, true), (13, true), (14, true), (15, false)] (fun W => (W.cell? ⟨b1, off + 1, none⟩ = some (.string s1) ∧ W.cell? ⟨b1, off + 4, none⟩ = some (.string tt))) (by kernel_rfl) (by kernel_rfl) (HS4.out _ (below_drew1 _)) (fun hHeld => ?_)
  refine wpOrd_read (v := ?_) rfl (fun _ _ _ h => h) ?_ ?_
  rotate_left
  · (intro W hSW; (try dsimp only at hSW); (go_simp <;> with_reducible rfl))
  (try simp only [Act.put, List.setIfInBounds_toArray, List.set_cons_zero, List.set_cons_succ])
  refine wpOrd_read (v := ?_) rfl (fun _ _ _ h => h) ?_ ?_
  rotate_left
  · (intro W hSW; (try dsimp only at hSW); (go_simp <;> with_reducible rfl))
  (try simp only [Act.put, List.setIfInBounds_toArray, List.set_cons_zero, List.set_cons_succ])
  refine wpOrd_read (v := ?_) rfl (fun _ _ _ h => h) ?_ ?_
  rotate_left
  · (intro W hSW; (try dsimp only at hSW); (go_simp <;> with_reducible rfl))
  (try simp only [Act.put, List.setIfInBounds_toArray, List.set_cons_zero, List.set_cons_succ])
  refine wpOrd_read (v := ?_) rfl (fun _ _ _ h => h) ?_ ?_
  rotate_left
  · (intro W hSW; (try dsimp only at hSW); (go_simp <;> with_reducible rfl))
  (try simp only [Act.put, List.setIfInBounds_toArray, List.set_cons_zero, List.set_cons_succ])
  refine wpOrd_read (v := ?_) rfl (fun _ _ _ h => h) ?_ ?_
  rotate_left
  · (intro W hSW; (try dsimp only at hSW); (go_simp <;> with_reducible rfl))
  (try simp only [Act.put, List.setIfInBounds_toArray, List.set_cons_zero, List.set_cons_succ])
  refine wpOrd_read (v := ?_) rfl (fun _ _ _ h => h) ?_ ?_
  rotate_left
  · (intro W hSW; (try dsimp only at hSW); (go_simp <;> with_reducible rfl))
  (try simp only [Act.put, List.setIfInBounds_toArray, List.set_cons_zero, List.set_cons_succ])
  refine wpOrd_read (v := ?_) rfl (fun _ _ _ h => h) ?_ ?_
  rotate_left
  · (intro W hSW; (try dsimp only at hSW); (go_simp <;> with_reducible rfl))
  (try simp only [Act.put, List.setIfInBounds_toArray, List.set_cons_zero, List.set_cons_succ])
  refine wpOrd_read (v := ?_) rfl (fun _ _ _ h => h) ?_ ?_
  rotate_left
  · (intro W hSW; (try dsimp only at hSW); (go_simp <;> with_reducible rfl))
  (try simp only [Act.put, List.setIfInBounds_toArray, List.set_cons_zero, List.set_cons_succ])
  refine wpOrd_read (v := ?_) rfl (fun _ _ _ h => h) ?_ ?_
  rotate_left
  · (intro W hSW; (try dsimp only at hSW); (go_simp <;> with_reducible rfl))
  (try simp only [Act.put, List.setIfInBounds_toArray, List.set_cons_zero, List.set_cons_succ])
  refine wpOrd_read (v := ?_) rfl (fun _ _ _ h => h) ?_ ?_
  rotate_left
  · (intro W hSW; (try dsimp only at hSW); (go_simp <;> with_reducible rfl))
  (try simp only [Act.put, List.setIfInBounds_toArray, List.set_cons_zero, List.set_cons_succ])
  refine wpOrd_read (v := ?_) rfl (fun _ _ _ h => h) ?_ ?_
  rotate_left
  · (intro W hSW; (try dsimp only at hSW); (go_simp <;> with_reducible rfl))
  (try simp only [Act.put, List.setIfInBounds_toArray, List.set_cons_zero, List.set_cons_succ])
  refine wpOrd_read (v := ?_) rfl (fun _ _ _ h => h) ?_ ?_
  rotate_left
  · (intro W hSW; (try dsimp only at hSW); (go_simp <;> with_reducible rfl))
  (try simp only [Act.put, List.setIfInBounds_toArray, List.set_cons_zero, List.set_cons_succ])
  refine wpOrd_read (v := ?_) rfl (fun _ _ _ h => h) ?_ ?_
  rotate_left
  · (intro W hSW; (try dsimp only at hSW); (go_simp <;> with_reducible rfl))
  (try simp only [Act.put, List.setIfInBounds_toArray, List.set_cons_zero, List.set_cons_succ])
  refine wpOrd_read (v := ?_) rfl (fun _ _ _ h => h) ?_ ?_
  rotate_left
  · (intro W hSW; (try dsimp only at hSW); (go_simp <;> with_reducible rfl))
  (try simp only [Act.put, List.setIfInBounds_toArray, List.set_cons_zero, List.set_cons_succ])
  refine wpOrd_read (v := ?_) rfl (fun _ _ _ h => h) ?_ ?_
  rotate_left
  · (intro W hSW; (try dsimp only at hSW); (go_simp <;> with_reducible rfl))
  (try simp only [Act.put, List.setIfInBounds_toArray, List.set_cons_zero, List.set_cons_succ])
  have HBD := Lib.hid (HB4.out.trans ((below_drew1 w4).mono HB4.out.size))
  have hzd : w4.heap.size ≤ w4.drew.heap.size := Nat.le_refl _
  have HSD : Hid (∀ W, Below w4.drew.heap.size w4.drew W → ((W.cell? ⟨b1, off + 1, none⟩ = some (.string s1) ∧ W.cell? ⟨b1, off + 4, none⟩ = some (.string tt)))) := fun W hW => HS4.out W ((below_drew1 w4).trans (hW.mono hzd))
  generalize w4.drew = w6 at *
  refine wpOrd_step rfl (fun K hK => ?_)
  go_simp
  refine hK.out _ _ (HSD.out _ (below_alloc w6 _)) ?_
  clear hK K
  (try simp only [Act.put, List.setIfInBounds_toArray, List.set_cons_zero, List.set_cons_succ])
  refine wpOrd_nil ?_
  simp only [List.drop_succ_cons, List.drop_zero]
  have hO : tt.extract 0 k = ofL (t.take k) := by rw [extract_seg tt 0 k hk, seg_take, HOT.out]
  have hN : tt.extract k tt.size = ofL (t.drop k) := by rw [extract_seg tt k _ (Nat.le_refl _), HOT.out, seg_drop _ _ _ (by rw [HTS.out]; exact Nat.le_refl _)]
  have hzO : (tt.extract 0 k).size ≤ 1048576 := by rw [ByteArray.size_extract]; omega
  have hzN : (tt.extract k tt.size).size ≤ 1048576 := by rw [ByteArray.size_extract]; omega
  have hob : chgOf d p1 t k = ⟨d, s1, tt.extract 0 k, tt.extract k tt.size⟩ := by unfold chgOf; rw [hO, hN, ← HO1.out, ofL_bl]
  have hci := chgR_in HCC.out HAB.out HP0.out HP2.out (by rw [← HTS.out]; exact hk) (by rw [← HTS.out]; exact hst)
  rw [hob] at hci
  have HID : I64 d := I64_num HP0.out
  clear hO hN hob
  generalize tt.extract 0 k = tO at *
  generalize tt.extract k tt.size = tN at *
  go_upto_region 12 with (fail)
  obtain ⟨W5, hW5, b5, z5, k5⟩ := boxes1 w6 #[.int .i64 d, .string s1, .string tO, .string tN] 40
  rw [hW5]
  clear hW5
  have HB5 := Lib.hid (HBD.out.trans (b5.mono HBD.out.size))
  have K5 := Lib.hid k5
  have zb5 := HBD.out.size
  clear b5 k5
  obtain ⟨t0, t1, t2, t3⟩ := HD.out _ HB5.out
  have gz := bkF (bkB K0.out HB5.out (by omega))
  have q0 := bkC (v := .int .i64 d) K5.out 0 rfl
  have q1 := bkC (v := .string s1) K5.out 1 rfl
  have q2 := bkC (v := .string tO) K5.out 2 rfl
  have q3 := bkC (v := .string tN) K5.out 3 rfl
  have BF := Lib.hid (HH.out _ HB5.out)
  have HCV : Hid (∀ W : World, Calls Tryz.prog 46 #[.agg #[.int .i64 d, .string s1, .string tO, .string tN]] W fun e w' => e = .returned (.bool (changeB ⟨d, s1, tO, tN⟩)) ∧ Below W.heap.size W w') := fun W => changeValid_any ⟨d, s1, tO, tN⟩ W (by show s1.size ≤ _; unfold maxLen; omega) (by show tO.size ≤ _; unfold maxLen; omega) (by show tN.size ≤ _; unfold maxLen; omega)
  have HLN : Hid (∀ W : World, Below W0.heap.size W0 W → Calls Tryz.prog 47 #[.agg #[.int .i64 d, .string s1, .string tO, .string tN]] W fun e w' => e = .returned (.string (ofL (lineL ⟨d, s1, tO, tN⟩))) ∧ Below W.heap.size W w') := fun W hW => changeLine_any ⟨d, s1, tO, tN⟩ ⟨HID, hs1, hzO, hzN⟩ W (HLW.out W hW)
  by_cases hcv : changeB ⟨d, s1, tO, tN⟩ = true
  case neg =>
    have HE : Hid (chgR (bl s) = (zChg, 9)) := by show _ = _; rw [hci, if_neg fun e => hcv e.1]
    rw [Bool.eq_false_iff.2 hcv] at HCV
    clear hci hcv HLN
    go_wp2_with (go_at_call 46; with_reducible refine (HCV.out _).mono ?_; rintro e w7 ⟨rfl, hb7⟩; clear t0 t1 t2 t3 gz q0 q1 q2 q3 BF; have HB7 := Lib.hid (HB5.out.trans (hb7.mono HB5.out.size)); have K7 := Lib.hid (bkB K5.out hb7 (by omega)); have zz := hb7.size; clear hb7; obtain ⟨t0, t1, t2, t3⟩ := HD.out _ HB7.out; have gz := bkF (bkB K0.out HB7.out (by omega)); have q0 := bkC (v := .int .i64 d) K7.out 0 rfl; have q1 := bkC (v := .string s1) K7.out 1 rfl; have q2 := bkC (v := .string tO) K7.out 2 rfl; have q3 := bkC (v := .string tN) K7.out 3 rfl; have BF := Lib.hid (HH.out _ HB7.out))
    refine bodyPost_ret (v := .tuple #[.agg #[.int .i64 0, .string ⟨#[]⟩, .string ⟨#[]⟩, .string ⟨#[]⟩], .int .i64 9]) (by simp [results, Tryz.results18, go_sem, *]) rfl ?_
    exact ⟨by rw [HE.out]; rfl, (bset (bset (bset (bset BF.out (by omega) 0 _) (by omega) 1 _) (by omega) 2 _) (by omega) 3 _)⟩
  rw [hcv] at HCV
  by_cases hln : lineL ⟨d, s1, tO, tN⟩ = bl s
  case neg =>
    have HE : Hid (chgR (bl s) = (zChg, 9)) := by show _ = _; rw [hci, if_neg fun e => hln e.2]
    have hqe : ((ofL (lineL ⟨d, s1, tO, tN⟩)).toList == s.toList) = false := by
      rw [toList_ofLL, beq_eq_false_iff_ne]
      intro e
      exact hln (by rw [e, ByteArray.toList_eq]; rfl)
    clear hci hcv hln
    generalize ofL (lineL ⟨d, s1, tO, tN⟩) = tl at *
    have hqn : (tl.toList != s.toList) = true := by unfold bne; rw [hqe]; rfl
    go_wp2_with (first | (go_at_call 46; with_reducible refine (HCV.out _).mono ?_; rintro e w7 ⟨rfl, hb7⟩; clear t0 t1 t2 t3 gz q0 q1 q2 q3 BF; have HB7 := Lib.hid (HB5.out.trans (hb7.mono HB5.out.size)); have K7 := Lib.hid (bkB K5.out hb7 (by omega)); have zz := hb7.size; clear hb7; obtain ⟨t0, t1, t2, t3⟩ := HD.out _ HB7.out; have gz := bkF (bkB K0.out HB7.out (by omega)); have q0 := bkC (v := .int .i64 d) K7.out 0 rfl; have q1 := bkC (v := .string s1) K7.out 1 rfl; have q2 := bkC (v := .string tO) K7.out 2 rfl; have q3 := bkC (v := .string tN) K7.out 3 rfl; have BF := Lib.hid (HH.out _ HB7.out)) | (go_at_call 47; with_reducible refine (HLN.out _ HB7.out).mono ?_; rintro e w8 ⟨rfl, hb8⟩; clear t0 t1 t2 t3 gz q0 q1 q2 q3 BF; have HB8 := Lib.hid (HB7.out.trans (hb8.mono HB7.out.size)); have K8 := Lib.hid (bkB K7.out hb8 (by omega)); have zz := hb8.size; clear hb8; obtain ⟨t0, t1, t2, t3⟩ := HD.out _ HB8.out; have gz := bkF (bkB K0.out HB8.out (by omega)); have q0 := bkC (v := .int .i64 d) K8.out 0 rfl; have q1 := bkC (v := .string s1) K8.out 1 rfl; have q2 := bkC (v := .string tO) K8.out 2 rfl; have q3 := bkC (v := .string tN) K8.out 3 rfl; have BF := Lib.hid (HH.out _ HB8.out)))
    refine bodyPost_ret (v := .tuple #[.agg #[.int .i64 0, .string ⟨#[]⟩, .string ⟨#[]⟩, .string ⟨#[]⟩], .int .i64 9]) (by simp [results, Tryz.results18, go_sem, *]) rfl ?_
    exact ⟨by rw [HE.out]; rfl, (bset (bset (bset (bset BF.out (by omega) 0 _) (by omega) 1 _) (by omega) 2 _) (by omega) 3 _)⟩
  case pos =>
    have HE : Hid (chgR (bl s) = (⟨d, s1, tO, tN⟩, 0)) := by show _ = _; rw [hci, if_pos ⟨hcv, hln⟩]
    rw [hln, ofL_bl] at HLN
    have hqe : (s.toList == s.toList) = true := beq_iff_eq.2 rfl
    have hqn : (s.toList != s.toList) = false := by unfold bne; rw [hqe]; rfl
    clear hci hcv hln
    go_wp2_with (first | (go_at_call 46; with_reducible refine (HCV.out _).mono ?_; rintro e w7 ⟨rfl, hb7⟩; clear t0 t1 t2 t3 gz q0 q1 q2 q3 BF; have HB7 := Lib.hid (HB5.out.trans (hb7.mono HB5.out.size)); have K7 := Lib.hid (bkB K5.out hb7 (by omega)); have zz := hb7.size; clear hb7; obtain ⟨t0, t1, t2, t3⟩ := HD.out _ HB7.out; have gz := bkF (bkB K0.out HB7.out (by omega)); have q0 := bkC (v := .int .i64 d) K7.out 0 rfl; have q1 := bkC (v := .string s1) K7.out 1 rfl; have q2 := bkC (v := .string tO) K7.out 2 rfl; have q3 := bkC (v := .string tN) K7.out 3 rfl; have BF := Lib.hid (HH.out _ HB7.out)) | (go_at_call 47; with_reducible refine (HLN.out _ HB7.out).mono ?_; rintro e w8 ⟨rfl, hb8⟩; clear t0 t1 t2 t3 gz q0 q1 q2 q3 BF; have HB8 := Lib.hid (HB7.out.trans (hb8.mono HB7.out.size)); have K8 := Lib.hid (bkB K7.out hb8 (by omega)); have zz := hb8.size; clear hb8; obtain ⟨t0, t1, t2, t3⟩ := HD.out _ HB8.out; have gz := bkF (bkB K0.out HB8.out (by omega)); have q0 := bkC (v := .int .i64 d) K8.out 0 rfl; have q1 := bkC (v := .string s1) K8.out 1 rfl; have q2 := bkC (v := .string tO) K8.out 2 rfl; have q3 := bkC (v := .string tN) K8.out 3 rfl; have BF := Lib.hid (HH.out _ HB8.out)))
    refine bodyPost_ret (v := .tuple #[.agg #[.int .i64 d, .string s1, .string tO, .string tN], .int .i64 0]) (by simp [results, Tryz.results18, go_sem, *]) rfl ?_
    exact ⟨by rw [HE.out]; rfl, (bset (bset (bset (bset BF.out (by omega) 0 _) (by omega) 1 _) (by omega) 2 _) (by omega) 3 _)⟩
end
section
open Go.RowKit
set_option linter.unusedVariables false
set_option linter.unusedSimpArgs false

theorem bodyR_cases (l : List UInt8) : ((bodyR l).2 = 0 ∧ lastCut 32 l = some ((bodyR l).1, Go.Lib.itoa (crcL (bodyR l).1 65535))) ∨ (bodyR l = ([], 10) ∧ chgR l = (zChg, 10)) := by
  cases h : lastCut 32 l with
  | none => exact Or.inr ⟨by unfold bodyR; rw [h], chgR_none h⟩
  | some p =>
    obtain ⟨b, s⟩ := p
    by_cases hs : s = Go.Lib.itoa (crcL b 65535)
    · left
      have e : bodyR l = (b, 0) := by unfold bodyR; rw [h]; exact if_pos hs
      rw [e]
      exact ⟨rfl, by rw [hs]⟩
    · exact Or.inr ⟨by unfold bodyR; rw [h]; exact if_neg hs, chgR_sum h hs⟩
theorem splitN_le (c : UInt8) (l : List UInt8) : ∀ k, (splitN c k l).length ≤ (splitC c l).length := by
  induction l with
  | nil => intro k; cases k <;> simp [splitN, splitC]
  | cons b l ih =>
    intro k
    cases k with
    | zero =>
      have : 0 < (splitC c (b :: l)).length := List.length_pos_iff.2 (splitC_ne _ _)
      simp [splitN]; omega
    | succ k =>
      rw [splitN, splitC]
      by_cases h : b = c
      · rw [if_pos h, if_pos h, List.length_cons, List.length_cons]; have := ih k; omega
      · rw [if_neg h, if_neg h, onto_len _ _ (splitN_ne _ _ _), onto_len _ _ (splitC_ne _ _)]; exact ih (k + 1)
theorem valueB_len {s : ByteArray} (h : (eqS s emptyS || valueB s) = true) : s.size ≤ 200 := by
  rcases Bool.or_eq_true_iff.1 h with e | e
  · rw [eqS_iff.1 e]; exact Nat.zero_le _
  · unfold valueB at e
    simp only [Bool.and_eq_true, decide_eq_true_eq] at e
    omega
theorem changeB_len {x : DChange} (h : changeB x = true) : x.old_.size ≤ 200 ∧ x.new_.size ≤ 200 := by
  unfold changeB at h
  simp only [Bool.and_eq_true] at h
  exact ⟨valueB_len h.2.2.1, valueB_len h.2.2.2.1⟩
theorem chgR_big {line body p0 p1 p2 p3 t : List UInt8} {n m : Int} (h : lastCut 32 line = some (body, Go.Lib.itoa (crcL body 65535))) (hp : splitN 32 4 body = [p0, p1, p2, p3, t]) (h2 : num p2 = some n) (h3 : num p3 = some m) (hb : ¬ (inB n 0 200 = true ∧ inB m 0 200 = true ∧ n + m = (t.length : Int))) : chgR line = (zChg, 9) := by
  rw [chgR_five h rfl hp, h2, h3]
  cases num p0 with
  | none => rfl
  | some d =>
    refine if_neg fun e => hb ?_
    obtain ⟨e1, e2, e3, e4⟩ := e
    have := changeB_len e4
    have g1 : ((t.take n.toNat).length : Nat) ≤ 200 := this.1
    have g2 : ((t.drop n.toNat).length : Nat) ≤ 200 := this.2
    rw [List.length_take] at g1
    rw [List.length_drop] at g2
    unfold inB
    refine ⟨?_, ?_, e2⟩ <;> simp only [Bool.and_eq_true, decide_eq_true_eq] <;> omega
theorem chgR_ok {line body p0 p1 p2 p3 t : List UInt8} {d : Int} {k : Nat} {m : Int} (h : lastCut 32 line = some (body, Go.Lib.itoa (crcL body 65535))) (hp : splitN 32 4 body = [p0, p1, p2, p3, t]) (h0 : num p0 = some d) (h2 : num p2 = some (k : Int)) (h3 : num p3 = some m) (hm : (k : Int) + m = (t.length : Int)) (hk : k ≤ t.length) : chgR line = if changeB (chgOf d p1 t k) = true then (chgOf d p1 t k, 0) else (zChg, 9) := by
  rw [chgR_five h rfl hp, h0, h2, h3]
  simp only [Int.toNat_natCast]
  by_cases hc : changeB (chgOf d p1 t k) = true
  · rw [if_pos hc]; exact if_pos ⟨by omega, hm, by omega, hc⟩
  · rw [if_neg hc]; exact if_neg fun e => hc e.2.2.2
theorem cut_lt {c : UInt8} {l x y : List UInt8} (h : lastCut c l = some (x, y)) : x.length ≤ l.length := by
  rw [(lastCut_some h).1, List.length_append]; omega
theorem four {α : Type} {l : List α} (h : l.length = 4) : ∃ a b c d, l = [a, b, c, d] := by
  match l, h with
  | [a, b, c, d], _ => exact ⟨a, b, c, d, rfl⟩
set_option maxHeartbeats 8000000 in
set_option maxRecDepth 100000 in
theorem l28Read_any (s : ByteArray) (hs : s.size ≤ 1048576) (w : World) : Calls Tryz.prog 16 #[.string s] w fun e w' => e = .returned (.tuple #[chgV (chgR (bl s)).1, .int .i64 (chgR (bl s)).2]) ∧ Below w.heap.size w w' := by
  obtain ⟨W0, hW0, b0, z0, k0⟩ := boxes1 w #[.int .i64 0, .string ⟨#[]⟩, .string ⟨#[]⟩, .string ⟨#[]⟩] 40
  have HW0 := Lib.hid hW0
  clear hW0
  have B0 := Lib.hid b0
  clear b0
  have K0 := Lib.hid k0
  clear k0
  have HD : Hid (∀ W : World, Below W0.heap.size W0 W → (W.cell? ⟨w.heap.size, 0, none⟩ = some (.int .i64 0) ∧ W.cell? ⟨w.heap.size, 1, none⟩ = some (.string ⟨#[]⟩) ∧ W.cell? ⟨w.heap.size, 2, none⟩ = some (.string ⟨#[]⟩) ∧ W.cell? ⟨w.heap.size, 3, none⟩ = some (.string ⟨#[]⟩))) := fun W hW => ⟨bkC (bkB K0.out hW (by omega)) 0 rfl, bkC (bkB K0.out hW (by omega)) 1 rfl, bkC (bkB K0.out hW (by omega)) 2 rfl, bkC (bkB K0.out hW (by omega)) 3 rfl⟩
  have HB : Hid (Below W0.heap.size W0 W0) := Below.refl _ _
  have HH : Hid (∀ W : World, Below W0.heap.size W0 W → Below w.heap.size w W) := fun W hW => B0.out.trans (hW.mono (by omega))
  have hsi : (s.size : Int) ≤ 1048576 := by omega
  have HBO : Hid (∀ W, Calls Tryz.prog 33 #[.string s] W fun e w' => e = .returned (.tuple #[.string (ofL (bodyR (bl s)).1), .int .i64 (bodyR (bl s)).2]) ∧ Below W.heap.size W w') := fun W => l28Body_any s hs W
  rcases bodyR_cases (bl s) with ⟨hb0, hcc⟩ | ⟨hb, hE⟩
  case inr =>
    have HE : Hid (chgR (bl s) = (zChg, 10)) := hE
    rw [hb] at HBO
    clear hb hE
    go_enter Tryz.func16, Tryz.ntmps16
    go_upto_region 1 with (fail)
    rw [HW0.out]
    go_wp2_with (fail)
    refine (HBO.out _).mono ?_
    rintro e w1 ⟨rfl, hb1⟩
    have HBX := Lib.hid (HB.out.trans (hb1.mono HB.out.size))
    clear hb1
    obtain ⟨t0, t1, t2, t3⟩ := HD.out _ HBX.out
    have gz := bkF (bkB K0.out HBX.out (by omega))
    have BF := Lib.hid (HH.out _ HBX.out)
    go_wp2_with fail
    refine bodyPost_ret (v := .tuple #[.agg #[.int .i64 0, .string ⟨#[]⟩, .string ⟨#[]⟩, .string ⟨#[]⟩], .int .i64 10]) (by simp [results, Tryz.results16, go_sem, *]) rfl ?_
    exact ⟨by rw [HE.out]; rfl, (bset (bset (bset (bset BF.out (by omega) 0 _) (by omega) 1 _) (by omega) 2 _) (by omega) 3 _)⟩
  rw [hb0] at HBO
  have hlb := cut_lt hcc
  rw [bl_len] at hlb
  have HCC := Lib.hid hcc
  clear hcc hb0
  generalize (bodyR (bl s)).1 = bd at *
  have hbs : (ofL bd).size ≤ 1048576 := by show bd.length ≤ _; omega
  have HBB : Hid (bl (ofL bd) = bd) := bl_ofL bd
  generalize ofL bd = bb at *
  have HBL : Hid (bd.length = bb.size) := by show _ = _; rw [← HBB.out, bl_len]
  have hbi : (bb.size : Int) ≤ 1048576 := by omega
  clear hlb
  obtain ⟨i0, hi0, hz0, hz1, hz2⟩ := info_parts infoStr
  go_enter Tryz.func16, Tryz.ntmps16
  go_upto_region 1 with (fail)
  rw [HW0.out]
  go_upto_region 4 with (go_at_call 33; with_reducible refine (HBO.out _).mono ?_; rintro e w1 ⟨rfl, hb1⟩)
  have HB1 := Lib.hid (HB.out.trans (hb1.mono HB.out.size))
  have zW0 := HB1.out.size
  have hB : Hid (Below w1.heap.size w1 (w1.alloc (.cells #[] 9))) := (Below.refl _ _).alloc (Nat.le_refl _) _
  clear hb1 HBO
  go_wp2
  go_loopw [6, 7, 8] (fun v fr i wr => ∃ (k f : Nat) (out : List (List UInt8)), k ≤ bb.size ∧ f ≤ k ∧ out.length ≤ 4 ∧ i = .int .i64 k ∧ fr = .int .i64 f ∧ splitC 32 ((bl bb).take k) = out ++ [seg (bl bb) f k] ∧ splitC 32 ((bl bb).take f) = out ++ [[]] ∧ Below w1.heap.size w1 wr ∧ Grow wr w1.heap.size 9 1 v out.length (out.map (fun p => strT (ofL p))) []) (fun _ _ i wr => bb.size - (intOf i).toNat)
  case atStart => exact ⟨0, 0, [], Nat.zero_le _, Nat.le_refl _, Nat.zero_le _, rfl, rfl, rfl, rfl, hB.out, by simpa using grow_room w1 9 #[] 0 rfl (by unfold maxLen; omega)⟩
  case round =>
  obtain ⟨k, f, out, hk, hf, ho, rfl, rfl, hsp, hsf, hb, hgr⟩ := hrel
  have HS := Lib.hid hsp
  have HSF := Lib.hid hsf
  have HBR := Lib.hid hb
  have HG := Lib.hid hgr
  have zr := hb.size
  clear hb hgr hsp hsf
  have hvf : ∃ av cv, _ = Value.slice av out.length cv := (let ⟨a, c, _, e, _, _⟩ := HG.out.toOwn (lo := w1.heap.size) (by omega) In.nil (by omega); ⟨a, c, e⟩)
  obtain ⟨av, cv, rfl⟩ := hvf
  by_cases ho4 : out.length < 4
  case pos =>
    have ho4i : (out.length : Int) < 4 := by omega
    by_cases hlt : k < bb.size
    case pos =>
      have HSN := Lib.hid (seg_succS bb f k hlt hf)
      have HTK : Hid ((bl bb).take (k + 1) = (bl bb).take k ++ [bb[k]]) := by
        have hkl : k < (bl bb).length := by rw [bl_len]; exact hlt
        show _ = _
        rw [List.take_succ_eq_append_getElem hkl, bl_get bb k hkl]
      by_cases hm : bb[k] = 32
      · have hmi : ((bb[k].toNat : Int) == 32) = true := by rw [hm]; rfl
        have HE := Lib.hid (extract_seg bb f k hk)
        have HM := Lib.hid hm
        clear hm
        go_upto_region 10 with (fail)
        go_wp2_with (at_builtin; refine wpList_append1 rfl (.tmp 42) (.tmp 47) _ rfl (w1.heap.size) 9 i0 _ 1 16 Tryz.underlying36 hi0 hz0 hz1 hz2 rfl (by omega) _ _ _ [] rfl HG.out [.string (bb.extract f k)] [strT (bb.extract f k)] [] rfl 1 rfl (fun u hu => by simp at hu; subst hu; rfl) (RepV.lits [.string (bb.extract f k)]) List.nodup_nil (fun b h => by simp at h) 0 In.nil In.nil (by simp) (by simp) (by unfold maxLen; omega) (by omega) (by omega) ?_; intro v2 w2 hgn)
        have HGN := Lib.hid hgn
        clear hgn
        go_wp2
        go_roundw
        case rel =>
          have e1 : splitC 32 ((bl bb).take (k + 1)) = (out ++ [seg (bl bb) f k]) ++ [[]] := by rw [HTK.out, splitC_snoc 32 _ _ _ _ HS.out, if_pos HM.out]
          refine ⟨k + 1, k + 1, out ++ [seg (bl bb) f k], by omega, Nat.le_refl _, by simp; omega, by go_num, by go_num, ?_, e1, HBR.out.trans HGN.out.below, ?_⟩
          · rw [e1, seg_self]
          · rw [List.length_append, List.map_append]
            have := HGN.out.grow
            rw [HE.out] at this
            exact this
        case measure => simp [intOf]; omega
      · have hmi : ((bb[k].toNat : Int) == 32) = false := by
          rw [beq_eq_false_iff_ne]
          intro e
          exact hm (UInt8.toNat_inj.1 (show bb[k].toNat = 32 by omega))
        have HM := Lib.hid hm
        clear hm
        go_wp2
        go_roundw
        case rel =>
          refine ⟨k + 1, f, out, by omega, by omega, ho, by go_num, rfl, ?_, HSF.out, HBR.out, HG.out⟩
          rw [HTK.out, splitC_snoc 32 _ _ _ _ HS.out, if_neg HM.out, HSN.out]
        case measure => simp [intOf]; omega
    case neg =>
      obtain rfl : k = bb.size := by omega
      have HE : Hid (chgR (bl s) = (zChg, 9)) := chgR_len HCC.out rfl (by
        have h1 := splitN_le 32 bd 4
        have h2 : (splitC 32 bd).length = out.length + 1 := by
          have h3 := HS.out
          rw [← bl_len, List.take_length, HBB.out] at h3
          rw [h3]; simp
        omega)
      have HBX := Lib.hid (HB1.out.trans (HBR.out.mono (by omega)))
      clear HG
      obtain ⟨t0, t1, t2, t3⟩ := HD.out _ HBX.out
      have gz := bkF (bkB K0.out HBX.out (by omega))
      have BF := Lib.hid (HH.out _ HBX.out)
      go_wp2_with fail
      refine bodyPost_ret (v := .tuple #[.agg #[.int .i64 0, .string ⟨#[]⟩, .string ⟨#[]⟩, .string ⟨#[]⟩], .int .i64 9]) (by simp [results, Tryz.results16, go_sem, *]) rfl ?_
      exact ⟨by rw [HE.out]; rfl, (bset (bset (bset (bset BF.out (by omega) 0 _) (by omega) 1 _) (by omega) 2 _) (by omega) 3 _)⟩
  case neg =>
  have ho4e : out.length = 4 := by omega
  have HP : Hid (splitN 32 4 bd = out ++ [bd.drop f]) := by
    show _ = _
    have := splitN_app 32 (bd.take f) (bd.drop f) out 4 (by rw [← HBB.out]; exact HSF.out) ho4e
    rw [List.take_append_drop] at this
    exact this
  obtain ⟨av', cv', fv, ev, ov, iv⟩ := HG.out.toOwn (lo := w1.heap.size) (by omega) In.nil (by omega)
  injection ev with ev1 ev2 ev3
  subst ev1 ev3
  have hrd := ov.rd iv
  have HBX := Lib.hid (HB1.out.trans (HBR.out.mono (by omega)))
  have HXT : Hid (bb.extract f bb.size = ofL (bd.drop f)) := by
    show _ = _
    rw [extract_seg bb f _ (Nat.le_refl _), seg_drop _ _ _ (by rw [bl_len]; exact Nat.le_refl _), HBB.out]
  obtain ⟨p0, p1, p2, p3, rfl⟩ := four ho4e
  have hrd2 : Rd wr.heap.size wr (strsT [ofL p0, ofL p1, ofL p2, ofL p3]) (.slice av 4 cv) := hrd
  obtain ⟨_, _, e1, _, _, hcl⟩ := Rd.strs hrd2
  injection e1 with e1 _ e3
  subst e1 e3
  obtain ⟨b1, off, ea, hbb1, hat⟩ := hcl (by simp)
  subst ea
  have x0 := hat 0 (by simp)
  have x1 := hat 1 (by simp)
  have x2 := hat 2 (by simp)
  have x3 := hat 3 (by simp)
  simp only [List.getElem_cons_zero, List.getElem_cons_succ, Nat.add_zero] at x0 x1 x2 x3
  simp only [List.length_cons, List.length_nil]
  have hmem : ∀ p ∈ [p0, p1, p2, p3, bd.drop f], p.length ≤ bb.size := fun p hp => by
    have h1 := HP.out
    have := splitN_size 32 bd 4 p (by rw [h1]; exact hp)
    rw [HBL.out] at this
    exact this
  have hl0 := hmem p0 (by simp)
  have hl1 := hmem p1 (by simp)
  have hl2 := hmem p2 (by simp)
  have hl3 := hmem p3 (by simp)
  have HAB : Hid (splitN 32 4 bd = [p0, p1, p2, p3, bd.drop f]) := HP.out
  clear hrd hrd2 hcl hat hmem ov iv HG HS HSF HP ho4e ho4 ho
  have hs1 : (ofL p1).size ≤ 1048576 := by show p1.length ≤ _; omega
  have hst : (ofL (bd.drop f)).size ≤ 1048576 := by show (bd.drop f).length ≤ _; rw [List.length_drop, HBL.out]; omega
  have HN0 : Hid (∀ W, Calls Tryz.prog 31 #[.string (ofL p0)] W fun e w' => e = .returned (.tuple #[.int .i64 (numV p0), .bool (numB p0)]) ∧ W = w') := fun W => by
    have := l01Number_any (ofL p0) (by show p0.length ≤ _; omega) W
    rw [bl_ofL] at this
    exact this
  have HN2 : Hid (∀ W, Calls Tryz.prog 31 #[.string (ofL p2)] W fun e w' => e = .returned (.tuple #[.int .i64 (numV p2), .bool (numB p2)]) ∧ W = w') := fun W => by
    have := l01Number_any (ofL p2) (by show p2.length ≤ _; omega) W
    rw [bl_ofL] at this
    exact this
  have HN3 : Hid (∀ W, Calls Tryz.prog 31 #[.string (ofL p3)] W fun e w' => e = .returned (.tuple #[.int .i64 (numV p3), .bool (numB p3)]) ∧ W = w') := fun W => by
    have := l01Number_any (ofL p3) (by show p3.length ≤ _; omega) W
    rw [bl_ofL] at this
    exact this
  have HI : Hid (∀ W (n : Int), Calls Tryz.prog 32 #[.int .i64 n, .int .i64 0, .int .i64 200] W fun e w' => e = .returned (.bool (inB n 0 200)) ∧ W = w') := fun W n => l00In_any n 0 200 W
  have HM0 : Hid (∀ b, numB p0 = b → num p0 = if b = true then some (numV p0) else none) := fun b h1 => by
    subst h1
    unfold numB numV
    cases num p0 <;> rfl
  have HM2 : Hid (∀ b, numB p2 = b → num p2 = if b = true then some (numV p2) else none) := fun b h1 => by
    subst h1
    unfold numB numV
    cases num p2 <;> rfl
  have HM3 : Hid (∀ b, numB p3 = b → num p3 = if b = true then some (numV p3) else none) := fun b h1 => by
    subst h1
    unfold numB numV
    cases num p3 <;> rfl
  have HTL : Hid (((bd.drop f).length : Int) = ((ofL (bd.drop f)).size : Int)) := rfl
  have HT2 : Hid (bl (ofL (bd.drop f)) = bd.drop f) := bl_ofL _
  generalize numV p0 = d at *
  generalize numV p2 = n at *
  generalize numV p3 = m at *
  have HO1 : Hid (bl (ofL p1) = p1) := bl_ofL p1
  generalize ofL p0 = s0 at *
  generalize ofL p1 = s1 at *
  generalize ofL p2 = s2 at *
  generalize ofL p3 = s3 at *
  have hxt := HXT.out
  generalize hTT : ofL (bd.drop f) = tt at *
  clear hTT
  generalize bd.drop f = t at *
  have hfi : (f : Int) ≤ (bb.size : Int) := by omega
  have hf0 : (0 : Int) ≤ (f : Int) := by omega
  have zb := HBX.out.size
  have hti : (tt.size : Int) ≤ 1048576 := by omega
  have HS4 : Hid (∀ W, Below wr.heap.size wr W → (W.cell? ⟨b1, off + 1, none⟩ = some (.string s1))) := fun W hW => (bat hW b1 _ (by omega)).trans x1
  clear hl0 hl1 hl2 hl3
  by_cases hlt : k < bb.size
  case pos =>
    go_upto_region 14 with (fail)
    cases hn0 : numB p0 with
    | false =>
      have HE : Hid (chgR (bl s) = (zChg, 9)) := chgR_day HCC.out rfl HAB.out (HM0.out false hn0)
      rw [hn0] at HN0
      clear hn0
      obtain ⟨t0, t1, t2, t3⟩ := HD.out _ HBX.out
      have gz := bkF (bkB K0.out HBX.out (by omega))
      have BF := Lib.hid (HH.out _ HBX.out)
      go_wp2_with (first | (go_at_call 31; with_reducible refine (HN0.out _).mono ?_; rintro e w_0 ⟨rfl, rfl⟩) | (go_at_call 31; with_reducible refine (HN2.out _).mono ?_; rintro e w_2 ⟨rfl, rfl⟩) | (go_at_call 31; with_reducible refine (HN3.out _).mono ?_; rintro e w_3 ⟨rfl, rfl⟩))
      refine bodyPost_ret (v := .tuple #[.agg #[.int .i64 0, .string ⟨#[]⟩, .string ⟨#[]⟩, .string ⟨#[]⟩], .int .i64 9]) (by simp [results, Tryz.results16, go_sem, *]) rfl ?_
      exact ⟨by rw [HE.out]; rfl, (bset (bset (bset (bset BF.out (by omega) 0 _) (by omega) 1 _) (by omega) 2 _) (by omega) 3 _)⟩
    | true =>
    have HP0 : Hid (num p0 = some d) := HM0.out true hn0
    rw [hn0] at HN0
    clear hn0
    cases hn2 : numB p2 with
    | false =>
      have HE : Hid (chgR (bl s) = (zChg, 9)) := chgR_n HCC.out rfl HAB.out (HM2.out false hn2)
      rw [hn2] at HN2
      clear hn2
      obtain ⟨t0, t1, t2, t3⟩ := HD.out _ HBX.out
      have gz := bkF (bkB K0.out HBX.out (by omega))
      have BF := Lib.hid (HH.out _ HBX.out)
      go_wp2_with (first | (go_at_call 31; with_reducible refine (HN0.out _).mono ?_; rintro e w_0 ⟨rfl, rfl⟩) | (go_at_call 31; with_reducible refine (HN2.out _).mono ?_; rintro e w_2 ⟨rfl, rfl⟩) | (go_at_call 31; with_reducible refine (HN3.out _).mono ?_; rintro e w_3 ⟨rfl, rfl⟩))
      refine bodyPost_ret (v := .tuple #[.agg #[.int .i64 0, .string ⟨#[]⟩, .string ⟨#[]⟩, .string ⟨#[]⟩], .int .i64 9]) (by simp [results, Tryz.results16, go_sem, *]) rfl ?_
      exact ⟨by rw [HE.out]; rfl, (bset (bset (bset (bset BF.out (by omega) 0 _) (by omega) 1 _) (by omega) 2 _) (by omega) 3 _)⟩
    | true =>
    have HP2 : Hid (num p2 = some n) := HM2.out true hn2
    rw [hn2] at HN2
    clear hn2
    cases hn3 : numB p3 with
    | false =>
      have HE : Hid (chgR (bl s) = (zChg, 9)) := chgR_m HCC.out rfl HAB.out (HM3.out false hn3)
      rw [hn3] at HN3
      clear hn3
      obtain ⟨t0, t1, t2, t3⟩ := HD.out _ HBX.out
      have gz := bkF (bkB K0.out HBX.out (by omega))
      have BF := Lib.hid (HH.out _ HBX.out)
      go_wp2_with (first | (go_at_call 31; with_reducible refine (HN0.out _).mono ?_; rintro e w_0 ⟨rfl, rfl⟩) | (go_at_call 31; with_reducible refine (HN2.out _).mono ?_; rintro e w_2 ⟨rfl, rfl⟩) | (go_at_call 31; with_reducible refine (HN3.out _).mono ?_; rintro e w_3 ⟨rfl, rfl⟩))
      refine bodyPost_ret (v := .tuple #[.agg #[.int .i64 0, .string ⟨#[]⟩, .string ⟨#[]⟩, .string ⟨#[]⟩], .int .i64 9]) (by simp [results, Tryz.results16, go_sem, *]) rfl ?_
      exact ⟨by rw [HE.out]; rfl, (bset (bset (bset (bset BF.out (by omega) 0 _) (by omega) 1 _) (by omega) 2 _) (by omega) 3 _)⟩
    | true =>
    have HP3 : Hid (num p3 = some m) := HM3.out true hn3
    rw [hn3] at HN3
    clear hn3
    have HBG : Hid (¬ (inB n 0 200 = true ∧ inB m 0 200 = true ∧ n + m = (t.length : Int)) → chgR (bl s) = (zChg, 9)) := fun h => chgR_big HCC.out HAB.out HP2.out HP3.out h
    cases hi2 : inB n 0 200 with
    | false =>
      have HE : Hid (chgR (bl s) = (zChg, 9)) := HBG.out (by rw [hi2]; simp)
      have HIA : Hid (∀ W : World, Calls Tryz.prog 32 #[.int .i64 n, .int .i64 0, .int .i64 200] W fun e w' => e = .returned (.bool false) ∧ W = w') := fun W => by have := HI.out W n; rw [hi2] at this; exact this
      clear hi2
      obtain ⟨t0, t1, t2, t3⟩ := HD.out _ HBX.out
      have gz := bkF (bkB K0.out HBX.out (by omega))
      have BF := Lib.hid (HH.out _ HBX.out)
      go_wp2_with (first | (go_at_call 31; with_reducible refine (HN0.out _).mono ?_; rintro e w_0 ⟨rfl, rfl⟩) | (go_at_call 31; with_reducible refine (HN2.out _).mono ?_; rintro e w_2 ⟨rfl, rfl⟩) | (go_at_call 31; with_reducible refine (HN3.out _).mono ?_; rintro e w_3 ⟨rfl, rfl⟩) | (go_at_call 32; with_reducible refine (HIA.out _).mono ?_; rintro e w_5 ⟨rfl, rfl⟩))
      refine bodyPost_ret (v := .tuple #[.agg #[.int .i64 0, .string ⟨#[]⟩, .string ⟨#[]⟩, .string ⟨#[]⟩], .int .i64 9]) (by simp [results, Tryz.results16, go_sem, *]) rfl ?_
      exact ⟨by rw [HE.out]; rfl, (bset (bset (bset (bset BF.out (by omega) 0 _) (by omega) 1 _) (by omega) 2 _) (by omega) 3 _)⟩
    | true =>
    have HIA : Hid (∀ W : World, Calls Tryz.prog 32 #[.int .i64 n, .int .i64 0, .int .i64 200] W fun e w' => e = .returned (.bool true) ∧ W = w') := fun W => by have := HI.out W n; rw [hi2] at this; exact this
    cases hi3 : inB m 0 200 with
    | false =>
      have HE : Hid (chgR (bl s) = (zChg, 9)) := HBG.out (by rw [hi3]; simp)
      have HIB : Hid (∀ W : World, Calls Tryz.prog 32 #[.int .i64 m, .int .i64 0, .int .i64 200] W fun e w' => e = .returned (.bool false) ∧ W = w') := fun W => by have := HI.out W m; rw [hi3] at this; exact this
      clear hi2 hi3
      obtain ⟨t0, t1, t2, t3⟩ := HD.out _ HBX.out
      have gz := bkF (bkB K0.out HBX.out (by omega))
      have BF := Lib.hid (HH.out _ HBX.out)
      go_wp2_with (first | (go_at_call 31; with_reducible refine (HN0.out _).mono ?_; rintro e w_0 ⟨rfl, rfl⟩) | (go_at_call 31; with_reducible refine (HN2.out _).mono ?_; rintro e w_2 ⟨rfl, rfl⟩) | (go_at_call 31; with_reducible refine (HN3.out _).mono ?_; rintro e w_3 ⟨rfl, rfl⟩) | (go_at_call 32; with_reducible refine (HIA.out _).mono ?_; rintro e w_5 ⟨rfl, rfl⟩) | (go_at_call 32; with_reducible refine (HIB.out _).mono ?_; rintro e w_5 ⟨rfl, rfl⟩))
      refine bodyPost_ret (v := .tuple #[.agg #[.int .i64 0, .string ⟨#[]⟩, .string ⟨#[]⟩, .string ⟨#[]⟩], .int .i64 9]) (by simp [results, Tryz.results16, go_sem, *]) rfl ?_
      exact ⟨by rw [HE.out]; rfl, (bset (bset (bset (bset BF.out (by omega) 0 _) (by omega) 1 _) (by omega) 2 _) (by omega) 3 _)⟩
    | true =>
    have HIB : Hid (∀ W : World, Calls Tryz.prog 32 #[.int .i64 m, .int .i64 0, .int .i64 200] W fun e w' => e = .returned (.bool true) ∧ W = w') := fun W => by have := HI.out W m; rw [hi3] at this; exact this
    have r2 : 0 ≤ n ∧ n ≤ 200 := by unfold inB at hi2; simpa using hi2
    have r3 : 0 ≤ m ∧ m ≤ 200 := by unfold inB at hi3; simpa using hi3
    obtain ⟨r20, r21⟩ := r2
    obtain ⟨r30, r31⟩ := r3
    by_cases hsum : n + m = (tt.size : Int)
    case neg =>
      have HE : Hid (chgR (bl s) = (zChg, 9)) := HBG.out (fun e => hsum (by rw [← HTL.out]; exact e.2.2))
      have hs9 : ((n + m : Int) != (tt.size : Int)) = true := by rw [bne_iff_ne]; exact hsum
      have hs8 : ((n + m : Int) == (tt.size : Int)) = false := by rw [beq_eq_false_iff_ne]; exact hsum
      clear hi2 hi3 hsum
      obtain ⟨t0, t1, t2, t3⟩ := HD.out _ HBX.out
      have gz := bkF (bkB K0.out HBX.out (by omega))
      have BF := Lib.hid (HH.out _ HBX.out)
      go_wp2_with (first | (go_at_call 31; with_reducible refine (HN0.out _).mono ?_; rintro e w_0 ⟨rfl, rfl⟩) | (go_at_call 31; with_reducible refine (HN2.out _).mono ?_; rintro e w_2 ⟨rfl, rfl⟩) | (go_at_call 31; with_reducible refine (HN3.out _).mono ?_; rintro e w_3 ⟨rfl, rfl⟩) | (go_at_call 32; with_reducible refine (HIA.out _).mono ?_; rintro e w_5 ⟨rfl, rfl⟩) | (go_at_call 32; with_reducible refine (HIB.out _).mono ?_; rintro e w_5 ⟨rfl, rfl⟩))
      refine bodyPost_ret (v := .tuple #[.agg #[.int .i64 0, .string ⟨#[]⟩, .string ⟨#[]⟩, .string ⟨#[]⟩], .int .i64 9]) (by simp [results, Tryz.results16, go_sem, *]) rfl ?_
      exact ⟨by rw [HE.out]; rfl, (bset (bset (bset (bset BF.out (by omega) 0 _) (by omega) 1 _) (by omega) 2 _) (by omega) 3 _)⟩
    have hs9 : ((n + m : Int) != (tt.size : Int)) = false := by unfold bne; rw [hsum]; simp
    have hs8 : ((n + m : Int) == (tt.size : Int)) = true := beq_iff_eq.2 hsum
    obtain ⟨kk, rfl⟩ : ∃ kk : Nat, n = (kk : Int) := ⟨n.toNat, by omega⟩
    have hkk : kk ≤ tt.size := by omega
    have hki : (kk : Int) ≤ (tt.size : Int) := by omega
    have HSM := Lib.hid hsum
    clear hi2 hi3 hsum HBG HI
    go_upto_region 20 with (first | (go_at_call 31; with_reducible refine (HN0.out _).mono ?_; rintro e w_0 ⟨rfl, rfl⟩) | (go_at_call 31; with_reducible refine (HN2.out _).mono ?_; rintro e w_2 ⟨rfl, rfl⟩) | (go_at_call 31; with_reducible refine (HN3.out _).mono ?_; rintro e w_3 ⟨rfl, rfl⟩) | (go_at_call 32; with_reducible refine (HIA.out _).mono ?_; rintro e w_5 ⟨rfl, rfl⟩) | (go_at_call 32; with_reducible refine (HIB.out _).mono ?_; rintro e w_5 ⟨rfl, rfl⟩))
    clear x0 x1 x2 x3
    refine wp_region_ord 12 [(0, true), (1, true), (2, true), (3, true), (4, true), (5, true), (6, true), (7, true), (8, true), (9, true), (10, true), (11, false)] (fun W => (W.cell? ⟨b1, off + 1, none⟩ = some (.string s1))) (by kernel_rfl) (by kernel_rfl) (HS4.out _ (below_drew1 _)) (fun hHeld => ?_)
    refine wpOrd_read (v := ?_) rfl (fun _ _ _ h => h) ?_ ?_
    rotate_left
    · (intro W hSW; (try dsimp only at hSW); (go_simp <;> with_reducible rfl))
    (try simp only [Act.put, List.setIfInBounds_toArray, List.set_cons_zero, List.set_cons_succ])
    refine wpOrd_read (v := ?_) rfl (fun _ _ _ h => h) ?_ ?_
    rotate_left
    · (intro W hSW; (try dsimp only at hSW); (go_simp <;> with_reducible rfl))
    (try simp only [Act.put, List.setIfInBounds_toArray, List.set_cons_zero, List.set_cons_succ])
    refine wpOrd_read (v := ?_) rfl (fun _ _ _ h => h) ?_ ?_
    rotate_left
    · (intro W hSW; (try dsimp only at hSW); (go_simp <;> with_reducible rfl))
    (try simp only [Act.put, List.setIfInBounds_toArray, List.set_cons_zero, List.set_cons_succ])
    refine wpOrd_read (v := ?_) rfl (fun _ _ _ h => h) ?_ ?_
    rotate_left
    · (intro W hSW; (try dsimp only at hSW); (go_simp <;> with_reducible rfl))
    (try simp only [Act.put, List.setIfInBounds_toArray, List.set_cons_zero, List.set_cons_succ])
    refine wpOrd_read (v := ?_) rfl (fun _ _ _ h => h) ?_ ?_
    rotate_left
    · (intro W hSW; (try dsimp only at hSW); (go_simp <;> with_reducible rfl))
    (try simp only [Act.put, List.setIfInBounds_toArray, List.set_cons_zero, List.set_cons_succ])
    refine wpOrd_read (v := ?_) rfl (fun _ _ _ h => h) ?_ ?_
    rotate_left
    · (intro W hSW; (try dsimp only at hSW); (go_simp <;> with_reducible rfl))
    (try simp only [Act.put, List.setIfInBounds_toArray, List.set_cons_zero, List.set_cons_succ])
    refine wpOrd_read (v := ?_) rfl (fun _ _ _ h => h) ?_ ?_
    rotate_left
    · (intro W hSW; (try dsimp only at hSW); (go_simp <;> with_reducible rfl))
    (try simp only [Act.put, List.setIfInBounds_toArray, List.set_cons_zero, List.set_cons_succ])
    refine wpOrd_read (v := ?_) rfl (fun _ _ _ h => h) ?_ ?_
    rotate_left
    · (intro W hSW; (try dsimp only at hSW); (go_simp <;> with_reducible rfl))
    (try simp only [Act.put, List.setIfInBounds_toArray, List.set_cons_zero, List.set_cons_succ])
    refine wpOrd_read (v := ?_) rfl (fun _ _ _ h => h) ?_ ?_
    rotate_left
    · (intro W hSW; (try dsimp only at hSW); (go_simp <;> with_reducible rfl))
    (try simp only [Act.put, List.setIfInBounds_toArray, List.set_cons_zero, List.set_cons_succ])
    refine wpOrd_read (v := ?_) rfl (fun _ _ _ h => h) ?_ ?_
    rotate_left
    · (intro W hSW; (try dsimp only at hSW); (go_simp <;> with_reducible rfl))
    (try simp only [Act.put, List.setIfInBounds_toArray, List.set_cons_zero, List.set_cons_succ])
    refine wpOrd_read (v := ?_) rfl (fun _ _ _ h => h) ?_ ?_
    rotate_left
    · (intro W hSW; (try dsimp only at hSW); (go_simp <;> with_reducible rfl))
    (try simp only [Act.put, List.setIfInBounds_toArray, List.set_cons_zero, List.set_cons_succ])
    have HBD := Lib.hid (HBX.out.trans ((below_drew1 wr).mono HBX.out.size))
    have hzd : wr.heap.size ≤ wr.drew.heap.size := Nat.le_refl _
    have HSD : Hid (∀ W, Below wr.drew.heap.size wr.drew W → (W.cell? ⟨b1, off + 1, none⟩ = some (.string s1))) := fun W hW => HS4.out W ((below_drew1 wr).trans (hW.mono hzd))
    generalize wr.drew = w6 at *
    refine wpOrd_step rfl (fun K hK => ?_)
    go_simp
    refine hK.out _ _ (HSD.out _ (below_alloc w6 _)) ?_
    clear hK K
    (try simp only [Act.put, List.setIfInBounds_toArray, List.set_cons_zero, List.set_cons_succ])
    refine wpOrd_nil ?_
    simp only [List.drop_succ_cons, List.drop_zero]
    have hO : tt.extract 0 kk = ofL (t.take kk) := by rw [extract_seg tt 0 kk hkk, seg_take, HT2.out]
    have hN : tt.extract kk tt.size = ofL (t.drop kk) := by rw [extract_seg tt kk _ (Nat.le_refl _), HT2.out, seg_drop _ _ _ (by have := HTL.out; omega)]
    have hzO : (tt.extract 0 kk).size ≤ 1048576 := by rw [ByteArray.size_extract]; omega
    have hzN : (tt.extract kk tt.size).size ≤ 1048576 := by rw [ByteArray.size_extract]; omega
    have hob : chgOf d p1 t kk = ⟨d, s1, tt.extract 0 kk, tt.extract kk tt.size⟩ := by unfold chgOf; rw [hO, hN, ← HO1.out, ofL_bl]
    have hci := chgR_ok HCC.out HAB.out HP0.out HP2.out HP3.out (by have := HSM.out; have := HTL.out; omega) (by have := HTL.out; omega)
    rw [hob] at hci
    clear hO hN hob
    generalize tt.extract 0 kk = tO at *
    generalize tt.extract kk tt.size = tN at *
    go_upto_region 21 with (fail)
    obtain ⟨W5, hW5, b5, z5, k5⟩ := boxes1 w6 #[.int .i64 d, .string s1, .string tO, .string tN] 40
    rw [hW5]
    clear hW5
    have HB5 := Lib.hid (HBD.out.trans (b5.mono HBD.out.size))
    have K5 := Lib.hid k5
    have zb5 := HBD.out.size
    clear b5 k5
    obtain ⟨t0, t1, t2, t3⟩ := HD.out _ HB5.out
    have gz := bkF (bkB K0.out HB5.out (by omega))
    have q0 := bkC (v := .int .i64 d) K5.out 0 rfl
    have q1 := bkC (v := .string s1) K5.out 1 rfl
    have q2 := bkC (v := .string tO) K5.out 2 rfl
    have q3 := bkC (v := .string tN) K5.out 3 rfl
    have BF := Lib.hid (HH.out _ HB5.out)
    have HCV : Hid (Calls Tryz.prog 34 #[.pointer (some ⟨w6.heap.size, 0, none⟩)] W5 fun e w' => e = .returned (.bool (changeB ⟨d, s1, tO, tN⟩)) ∧ Below W5.heap.size W5 w') := l28Change_any ⟨d, s1, tO, tN⟩ w6.heap.size 0 W5 q0 q1 q2 q3 (by omega) (by show s1.size ≤ _; unfold maxLen; omega) (by show tO.size ≤ _; unfold maxLen; omega) (by show tN.size ≤ _; unfold maxLen; omega)
    by_cases hcv : changeB ⟨d, s1, tO, tN⟩ = true
    case neg =>
      have HE : Hid (chgR (bl s) = (zChg, 9)) := by show _ = _; rw [hci, if_neg hcv]
      rw [Bool.eq_false_iff.2 hcv] at HCV
      clear hci hcv
      go_wp2_with (go_at_call 34; with_reducible refine HCV.out.mono ?_; rintro e w7 ⟨rfl, hb7⟩; clear t0 t1 t2 t3 gz q0 q1 q2 q3 BF; have HB7 := Lib.hid (HB5.out.trans (hb7.mono HB5.out.size)); have K7 := Lib.hid (bkB K5.out hb7 (by omega)); have zz := hb7.size; clear hb7; obtain ⟨t0, t1, t2, t3⟩ := HD.out _ HB7.out; have gz := bkF (bkB K0.out HB7.out (by omega)); have q0 := bkC (v := .int .i64 d) K7.out 0 rfl; have q1 := bkC (v := .string s1) K7.out 1 rfl; have q2 := bkC (v := .string tO) K7.out 2 rfl; have q3 := bkC (v := .string tN) K7.out 3 rfl; have BF := Lib.hid (HH.out _ HB7.out))
      refine bodyPost_ret (v := .tuple #[.agg #[.int .i64 0, .string ⟨#[]⟩, .string ⟨#[]⟩, .string ⟨#[]⟩], .int .i64 9]) (by simp [results, Tryz.results16, go_sem, *]) rfl ?_
      exact ⟨by rw [HE.out]; rfl, (bset (bset (bset (bset BF.out (by omega) 0 _) (by omega) 1 _) (by omega) 2 _) (by omega) 3 _)⟩
    case pos =>
      have HE : Hid (chgR (bl s) = (⟨d, s1, tO, tN⟩, 0)) := by show _ = _; rw [hci, if_pos hcv]
      rw [hcv] at HCV
      clear hci hcv
      go_wp2_with (go_at_call 34; with_reducible refine HCV.out.mono ?_; rintro e w7 ⟨rfl, hb7⟩; clear t0 t1 t2 t3 gz q0 q1 q2 q3 BF; have HB7 := Lib.hid (HB5.out.trans (hb7.mono HB5.out.size)); have K7 := Lib.hid (bkB K5.out hb7 (by omega)); have zz := hb7.size; clear hb7; obtain ⟨t0, t1, t2, t3⟩ := HD.out _ HB7.out; have gz := bkF (bkB K0.out HB7.out (by omega)); have q0 := bkC (v := .int .i64 d) K7.out 0 rfl; have q1 := bkC (v := .string s1) K7.out 1 rfl; have q2 := bkC (v := .string tO) K7.out 2 rfl; have q3 := bkC (v := .string tN) K7.out 3 rfl; have BF := Lib.hid (HH.out _ HB7.out))
      refine bodyPost_ret (v := .tuple #[.agg #[.int .i64 d, .string s1, .string tO, .string tN], .int .i64 0]) (by simp [results, Tryz.results16, go_sem, *]) rfl ?_
      exact ⟨by rw [HE.out]; rfl, (bset (bset (bset (bset BF.out (by omega) 0 _) (by omega) 1 _) (by omega) 2 _) (by omega) 3 _)⟩
  case neg =>
    obtain rfl : k = bb.size := by omega
    go_upto_region 14 with (fail)
    cases hn0 : numB p0 with
    | false =>
      have HE : Hid (chgR (bl s) = (zChg, 9)) := chgR_day HCC.out rfl HAB.out (HM0.out false hn0)
      rw [hn0] at HN0
      clear hn0
      obtain ⟨t0, t1, t2, t3⟩ := HD.out _ HBX.out
      have gz := bkF (bkB K0.out HBX.out (by omega))
      have BF := Lib.hid (HH.out _ HBX.out)
      go_wp2_with (first | (go_at_call 31; with_reducible refine (HN0.out _).mono ?_; rintro e w_0 ⟨rfl, rfl⟩) | (go_at_call 31; with_reducible refine (HN2.out _).mono ?_; rintro e w_2 ⟨rfl, rfl⟩) | (go_at_call 31; with_reducible refine (HN3.out _).mono ?_; rintro e w_3 ⟨rfl, rfl⟩))
      refine bodyPost_ret (v := .tuple #[.agg #[.int .i64 0, .string ⟨#[]⟩, .string ⟨#[]⟩, .string ⟨#[]⟩], .int .i64 9]) (by simp [results, Tryz.results16, go_sem, *]) rfl ?_
      exact ⟨by rw [HE.out]; rfl, (bset (bset (bset (bset BF.out (by omega) 0 _) (by omega) 1 _) (by omega) 2 _) (by omega) 3 _)⟩
    | true =>
    have HP0 : Hid (num p0 = some d) := HM0.out true hn0
    rw [hn0] at HN0
    clear hn0
    cases hn2 : numB p2 with
    | false =>
      have HE : Hid (chgR (bl s) = (zChg, 9)) := chgR_n HCC.out rfl HAB.out (HM2.out false hn2)
      rw [hn2] at HN2
      clear hn2
      obtain ⟨t0, t1, t2, t3⟩ := HD.out _ HBX.out
      have gz := bkF (bkB K0.out HBX.out (by omega))
      have BF := Lib.hid (HH.out _ HBX.out)
      go_wp2_with (first | (go_at_call 31; with_reducible refine (HN0.out _).mono ?_; rintro e w_0 ⟨rfl, rfl⟩) | (go_at_call 31; with_reducible refine (HN2.out _).mono ?_; rintro e w_2 ⟨rfl, rfl⟩) | (go_at_call 31; with_reducible refine (HN3.out _).mono ?_; rintro e w_3 ⟨rfl, rfl⟩))
      refine bodyPost_ret (v := .tuple #[.agg #[.int .i64 0, .string ⟨#[]⟩, .string ⟨#[]⟩, .string ⟨#[]⟩], .int .i64 9]) (by simp [results, Tryz.results16, go_sem, *]) rfl ?_
      exact ⟨by rw [HE.out]; rfl, (bset (bset (bset (bset BF.out (by omega) 0 _) (by omega) 1 _) (by omega) 2 _) (by omega) 3 _)⟩
    | true =>
    have HP2 : Hid (num p2 = some n) := HM2.out true hn2
    rw [hn2] at HN2
    clear hn2
    cases hn3 : numB p3 with
    | false =>
      have HE : Hid (chgR (bl s) = (zChg, 9)) := chgR_m HCC.out rfl HAB.out (HM3.out false hn3)
      rw [hn3] at HN3
      clear hn3
      obtain ⟨t0, t1, t2, t3⟩ := HD.out _ HBX.out
      have gz := bkF (bkB K0.out HBX.out (by omega))
      have BF := Lib.hid (HH.out _ HBX.out)
      go_wp2_with (first | (go_at_call 31; with_reducible refine (HN0.out _).mono ?_; rintro e w_0 ⟨rfl, rfl⟩) | (go_at_call 31; with_reducible refine (HN2.out _).mono ?_; rintro e w_2 ⟨rfl, rfl⟩) | (go_at_call 31; with_reducible refine (HN3.out _).mono ?_; rintro e w_3 ⟨rfl, rfl⟩))
      refine bodyPost_ret (v := .tuple #[.agg #[.int .i64 0, .string ⟨#[]⟩, .string ⟨#[]⟩, .string ⟨#[]⟩], .int .i64 9]) (by simp [results, Tryz.results16, go_sem, *]) rfl ?_
      exact ⟨by rw [HE.out]; rfl, (bset (bset (bset (bset BF.out (by omega) 0 _) (by omega) 1 _) (by omega) 2 _) (by omega) 3 _)⟩
    | true =>
    have HP3 : Hid (num p3 = some m) := HM3.out true hn3
    rw [hn3] at HN3
    clear hn3
    have HBG : Hid (¬ (inB n 0 200 = true ∧ inB m 0 200 = true ∧ n + m = (t.length : Int)) → chgR (bl s) = (zChg, 9)) := fun h => chgR_big HCC.out HAB.out HP2.out HP3.out h
    cases hi2 : inB n 0 200 with
    | false =>
      have HE : Hid (chgR (bl s) = (zChg, 9)) := HBG.out (by rw [hi2]; simp)
      have HIA : Hid (∀ W : World, Calls Tryz.prog 32 #[.int .i64 n, .int .i64 0, .int .i64 200] W fun e w' => e = .returned (.bool false) ∧ W = w') := fun W => by have := HI.out W n; rw [hi2] at this; exact this
      clear hi2
      obtain ⟨t0, t1, t2, t3⟩ := HD.out _ HBX.out
      have gz := bkF (bkB K0.out HBX.out (by omega))
      have BF := Lib.hid (HH.out _ HBX.out)
      go_wp2_with (first | (go_at_call 31; with_reducible refine (HN0.out _).mono ?_; rintro e w_0 ⟨rfl, rfl⟩) | (go_at_call 31; with_reducible refine (HN2.out _).mono ?_; rintro e w_2 ⟨rfl, rfl⟩) | (go_at_call 31; with_reducible refine (HN3.out _).mono ?_; rintro e w_3 ⟨rfl, rfl⟩) | (go_at_call 32; with_reducible refine (HIA.out _).mono ?_; rintro e w_5 ⟨rfl, rfl⟩))
      refine bodyPost_ret (v := .tuple #[.agg #[.int .i64 0, .string ⟨#[]⟩, .string ⟨#[]⟩, .string ⟨#[]⟩], .int .i64 9]) (by simp [results, Tryz.results16, go_sem, *]) rfl ?_
      exact ⟨by rw [HE.out]; rfl, (bset (bset (bset (bset BF.out (by omega) 0 _) (by omega) 1 _) (by omega) 2 _) (by omega) 3 _)⟩
    | true =>
    have HIA : Hid (∀ W : World, Calls Tryz.prog 32 #[.int .i64 n, .int .i64 0, .int .i64 200] W fun e w' => e = .returned (.bool true) ∧ W = w') := fun W => by have := HI.out W n; rw [hi2] at this; exact this
    cases hi3 : inB m 0 200 with
    | false =>
      have HE : Hid (chgR (bl s) = (zChg, 9)) := HBG.out (by rw [hi3]; simp)
      have HIB : Hid (∀ W : World, Calls Tryz.prog 32 #[.int .i64 m, .int .i64 0, .int .i64 200] W fun e w' => e = .returned (.bool false) ∧ W = w') := fun W => by have := HI.out W m; rw [hi3] at this; exact this
      clear hi2 hi3
      obtain ⟨t0, t1, t2, t3⟩ := HD.out _ HBX.out
      have gz := bkF (bkB K0.out HBX.out (by omega))
      have BF := Lib.hid (HH.out _ HBX.out)
      go_wp2_with (first | (go_at_call 31; with_reducible refine (HN0.out _).mono ?_; rintro e w_0 ⟨rfl, rfl⟩) | (go_at_call 31; with_reducible refine (HN2.out _).mono ?_; rintro e w_2 ⟨rfl, rfl⟩) | (go_at_call 31; with_reducible refine (HN3.out _).mono ?_; rintro e w_3 ⟨rfl, rfl⟩) | (go_at_call 32; with_reducible refine (HIA.out _).mono ?_; rintro e w_5 ⟨rfl, rfl⟩) | (go_at_call 32; with_reducible refine (HIB.out _).mono ?_; rintro e w_5 ⟨rfl, rfl⟩))
      refine bodyPost_ret (v := .tuple #[.agg #[.int .i64 0, .string ⟨#[]⟩, .string ⟨#[]⟩, .string ⟨#[]⟩], .int .i64 9]) (by simp [results, Tryz.results16, go_sem, *]) rfl ?_
      exact ⟨by rw [HE.out]; rfl, (bset (bset (bset (bset BF.out (by omega) 0 _) (by omega) 1 _) (by omega) 2 _) (by omega) 3 _)⟩
    | true =>
    have HIB : Hid (∀ W : World, Calls Tryz.prog 32 #[.int .i64 m, .int .i64 0, .int .i64 200] W fun e w' => e = .returned (.bool true) ∧ W = w') := fun W => by have := HI.out W m; rw [hi3] at this; exact this
    have r2 : 0 ≤ n ∧ n ≤ 200 := by unfold inB at hi2; simpa using hi2
    have r3 : 0 ≤ m ∧ m ≤ 200 := by unfold inB at hi3; simpa using hi3
    obtain ⟨r20, r21⟩ := r2
    obtain ⟨r30, r31⟩ := r3
    by_cases hsum : n + m = (tt.size : Int)
    case neg =>
      have HE : Hid (chgR (bl s) = (zChg, 9)) := HBG.out (fun e => hsum (by rw [← HTL.out]; exact e.2.2))
      have hs9 : ((n + m : Int) != (tt.size : Int)) = true := by rw [bne_iff_ne]; exact hsum
      have hs8 : ((n + m : Int) == (tt.size : Int)) = false := by rw [beq_eq_false_iff_ne]; exact hsum
      clear hi2 hi3 hsum
      obtain ⟨t0, t1, t2, t3⟩ := HD.out _ HBX.out
      have gz := bkF (bkB K0.out HBX.out (by omega))
      have BF := Lib.hid (HH.out _ HBX.out)
      go_wp2_with (first | (go_at_call 31; with_reducible refine (HN0.out _).mono ?_; rintro e w_0 ⟨rfl, rfl⟩) | (go_at_call 31; with_reducible refine (HN2.out _).mono ?_; rintro e w_2 ⟨rfl, rfl⟩) | (go_at_call 31; with_reducible refine (HN3.out _).mono ?_; rintro e w_3 ⟨rfl, rfl⟩) | (go_at_call 32; with_reducible refine (HIA.out _).mono ?_; rintro e w_5 ⟨rfl, rfl⟩) | (go_at_call 32; with_reducible refine (HIB.out _).mono ?_; rintro e w_5 ⟨rfl, rfl⟩))
      refine bodyPost_ret (v := .tuple #[.agg #[.int .i64 0, .string ⟨#[]⟩, .string ⟨#[]⟩, .string ⟨#[]⟩], .int .i64 9]) (by simp [results, Tryz.results16, go_sem, *]) rfl ?_
      exact ⟨by rw [HE.out]; rfl, (bset (bset (bset (bset BF.out (by omega) 0 _) (by omega) 1 _) (by omega) 2 _) (by omega) 3 _)⟩
    have hs9 : ((n + m : Int) != (tt.size : Int)) = false := by unfold bne; rw [hsum]; simp
    have hs8 : ((n + m : Int) == (tt.size : Int)) = true := beq_iff_eq.2 hsum
    obtain ⟨kk, rfl⟩ : ∃ kk : Nat, n = (kk : Int) := ⟨n.toNat, by omega⟩
    have hkk : kk ≤ tt.size := by omega
    have hki : (kk : Int) ≤ (tt.size : Int) := by omega
    have HSM := Lib.hid hsum
    clear hi2 hi3 hsum HBG HI
    go_upto_region 20 with (first | (go_at_call 31; with_reducible refine (HN0.out _).mono ?_; rintro e w_0 ⟨rfl, rfl⟩) | (go_at_call 31; with_reducible refine (HN2.out _).mono ?_; rintro e w_2 ⟨rfl, rfl⟩) | (go_at_call 31; with_reducible refine (HN3.out _).mono ?_; rintro e w_3 ⟨rfl, rfl⟩) | (go_at_call 32; with_reducible refine (HIA.out _).mono ?_; rintro e w_5 ⟨rfl, rfl⟩) | (go_at_call 32; with_reducible refine (HIB.out _).mono ?_; rintro e w_5 ⟨rfl, rfl⟩))
    clear x0 x1 x2 x3
    refine wp_region_ord 12 [(0, true), (1, true), (2, true), (3, true), (4, true), (5, true), (6, true), (7, true), (8, true), (9, true), (10, true), (11, false)] (fun W => (W.cell? ⟨b1, off + 1, none⟩ = some (.string s1))) (by kernel_rfl) (by kernel_rfl) (HS4.out _ (below_drew1 _)) (fun hHeld => ?_)
    refine wpOrd_read (v := ?_) rfl (fun _ _ _ h => h) ?_ ?_
    rotate_left
    · (intro W hSW; (try dsimp only at hSW); (go_simp <;> with_reducible rfl))
    (try simp only [Act.put, List.setIfInBounds_toArray, List.set_cons_zero, List.set_cons_succ])
    refine wpOrd_read (v := ?_) rfl (fun _ _ _ h => h) ?_ ?_
    rotate_left
    · (intro W hSW; (try dsimp only at hSW); (go_simp <;> with_reducible rfl))
    (try simp only [Act.put, List.setIfInBounds_toArray, List.set_cons_zero, List.set_cons_succ])
    refine wpOrd_read (v := ?_) rfl (fun _ _ _ h => h) ?_ ?_
    rotate_left
    · (intro W hSW; (try dsimp only at hSW); (go_simp <;> with_reducible rfl))
    (try simp only [Act.put, List.setIfInBounds_toArray, List.set_cons_zero, List.set_cons_succ])
    refine wpOrd_read (v := ?_) rfl (fun _ _ _ h => h) ?_ ?_
    rotate_left
    · (intro W hSW; (try dsimp only at hSW); (go_simp <;> with_reducible rfl))
    (try simp only [Act.put, List.setIfInBounds_toArray, List.set_cons_zero, List.set_cons_succ])
    refine wpOrd_read (v := ?_) rfl (fun _ _ _ h => h) ?_ ?_
    rotate_left
    · (intro W hSW; (try dsimp only at hSW); (go_simp <;> with_reducible rfl))
    (try simp only [Act.put, List.setIfInBounds_toArray, List.set_cons_zero, List.set_cons_succ])
    refine wpOrd_read (v := ?_) rfl (fun _ _ _ h => h) ?_ ?_
    rotate_left
    · (intro W hSW; (try dsimp only at hSW); (go_simp <;> with_reducible rfl))
    (try simp only [Act.put, List.setIfInBounds_toArray, List.set_cons_zero, List.set_cons_succ])
    refine wpOrd_read (v := ?_) rfl (fun _ _ _ h => h) ?_ ?_
    rotate_left
    · (intro W hSW; (try dsimp only at hSW); (go_simp <;> with_reducible rfl))
    (try simp only [Act.put, List.setIfInBounds_toArray, List.set_cons_zero, List.set_cons_succ])
    refine wpOrd_read (v := ?_) rfl (fun _ _ _ h => h) ?_ ?_
    rotate_left
    · (intro W hSW; (try dsimp only at hSW); (go_simp <;> with_reducible rfl))
    (try simp only [Act.put, List.setIfInBounds_toArray, List.set_cons_zero, List.set_cons_succ])
    refine wpOrd_read (v := ?_) rfl (fun _ _ _ h => h) ?_ ?_
    rotate_left
    · (intro W hSW; (try dsimp only at hSW); (go_simp <;> with_reducible rfl))
    (try simp only [Act.put, List.setIfInBounds_toArray, List.set_cons_zero, List.set_cons_succ])
    refine wpOrd_read (v := ?_) rfl (fun _ _ _ h => h) ?_ ?_
    rotate_left
    · (intro W hSW; (try dsimp only at hSW); (go_simp <;> with_reducible rfl))
    (try simp only [Act.put, List.setIfInBounds_toArray, List.set_cons_zero, List.set_cons_succ])
    refine wpOrd_read (v := ?_) rfl (fun _ _ _ h => h) ?_ ?_
    rotate_left
    · (intro W hSW; (try dsimp only at hSW); (go_simp <;> with_reducible rfl))
    (try simp only [Act.put, List.setIfInBounds_toArray, List.set_cons_zero, List.set_cons_succ])
    have HBD := Lib.hid (HBX.out.trans ((below_drew1 wr).mono HBX.out.size))
    have hzd : wr.heap.size ≤ wr.drew.heap.size := Nat.le_refl _
    have HSD : Hid (∀ W, Below wr.drew.heap.size wr.drew W → (W.cell? ⟨b1, off + 1, none⟩ = some (.string s1))) := fun W hW => HS4.out W ((below_drew1 wr).trans (hW.mono hzd))
    generalize wr.drew = w6 at *
    refine wpOrd_step rfl (fun K hK => ?_)
    go_simp
    refine hK.out _ _ (HSD.out _ (below_alloc w6 _)) ?_
    clear hK K
    (try simp only [Act.put, List.setIfInBounds_toArray, List.set_cons_zero, List.set_cons_succ])
    refine wpOrd_nil ?_
    simp only [List.drop_succ_cons, List.drop_zero]
    have hO : tt.extract 0 kk = ofL (t.take kk) := by rw [extract_seg tt 0 kk hkk, seg_take, HT2.out]
    have hN : tt.extract kk tt.size = ofL (t.drop kk) := by rw [extract_seg tt kk _ (Nat.le_refl _), HT2.out, seg_drop _ _ _ (by have := HTL.out; omega)]
    have hzO : (tt.extract 0 kk).size ≤ 1048576 := by rw [ByteArray.size_extract]; omega
    have hzN : (tt.extract kk tt.size).size ≤ 1048576 := by rw [ByteArray.size_extract]; omega
    have hob : chgOf d p1 t kk = ⟨d, s1, tt.extract 0 kk, tt.extract kk tt.size⟩ := by unfold chgOf; rw [hO, hN, ← HO1.out, ofL_bl]
    have hci := chgR_ok HCC.out HAB.out HP0.out HP2.out HP3.out (by have := HSM.out; have := HTL.out; omega) (by have := HTL.out; omega)
    rw [hob] at hci
    clear hO hN hob
    generalize tt.extract 0 kk = tO at *
    generalize tt.extract kk tt.size = tN at *
    go_upto_region 21 with (fail)
    obtain ⟨W5, hW5, b5, z5, k5⟩ := boxes1 w6 #[.int .i64 d, .string s1, .string tO, .string tN] 40
    rw [hW5]
    clear hW5
    have HB5 := Lib.hid (HBD.out.trans (b5.mono HBD.out.size))
    have K5 := Lib.hid k5
    have zb5 := HBD.out.size
    clear b5 k5
    obtain ⟨t0, t1, t2, t3⟩ := HD.out _ HB5.out
    have gz := bkF (bkB K0.out HB5.out (by omega))
    have q0 := bkC (v := .int .i64 d) K5.out 0 rfl
    have q1 := bkC (v := .string s1) K5.out 1 rfl
    have q2 := bkC (v := .string tO) K5.out 2 rfl
    have q3 := bkC (v := .string tN) K5.out 3 rfl
    have BF := Lib.hid (HH.out _ HB5.out)
    have HCV : Hid (Calls Tryz.prog 34 #[.pointer (some ⟨w6.heap.size, 0, none⟩)] W5 fun e w' => e = .returned (.bool (changeB ⟨d, s1, tO, tN⟩)) ∧ Below W5.heap.size W5 w') := l28Change_any ⟨d, s1, tO, tN⟩ w6.heap.size 0 W5 q0 q1 q2 q3 (by omega) (by show s1.size ≤ _; unfold maxLen; omega) (by show tO.size ≤ _; unfold maxLen; omega) (by show tN.size ≤ _; unfold maxLen; omega)
    by_cases hcv : changeB ⟨d, s1, tO, tN⟩ = true
    case neg =>
      have HE : Hid (chgR (bl s) = (zChg, 9)) := by show _ = _; rw [hci, if_neg hcv]
      rw [Bool.eq_false_iff.2 hcv] at HCV
      clear hci hcv
      go_wp2_with (go_at_call 34; with_reducible refine HCV.out.mono ?_; rintro e w7 ⟨rfl, hb7⟩; clear t0 t1 t2 t3 gz q0 q1 q2 q3 BF; have HB7 := Lib.hid (HB5.out.trans (hb7.mono HB5.out.size)); have K7 := Lib.hid (bkB K5.out hb7 (by omega)); have zz := hb7.size; clear hb7; obtain ⟨t0, t1, t2, t3⟩ := HD.out _ HB7.out; have gz := bkF (bkB K0.out HB7.out (by omega)); have q0 := bkC (v := .int .i64 d) K7.out 0 rfl; have q1 := bkC (v := .string s1) K7.out 1 rfl; have q2 := bkC (v := .string tO) K7.out 2 rfl; have q3 := bkC (v := .string tN) K7.out 3 rfl; have BF := Lib.hid (HH.out _ HB7.out))
      refine bodyPost_ret (v := .tuple #[.agg #[.int .i64 0, .string ⟨#[]⟩, .string ⟨#[]⟩, .string ⟨#[]⟩], .int .i64 9]) (by simp [results, Tryz.results16, go_sem, *]) rfl ?_
      exact ⟨by rw [HE.out]; rfl, (bset (bset (bset (bset BF.out (by omega) 0 _) (by omega) 1 _) (by omega) 2 _) (by omega) 3 _)⟩
    case pos =>
      have HE : Hid (chgR (bl s) = (⟨d, s1, tO, tN⟩, 0)) := by show _ = _; rw [hci, if_pos hcv]
      rw [hcv] at HCV
      clear hci hcv
      go_wp2_with (go_at_call 34; with_reducible refine HCV.out.mono ?_; rintro e w7 ⟨rfl, hb7⟩; clear t0 t1 t2 t3 gz q0 q1 q2 q3 BF; have HB7 := Lib.hid (HB5.out.trans (hb7.mono HB5.out.size)); have K7 := Lib.hid (bkB K5.out hb7 (by omega)); have zz := hb7.size; clear hb7; obtain ⟨t0, t1, t2, t3⟩ := HD.out _ HB7.out; have gz := bkF (bkB K0.out HB7.out (by omega)); have q0 := bkC (v := .int .i64 d) K7.out 0 rfl; have q1 := bkC (v := .string s1) K7.out 1 rfl; have q2 := bkC (v := .string tO) K7.out 2 rfl; have q3 := bkC (v := .string tN) K7.out 3 rfl; have BF := Lib.hid (HH.out _ HB7.out))
      refine bodyPost_ret (v := .tuple #[.agg #[.int .i64 d, .string s1, .string tO, .string tN], .int .i64 0]) (by simp [results, Tryz.results16, go_sem, *]) rfl ?_
      exact ⟨by rw [HE.out]; rfl, (bset (bset (bset (bset BF.out (by omega) 0 _) (by omega) 1 _) (by omega) 2 _) (by omega) 3 _)⟩
end
section
open Go.RowKit
set_option linter.unusedVariables false
set_option linter.unusedSimpArgs false

theorem linesT_mem {t : List UInt8} {l : List UInt8} (h : l ∈ (linesT t).1) : l.length ≤ t.length := by
  have hs : ∀ x ∈ splitC 10 t, x.length ≤ t.length := fun x hx => by
    have hx' : ofL x ∈ wordsB 10 (ofL t) := by unfold wordsB; rw [bl_ofL]; exact List.mem_map_of_mem hx
    exact words_size 10 (ofL t) _ hx'
  unfold linesT at h
  split at h
  · simp at h
  · split at h
    · simp at h
    · split at h
      · simp at h
      · exact hs l (List.mem_of_mem_tail h)
theorem linesR_mem {s : List UInt8} {l : List UInt8} (h : l ∈ (linesR s).1) : l.length ≤ s.length := by
  unfold linesR at h
  split at h
  · have := linesT_mem h
    rw [List.length_dropLast] at this; omega
  · simp at h
theorem linesT_len (t : List UInt8) : (linesT t).1.length ≤ 48 := by
  unfold linesT
  split
  · simp
  · rename_i m hm
    have := headR_range hm
    split
    · simp
    · split
      · simp
      · simp only [List.length_tail]; omega
theorem linesR_len (s : List UInt8) : (linesR s).1.length ≤ 48 := by
  unfold linesR
  split
  · exact linesT_len _
  · simp
/-- the damaged ones of the first lines -/
def dmgK (ls : List (List UInt8)) : Nat → List Int
  | 0 => []
  | k + 1 => dmgK ls k ++ (if (chgR ((ls[k]?).getD [])).2 = 0 then [] else [(k : Int) + 1])
theorem dmgK_len (ls : List (List UInt8)) (k : Nat) : (dmgK ls k).length ≤ k := by
  induction k with
  | zero => exact Nat.le_refl _
  | succ k ih =>
    rw [dmgK, List.length_append]
    split <;> simp <;> omega
def dmgR (s : List UInt8) : List Int × Int := if (linesR s).2 = 0 then (dmgK (linesR s).1 (linesR s).1.length, 0) else ([], (linesR s).2)
def DmgP (o : List Int × Int) (w : World) (e : Ending) (w' : World) : Prop :=
  ∃ a c fp, e = .returned (.tuple #[.slice a o.1.length c, .int .i64 o.2]) ∧ Below w.heap.size w w' ∧ Own w' (intsT o.1) (.slice a o.1.length c) fp ∧ In w.heap.size w'.heap.size fp
theorem dmgR_len (s : List UInt8) : (dmgR s).1.length ≤ 48 := by
  unfold dmgR
  split
  · have h1 := dmgK_len (linesR s).1 (linesR s).1.length
    have h2 := linesR_len s
    simp only; omega
  · simp
theorem own_nilD (w : World) : Own w (intsT []) (.slice none 0 0) [] := ⟨Rep_sl.2 ⟨none, 0, 0, rfl, rfl, Nat.le_refl _, by unfold maxLen; omega, Or.inl ⟨rfl, rfl⟩⟩, List.nodup_nil, fun b h => by simp at h⟩
theorem DmgP.none_ {o : List Int × Int} {c : Int} {w w' : World} {e : Ending} (ho : o = ([], c)) (he : e = .returned (.tuple #[.slice none 0 0, .int .i64 c])) (hb : Below w.heap.size w w') : DmgP o w e w' := by
  subst ho; exact ⟨none, 0, [], he, hb, own_nilD _, In.nil⟩
set_option maxHeartbeats 8000000 in
set_option maxRecDepth 100000 in
theorem iDamagedFrames_any (s : ByteArray) (hs : s.size ≤ 1048576) (w : World) (L : LibW w) : Calls Tryz.prog 6 #[.string s] w (DmgP (dmgR (bl s)) w) := by
  have HLN : Hid (∀ W, LibW W → Calls Tryz.prog 17 #[.string s] W (LinesP (linesR (bl s)) W)) := fun W hW => registerLines_any s hs W hW
  have hlen := linesR_len (bl s)
  have hmem : ∀ l ∈ (linesR (bl s)).1, l.length ≤ 1048576 := fun l hl => by have := linesR_mem hl; rw [bl_len] at this; omega
  have HL := Lib.hid L
  clear L
  by_cases h0 : (linesR (bl s)).2 = 0
  case neg =>
    have HE : Hid (dmgR (bl s) = ([], (linesR (bl s)).2)) := by show _ = _; unfold dmgR; rw [if_neg h0]
    rw [HE.out]
    generalize linesR (bl s) = o at *
    obtain ⟨ls, c⟩ := o
    simp only at *
    have hq : (c != 0) = true := by rw [bne_iff_ne]; exact h0
    have hq2 : (c == 0) = false := by rw [beq_eq_false_iff_ne]; exact h0
    clear h0 HE hlen hmem
    go_enter Tryz.func6, Tryz.ntmps6
    go_wp2_with (fail)
    refine (HLN.out _ HL.out).mono ?_
    rintro e w1 ⟨a1, c1, rfl, hb1, hr1⟩
    clear hr1
    go_wp2
    go_ret2
    exact DmgP.none_ rfl rfl hb1
  have HE : Hid (dmgR (bl s) = (dmgK (linesR (bl s)).1 (linesR (bl s)).1.length, 0)) := by show _ = _; unfold dmgR; rw [if_pos h0]
  rw [HE.out]
  have ho : linesR (bl s) = ((linesR (bl s)).1, 0) := by rw [← h0]
  rw [ho] at HLN
  generalize (linesR (bl s)).1 = ls at *
  clear h0 HE ho hs
  obtain ⟨i0, hi0, hz0, hz1, hz2⟩ := info_parts infoI
  have HRC : Hid (∀ l, l ∈ ls → ∀ W : World, LibW W → Calls Tryz.prog 18 #[.string (ofL l)] W fun e w' => e = .returned (.tuple #[.agg #[.int .i64 (chgR l).1.day, .string (chgR l).1.key, .string (chgR l).1.old_, .string (chgR l).1.new_], .int .i64 (chgR l).2]) ∧ Below W.heap.size W w') := fun l hl W hW => by
    have hll := hmem l hl
    exact readChange_any (ofL l) (by show l.length ≤ _; omega) W hW
  clear hmem
  have hln : (ls.length : Int) ≤ 48 := by omega
  go_enter Tryz.func6, Tryz.ntmps6
  go_wp2_with (fail)
  refine (HLN.out _ HL.out).mono ?_
  rintro e w1 ⟨a1, c1, rfl, hb1, hr1⟩
  have HB1 := Lib.hid hb1
  have z1 := hb1.size
  simp only [] at hr1
  have hr2 : Rd w1.heap.size w1 (strsT (ls.map ofL)) (.slice a1 ls.length c1) := hr1
  obtain ⟨a2, c2, e1, _, _, hcl⟩ := Rd.strs hr2
  have e1' : Value.slice a1 ls.length c1 = Value.slice a2 (ls.map ofL).length c2 := e1
  injection e1' with e1 e2 e3
  subst e1 e3
  have HCL := Lib.hid hcl
  clear hb1 hr1 hr2 hcl e2 HLN
  go_wp2
  go_loopw [6, 21] (fun v i wr => ∃ (k : Nat), k ≤ ls.length ∧ i = .int .i64 k ∧ Below w1.heap.size w1 wr ∧ Grow wr w1.heap.size 2 1 v (dmgK ls k).length ((dmgK ls k).map intT) []) (fun _ i wr => ls.length - (intOf i).toNat)
  case atStart => exact ⟨0, Nat.zero_le _, rfl, Below.refl _ _, by show Grow _ _ _ _ _ 0 [] []; exact Grow.nil⟩
  case round =>
    obtain ⟨k, hk, rfl, hb, hgr⟩ := hrel
    have HB := Lib.hid hb
    have HG := Lib.hid hgr
    have zr := hb.size
    have hdl := dmgK_len ls k
    clear hb hgr
    by_cases hlt : k < ls.length
    · obtain ⟨b, off, ea, hbb, hat⟩ := HCL.out (by rw [List.length_map]; omega)
      subst ea
      have hc := hat k (by rw [List.length_map]; exact hlt)
      rw [List.getElem_map] at hc
      rw [← bat HB.out b _ hbb] at hc
      clear hat
      have hg : (ls[k]?).getD [] = ls[k] := by rw [List.getElem?_eq_getElem hlt]; rfl
      have hds : dmgK ls (k + 1) = dmgK ls k ++ (if (chgR ls[k]).2 = 0 then [] else [(k : Int) + 1]) := by rw [dmgK, hg]
      have HRK := Lib.hid (HRC.out ls[k] (List.getElem_mem hlt) wr (HL.out.mono (HB1.out.trans (HB.out.mono z1))))
      generalize ls[k] = l at *
      clear hg
      go_upto_region 9 with (go_at_call 18; with_reducible refine HRK.out.mono ?_; rintro e w2 ⟨rfl, hb2⟩)
      obtain ⟨W3, hW3, b3, z3, k3⟩ := boxes1 w2 #[.int .i64 (chgR l).1.day, .string (chgR l).1.key, .string (chgR l).1.old_, .string (chgR l).1.new_] 40
      rw [hW3]
      clear hW3
      have z2 := hb2.size
      have HBA := Lib.hid (hb2.trans (b3.mono z2))
      clear hb2 b3 k3 hc HRK
      have zA := HBA.out.size
      by_cases hc0 : (chgR l).2 = 0
      · rw [if_pos hc0, List.append_nil] at hds
        rw [hc0]
        clear hc0
        have HDS := Lib.hid hds
        clear hds
        go_wp2
        go_roundw
        case rel => exact ⟨k + 1, by omega, by go_num, HB.out.trans (HBA.out.mono zr), by rw [HDS.out]; exact HG.out.below (lo := 0) In.nil HBA.out⟩
        case measure => simp [intOf]; omega
      · rw [if_neg hc0] at hds
        have hq : ((chgR l).2 != 0) = true := by rw [bne_iff_ne]; exact hc0
        have hq2 : ((chgR l).2 == 0) = false := by rw [beq_eq_false_iff_ne]; exact hc0
        clear hc0
        generalize (chgR l).2 = code at *
        have HDS := Lib.hid hds
        clear hds
        have HG2 := Lib.hid (HG.out.below (lo := 0) In.nil HBA.out)
        have hki : (k : Int) + 1 ≤ 48 := by omega
        go_upto_region 10 with (fail)
        go_wp2_with (at_builtin; refine wpList_append1 rfl (.tmp 33) (.tmp 36) _ rfl (w1.heap.size) 2 i0 _ 1 8 Tryz.underlying22 hi0 hz0 hz1 hz2 rfl (by omega) _ _ _ [] rfl HG2.out [.int .i64 ((k : Int) + 1)] [intT ((k : Int) + 1)] [] rfl 1 rfl (fun u hu => by simp at hu; subst hu; rfl) (RepV.lits [.int .i64 ((k : Int) + 1)]) List.nodup_nil (fun b h => by simp at h) 0 In.nil In.nil (by simp) (by simp) (by unfold maxLen; omega) (by omega) (by omega) ?_; intro v2 w4 hgn)
        have HGN := Lib.hid hgn
        clear hgn
        go_wp2
        go_roundw
        case rel =>
          refine ⟨k + 1, by omega, by go_num, (HB.out.trans (HBA.out.mono zr)).trans HGN.out.below, ?_⟩
          rw [HDS.out, List.length_append, List.map_append]
          exact HGN.out.grow
        case measure => simp [intOf]; omega
    · obtain rfl : k = ls.length := by omega
      obtain ⟨av, cv, fv, ev, ov, iv⟩ := HG.out.toOwn (lo := w1.heap.size) (by omega) In.nil (by omega)
      subst ev
      have OV := Lib.hid ov
      have IV := Lib.hid iv
      clear ov iv HG
      go_wp2
      go_ret2
      exact ⟨av, cv, fv, rfl, HB1.out.trans (HB.out.mono z1), OV.out, IV.out.mono z1 (Nat.le_refl _)⟩
set_option maxHeartbeats 8000000 in
set_option maxRecDepth 100000 in
theorem sDamagedFrames_any (s : ByteArray) (hs : s.size ≤ 1048576) (w : World) : Calls Tryz.prog 5 #[.string s] w (DmgP (dmgR (bl s)) w) := by
  have HLN : Hid (∀ W, Calls Tryz.prog 15 #[.string s] W (LinesP (linesR (bl s)) W)) := fun W => l28Lines_any s hs W
  have hlen := linesR_len (bl s)
  have hmem : ∀ l ∈ (linesR (bl s)).1, l.length ≤ 1048576 := fun l hl => by have := linesR_mem hl; rw [bl_len] at this; omega
  have hnothing : True := trivial
  clear hnothing
  by_cases h0 : (linesR (bl s)).2 = 0
  case neg =>
    have HE : Hid (dmgR (bl s) = ([], (linesR (bl s)).2)) := by show _ = _; unfold dmgR; rw [if_neg h0]
    rw [HE.out]
    generalize linesR (bl s) = o at *
    obtain ⟨ls, c⟩ := o
    simp only at *
    have hq : (c != 0) = true := by rw [bne_iff_ne]; exact h0
    have hq2 : (c == 0) = false := by rw [beq_eq_false_iff_ne]; exact h0
    clear h0 HE hlen hmem
    go_enter Tryz.func5, Tryz.ntmps5
    go_wp2_with (fail)
    refine (HLN.out _).mono ?_
    rintro e w1 ⟨a1, c1, rfl, hb1, hr1⟩
    clear hr1
    go_wp2
    go_ret2
    exact DmgP.none_ rfl rfl hb1
  have HE : Hid (dmgR (bl s) = (dmgK (linesR (bl s)).1 (linesR (bl s)).1.length, 0)) := by show _ = _; unfold dmgR; rw [if_pos h0]
  rw [HE.out]
  have ho : linesR (bl s) = ((linesR (bl s)).1, 0) := by rw [← h0]
  rw [ho] at HLN
  generalize (linesR (bl s)).1 = ls at *
  clear h0 HE ho hs
  obtain ⟨i0, hi0, hz0, hz1, hz2⟩ := info_parts infoI
  have HRC : Hid (∀ l, l ∈ ls → ∀ W : World, Calls Tryz.prog 16 #[.string (ofL l)] W fun e w' => e = .returned (.tuple #[.agg #[.int .i64 (chgR l).1.day, .string (chgR l).1.key, .string (chgR l).1.old_, .string (chgR l).1.new_], .int .i64 (chgR l).2]) ∧ Below W.heap.size W w') := fun l hl W => by
    have hll := hmem l hl
    exact l28Read_any (ofL l) (by show l.length ≤ _; omega) W
  clear hmem
  have hln : (ls.length : Int) ≤ 48 := by omega
  go_enter Tryz.func5, Tryz.ntmps5
  go_wp2_with (fail)
  refine (HLN.out _).mono ?_
  rintro e w1 ⟨a1, c1, rfl, hb1, hr1⟩
  have HB1 := Lib.hid hb1
  have z1 := hb1.size
  simp only [] at hr1
  have hr2 : Rd w1.heap.size w1 (strsT (ls.map ofL)) (.slice a1 ls.length c1) := hr1
  obtain ⟨a2, c2, e1, _, _, hcl⟩ := Rd.strs hr2
  have e1' : Value.slice a1 ls.length c1 = Value.slice a2 (ls.map ofL).length c2 := e1
  injection e1' with e1 e2 e3
  subst e1 e3
  have HCL := Lib.hid hcl
  clear hb1 hr1 hr2 hcl e2 HLN
  go_wp2
  go_loopw [6, 7] (fun v i wr => ∃ (k : Nat), k ≤ ls.length ∧ i = .int .i64 k ∧ Below w1.heap.size w1 wr ∧ Grow wr w1.heap.size 2 1 v (dmgK ls k).length ((dmgK ls k).map intT) []) (fun _ i wr => ls.length - (intOf i).toNat)
  case atStart => exact ⟨0, Nat.zero_le _, rfl, (Below.refl _ _).alloc (Nat.le_refl _) _, by show Grow _ _ _ _ _ 0 [] []; exact grow_room w1 2 #[] 0 rfl (by unfold maxLen; omega)⟩
  case round =>
    obtain ⟨k, hk, rfl, hb, hgr⟩ := hrel
    have HB := Lib.hid hb
    have HG := Lib.hid hgr
    have zr := hb.size
    have hdl := dmgK_len ls k
    clear hb hgr
    by_cases hlt : k < ls.length
    · obtain ⟨b, off, ea, hbb, hat⟩ := HCL.out (by rw [List.length_map]; omega)
      subst ea
      have hc := hat k (by rw [List.length_map]; exact hlt)
      rw [List.getElem_map] at hc
      rw [← bat HB.out b _ hbb] at hc
      clear hat
      have hg : (ls[k]?).getD [] = ls[k] := by rw [List.getElem?_eq_getElem hlt]; rfl
      have hds : dmgK ls (k + 1) = dmgK ls k ++ (if (chgR ls[k]).2 = 0 then [] else [(k : Int) + 1]) := by rw [dmgK, hg]
      have HRK := Lib.hid (HRC.out ls[k] (List.getElem_mem hlt) wr )
      generalize ls[k] = l at *
      clear hg
      go_upto_region 9 with (go_at_call 16; with_reducible refine HRK.out.mono ?_; rintro e w2 ⟨rfl, hb2⟩)
      obtain ⟨W3, hW3, b3, z3, k3⟩ := boxes1 w2 #[.int .i64 (chgR l).1.day, .string (chgR l).1.key, .string (chgR l).1.old_, .string (chgR l).1.new_] 40
      rw [hW3]
      clear hW3
      have z2 := hb2.size
      have HBA := Lib.hid (hb2.trans (b3.mono z2))
      clear hb2 b3 k3 hc HRK
      have zA := HBA.out.size
      by_cases hc0 : (chgR l).2 = 0
      · rw [if_pos hc0, List.append_nil] at hds
        rw [hc0]
        clear hc0
        have HDS := Lib.hid hds
        clear hds
        go_wp2
        go_roundw
        case rel => exact ⟨k + 1, by omega, by go_num, HB.out.trans (HBA.out.mono zr), by rw [HDS.out]; exact HG.out.below (lo := 0) In.nil HBA.out⟩
        case measure => simp [intOf]; omega
      · rw [if_neg hc0] at hds
        have hq : ((chgR l).2 != 0) = true := by rw [bne_iff_ne]; exact hc0
        have hq2 : ((chgR l).2 == 0) = false := by rw [beq_eq_false_iff_ne]; exact hc0
        clear hc0
        generalize (chgR l).2 = code at *
        have HDS := Lib.hid hds
        clear hds
        have HG2 := Lib.hid (HG.out.below (lo := 0) In.nil HBA.out)
        have hki : (k : Int) + 1 ≤ 48 := by omega
        go_upto_region 10 with (fail)
        go_wp2_with (at_builtin; refine wpList_append1 rfl (.tmp 35) (.tmp 38) _ rfl (w1.heap.size) 2 i0 _ 1 8 Tryz.underlying22 hi0 hz0 hz1 hz2 rfl (by omega) _ _ _ [] rfl HG2.out [.int .i64 ((k : Int) + 1)] [intT ((k : Int) + 1)] [] rfl 1 rfl (fun u hu => by simp at hu; subst hu; rfl) (RepV.lits [.int .i64 ((k : Int) + 1)]) List.nodup_nil (fun b h => by simp at h) 0 In.nil In.nil (by simp) (by simp) (by unfold maxLen; omega) (by omega) (by omega) ?_; intro v2 w4 hgn)
        have HGN := Lib.hid hgn
        clear hgn
        go_wp2
        go_roundw
        case rel =>
          refine ⟨k + 1, by omega, by go_num, (HB.out.trans (HBA.out.mono zr)).trans HGN.out.below, ?_⟩
          rw [HDS.out, List.length_append, List.map_append]
          exact HGN.out.grow
        case measure => simp [intOf]; omega
    · obtain rfl : k = ls.length := by omega
      obtain ⟨av, cv, fv, ev, ov, iv⟩ := HG.out.toOwn (lo := w1.heap.size) (by omega) In.nil (by omega)
      subst ev
      have OV := Lib.hid ov
      have IV := Lib.hid iv
      clear ov iv HG
      go_wp2
      go_ret2
      exact ⟨av, cv, fv, rfl, HB1.out.trans (HB.out.mono z1), OV.out, IV.out.mono z1 (Nat.le_refl _)⟩
end
end Go.Proofs.YtjkpadfolkniaaaGreatDoor
