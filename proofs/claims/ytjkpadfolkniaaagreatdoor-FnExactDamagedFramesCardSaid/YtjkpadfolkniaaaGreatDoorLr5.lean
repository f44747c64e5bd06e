/- Contracts: the change of a line, for the reference. Conditions: bounded sizes. -/
import Derived.Test.YtjkpadfolkniaaaGreatDoorLr4
import Derived.Test.YtjkpadfolkniaaaGreatDoorReg1s
namespace Go.Proofs.YtjkpadfolkniaaaGreatDoor
open Go.RowKit
set_option linter.unusedVariables false
set_option linter.unusedSimpArgs false

theorem bodyR_cases (l : List UInt8) : ((bodyR l).2 = 0 ∧ lastCut 32 l = some ((bodyR l).1, Go.Lib.itoa (crcL (bodyR l).1 65535))) ∨ (bodyR l = ([], 10) ∧ chgR l = (zChg, 10)) := by
  cases h : lastCut 32 l with
  | none => exact Or.inr ⟨by unfold bodyR; rw [h], chgR_none h⟩
  | some p =>
    obtain ⟨b, s⟩ := p
    by_cases hs : s = Go.Lib.itoa (crcL b 65535)
    · left
      have e : bodyR l = (b, 0) := by unfold bodyR; rw [h]; exact if_pos hs
      rw [e]
      exact ⟨rfl, by rw [hs]⟩
    · exact Or.inr ⟨by unfold bodyR; rw [h]; exact if_neg hs, chgR_sum h hs⟩
theorem splitN_le (c : UInt8) (l : List UInt8) : ∀ k, (splitN c k l).length ≤ (splitC c l).length := by
  induction l with
  | nil => intro k; cases k <;> simp [splitN, splitC]
  | cons b l ih =>
    intro k
    cases k with
    | zero =>
      have : 0 < (splitC c (b :: l)).length := List.length_pos_iff.2 (splitC_ne _ _)
      simp [splitN]; omega
    | succ k =>
      rw [splitN, splitC]
      by_cases h : b = c
      · rw [if_pos h, if_pos h, List.length_cons, List.length_cons]; have := ih k; omega
      · rw [if_neg h, if_neg h, onto_len _ _ (splitN_ne _ _ _), onto_len _ _ (splitC_ne _ _)]; exact ih (k + 1)
theorem valueB_len {s : ByteArray} (h : (eqS s emptyS || valueB s) = true) : s.size ≤ 200 := by
  rcases Bool.or_eq_true_iff.1 h with e | e
  · rw [eqS_iff.1 e]; exact Nat.zero_le _
  · unfold valueB at e
    simp only [Bool.and_eq_true, decide_eq_true_eq] at e
    omega
theorem changeB_len {x : DChange} (h : changeB x = true) : x.old_.size ≤ 200 ∧ x.new_.size ≤ 200 := by
  unfold changeB at h
  simp only [Bool.and_eq_true] at h
  exact ⟨valueB_len h.2.2.1, valueB_len h.2.2.2.1⟩
theorem chgR_big {line body p0 p1 p2 p3 t : List UInt8} {n m : Int} (h : lastCut 32 line = some (body, Go.Lib.itoa (crcL body 65535))) (hp : splitN 32 4 body = [p0, p1, p2, p3, t]) (h2 : num p2 = some n) (h3 : num p3 = some m) (hb : ¬ (inB n 0 200 = true ∧ inB m 0 200 = true ∧ n + m = (t.length : Int))) : chgR line = (zChg, 9) := by
  rw [chgR_five h rfl hp, h2, h3]
  cases num p0 with
  | none => rfl
  | some d =>
    refine if_neg fun e => hb ?_
    obtain ⟨e1, e2, e3, e4⟩ := e
    have := changeB_len e4
    have g1 : ((t.take n.toNat).length : Nat) ≤ 200 := this.1
    have g2 : ((t.drop n.toNat).length : Nat) ≤ 200 := this.2
    rw [List.length_take] at g1
    rw [List.length_drop] at g2
    unfold inB
    refine ⟨?_, ?_, e2⟩ <;> simp only [Bool.and_eq_true, decide_eq_true_eq] <;> omega
theorem chgR_ok {line body p0 p1 p2 p3 t : List UInt8} {d : Int} {k : Nat} {m : Int} (h : lastCut 32 line = some (body, Go.Lib.itoa (crcL body 65535))) (hp : splitN 32 4 body = [p0, p1, p2, p3, t]) (h0 : num p0 = some d) (h2 : num p2 = some (k : Int)) (h3 : num p3 = some m) (hm : (k : Int) + m = (t.length : Int)) (hk : k ≤ t.length) : chgR line = if changeB (chgOf d p1 t k) = true then (chgOf d p1 t k, 0) else (zChg, 9) := by
  rw [chgR_five h rfl hp, h0, h2, h3]
  simp only [Int.toNat_natCast]
  by_cases hc : changeB (chgOf d p1 t k) = true
  · rw [if_pos hc]; exact if_pos ⟨by omega, hm, by omega, hc⟩
  · rw [if_neg hc]; exact if_neg fun e => hc e.2.2.2
theorem cut_lt {c : UInt8} {l x y : List UInt8} (h : lastCut c l = some (x, y)) : x.length ≤ l.length := by
  rw [(lastCut_some h).1, List.length_append]; omega
theorem four {α : Type} {l : List α} (h : l.length = 4) : ∃ a b c d, l = [a, b, c, d] := by
  match l, h with
  | [a, b, c, d], _ => exact ⟨a, b, c, d, rfl⟩
set_option maxHeartbeats 8000000 in
set_option maxRecDepth 100000 in
theorem l28Read_any (s : ByteArray) (hs : s.size ≤ 1048576) (w : World) : Calls Tryz.prog 16 #[.string s] w fun e w' => e = .returned (.tuple #[chgV (chgR (bl s)).1, .int .i64 (chgR (bl s)).2]) ∧ Below w.heap.size w w' := by
  obtain ⟨W0, hW0, b0, z0, k0⟩ := boxes1 w #[.int .i64 0, .string ⟨#[]⟩, .string ⟨#[]⟩, .string ⟨#[]⟩] 40
  have HW0 := Lib.hid hW0
  clear hW0
  have B0 := Lib.hid b0
  clear b0
  have K0 := Lib.hid k0
  clear k0
  have HD : Hid (∀ W : World, Below W0.heap.size W0 W → (W.cell? ⟨w.heap.size, 0, none⟩ = some (.int .i64 0) ∧ W.cell? ⟨w.heap.size, 1, none⟩ = some (.string ⟨#[]⟩) ∧ W.cell? ⟨w.heap.size, 2, none⟩ = some (.string ⟨#[]⟩) ∧ W.cell? ⟨w.heap.size, 3, none⟩ = some (.string ⟨#[]⟩))) := fun W hW => ⟨bkC (bkB K0.out hW (by omega)) 0 rfl, bkC (bkB K0.out hW (by omega)) 1 rfl, bkC (bkB K0.out hW (by omega)) 2 rfl, bkC (bkB K0.out hW (by omega)) 3 rfl⟩
  have HB : Hid (Below W0.heap.size W0 W0) := Below.refl _ _
  have HH : Hid (∀ W : World, Below W0.heap.size W0 W → Below w.heap.size w W) := fun W hW => B0.out.trans (hW.mono (by omega))
  have hsi : (s.size : Int) ≤ 1048576 := by omega
  have HBO : Hid (∀ W, Calls Tryz.prog 33 #[.string s] W fun e w' => e = .returned (.tuple #[.string (ofL (bodyR (bl s)).1), .int .i64 (bodyR (bl s)).2]) ∧ Below W.heap.size W w') := fun W => l28Body_any s hs W
  rcases bodyR_cases (bl s) with ⟨hb0, hcc⟩ | ⟨hb, hE⟩
  case inr =>
    have HE : Hid (chgR (bl s) = (zChg, 10)) := hE
    rw [hb] at HBO
    clear hb hE
    go_enter Tryz.func16, Tryz.ntmps16
    go_upto_region 1 with (fail)
    rw [HW0.out]
    go_wp2_with (fail)
    refine (HBO.out _).mono ?_
    rintro e w1 ⟨rfl, hb1⟩
    have HBX := Lib.hid (HB.out.trans (hb1.mono HB.out.size))
    clear hb1
    obtain ⟨t0, t1, t2, t3⟩ := HD.out _ HBX.out
    have gz := bkF (bkB K0.out HBX.out (by omega))
    have BF := Lib.hid (HH.out _ HBX.out)
    go_wp2_with fail
    refine bodyPost_ret (v := .tuple #[.agg #[.int .i64 0, .string ⟨#[]⟩, .string ⟨#[]⟩, .string ⟨#[]⟩], .int .i64 10]) (by simp [results, Tryz.results16, go_sem, *]) rfl ?_
    exact ⟨by rw [HE.out]; rfl, (bset (bset (bset (bset BF.out (by omega) 0 _) (by omega) 1 _) (by omega) 2 _) (by omega) 3 _)⟩
  rw [hb0] at HBO
  have hlb := cut_lt hcc
  rw [bl_len] at hlb
  have HCC := Lib.hid hcc
  clear hcc hb0
  generalize (bodyR (bl s)).1 = bd at *
  have hbs : (ofL bd).size ≤ 1048576 := by show bd.length ≤ _; omega
  have HBB : Hid (bl (ofL bd) = bd) := bl_ofL bd
  generalize ofL bd = bb at *
  have HBL : Hid (bd.length = bb.size) := by show _ = _; rw [← HBB.out, bl_len]
  have hbi : (bb.size : Int) ≤ 1048576 := by omega
  clear hlb
  obtain ⟨i0, hi0, hz0, hz1, hz2⟩ := info_parts infoStr
  go_enter Tryz.func16, Tryz.ntmps16
  go_upto_region 1 with (fail)
  rw [HW0.out]
  go_upto_region 4 with (go_at_call 33; with_reducible refine (HBO.out _).mono ?_; rintro e w1 ⟨rfl, hb1⟩)
  have HB1 := Lib.hid (HB.out.trans (hb1.mono HB.out.size))
  have zW0 := HB1.out.size
  have hB : Hid (Below w1.heap.size w1 (w1.alloc (.cells #[] 9))) := (Below.refl _ _).alloc (Nat.le_refl _) _
  clear hb1 HBO
  go_wp2
  go_loopw [6, 7, 8] (fun v fr i wr => ∃ (k f : Nat) (out : List (List UInt8)), k ≤ bb.size ∧ f ≤ k ∧ out.length ≤ 4 ∧ i = .int .i64 k ∧ fr = .int .i64 f ∧ splitC 32 ((bl bb).take k) = out ++ [seg (bl bb) f k] ∧ splitC 32 ((bl bb).take f) = out ++ [[]] ∧ Below w1.heap.size w1 wr ∧ Grow wr w1.heap.size 9 1 v out.length (out.map (fun p => strT (ofL p))) []) (fun _ _ i wr => bb.size - (intOf i).toNat)
  case atStart => exact ⟨0, 0, [], Nat.zero_le _, Nat.le_refl _, Nat.zero_le _, rfl, rfl, rfl, rfl, hB.out, by simpa using grow_room w1 9 #[] 0 rfl (by unfold maxLen; omega)⟩
  case round =>
  obtain ⟨k, f, out, hk, hf, ho, rfl, rfl, hsp, hsf, hb, hgr⟩ := hrel
  have HS := Lib.hid hsp
  have HSF := Lib.hid hsf
  have HBR := Lib.hid hb
  have HG := Lib.hid hgr
  have zr := hb.size
  clear hb hgr hsp hsf
  have hvf : ∃ av cv, _ = Value.slice av out.length cv := (let ⟨a, c, _, e, _, _⟩ := HG.out.toOwn (lo := w1.heap.size) (by omega) In.nil (by omega); ⟨a, c, e⟩)
  obtain ⟨av, cv, rfl⟩ := hvf
  by_cases ho4 : out.length < 4
  case pos =>
    have ho4i : (out.length : Int) < 4 := by omega
    by_cases hlt : k < bb.size
    case pos =>
      have HSN := Lib.hid (seg_succS bb f k hlt hf)
      have HTK : Hid ((bl bb).take (k + 1) = (bl bb).take k ++ [bb[k]]) := by
        have hkl : k < (bl bb).length := by rw [bl_len]; exact hlt
        show _ = _
        rw [List.take_succ_eq_append_getElem hkl, bl_get bb k hkl]
      by_cases hm : bb[k] = 32
      · have hmi : ((bb[k].toNat : Int) == 32) = true := by rw [hm]; rfl
        have HE := Lib.hid (extract_seg bb f k hk)
        have HM := Lib.hid hm
        clear hm
        go_upto_region 10 with (fail)
        go_wp2_with (at_builtin; refine wpList_append1 rfl (.tmp 42) (.tmp 47) _ rfl (w1.heap.size) 9 i0 _ 1 16 Tryz.underlying36 hi0 hz0 hz1 hz2 rfl (by omega) _ _ _ [] rfl HG.out [.string (bb.extract f k)] [strT (bb.extract f k)] [] rfl 1 rfl (fun u hu => by simp at hu; subst hu; rfl) (RepV.lits [.string (bb.extract f k)]) List.nodup_nil (fun b h => by simp at h) 0 In.nil In.nil (by simp) (by simp) (by unfold maxLen; omega) (by omega) (by omega) ?_; intro v2 w2 hgn)
        have HGN := Lib.hid hgn
        clear hgn
        go_wp2
        go_roundw
        case rel =>
          have e1 : splitC 32 ((bl bb).take (k + 1)) = (out ++ [seg (bl bb) f k]) ++ [[]] := by rw [HTK.out, splitC_snoc 32 _ _ _ _ HS.out, if_pos HM.out]
          refine ⟨k + 1, k + 1, out ++ [seg (bl bb) f k], by omega, Nat.le_refl _, by simp; omega, by go_num, by go_num, ?_, e1, HBR.out.trans HGN.out.below, ?_⟩
          · rw [e1, seg_self]
          · rw [List.length_append, List.map_append]
            have := HGN.out.grow
            rw [HE.out] at this
            exact this
        case measure => simp [intOf]; omega
      · have hmi : ((bb[k].toNat : Int) == 32) = false := by
          rw [beq_eq_false_iff_ne]
          intro e
          exact hm (UInt8.toNat_inj.1 (show bb[k].toNat = 32 by omega))
        have HM := Lib.hid hm
        clear hm
        go_wp2
        go_roundw
        case rel =>
          refine ⟨k + 1, f, out, by omega, by omega, ho, by go_num, rfl, ?_, HSF.out, HBR.out, HG.out⟩
          rw [HTK.out, splitC_snoc 32 _ _ _ _ HS.out, if_neg HM.out, HSN.out]
        case measure => simp [intOf]; omega
    case neg =>
      obtain rfl : k = bb.size := by omega
      have HE : Hid (chgR (bl s) = (zChg, 9)) := chgR_len HCC.out rfl (by
        have h1 := splitN_le 32 bd 4
        have h2 : (splitC 32 bd).length = out.length + 1 := by
          have h3 := HS.out
          rw [← bl_len, List.take_length, HBB.out] at h3
          rw [h3]; simp
        omega)
      have HBX := Lib.hid (HB1.out.trans (HBR.out.mono (by omega)))
      clear HG
      obtain ⟨t0, t1, t2, t3⟩ := HD.out _ HBX.out
      have gz := bkF (bkB K0.out HBX.out (by omega))
      have BF := Lib.hid (HH.out _ HBX.out)
      go_wp2_with fail
      refine bodyPost_ret (v := .tuple #[.agg #[.int .i64 0, .string ⟨#[]⟩, .string ⟨#[]⟩, .string ⟨#[]⟩], .int .i64 9]) (by simp [results, Tryz.results16, go_sem, *]) rfl ?_
      exact ⟨by rw [HE.out]; rfl, (bset (bset (bset (bset BF.out (by omega) 0 _) (by omega) 1 _) (by omega) 2 _) (by omega) 3 _)⟩
  case neg =>
  have ho4e : out.length = 4 := by omega
  have HP : Hid (splitN 32 4 bd = out ++ [bd.drop f]) := by
    show _ = _
    have := splitN_app 32 (bd.take f) (bd.drop f) out 4 (by rw [← HBB.out]; exact HSF.out) ho4e
    rw [List.take_append_drop] at this
    exact this
  obtain ⟨av', cv', fv, ev, ov, iv⟩ := HG.out.toOwn (lo := w1.heap.size) (by omega) In.nil (by omega)
  injection ev with ev1 ev2 ev3
  subst ev1 ev3
  have hrd := ov.rd iv
  have HBX := Lib.hid (HB1.out.trans (HBR.out.mono (by omega)))
  have HXT : Hid (bb.extract f bb.size = ofL (bd.drop f)) := by
    show _ = _
    rw [extract_seg bb f _ (Nat.le_refl _), seg_drop _ _ _ (by rw [bl_len]; exact Nat.le_refl _), HBB.out]
  obtain ⟨p0, p1, p2, p3, rfl⟩ := four ho4e
  have hrd2 : Rd wr.heap.size wr (strsT [ofL p0, ofL p1, ofL p2, ofL p3]) (.slice av 4 cv) := hrd
  obtain ⟨_, _, e1, _, _, hcl⟩ := Rd.strs hrd2
  injection e1 with e1 _ e3
  subst e1 e3
  obtain ⟨b1, off, ea, hbb1, hat⟩ := hcl (by simp)
  subst ea
  have x0 := hat 0 (by simp)
  have x1 := hat 1 (by simp)
  have x2 := hat 2 (by simp)
  have x3 := hat 3 (by simp)
  simp only [List.getElem_cons_zero, List.getElem_cons_succ, Nat.add_zero] at x0 x1 x2 x3
  simp only [List.length_cons, List.length_nil]
  have hmem : ∀ p ∈ [p0, p1, p2, p3, bd.drop f], p.length ≤ bb.size := fun p hp => by
    have h1 := HP.out
    have := splitN_size 32 bd 4 p (by rw [h1]; exact hp)
    rw [HBL.out] at this
    exact this
  have hl0 := hmem p0 (by simp)
  have hl1 := hmem p1 (by simp)
  have hl2 := hmem p2 (by simp)
  have hl3 := hmem p3 (by simp)
  have HAB : Hid (splitN 32 4 bd = [p0, p1, p2, p3, bd.drop f]) := HP.out
  clear hrd hrd2 hcl hat hmem ov iv HG HS HSF HP ho4e ho4 ho
  have hs1 : (ofL p1).size ≤ 1048576 := by show p1.length ≤ _; omega
  have hst : (ofL (bd.drop f)).size ≤ 1048576 := by show (bd.drop f).length ≤ _; rw [List.length_drop, HBL.out]; omega
  have HN0 : Hid (∀ W, Calls Tryz.prog 31 #[.string (ofL p0)] W fun e w' => e = .returned (.tuple #[.int .i64 (numV p0), .bool (numB p0)]) ∧ W = w') := fun W => by
    have := l01Number_any (ofL p0) (by show p0.length ≤ _; omega) W
    rw [bl_ofL] at this
    exact this
  have HN2 : Hid (∀ W, Calls Tryz.prog 31 #[.string (ofL p2)] W fun e w' => e = .returned (.tuple #[.int .i64 (numV p2), .bool (numB p2)]) ∧ W = w') := fun W => by
    have := l01Number_any (ofL p2) (by show p2.length ≤ _; omega) W
    rw [bl_ofL] at this
    exact this
  have HN3 : Hid (∀ W, Calls Tryz.prog 31 #[.string (ofL p3)] W fun e w' => e = .returned (.tuple #[.int .i64 (numV p3), .bool (numB p3)]) ∧ W = w') := fun W => by
    have := l01Number_any (ofL p3) (by show p3.length ≤ _; omega) W
    rw [bl_ofL] at this
    exact this
  have HI : Hid (∀ W (n : Int), Calls Tryz.prog 32 #[.int .i64 n, .int .i64 0, .int .i64 200] W fun e w' => e = .returned (.bool (inB n 0 200)) ∧ W = w') := fun W n => l00In_any n 0 200 W
  have HM0 : Hid (∀ b, numB p0 = b → num p0 = if b = true then some (numV p0) else none) := fun b h1 => by
    subst h1
    unfold numB numV
    cases num p0 <;> rfl
  have HM2 : Hid (∀ b, numB p2 = b → num p2 = if b = true then some (numV p2) else none) := fun b h1 => by
    subst h1
    unfold numB numV
    cases num p2 <;> rfl
  have HM3 : Hid (∀ b, numB p3 = b → num p3 = if b = true then some (numV p3) else none) := fun b h1 => by
    subst h1
    unfold numB numV
    cases num p3 <;> rfl
  have HTL : Hid (((bd.drop f).length : Int) = ((ofL (bd.drop f)).size : Int)) := rfl
  have HT2 : Hid (bl (ofL (bd.drop f)) = bd.drop f) := bl_ofL _
  generalize numV p0 = d at *
  generalize numV p2 = n at *
  generalize numV p3 = m at *
  have HO1 : Hid (bl (ofL p1) = p1) := bl_ofL p1
  generalize ofL p0 = s0 at *
  generalize ofL p1 = s1 at *
  generalize ofL p2 = s2 at *
  generalize ofL p3 = s3 at *
  have hxt := HXT.out
  generalize hTT : ofL (bd.drop f) = tt at *
  clear hTT
  generalize bd.drop f = t at *
  have hfi : (f : Int) ≤ (bb.size : Int) := by omega
  have hf0 : (0 : Int) ≤ (f : Int) := by omega
  have zb := HBX.out.size
  have hti : (tt.size : Int) ≤ 1048576 := by omega
  have HS4 : Hid (∀ W, Below wr.heap.size wr W → (W.cell? ⟨b1, off + 1, none⟩ = some (.string s1))) := fun W hW => (bat hW b1 _ (by omega)).trans x1
  clear hl0 hl1 hl2 hl3
  by_cases hlt : k < bb.size
  case pos =>
    go_upto_region 14 with (fail)
    cases hn0 : numB p0 with
    | false =>
      have HE : Hid (chgR (bl s) = (zChg, 9)) := chgR_day HCC.out rfl HAB.out (HM0.out false hn0)
      rw [hn0] at HN0
      clear hn0
      obtain ⟨t0, t1, t2, t3⟩ := HD.out _ HBX.out
      have gz := bkF (bkB K0.out HBX.out (by omega))
      have BF := Lib.hid (HH.out _ HBX.out)
      go_wp2_with (first | (go_at_call 31; with_reducible refine (HN0.out _).mono ?_; rintro e w_0 ⟨rfl, rfl⟩) | (go_at_call 31; with_reducible refine (HN2.out _).mono ?_; rintro e w_2 ⟨rfl, rfl⟩) | (go_at_call 31; with_reducible refine (HN3.out _).mono ?_; rintro e w_3 ⟨rfl, rfl⟩))
      refine bodyPost_ret (v := .tuple #[.agg #[.int .i64 0, .string ⟨#[]⟩, .string ⟨#[]⟩, .string ⟨#[]⟩], .int .i64 9]) (by simp [results, Tryz.results16, go_sem, *]) rfl ?_
      exact ⟨by rw [HE.out]; rfl, (bset (bset (bset (bset BF.out (by omega) 0 _) (by omega) 1 _) (by omega) 2 _) (by omega) 3 _)⟩
    | true =>
    have HP0 : Hid (num p0 = some d) := HM0.out true hn0
    rw [hn0] at HN0
    clear hn0
    cases hn2 : numB p2 with
    | false =>
      have HE : Hid (chgR (bl s) = (zChg, 9)) := chgR_n HCC.out rfl HAB.out (HM2.out false hn2)
      rw [hn2] at HN2
      clear hn2
      obtain ⟨t0, t1, t2, t3⟩ := HD.out _ HBX.out
      have gz := bkF (bkB K0.out HBX.out (by omega))
      have BF := Lib.hid (HH.out _ HBX.out)
      go_wp2_with (first | (go_at_call 31; with_reducible refine (HN0.out _).mono ?_; rintro e w_0 ⟨rfl, rfl⟩) | (go_at_call 31; with_reducible refine (HN2.out _).mono ?_; rintro e w_2 ⟨rfl, rfl⟩) | (go_at_call 31; with_reducible refine (HN3.out _).mono ?_; rintro e w_3 ⟨rfl, rfl⟩))
      refine bodyPost_ret (v := .tuple #[.agg #[.int .i64 0, .string ⟨#[]⟩, .string ⟨#[]⟩, .string ⟨#[]⟩], .int .i64 9]) (by simp [results, Tryz.results16, go_sem, *]) rfl ?_
      exact ⟨by rw [HE.out]; rfl, (bset (bset (bset (bset BF.out (by omega) 0 _) (by omega) 1 _) (by omega) 2 _) (by omega) 3 _)⟩
    | true =>
    have HP2 : Hid (num p2 = some n) := HM2.out true hn2
    rw [hn2] at HN2
    clear hn2
    cases hn3 : numB p3 with
    | false =>
      have HE : Hid (chgR (bl s) = (zChg, 9)) := chgR_m HCC.out rfl HAB.out (HM3.out false hn3)
      rw [hn3] at HN3
      clear hn3
      obtain ⟨t0, t1, t2, t3⟩ := HD.out _ HBX.out
      have gz := bkF (bkB K0.out HBX.out (by omega))
      have BF := Lib.hid (HH.out _ HBX.out)
      go_wp2_with (first | (go_at_call 31; with_reducible refine (HN0.out _).mono ?_; rintro e w_0 ⟨rfl, rfl⟩) | (go_at_call 31; with_reducible refine (HN2.out _).mono ?_; rintro e w_2 ⟨rfl, rfl⟩) | (go_at_call 31; with_reducible refine (HN3.out _).mono ?_; rintro e w_3 ⟨rfl, rfl⟩))
      refine bodyPost_ret (v := .tuple #[.agg #[.int .i64 0, .string ⟨#[]⟩, .string ⟨#[]⟩, .string ⟨#[]⟩], .int .i64 9]) (by simp [results, Tryz.results16, go_sem, *]) rfl ?_
      exact ⟨by rw [HE.out]; rfl, (bset (bset (bset (bset BF.out (by omega) 0 _) (by omega) 1 _) (by omega) 2 _) (by omega) 3 _)⟩
    | true =>
    have HP3 : Hid (num p3 = some m) := HM3.out true hn3
    rw [hn3] at HN3
    clear hn3
    have HBG : Hid (¬ (inB n 0 200 = true ∧ inB m 0 200 = true ∧ n + m = (t.length : Int)) → chgR (bl s) = (zChg, 9)) := fun h => chgR_big HCC.out HAB.out HP2.out HP3.out h
    cases hi2 : inB n 0 200 with
    | false =>
      have HE : Hid (chgR (bl s) = (zChg, 9)) := HBG.out (by rw [hi2]; simp)
      have HIA : Hid (∀ W : World, Calls Tryz.prog 32 #[.int .i64 n, .int .i64 0, .int .i64 200] W fun e w' => e = .returned (.bool false) ∧ W = w') := fun W => by have := HI.out W n; rw [hi2] at this; exact this
      clear hi2
      obtain ⟨t0, t1, t2, t3⟩ := HD.out _ HBX.out
      have gz := bkF (bkB K0.out HBX.out (by omega))
      have BF := Lib.hid (HH.out _ HBX.out)
      go_wp2_with (first | (go_at_call 31; with_reducible refine (HN0.out _).mono ?_; rintro e w_0 ⟨rfl, rfl⟩) | (go_at_call 31; with_reducible refine (HN2.out _).mono ?_; rintro e w_2 ⟨rfl, rfl⟩) | (go_at_call 31; with_reducible refine (HN3.out _).mono ?_; rintro e w_3 ⟨rfl, rfl⟩) | (go_at_call 32; with_reducible refine (HIA.out _).mono ?_; rintro e w_5 ⟨rfl, rfl⟩))
      refine bodyPost_ret (v := .tuple #[.agg #[.int .i64 0, .string ⟨#[]⟩, .string ⟨#[]⟩, .string ⟨#[]⟩], .int .i64 9]) (by simp [results, Tryz.results16, go_sem, *]) rfl ?_
      exact ⟨by rw [HE.out]; rfl, (bset (bset (bset (bset BF.out (by omega) 0 _) (by omega) 1 _) (by omega) 2 _) (by omega) 3 _)⟩
    | true =>
    have HIA : Hid (∀ W : World, Calls Tryz.prog 32 #[.int .i64 n, .int .i64 0, .int .i64 200] W fun e w' => e = .returned (.bool true) ∧ W = w') := fun W => by have := HI.out W n; rw [hi2] at this; exact this
    cases hi3 : inB m 0 200 with
    | false =>
      have HE : Hid (chgR (bl s) = (zChg, 9)) := HBG.out (by rw [hi3]; simp)
      have HIB : Hid (∀ W : World, Calls Tryz.prog 32 #[.int .i64 m, .int .i64 0, .int .i64 200] W fun e w' => e = .returned (.bool false) ∧ W = w') := fun W => by have := HI.out W m; rw [hi3] at this; exact this
      clear hi2 hi3
      obtain ⟨t0, t1, t2, t3⟩ := HD.out _ HBX.out
      have gz := bkF (bkB K0.out HBX.out (by omega))
      have BF := Lib.hid (HH.out _ HBX.out)
      go_wp2_with (first | (go_at_call 31; with_reducible refine (HN0.out _).mono ?_; rintro e w_0 ⟨rfl, rfl⟩) | (go_at_call 31; with_reducible refine (HN2.out _).mono ?_; rintro e w_2 ⟨rfl, rfl⟩) | (go_at_call 31; with_reducible refine (HN3.out _).mono ?_; rintro e w_3 ⟨rfl, rfl⟩) | (go_at_call 32; with_reducible refine (HIA.out _).mono ?_; rintro e w_5 ⟨rfl, rfl⟩) | (go_at_call 32; with_reducible refine (HIB.out _).mono ?_; rintro e w_5 ⟨rfl, rfl⟩))
      refine bodyPost_ret (v := .tuple #[.agg #[.int .i64 0, .string ⟨#[]⟩, .string ⟨#[]⟩, .string ⟨#[]⟩], .int .i64 9]) (by simp [results, Tryz.results16, go_sem, *]) rfl ?_
      exact ⟨by rw [HE.out]; rfl, (bset (bset (bset (bset BF.out (by omega) 0 _) (by omega) 1 _) (by omega) 2 _) (by omega) 3 _)⟩
    | true =>
    have HIB : Hid (∀ W : World, Calls Tryz.prog 32 #[.int .i64 m, .int .i64 0, .int .i64 200] W fun e w' => e = .returned (.bool true) ∧ W = w') := fun W => by have := HI.out W m; rw [hi3] at this; exact this
    have r2 : 0 ≤ n ∧ n ≤ 200 := by unfold inB at hi2; simpa using hi2
    have r3 : 0 ≤ m ∧ m ≤ 200 := by unfold inB at hi3; simpa using hi3
    obtain ⟨r20, r21⟩ := r2
    obtain ⟨r30, r31⟩ := r3
    by_cases hsum : n + m = (tt.size : Int)
    case neg =>
      have HE : Hid (chgR (bl s) = (zChg, 9)) := HBG.out (fun e => hsum (by rw [← HTL.out]; exact e.2.2))
      have hs9 : ((n + m : Int) != (tt.size : Int)) = true := by rw [bne_iff_ne]; exact hsum
      have hs8 : ((n + m : Int) == (tt.size : Int)) = false := by rw [beq_eq_false_iff_ne]; exact hsum
      clear hi2 hi3 hsum
      obtain ⟨t0, t1, t2, t3⟩ := HD.out _ HBX.out
      have gz := bkF (bkB K0.out HBX.out (by omega))
      have BF := Lib.hid (HH.out _ HBX.out)
      go_wp2_with (first | (go_at_call 31; with_reducible refine (HN0.out _).mono ?_; rintro e w_0 ⟨rfl, rfl⟩) | (go_at_call 31; with_reducible refine (HN2.out _).mono ?_; rintro e w_2 ⟨rfl, rfl⟩) | (go_at_call 31; with_reducible refine (HN3.out _).mono ?_; rintro e w_3 ⟨rfl, rfl⟩) | (go_at_call 32; with_reducible refine (HIA.out _).mono ?_; rintro e w_5 ⟨rfl, rfl⟩) | (go_at_call 32; with_reducible refine (HIB.out _).mono ?_; rintro e w_5 ⟨rfl, rfl⟩))
      refine bodyPost_ret (v := .tuple #[.agg #[.int .i64 0, .string ⟨#[]⟩, .string ⟨#[]⟩, .string ⟨#[]⟩], .int .i64 9]) (by simp [results, Tryz.results16, go_sem, *]) rfl ?_
      exact ⟨by rw [HE.out]; rfl, (bset (bset (bset (bset BF.out (by omega) 0 _) (by omega) 1 _) (by omega) 2 _) (by omega) 3 _)⟩
    have hs9 : ((n + m : Int) != (tt.size : Int)) = false := by unfold bne; rw [hsum]; simp
    have hs8 : ((n + m : Int) == (tt.size : Int)) = true := beq_iff_eq.2 hsum
    obtain ⟨kk, rfl⟩ : ∃ kk : Nat, n = (kk : Int) := ⟨n.toNat, by omega⟩
    have hkk : kk ≤ tt.size := by omega
    have hki : (kk : Int) ≤ (tt.size : Int) := by omega
    have HSM := Lib.hid hsum
    clear hi2 hi3 hsum HBG HI
    go_upto_region 20 with (first | (go_at_call 31; with_reducible refine (HN0.out _).mono ?_; rintro e w_0 ⟨rfl, rfl⟩) | (go_at_call 31; with_reducible refine (HN2.out _).mono ?_; rintro e w_2 ⟨rfl, rfl⟩) | (go_at_call 31; with_reducible refine (HN3.out _).mono ?_; rintro e w_3 ⟨rfl, rfl⟩) | (go_at_call 32; with_reducible refine (HIA.out _).mono ?_; rintro e w_5 ⟨rfl, rfl⟩) | (go_at_call 32; with_reducible refine (HIB.out _).mono ?_; rintro e w_5 ⟨rfl, rfl⟩))
    clear x0 x1 x2 x3
    refine wp_region_ord 12 [(0, true), (1, true), (2, true), (3, true), (4, true), (5, true), (6, true), (7, true), (8, true), (9, true), (10, true), (11, false)] (fun W => (W.cell? ⟨b1, off + 1, none⟩ = some (.string s1))) (by kernel_rfl) (by kernel_rfl) (HS4.out _ (below_drew1 _)) (fun hHeld => ?_)
    refine wpOrd_read (v := ?_) rfl (fun _ _ _ h => h) ?_ ?_
    rotate_left
    · (intro W hSW; (try dsimp only at hSW); (go_simp <;> with_reducible rfl))
    (try simp only [Act.put, List.setIfInBounds_toArray, List.set_cons_zero, List.set_cons_succ])
    refine wpOrd_read (v := ?_) rfl (fun _ _ _ h => h) ?_ ?_
    rotate_left
    · (intro W hSW; (try dsimp only at hSW); (go_simp <;> with_reducible rfl))
    (try simp only [Act.put, List.setIfInBounds_toArray, List.set_cons_zero, List.set_cons_succ])
    refine wpOrd_read (v := ?_) rfl (fun _ _ _ h => h) ?_ ?_
    rotate_left
    · (intro W hSW; (try dsimp only at hSW); (go_simp <;> with_reducible rfl))
    (try simp only [Act.put, List.setIfInBounds_toArray, List.set_cons_zero, List.set_cons_succ])
    refine wpOrd_read (v := ?_) rfl (fun _ _ _ h => h) ?_ ?_
    rotate_left
    · (intro W hSW; (try dsimp only at hSW); (go_simp <;> with_reducible rfl))
    (try simp only [Act.put, List.setIfInBounds_toArray, List.set_cons_zero, List.set_cons_succ])
    refine wpOrd_read (v := ?_) rfl (fun _ _ _ h => h) ?_ ?_
    rotate_left
    · (intro W hSW; (try dsimp only at hSW); (go_simp <;> with_reducible rfl))
    (try simp only [Act.put, List.setIfInBounds_toArray, List.set_cons_zero, List.set_cons_succ])
    refine wpOrd_read (v := ?_) rfl (fun _ _ _ h => h) ?_ ?_
    rotate_left
    · (intro W hSW; (try dsimp only at hSW); (go_simp <;> with_reducible rfl))
    (try simp only [Act.put, List.setIfInBounds_toArray, List.set_cons_zero, List.set_cons_succ])
    refine wpOrd_read (v := ?_) rfl (fun _ _ _ h => h) ?_ ?_
    rotate_left
    · (intro W hSW; (try dsimp only at hSW); (go_simp <;> with_reducible rfl))
    (try simp only [Act.put, List.setIfInBounds_toArray, List.set_cons_zero, List.set_cons_succ])
    refine wpOrd_read (v := ?_) rfl (fun _ _ _ h => h) ?_ ?_
    rotate_left
    · (intro W hSW; (try dsimp only at hSW); (go_simp <;> with_reducible rfl))
    (try simp only [Act.put, List.setIfInBounds_toArray, List.set_cons_zero, List.set_cons_succ])
    refine wpOrd_read (v := ?_) rfl (fun _ _ _ h => h) ?_ ?_
    rotate_left
    · (intro W hSW; (try dsimp only at hSW); (go_simp <;> with_reducible rfl))
    (try simp only [Act.put, List.setIfInBounds_toArray, List.set_cons_zero, List.set_cons_succ])
    refine wpOrd_read (v := ?_) rfl (fun _ _ _ h => h) ?_ ?_
    rotate_left
    · (intro W hSW; (try dsimp only at hSW); (go_simp <;> with_reducible rfl))
    (try simp only [Act.put, List.setIfInBounds_toArray, List.set_cons_zero, List.set_cons_succ])
    refine wpOrd_read (v := ?_) rfl (fun _ _ _ h => h) ?_ ?_
    rotate_left
    · (intro W hSW; (try dsimp only at hSW); (go_simp <;> with_reducible rfl))
    (try simp only [Act.put, List.setIfInBounds_toArray, List.set_cons_zero, List.set_cons_succ])
    have HBD := Lib.hid (HBX.out.trans ((below_drew1 wr).mono HBX.out.size))
    have hzd : wr.heap.size ≤ wr.drew.heap.size := Nat.le_refl _
    have HSD : Hid (∀ W, Below wr.drew.heap.size wr.drew W → (W.cell? ⟨b1, off + 1, none⟩ = some (.string s1))) := fun W hW => HS4.out W ((below_drew1 wr).trans (hW.mono hzd))
    generalize wr.drew = w6 at *
    refine wpOrd_step rfl (fun K hK => ?_)
    go_simp
    refine hK.out _ _ (HSD.out _ (below_alloc w6 _)) ?_
    clear hK K
    (try simp only [Act.put, List.setIfInBounds_toArray, List.set_cons_zero, List.set_cons_succ])
    refine wpOrd_nil ?_
    simp only [List.drop_succ_cons, List.drop_zero]
    have hO : tt.extract 0 kk = ofL (t.take kk) := by rw [extract_seg tt 0 kk hkk, seg_take, HT2.out]
    have hN : tt.extract kk tt.size = ofL (t.drop kk) := by rw [extract_seg tt kk _ (Nat.le_refl _), HT2.out, seg_drop _ _ _ (by have := HTL.out; omega)]
    have hzO : (tt.extract 0 kk).size ≤ 1048576 := by rw [ByteArray.size_extract]; omega
    have hzN : (tt.extract kk tt.size).size ≤ 1048576 := by rw [ByteArray.size_extract]; omega
    have hob : chgOf d p1 t kk = ⟨d, s1, tt.extract 0 kk, tt.extract kk tt.size⟩ := by unfold chgOf; rw [hO, hN, ← HO1.out, ofL_bl]
    have hci := chgR_ok HCC.out HAB.out HP0.out HP2.out HP3.out (by have := HSM.out; have := HTL.out; omega) (by have := HTL.out; omega)
    rw [hob] at hci
    clear hO hN hob
    generalize tt.extract 0 kk = tO at *
    generalize tt.extract kk tt.size = tN at *
    go_upto_region 21 with (fail)
    obtain ⟨W5, hW5, b5, z5, k5⟩ := boxes1 w6 #[.int .i64 d, .string s1, .string tO, .string tN] 40
    rw [hW5]
    clear hW5
    have HB5 := Lib.hid (HBD.out.trans (b5.mono HBD.out.size))
    have K5 := Lib.hid k5
    have zb5 := HBD.out.size
    clear b5 k5
    obtain ⟨t0, t1, t2, t3⟩ := HD.out _ HB5.out
    have gz := bkF (bkB K0.out HB5.out (by omega))
    have q0 := bkC (v := .int .i64 d) K5.out 0 rfl
    have q1 := bkC (v := .string s1) K5.out 1 rfl
    have q2 := bkC (v := .string tO) K5.out 2 rfl
    have q3 := bkC (v := .string tN) K5.out 3 rfl
    have BF := Lib.hid (HH.out _ HB5.out)
    have HCV : Hid (Calls Tryz.prog 34 #[.pointer (some ⟨w6.heap.size, 0, none⟩)] W5 fun e w' => e = .returned (.bool (changeB ⟨d, s1, tO, tN⟩)) ∧ Below W5.heap.size W5 w') := l28Change_any ⟨d, s1, tO, tN⟩ w6.heap.size 0 W5 q0 q1 q2 q3 (by omega) (by show s1.size ≤ _; unfold maxLen; omega) (by show tO.size ≤ _; unfold maxLen; omega) (by show tN.size ≤ _; unfold maxLen; omega)
    by_cases hcv : changeB ⟨d, s1, tO, tN⟩ = true
    case neg =>
      have HE : Hid (chgR (bl s) = (zChg, 9)) := by show _ = _; rw [hci, if_neg hcv]
      rw [Bool.eq_false_iff.2 hcv] at HCV
      clear hci hcv
      go_wp2_with (go_at_call 34; with_reducible refine HCV.out.mono ?_; rintro e w7 ⟨rfl, hb7⟩; clear t0 t1 t2 t3 gz q0 q1 q2 q3 BF; have HB7 := Lib.hid (HB5.out.trans (hb7.mono HB5.out.size)); have K7 := Lib.hid (bkB K5.out hb7 (by omega)); have zz := hb7.size; clear hb7; obtain ⟨t0, t1, t2, t3⟩ := HD.out _ HB7.out; have gz := bkF (bkB K0.out HB7.out (by omega)); have q0 := bkC (v := .int .i64 d) K7.out 0 rfl; have q1 := bkC (v := .string s1) K7.out 1 rfl; have q2 := bkC (v := .string tO) K7.out 2 rfl; have q3 := bkC (v := .string tN) K7.out 3 rfl; have BF := Lib.hid (HH.out _ HB7.out))
      refine bodyPost_ret (v := .tuple #[.agg #[.int .i64 0, .string ⟨#[]⟩, .string ⟨#[]⟩, .string ⟨#[]⟩], .int .i64 9]) (by simp [results, Tryz.results16, go_sem, *]) rfl ?_
      exact ⟨by rw [HE.out]; rfl, (bset (bset (bset (bset BF.out (by omega) 0 _) (by omega) 1 _) (by omega) 2 _) (by omega) 3 _)⟩
    case pos =>
      have HE : Hid (chgR (bl s) = (⟨d, s1, tO, tN⟩, 0)) := by show _ = _; rw [hci, if_pos hcv]
      rw [hcv] at HCV
      clear hci hcv
      go_wp2_with (go_at_call 34; with_reducible refine HCV.out.mono ?_; rintro e w7 ⟨rfl, hb7⟩; clear t0 t1 t2 t3 gz q0 q1 q2 q3 BF; have HB7 := Lib.hid (HB5.out.trans (hb7.mono HB5.out.size)); have K7 := Lib.hid (bkB K5.out hb7 (by omega)); have zz := hb7.size; clear hb7; obtain ⟨t0, t1, t2, t3⟩ := HD.out _ HB7.out; have gz := bkF (bkB K0.out HB7.out (by omega)); have q0 := bkC (v := .int .i64 d) K7.out 0 rfl; have q1 := bkC (v := .string s1) K7.out 1 rfl; have q2 := bkC (v := .string tO) K7.out 2 rfl; have q3 := bkC (v := .string tN) K7.out 3 rfl; have BF := Lib.hid (HH.out _ HB7.out))
      refine bodyPost_ret (v := .tuple #[.agg #[.int .i64 d, .string s1, .string tO, .string tN], .int .i64 0]) (by simp [results, Tryz.results16, go_sem, *]) rfl ?_
      exact ⟨by rw [HE.out]; rfl, (bset (bset (bset (bset BF.out (by omega) 0 _) (by omega) 1 _) (by omega) 2 _) (by omega) 3 _)⟩
  case neg =>
    obtain rfl : k = bb.size := by omega
    go_upto_region 14 with (fail)
    cases hn0 : numB p0 with
    | false =>
      have HE : Hid (chgR (bl s) = (zChg, 9)) := chgR_day HCC.out rfl HAB.out (HM0.out false hn0)
      rw [hn0] at HN0
      clear hn0
      obtain ⟨t0, t1, t2, t3⟩ := HD.out _ HBX.out
      have gz := bkF (bkB K0.out HBX.out (by omega))
      have BF := Lib.hid (HH.out _ HBX.out)
      go_wp2_with (first | (go_at_call 31; with_reducible refine (HN0.out _).mono ?_; rintro e w_0 ⟨rfl, rfl⟩) | (go_at_call 31; with_reducible refine (HN2.out _).mono ?_; rintro e w_2 ⟨rfl, rfl⟩) | (go_at_call 31; with_reducible refine (HN3.out _).mono ?_; rintro e w_3 ⟨rfl, rfl⟩))
      refine bodyPost_ret (v := .tuple #[.agg #[.int .i64 0, .string ⟨#[]⟩, .string ⟨#[]⟩, .string ⟨#[]⟩], .int .i64 9]) (by simp [results, Tryz.results16, go_sem, *]) rfl ?_
      exact ⟨by rw [HE.out]; rfl, (bset (bset (bset (bset BF.out (by omega) 0 _) (by omega) 1 _) (by omega) 2 _) (by omega) 3 _)⟩
    | true =>
    have HP0 : Hid (num p0 = some d) := HM0.out true hn0
    rw [hn0] at HN0
    clear hn0
    cases hn2 : numB p2 with
    | false =>
      have HE : Hid (chgR (bl s) = (zChg, 9)) := chgR_n HCC.out rfl HAB.out (HM2.out false hn2)
      rw [hn2] at HN2
      clear hn2
      obtain ⟨t0, t1, t2, t3⟩ := HD.out _ HBX.out
      have gz := bkF (bkB K0.out HBX.out (by omega))
      have BF := Lib.hid (HH.out _ HBX.out)
      go_wp2_with (first | (go_at_call 31; with_reducible refine (HN0.out _).mono ?_; rintro e w_0 ⟨rfl, rfl⟩) | (go_at_call 31; with_reducible refine (HN2.out _).mono ?_; rintro e w_2 ⟨rfl, rfl⟩) | (go_at_call 31; with_reducible refine (HN3.out _).mono ?_; rintro e w_3 ⟨rfl, rfl⟩))
      refine bodyPost_ret (v := .tuple #[.agg #[.int .i64 0, .string ⟨#[]⟩, .string ⟨#[]⟩, .string ⟨#[]⟩], .int .i64 9]) (by simp [results, Tryz.results16, go_sem, *]) rfl ?_
      exact ⟨by rw [HE.out]; rfl, (bset (bset (bset (bset BF.out (by omega) 0 _) (by omega) 1 _) (by omega) 2 _) (by omega) 3 _)⟩
    | true =>
    have HP2 : Hid (num p2 = some n) := HM2.out true hn2
    rw [hn2] at HN2
    clear hn2
    cases hn3 : numB p3 with
    | false =>
      have HE : Hid (chgR (bl s) = (zChg, 9)) := chgR_m HCC.out rfl HAB.out (HM3.out false hn3)
      rw [hn3] at HN3
      clear hn3
      obtain ⟨t0, t1, t2, t3⟩ := HD.out _ HBX.out
      have gz := bkF (bkB K0.out HBX.out (by omega))
      have BF := Lib.hid (HH.out _ HBX.out)
      go_wp2_with (first | (go_at_call 31; with_reducible refine (HN0.out _).mono ?_; rintro e w_0 ⟨rfl, rfl⟩) | (go_at_call 31; with_reducible refine (HN2.out _).mono ?_; rintro e w_2 ⟨rfl, rfl⟩) | (go_at_call 31; with_reducible refine (HN3.out _).mono ?_; rintro e w_3 ⟨rfl, rfl⟩))
      refine bodyPost_ret (v := .tuple #[.agg #[.int .i64 0, .string ⟨#[]⟩, .string ⟨#[]⟩, .string ⟨#[]⟩], .int .i64 9]) (by simp [results, Tryz.results16, go_sem, *]) rfl ?_
      exact ⟨by rw [HE.out]; rfl, (bset (bset (bset (bset BF.out (by omega) 0 _) (by omega) 1 _) (by omega) 2 _) (by omega) 3 _)⟩
    | true =>
    have HP3 : Hid (num p3 = some m) := HM3.out true hn3
    rw [hn3] at HN3
    clear hn3
    have HBG : Hid (¬ (inB n 0 200 = true ∧ inB m 0 200 = true ∧ n + m = (t.length : Int)) → chgR (bl s) = (zChg, 9)) := fun h => chgR_big HCC.out HAB.out HP2.out HP3.out h
    cases hi2 : inB n 0 200 with
    | false =>
      have HE : Hid (chgR (bl s) = (zChg, 9)) := HBG.out (by rw [hi2]; simp)
      have HIA : Hid (∀ W : World, Calls Tryz.prog 32 #[.int .i64 n, .int .i64 0, .int .i64 200] W fun e w' => e = .returned (.bool false) ∧ W = w') := fun W => by have := HI.out W n; rw [hi2] at this; exact this
      clear hi2
      obtain ⟨t0, t1, t2, t3⟩ := HD.out _ HBX.out
      have gz := bkF (bkB K0.out HBX.out (by omega))
      have BF := Lib.hid (HH.out _ HBX.out)
      go_wp2_with (first | (go_at_call 31; with_reducible refine (HN0.out _).mono ?_; rintro e w_0 ⟨rfl, rfl⟩) | (go_at_call 31; with_reducible refine (HN2.out _).mono ?_; rintro e w_2 ⟨rfl, rfl⟩) | (go_at_call 31; with_reducible refine (HN3.out _).mono ?_; rintro e w_3 ⟨rfl, rfl⟩) | (go_at_call 32; with_reducible refine (HIA.out _).mono ?_; rintro e w_5 ⟨rfl, rfl⟩))
      refine bodyPost_ret (v := .tuple #[.agg #[.int .i64 0, .string ⟨#[]⟩, .string ⟨#[]⟩, .string ⟨#[]⟩], .int .i64 9]) (by simp [results, Tryz.results16, go_sem, *]) rfl ?_
      exact ⟨by rw [HE.out]; rfl, (bset (bset (bset (bset BF.out (by omega) 0 _) (by omega) 1 _) (by omega) 2 _) (by omega) 3 _)⟩
    | true =>
    have HIA : Hid (∀ W : World, Calls Tryz.prog 32 #[.int .i64 n, .int .i64 0, .int .i64 200] W fun e w' => e = .returned (.bool true) ∧ W = w') := fun W => by have := HI.out W n; rw [hi2] at this; exact this
    cases hi3 : inB m 0 200 with
    | false =>
      have HE : Hid (chgR (bl s) = (zChg, 9)) := HBG.out (by rw [hi3]; simp)
      have HIB : Hid (∀ W : World, Calls Tryz.prog 32 #[.int .i64 m, .int .i64 0, .int .i64 200] W fun e w' => e = .returned (.bool false) ∧ W = w') := fun W => by have := HI.out W m; rw [hi3] at this; exact this
      clear hi2 hi3
      obtain ⟨t0, t1, t2, t3⟩ := HD.out _ HBX.out
      have gz := bkF (bkB K0.out HBX.out (by omega))
      have BF := Lib.hid (HH.out _ HBX.out)
      go_wp2_with (first | (go_at_call 31; with_reducible refine (HN0.out _).mono ?_; rintro e w_0 ⟨rfl, rfl⟩) | (go_at_call 31; with_reducible refine (HN2.out _).mono ?_; rintro e w_2 ⟨rfl, rfl⟩) | (go_at_call 31; with_reducible refine (HN3.out _).mono ?_; rintro e w_3 ⟨rfl, rfl⟩) | (go_at_call 32; with_reducible refine (HIA.out _).mono ?_; rintro e w_5 ⟨rfl, rfl⟩) | (go_at_call 32; with_reducible refine (HIB.out _).mono ?_; rintro e w_5 ⟨rfl, rfl⟩))
      refine bodyPost_ret (v := .tuple #[.agg #[.int .i64 0, .string ⟨#[]⟩, .string ⟨#[]⟩, .string ⟨#[]⟩], .int .i64 9]) (by simp [results, Tryz.results16, go_sem, *]) rfl ?_
      exact ⟨by rw [HE.out]; rfl, (bset (bset (bset (bset BF.out (by omega) 0 _) (by omega) 1 _) (by omega) 2 _) (by omega) 3 _)⟩
    | true =>
    have HIB : Hid (∀ W : World, Calls Tryz.prog 32 #[.int .i64 m, .int .i64 0, .int .i64 200] W fun e w' => e = .returned (.bool true) ∧ W = w') := fun W => by have := HI.out W m; rw [hi3] at this; exact this
    have r2 : 0 ≤ n ∧ n ≤ 200 := by unfold inB at hi2; simpa using hi2
    have r3 : 0 ≤ m ∧ m ≤ 200 := by unfold inB at hi3; simpa using hi3
    obtain ⟨r20, r21⟩ := r2
    obtain ⟨r30, r31⟩ := r3
    by_cases hsum : n + m = (tt.size : Int)
    case neg =>
      have HE : Hid (chgR (bl s) = (zChg, 9)) := HBG.out (fun e => hsum (by rw [← HTL.out]; exact e.2.2))
      have hs9 : ((n + m : Int) != (tt.size : Int)) = true := by rw [bne_iff_ne]; exact hsum
      have hs8 : ((n + m : Int) == (tt.size : Int)) = false := by rw [beq_eq_false_iff_ne]; exact hsum
      clear hi2 hi3 hsum
      obtain ⟨t0, t1, t2, t3⟩ := HD.out _ HBX.out
      have gz := bkF (bkB K0.out HBX.out (by omega))
      have BF := Lib.hid (HH.out _ HBX.out)
      go_wp2_with (first | (go_at_call 31; with_reducible refine (HN0.out _).mono ?_; rintro e w_0 ⟨rfl, rfl⟩) | (go_at_call 31; with_reducible refine (HN2.out _).mono ?_; rintro e w_2 ⟨rfl, rfl⟩) | (go_at_call 31; with_reducible refine (HN3.out _).mono ?_; rintro e w_3 ⟨rfl, rfl⟩) | (go_at_call 32; with_reducible refine (HIA.out _).mono ?_; rintro e w_5 ⟨rfl, rfl⟩) | (go_at_call 32; with_reducible refine (HIB.out _).mono ?_; rintro e w_5 ⟨rfl, rfl⟩))
      refine bodyPost_ret (v := .tuple #[.agg #[.int .i64 0, .string ⟨#[]⟩, .string ⟨#[]⟩, .string ⟨#[]⟩], .int .i64 9]) (by simp [results, Tryz.results16, go_sem, *]) rfl ?_
      exact ⟨by rw [HE.out]; rfl, (bset (bset (bset (bset BF.out (by omega) 0 _) (by omega) 1 _) (by omega) 2 _) (by omega) 3 _)⟩
    have hs9 : ((n + m : Int) != (tt.size : Int)) = false := by unfold bne; rw [hsum]; simp
    have hs8 : ((n + m : Int) == (tt.size : Int)) = true := beq_iff_eq.2 hsum
    obtain ⟨kk, rfl⟩ : ∃ kk : Nat, n = (kk : Int) := ⟨n.toNat, by omega⟩
    have hkk : kk ≤ tt.size := by omega
    have hki : (kk : Int) ≤ (tt.size : Int) := by omega
    have HSM := Lib.hid hsum
    clear hi2 hi3 hsum HBG HI
    go_upto_region 20 with (first | (go_at_call 31; with_reducible refine (HN0.out _).mono ?_; rintro e w_0 ⟨rfl, rfl⟩) | (go_at_call 31; with_reducible refine (HN2.out _).mono ?_; rintro e w_2 ⟨rfl, rfl⟩) | (go_at_call 31; with_reducible refine (HN3.out _).mono ?_; rintro e w_3 ⟨rfl, rfl⟩) | (go_at_call 32; with_reducible refine (HIA.out _).mono ?_; rintro e w_5 ⟨rfl, rfl⟩) | (go_at_call 32; with_reducible refine (HIB.out _).mono ?_; rintro e w_5 ⟨rfl, rfl⟩))
    clear x0 x1 x2 x3
    refine wp_region_ord 12 [(0, true), (1, true), (2, true), (3, true), (4, true), (5, true), (6, true), (7, true), (8, true), (9, true), (10, true), (11, false)] (fun W => (W.cell? ⟨b1, off + 1, none⟩ = some (.string s1))) (by kernel_rfl) (by kernel_rfl) (HS4.out _ (below_drew1 _)) (fun hHeld => ?_)
    refine wpOrd_read (v := ?_) rfl (fun _ _ _ h => h) ?_ ?_
    rotate_left
    · (intro W hSW; (try dsimp only at hSW); (go_simp <;> with_reducible rfl))
    (try simp only [Act.put, List.setIfInBounds_toArray, List.set_cons_zero, List.set_cons_succ])
    refine wpOrd_read (v := ?_) rfl (fun _ _ _ h => h) ?_ ?_
    rotate_left
    · (intro W hSW; (try dsimp only at hSW); (go_simp <;> with_reducible rfl))
    (try simp only [Act.put, List.setIfInBounds_toArray, List.set_cons_zero, List.set_cons_succ])
    refine wpOrd_read (v := ?_) rfl (fun _ _ _ h => h) ?_ ?_
    rotate_left
    · (intro W hSW; (try dsimp only at hSW); (go_simp <;> with_reducible rfl))
    (try simp only [Act.put, List.setIfInBounds_toArray, List.set_cons_zero, List.set_cons_succ])
    refine wpOrd_read (v := ?_) rfl (fun _ _ _ h => h) ?_ ?_
    rotate_left
    · (intro W hSW; (try dsimp only at hSW); (go_simp <;> with_reducible rfl))
    (try simp only [Act.put, List.setIfInBounds_toArray, List.set_cons_zero, List.set_cons_succ])
    refine wpOrd_read (v := ?_) rfl (fun _ _ _ h => h) ?_ ?_
    rotate_left
    · (intro W hSW; (try dsimp only at hSW); (go_simp <;> with_reducible rfl))
    (try simp only [Act.put, List.setIfInBounds_toArray, List.set_cons_zero, List.set_cons_succ])
    refine wpOrd_read (v := ?_) rfl (fun _ _ _ h => h) ?_ ?_
    rotate_left
    · (intro W hSW; (try dsimp only at hSW); (go_simp <;> with_reducible rfl))
    (try simp only [Act.put, List.setIfInBounds_toArray, List.set_cons_zero, List.set_cons_succ])
    refine wpOrd_read (v := ?_) rfl (fun _ _ _ h => h) ?_ ?_
    rotate_left
    · (intro W hSW; (try dsimp only at hSW); (go_simp <;> with_reducible rfl))
    (try simp only [Act.put, List.setIfInBounds_toArray, List.set_cons_zero, List.set_cons_succ])
    refine wpOrd_read (v := ?_) rfl (fun _ _ _ h => h) ?_ ?_
    rotate_left
    · (intro W hSW; (try dsimp only at hSW); (go_simp <;> with_reducible rfl))
    (try simp only [Act.put, List.setIfInBounds_toArray, List.set_cons_zero, List.set_cons_succ])
    refine wpOrd_read (v := ?_) rfl (fun _ _ _ h => h) ?_ ?_
    rotate_left
    · (intro W hSW; (try dsimp only at hSW); (go_simp <;> with_reducible rfl))
    (try simp only [Act.put, List.setIfInBounds_toArray, List.set_cons_zero, List.set_cons_succ])
    refine wpOrd_read (v := ?_) rfl (fun _ _ _ h => h) ?_ ?_
    rotate_left
    · (intro W hSW; (try dsimp only at hSW); (go_simp <;> with_reducible rfl))
    (try simp only [Act.put, List.setIfInBounds_toArray, List.set_cons_zero, List.set_cons_succ])
    refine wpOrd_read (v := ?_) rfl (fun _ _ _ h => h) ?_ ?_
    rotate_left
    · (intro W hSW; (try dsimp only at hSW); (go_simp <;> with_reducible rfl))
    (try simp only [Act.put, List.setIfInBounds_toArray, List.set_cons_zero, List.set_cons_succ])
    have HBD := Lib.hid (HBX.out.trans ((below_drew1 wr).mono HBX.out.size))
    have hzd : wr.heap.size ≤ wr.drew.heap.size := Nat.le_refl _
    have HSD : Hid (∀ W, Below wr.drew.heap.size wr.drew W → (W.cell? ⟨b1, off + 1, none⟩ = some (.string s1))) := fun W hW => HS4.out W ((below_drew1 wr).trans (hW.mono hzd))
    generalize wr.drew = w6 at *
    refine wpOrd_step rfl (fun K hK => ?_)
    go_simp
    refine hK.out _ _ (HSD.out _ (below_alloc w6 _)) ?_
    clear hK K
    (try simp only [Act.put, List.setIfInBounds_toArray, List.set_cons_zero, List.set_cons_succ])
    refine wpOrd_nil ?_
    simp only [List.drop_succ_cons, List.drop_zero]
    have hO : tt.extract 0 kk = ofL (t.take kk) := by rw [extract_seg tt 0 kk hkk, seg_take, HT2.out]
    have hN : tt.extract kk tt.size = ofL (t.drop kk) := by rw [extract_seg tt kk _ (Nat.le_refl _), HT2.out, seg_drop _ _ _ (by have := HTL.out; omega)]
    have hzO : (tt.extract 0 kk).size ≤ 1048576 := by rw [ByteArray.size_extract]; omega
    have hzN : (tt.extract kk tt.size).size ≤ 1048576 := by rw [ByteArray.size_extract]; omega
    have hob : chgOf d p1 t kk = ⟨d, s1, tt.extract 0 kk, tt.extract kk tt.size⟩ := by unfold chgOf; rw [hO, hN, ← HO1.out, ofL_bl]
    have hci := chgR_ok HCC.out HAB.out HP0.out HP2.out HP3.out (by have := HSM.out; have := HTL.out; omega) (by have := HTL.out; omega)
    rw [hob] at hci
    clear hO hN hob
    generalize tt.extract 0 kk = tO at *
    generalize tt.extract kk tt.size = tN at *
    go_upto_region 21 with (fail)
    obtain ⟨W5, hW5, b5, z5, k5⟩ := boxes1 w6 #[.int .i64 d, .string s1, .string tO, .string tN] 40
    rw [hW5]
    clear hW5
    have HB5 := Lib.hid (HBD.out.trans (b5.mono HBD.out.size))
    have K5 := Lib.hid k5
    have zb5 := HBD.out.size
    clear b5 k5
    obtain ⟨t0, t1, t2, t3⟩ := HD.out _ HB5.out
    have gz := bkF (bkB K0.out HB5.out (by omega))
    have q0 := bkC (v := .int .i64 d) K5.out 0 rfl
    have q1 := bkC (v := .string s1) K5.out 1 rfl
    have q2 := bkC (v := .string tO) K5.out 2 rfl
    have q3 := bkC (v := .string tN) K5.out 3 rfl
    have BF := Lib.hid (HH.out _ HB5.out)
    have HCV : Hid (Calls Tryz.prog 34 #[.pointer (some ⟨w6.heap.size, 0, none⟩)] W5 fun e w' => e = .returned (.bool (changeB ⟨d, s1, tO, tN⟩)) ∧ Below W5.heap.size W5 w') := l28Change_any ⟨d, s1, tO, tN⟩ w6.heap.size 0 W5 q0 q1 q2 q3 (by omega) (by show s1.size ≤ _; unfold maxLen; omega) (by show tO.size ≤ _; unfold maxLen; omega) (by show tN.size ≤ _; unfold maxLen; omega)
    by_cases hcv : changeB ⟨d, s1, tO, tN⟩ = true
    case neg =>
      have HE : Hid (chgR (bl s) = (zChg, 9)) := by show _ = _; rw [hci, if_neg hcv]
      rw [Bool.eq_false_iff.2 hcv] at HCV
      clear hci hcv
      go_wp2_with (go_at_call 34; with_reducible refine HCV.out.mono ?_; rintro e w7 ⟨rfl, hb7⟩; clear t0 t1 t2 t3 gz q0 q1 q2 q3 BF; have HB7 := Lib.hid (HB5.out.trans (hb7.mono HB5.out.size)); have K7 := Lib.hid (bkB K5.out hb7 (by omega)); have zz := hb7.size; clear hb7; obtain ⟨t0, t1, t2, t3⟩ := HD.out _ HB7.out; have gz := bkF (bkB K0.out HB7.out (by omega)); have q0 := bkC (v := .int .i64 d) K7.out 0 rfl; have q1 := bkC (v := .string s1) K7.out 1 rfl; have q2 := bkC (v := .string tO) K7.out 2 rfl; have q3 := bkC (v := .string tN) K7.out 3 rfl; have BF := Lib.hid (HH.out _ HB7.out))
      refine bodyPost_ret (v := .tuple #[.agg #[.int .i64 0, .string ⟨#[]⟩, .string ⟨#[]⟩, .string ⟨#[]⟩], .int .i64 9]) (by simp [results, Tryz.results16, go_sem, *]) rfl ?_
      exact ⟨by rw [HE.out]; rfl, (bset (bset (bset (bset BF.out (by omega) 0 _) (by omega) 1 _) (by omega) 2 _) (by omega) 3 _)⟩
    case pos =>
      have HE : Hid (chgR (bl s) = (⟨d, s1, tO, tN⟩, 0)) := by show _ = _; rw [hci, if_pos hcv]
      rw [hcv] at HCV
      clear hci hcv
      go_wp2_with (go_at_call 34; with_reducible refine HCV.out.mono ?_; rintro e w7 ⟨rfl, hb7⟩; clear t0 t1 t2 t3 gz q0 q1 q2 q3 BF; have HB7 := Lib.hid (HB5.out.trans (hb7.mono HB5.out.size)); have K7 := Lib.hid (bkB K5.out hb7 (by omega)); have zz := hb7.size; clear hb7; obtain ⟨t0, t1, t2, t3⟩ := HD.out _ HB7.out; have gz := bkF (bkB K0.out HB7.out (by omega)); have q0 := bkC (v := .int .i64 d) K7.out 0 rfl; have q1 := bkC (v := .string s1) K7.out 1 rfl; have q2 := bkC (v := .string tO) K7.out 2 rfl; have q3 := bkC (v := .string tN) K7.out 3 rfl; have BF := Lib.hid (HH.out _ HB7.out))
      refine bodyPost_ret (v := .tuple #[.agg #[.int .i64 d, .string s1, .string tO, .string tN], .int .i64 0]) (by simp [results, Tryz.results16, go_sem, *]) rfl ?_
      exact ⟨by rw [HE.out]; rfl, (bset (bset (bset (bset BF.out (by omega) 0 _) (by omega) 1 _) (by omega) 2 _) (by omega) 3 _)⟩
end Go.Proofs.YtjkpadfolkniaaaGreatDoor
