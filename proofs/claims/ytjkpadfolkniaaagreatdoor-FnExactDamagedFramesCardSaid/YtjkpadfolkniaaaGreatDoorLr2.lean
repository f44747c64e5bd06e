/- Contracts: the lines of a register's text, for the reference. Conditions: bounded sizes. -/
import Derived.Test.YtjkpadfolkniaaaGreatDoorLr1
import Derived.Test.YtjkpadfolkniaaaGreatDoorReg1
namespace Go.Proofs.YtjkpadfolkniaaaGreatDoor
open Go.RowKit
set_option linter.unusedVariables false
set_option linter.unusedSimpArgs false

theorem toList_ofLL (l : List UInt8) : (ofL l).toList = l := by rw [ByteArray.toList_eq]; rfl
def REGW : List UInt8 := [114, 101, 103, 105, 115, 116, 101, 114]
theorem headR_ne2 {l : List UInt8} (h : (splitC 32 l).length ≠ 2) : headR l = none := by
  unfold headR
  split
  · rename_i r w e; rw [e] at h; exact absurd rfl h
  · rfl
theorem headR_word {l r w : List UInt8} (h : splitC 32 l = [r, w]) (hr : r ≠ REGW) : headR l = none := by
  unfold headR
  rw [h]
  exact if_neg hr
theorem headR_num {l w : List UInt8} (h : splitC 32 l = [REGW, w]) : headR l = if numB w = true ∧ inB (numV w) 0 48 = true then some (numV w) else none := by
  unfold headR
  rw [h]
  refine (if_pos (show REGW = _ from rfl)).trans ?_
  unfold numB numV
  cases num w with
  | none => rfl
  | some n =>
    simp only [Option.isSome_some, Option.getD_some, true_and]
    unfold inB
    by_cases h0 : 0 ≤ n ∧ n ≤ 48
    · rw [if_pos h0, if_pos (by simp [h0.1, h0.2])]
    · rw [if_neg h0, if_neg (by simpa using h0)]
theorem ws_app (c : UInt8) (s : ByteArray) (ls : List (List UInt8)) (h : splitC c (bl s) = ls ++ [[]]) : wordsB c s = ls.map ofL ++ [⟨#[]⟩] := by
  unfold wordsB
  rw [h, List.map_append]
  rfl
theorem rdNil (w : World) (B : Nat) : Rd B w (strsT []) (.slice none 0 0) := ⟨[], Rep_sl.2 ⟨none, 0, 0, rfl, by simp, Nat.zero_le _, Nat.zero_le _, Or.inl ⟨rfl, rfl⟩⟩, fun b hb => by simp at hb⟩
set_option maxHeartbeats 8000000 in
set_option maxRecDepth 100000 in
theorem l28Lines_any (s : ByteArray) (hs : s.size ≤ 1048576) (w : World) : Calls Tryz.prog 15 #[.string s] w (LinesP (linesR (bl s)) w) := by
  have HSP := Lib.hid (l01Split_any s 10 10 rfl hs w)
  have hlw := len_words 10 s
  have hsz : ∀ p ∈ wordsB 10 s, p.size ≤ 1048576 := fun p hp => Nat.le_trans (words_size _ _ _ hp) hs
  by_cases hsf : (bl s).getLast? = some 10
  case neg =>
    have HE : Hid (linesR (bl s) = ([], 11)) := by show _ = _; unfold linesR; rw [if_neg hsf]
    have hne : wordsB 10 s ≠ [] := by unfold wordsB; simp [splitC_ne]
    have hla : (wordsB 10 s).length = 1 ∨ ∃ ws q, wordsB 10 s = ws ++ [ofL q] ∧ q ≠ [] ∧ 0 < ws.length := by
      by_cases h1 : (wordsB 10 s).length = 1
      · exact Or.inl h1
      · right
        obtain ⟨ps, q, hpq⟩ : ∃ ps q, splitC 10 (bl s) = ps ++ [q] := ⟨_, _, (List.dropLast_concat_getLast (splitC_ne 10 (bl s))).symm⟩
        have hl : (wordsB 10 s).length = ps.length + 1 := by unfold wordsB; rw [List.length_map, hpq]; simp
        refine ⟨ps.map ofL, q, by unfold wordsB; rw [hpq, List.map_append]; rfl, ?_, by rw [List.length_map]; omega⟩
        rintro rfl
        obtain ⟨t, ht⟩ := splitC_last 10 (bl s) ps hpq (by rintro rfl; simp at hl; omega)
        exact hsf (by rw [ht]; simp)
    clear hsf hsz
    rcases hla with h1 | ⟨ws, q, hw, hq, hp⟩
    · rw [h1] at HSP
      clear h1 hne hlw
      go_enter Tryz.func15, Tryz.ntmps15
      go_wp2_with fail
      refine HSP.out.mono ?_
      rintro e w1 ⟨a1, c1, rfl, hb1, hr1⟩
      clear hr1
      go_wp2
      go_ret2
      rw [HE.out]
      exact ⟨none, 0, rfl, hb1, rdNil _ _⟩
    · rw [hw] at HSP hlw
      have hqe : eqS (ofL q) emptyS = false := by
        rw [Bool.eq_false_iff]
        intro e
        have := congrArg bl (eqS_iff.1 e)
        rw [bl_ofL] at this
        exact hq this
      generalize ofL q = tq at *
      have hqq : (tq.toList == []) = false := (eqS_empty_list hqe).2.1
      have hqn : (tq.toList != []) = true := by unfold bne; rw [hqq]; rfl
      have hg : (ws ++ [tq])[ws.length]? = some tq := by simp
      rw [List.length_append, List.length_singleton] at HSP hlw
      clear hw hne hq hqe
      have hm1 : (ws.length : Int) ≤ 1048577 := by omega
      have hm2 : (1 : Int) ≤ (ws.length : Int) := by omega
      have i3 : decide ((ws.length : Int) + 1 < 2) = false := decide_eq_false (by omega)
      have i5 : (0 : Int) ≤ (ws.length : Int) := by omega
      have i6 : (ws.length : Int) < (ws.length : Int) + 1 := by omega
      go_enter Tryz.func15, Tryz.ntmps15
      go_wp2_with fail
      refine HSP.out.mono ?_
      rintro e w1 ⟨a1, c1, rfl, hb1, hr1⟩
      obtain ⟨_, _, e1, _, _, hcl⟩ := Rd.strs hr1
      injection e1 with e1 e2 e3
      subst e1 e3
      obtain ⟨b, off, ea, hbb, hat⟩ := hcl (by simp)
      subst ea
      have hc := hat ws.length (by simp)
      rw [List.getElem_append_right (Nat.le_refl _)] at hc
      simp only [Nat.sub_self, List.getElem_cons_zero] at hc
      have HB1 := Lib.hid hb1
      clear hr1 hcl hat hg e2 hb1
      generalize ws.length = m at *
      go_wp2
      go_ret2
      rw [HE.out]
      exact ⟨none, 0, rfl, HB1.out, rdNil _ _⟩
  case pos =>
  have hdl : bl s = (bl s).dropLast ++ [10] := by
    obtain ⟨t, e⟩ := List.getLast?_eq_some_iff.1 hsf
    rw [e]; simp
  have HE : Hid (linesR (bl s) = linesT (bl s).dropLast) := by show _ = _; unfold linesR; rw [if_pos hsf]
  rw [HE.out]
  have hws : splitC 10 (bl s) = splitC 10 (bl s).dropLast ++ [[]] := by
    conv => lhs; rw [hdl]
    exact splitC_end 10 _
  have hwa := ws_app 10 s _ hws
  clear HE hsf hdl hws
  generalize (bl s).dropLast = t at *
  obtain ⟨l0, ls, hl⟩ : ∃ l0 ls, splitC 10 t = l0 :: ls := by
    cases h : splitC 10 t with
    | nil => exact absurd h (splitC_ne _ _)
    | cons a b => exact ⟨a, b, rfl⟩
  have HLT : Hid (linesT t = match headR l0 with | none => ([], 9) | some m => if (ls.length : Int) < m then ([], 11) else if m < (ls.length : Int) then ([], 9) else (ls, 0)) := by
    show _ = _
    unfold linesT
    rw [hl]
    simp only [List.headD_cons, List.length_cons, List.tail_cons]
    have e : ((ls.length + 1 : Nat) : Int) - 1 = (ls.length : Int) := by omega
    simp only [e]
    cases headR l0 <;> rfl
  rw [hl, List.map_cons, List.cons_append] at hwa
  rw [hwa] at HSP hlw hsz
  have hs0 : (ofL l0).size ≤ 1048576 := hsz _ (by simp)
  have HW := fun W => Lib.hid (l01Split_any (ofL l0) 32 32 rfl hs0 W)
  have hlw2 := len_words 32 (ofL l0)
  have hsz2 : ∀ p ∈ wordsB 32 (ofL l0), p.size ≤ 1048576 := fun p hp => Nat.le_trans (words_size _ _ _ hp) hs0
  rw [List.length_cons, List.length_append, List.length_map, List.length_singleton] at HSP hlw
  clear hl hwa hsz
  have hm1 : (ls.length : Int) ≤ 1048577 := by omega
  have i5 : (0 : Int) ≤ (ls.length : Int) := by omega
  obtain ⟨m, hm⟩ : ∃ m, m = ls.length + 1 := ⟨_, rfl⟩
  rw [← hm] at HSP
  have hmi : (m : Int) = (ls.length : Int) + 1 := by omega
  have i3 : decide ((m : Int) + 1 < 2) = false := decide_eq_false (by omega)
  have i6 : (m : Int) < (m : Int) + 1 := by omega
  have i7 : (0 : Int) ≤ (m : Int) := by omega
  have i8 : (m : Int) ≤ 1048578 := by omega
  have HMI := Lib.hid hmi
  have HM := Lib.hid hm
  clear hmi hm
  go_enter Tryz.func15, Tryz.ntmps15
  go_wp2_with fail
  refine HSP.out.mono ?_
  rintro e w1 ⟨a1, c1, rfl, hb1, hr1⟩
  obtain ⟨_, _, e1, hlc, hcm, hcl⟩ := Rd.strs hr1
  injection e1 with e1 e2 e3
  subst e1 e3
  obtain ⟨b, off, ea, hbb, hat⟩ := hcl (by simp)
  subst ea
  have hc := hat m (by have := HM.out; simp; omega)
  have hc0 := hat 0 (by simp)
  have HAT : Hid (∀ (i : Nat) (hi : i < ls.length), w1.cell? ⟨b, off + 1 + i, none⟩ = some (.string ((ls.map ofL)[i]'(by simpa using hi)))) := fun i hi => by
    have := hat (i + 1) (by simp; omega)
    rw [show off + 1 + i = off + (i + 1) by omega, this]
    simp [List.getElem_append_left, hi]
  have e9 : (ofL l0 :: (ls.map ofL ++ [⟨#[]⟩]))[m]'(by have := HM.out; simp; omega) = ⟨#[]⟩ := by
    have hm := HM.out
    subst hm
    simp
  rw [e9] at hc
  simp only [Nat.add_zero, List.getElem_cons_zero] at hc0
  have HB1 := Lib.hid hb1
  have z1 := hb1.size
  simp only [List.length_cons, List.length_append, List.length_map, List.length_singleton] at hlc
  clear hr1 hcl hat e2 hb1 HSP e9
  go_wp2_with fail
  refine (HW _).out.mono ?_
  rintro e w2 ⟨a2, c2, rfl, hb2, hr2⟩
  have HAT2 : Hid (∀ (i : Nat) (hi : i < ls.length), w2.cell? ⟨b, off + 1 + i, none⟩ = some (.string ((ls.map ofL)[i]'(by simpa using hi)))) := fun i hi => (bat hb2 b _ hbb).trans (HAT.out i hi)
  have HB2 := Lib.hid (HB1.out.trans (hb2.mono z1))
  have z2 := hb2.size
  clear hc hc0 HAT HW hb2
  by_cases h2 : (splitC 32 l0).length = 2
  case neg =>
    have HE : Hid (linesT t = ([], 9)) := by show _ = _; rw [HLT.out, headR_ne2 h2]
    have hwl : (wordsB 32 (ofL l0)).length = (splitC 32 l0).length := by unfold wordsB; rw [List.length_map, bl_ofL]
    rw [← hwl] at h2
    clear hr2 hsz2 HLT hwl
    generalize wordsB 32 (ofL l0) = ws at *
    have hq : ((ws.length : Int) != 2) = true := by rw [bne_iff_ne]; omega
    have hq2 : ((ws.length : Int) == 2) = false := by rw [beq_eq_false_iff_ne]; omega
    clear h2
    go_wp2
    go_ret2
    rw [HE.out]
    exact ⟨none, 0, rfl, HB2.out, rdNil _ _⟩
  obtain ⟨r, wd, hab⟩ : ∃ a b, splitC 32 l0 = [a, b] := by
    match h : splitC 32 l0, h2 with
    | [a, b], _ => exact ⟨a, b, rfl⟩
  have hwd : wordsB 32 (ofL l0) = [ofL r, ofL wd] := by unfold wordsB; rw [bl_ofL, hab]; rfl
  rw [hwd] at hr2 hsz2
  have hsw : (ofL wd).size ≤ 1048576 := hsz2 _ (by simp)
  obtain ⟨_, _, e1, _, _, hcl⟩ := Rd.strs hr2
  injection e1 with e1 e2 e3
  subst e1 e3
  obtain ⟨b2, off2, ea, hbb2, hat⟩ := hcl (by simp)
  subst ea
  have x0 := hat 0 (by simp)
  have x1 := hat 1 (by simp)
  simp only [List.getElem_cons_zero, List.getElem_cons_succ, Nat.add_zero] at x0 x1
  rw [hwd]
  clear hr2 hcl hat e2 hlw2 h2 hsz2 hwd
  by_cases hr : r = REGW
  case neg =>
    have HE : Hid (linesT t = ([], 9)) := by show _ = _; rw [HLT.out, headR_word hab hr]
    have hre : ((ofL r).toList == [114, 101, 103, 105, 115, 116, 101, 114]) = false := by
      rw [toList_ofLL, beq_eq_false_iff_ne]
      exact hr
    clear hab HLT hr
    generalize ofL r = tr at *
    have hqq : (tr.toList == [114, 101, 103, 105, 115, 116, 101, 114]) = false := hre
    have hqn : (tr.toList != [114, 101, 103, 105, 115, 116, 101, 114]) = true := by unfold bne; rw [hqq]; rfl
    clear hre
    go_wp2
    go_ret2
    rw [HE.out]
    exact ⟨none, 0, rfl, HB2.out, rdNil _ _⟩
  subst hr
  have x0' : w2.cell? ⟨b2, off2, none⟩ = some (.string ⟨#[114, 101, 103, 105, 115, 116, 101, 114]⟩) := x0
  clear x0
  have HN : Hid (∀ W, Calls Tryz.prog 31 #[.string (ofL wd)] W fun e w' => e = .returned (.tuple #[.int .i64 (numV wd), .bool (numB wd)]) ∧ W = w') := fun W => by
    have := l01Number_any (ofL wd) (by omega) W
    rw [bl_ofL] at this
    exact this
  have HI : Hid (∀ W, Calls Tryz.prog 32 #[.int .i64 (numV wd), .int .i64 0, .int .i64 48] W fun e w' => e = .returned (.bool (inB (numV wd) 0 48)) ∧ W = w') := fun W => l00In_any _ _ _ W
  have hhd := headR_num hab
  clear hab
  cases hnb : numB wd with
  | false =>
    have HE : Hid (linesT t = ([], 9)) := by show _ = _; rw [HLT.out, hhd, hnb]; rfl
    rw [hnb] at HN
    clear hhd hnb HLT hsw
    generalize numV wd = v at *
    generalize ofL wd = td at *
    go_wp2_with (go_at_call 31; with_reducible refine (HN.out _).mono ?_; rintro e w3 ⟨rfl, rfl⟩)
    go_ret2
    rw [HE.out]
    exact ⟨none, 0, rfl, HB2.out, rdNil _ _⟩
  | true =>
    cases hin : inB (numV wd) 0 48 with
    | false =>
      have HE : Hid (linesT t = ([], 9)) := by show _ = _; rw [HLT.out, hhd, hnb, hin]; rfl
      rw [hnb] at HN
      rw [hin] at HI
      clear hhd hnb hin HLT hsw
      generalize numV wd = v at *
      generalize ofL wd = td at *
      go_wp2_with (first | (go_at_call 31; with_reducible refine (HN.out _).mono ?_; rintro e w3 ⟨rfl, rfl⟩) | (go_at_call 32; with_reducible refine (HI.out _).mono ?_; rintro e w4 ⟨rfl, rfl⟩))
      go_ret2
      rw [HE.out]
      exact ⟨none, 0, rfl, HB2.out, rdNil _ _⟩
    | true =>
      have HE : Hid (linesT t = if (ls.length : Int) < numV wd then ([], 11) else if numV wd < (ls.length : Int) then ([], 9) else (ls, 0)) := by show _ = _; rw [HLT.out, hhd, hnb, hin]; rfl
      have hvr : 0 ≤ numV wd ∧ numV wd ≤ 48 := by
        unfold inB at hin
        simpa using hin
      rw [hnb] at HN
      rw [hin] at HI
      clear hhd hnb hin HLT hsw
      generalize numV wd = v at *
      generalize ofL wd = td at *
      have hv0 := hvr.1
      have hv1 := hvr.2
      clear hvr
      by_cases g1 : (ls.length : Int) < v
      · rw [if_pos g1] at HE
        have g1' : decide ((m : Int) + 1 - 2 < v) = true := decide_eq_true (by have := HMI.out; omega)
        go_wp2_with (first | (go_at_call 31; with_reducible refine (HN.out _).mono ?_; rintro e w3 ⟨rfl, rfl⟩) | (go_at_call 32; with_reducible refine (HI.out _).mono ?_; rintro e w4 ⟨rfl, rfl⟩))
        go_ret2
        rw [HE.out]
        exact ⟨none, 0, rfl, HB2.out, rdNil _ _⟩
      · by_cases g2 : v < (ls.length : Int)
        · rw [if_neg g1, if_pos g2] at HE
          have g1' : decide ((m : Int) + 1 - 2 < v) = false := decide_eq_false (by have := HMI.out; omega)
          have g2' : decide (v < (m : Int) + 1 - 2) = true := decide_eq_true (by have := HMI.out; omega)
          go_wp2_with (first | (go_at_call 31; with_reducible refine (HN.out _).mono ?_; rintro e w3 ⟨rfl, rfl⟩) | (go_at_call 32; with_reducible refine (HI.out _).mono ?_; rintro e w4 ⟨rfl, rfl⟩))
          go_ret2
          rw [HE.out]
          exact ⟨none, 0, rfl, HB2.out, rdNil _ _⟩
        · rw [if_neg g1, if_neg g2] at HE
          have g1' : decide ((m : Int) + 1 - 2 < v) = false := decide_eq_false (by have := HMI.out; omega)
          have j1 : (1 : Int) ≤ (m : Int) := by have := HMI.out; omega
          have j2 : (m : Int) ≤ (c1 : Int) := by have := HMI.out; omega
          have j3 : m ≤ c1 := by omega
          have j4 : 1 ≤ m := by omega
          have g2' : decide (v < (m : Int) + 1 - 2) = false := decide_eq_false (by have := HMI.out; omega)
          go_wp2_with (first | (go_at_call 31; with_reducible refine (HN.out _).mono ?_; rintro e w3 ⟨rfl, rfl⟩) | (go_at_call 32; with_reducible refine (HI.out _).mono ?_; rintro e w4 ⟨rfl, rfl⟩))
          go_ret2
          rw [HE.out]
          refine ⟨some ⟨b, off + 1, none⟩, c1 - 1, ?_, HB2.out, ?_⟩
          · rw [show ((ls, (0 : Int)) : List (List UInt8) × Int).1.length = m - 1 from by have := HM.out; show ls.length = _; omega]
            rfl
          · have := rd_strsAt w2 b (off + 1) (ls.map ofL) (c1 - 1) (by simp; omega) (by omega) (fun i hi => HAT2.out i (by simpa using hi)) w2.heap.size (by omega)
            simpa using this
end Go.Proofs.YtjkpadfolkniaaaGreatDoor
