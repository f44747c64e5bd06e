/- Contracts: samples read by the reference. Conditions: bounded sizes. -/
import Derived.Test.YtjgolknofmnppaaDoorRd8
namespace Go.Proofs.YtjgolknofmnppaaDoor
open Go.RowKit
set_option linter.unusedVariables false
set_option linter.unusedSimpArgs false

theorem own_empty2 (w : World) (E : Nat) : (w.alloc (.cells #[] E)).ownsRow w.heap.size E 2 (.slice (some ⟨w.heap.size, 0, none⟩) 0 0) 0 [] :=
  ⟨rfl, Or.inr ⟨w.heap.size, 0, #[], rfl, Nat.le_refl _, by show (w.heap.push _)[w.heap.size]? = _; simp, Nat.le_refl _, Nat.zero_le _, rfl, by simp⟩⟩
theorem grow_empty2 (w : World) (E : Nat) : Grow (w.alloc (.cells #[] E)) w.heap.size E 2 (.slice (some ⟨w.heap.size, 0, none⟩) 0 0) 0 [] [] := ⟨⟨[], own_empty2 w E, rfl⟩, List.nodup_nil, fun b h => by simp at h, fun g _ => by simp⟩
set_option maxHeartbeats 8000000 in
set_option maxRecDepth 100000 in
theorem sReadSamples_any (s : ByteArray) (hs : s.size ≤ 1048576) (w : World) : Calls Tryd.prog 7 #[.string s] w (ReadPS (samplesS (bl s)) w) := by
  by_cases h0 : bl s = NONE
  · have HE : Hid (samplesS (bl s) = some []) := by show _ = _; unfold samplesS; rw [if_pos h0]
    have hq : (s.toList == [110, 111, 110, 101]) = true := by rw [eqS_none]; exact decide_eq_true h0
    have hB : Hid (Below w.heap.size w (w.alloc (.cells #[] 50))) := (Below.refl _ _).alloc (Nat.le_refl _) _
    clear h0
    rw [HE.out]
    go_enter Tryd.func7, Tryd.ntmps7
    go_wp2
    go_ret2
    exact ⟨_, 0, [], rfl, hB.out, own_nilS _ _ _ rfl, In.nil⟩
  have hq : (s.toList == [110, 111, 110, 101]) = false := by rw [eqS_none]; exact decide_eq_false h0
  have H0 := Lib.hid h0
  clear h0
  have hps : (wordsB 32 s).length = (splitC 32 (bl s)).length := List.length_map _
  have hpg : Hid (∀ k : Nat, ((wordsB 32 s)[k]?).map bl = (splitC 32 (bl s))[k]?) := fun k => by
    simp only [wordsB, List.getElem?_map, Option.map_map]
    rw [show bl ∘ ofL = id from funext fun x => bl_ofL x]; simp
  obtain ⟨i0, hi0, hz0, hz1, hz2⟩ := info_parts infoSmp
  have HSP := Lib.hid (l01Split_any s 32 32 rfl hs w)
  have hlw := len_words 32 s
  go_enter Tryd.func7, Tryd.ntmps7
  go_wp2_with fail
  refine HSP.out.mono ?_
  rintro e w1 ⟨a1, c1, rfl, hb1, hr1⟩
  clear HSP
  have HB1 := Lib.hid hb1
  have z1 := hb1.size
  obtain ⟨_, _, e1, _, _, hcl⟩ := Rd.strs hr1
  injection e1 with e1 e2 e3
  subst e1 e3
  clear e2
  have HCL := Lib.hid hcl
  clear hb1 hr1 hcl
  have hPS := Lib.hid hps
  have HSZ : Hid (∀ p ∈ wordsB 32 s, p.size ≤ 1048576) := fun p hp => Nat.le_trans (words_size _ _ _ hp) hs
  generalize hwd : wordsB 32 s = ws at *
  generalize hpd : splitC 32 (bl s) = ps at *
  have HPD := Lib.hid hpd
  clear hwd hpd hps
  by_cases h64 : 64 < ws.length
  case pos =>
    have HE : Hid (samplesS (bl s) = none) := by show _ = _; unfold samplesS; rw [if_neg H0.out, HPD.out, if_pos (by rw [← hPS.out]; exact h64)]
    have h64i : (64 : Int) < (ws.length : Int) := by omega
    clear h64
    go_wp2
    go_ret2
    rw [HE.out]
    exact ⟨rfl, HB1.out⟩
  have h64i : (ws.length : Int) ≤ 64 := by omega
  have hl65 : ws.length ≤ 65 := by omega
  have H64 := Lib.hid h64
  clear h64
  go_wp2
  go_loopw [5, 6] (fun v i wr => ∃ (k : Nat) (vs : List DSample), k ≤ ws.length ∧ i = .int .i64 k ∧ vs.length = k ∧ optAll smpS (ps.take k) = some vs ∧ Below w1.heap.size w1 wr ∧ Grow wr w1.heap.size 50 2 v vs.length (vs.flatMap DSample.tr) []) (fun _ i wr => ws.length - (intOf i).toNat)
  case atStart => exact ⟨0, [], Nat.zero_le _, rfl, rfl, rfl, (Below.refl _ _).alloc (Nat.le_refl _) _, by simpa using grow_empty2 w1 50⟩
  case round =>
    obtain ⟨k, vs, hk, rfl, hvl, hns, hb, hgr⟩ := hrel
    have HN := Lib.hid hns
    have HB := Lib.hid hb
    have HG := Lib.hid hgr
    have HVL := Lib.hid hvl
    have zr := hb.size
    have hvn : vs.length ≤ 65 := by omega
    clear hb hgr hns hvl
    by_cases hlt : k < ws.length
    · obtain ⟨b, off, ea, hbb, hat⟩ := HCL.out (by omega)
      subst ea
      have hc := hat k hlt
      rw [← bat HB.out b _ hbb] at hc
      have yb : b < wr.heap.size := by omega
      have hklp : k < ps.length := by rw [← hPS.out]; exact hlt
      have HPK : Hid (bl ws[k] = ps[k]) := by
        have := hpg.out k
        rw [List.getElem?_eq_getElem hlt, List.getElem?_eq_getElem hklp] at this
        exact Option.some.inj this
      have HST : Hid (∀ v, smpS ps[k] = some v → optAll smpS (ps.take (k + 1)) = some (vs ++ [v])) := fun v hv => optAll_take k vs v hklp HN.out hv
      have HMEM := Lib.hid (List.getElem_mem hklp)
      have hsz := HSZ.out _ (List.getElem_mem hlt)
      clear hat
      generalize ps[k] = pk at *
      clear hklp
      generalize ws[k] = p at *
      have HWB : Hid (wordsB 58 p = (splitC 58 pk).map ofL) := by show _ = _; rw [wordsB, HPK.out]
      have HSQ : Hid (∀ W, Calls Tryd.prog 21 #[.string p, .int .u8 58] W fun e w' => ∃ a cc, e = .returned (.slice a (wordsB 58 p).length cc) ∧ Below W.heap.size W w' ∧ Rd w'.heap.size w' (strsT (wordsB 58 p)) (.slice a (wordsB 58 p).length cc)) := fun W => l01Split_any p 58 58 rfl hsz W
      have HWS : Hid (∀ q ∈ wordsB 58 p, q.size ≤ 1048576) := fun q hq => Nat.le_trans (words_size _ _ _ hq) hsz
      have bad : Hid (smpS pk = none → samplesS (bl s) = none) := fun h => by
        unfold samplesS
        rw [if_neg H0.out, HPD.out, if_neg (by rw [← hPS.out]; exact H64.out), optAll_none pk HMEM.out h]
      clear hsz
      by_cases h2 : (splitC 58 pk).length = 2
      case neg =>
        have HE := Lib.hid (bad.out (by
          unfold smpS
          split
          · rename_i a b e; rw [e] at h2; exact absurd rfl h2
          · rfl))
        have hwl : (wordsB 58 p).length = (splitC 58 pk).length := by rw [HWB.out, List.length_map]
        rw [← hwl] at h2
        clear hwl bad HWB HWS
        generalize wordsB 58 p = wq at *
        have hq2 : ((wq.length : Int) != 2) = true := by rw [bne_iff_ne]; omega
        have hq3 : ((wq.length : Int) == 2) = false := by rw [beq_eq_false_iff_ne]; omega
        clear h2
        go_wp2_with (go_at_call 21; with_reducible refine (HSQ.out _).mono ?_; rintro e w2 ⟨a2, c2, rfl, hb2, hr2⟩; clear hr2; have HB2 := Lib.hid hb2; clear hb2)
        go_ret2
        rw [HE.out]
        exact ⟨rfl, (HB1.out.trans (HB.out.mono z1)).trans (HB2.out.mono (Nat.le_trans z1 zr))⟩
      obtain ⟨a, c, hac⟩ : ∃ a c, splitC 58 pk = [a, c] := by
        match h : splitC 58 pk, h2 with
        | [a, c], _ => exact ⟨a, c, rfl⟩
      have hwq : wordsB 58 p = [ofL a, ofL c] := by rw [HWB.out, hac]; rfl
      rw [hwq] at HSQ HWS
      have hsa : (ofL a).size ≤ 1099511627776 := by have := HWS.out (ofL a) (by simp); omega
      have hsb : (ofL c).size ≤ 1099511627776 := by have := HWS.out (ofL c) (by simp); omega
      have HNA : Hid (∀ W, Calls Tryd.prog 22 #[.string (ofL a)] W fun e w' => e = .returned (.tuple #[.int .i64 (numV a), .bool (numB a)]) ∧ W = w') := fun W => by
        have := l01Number_any (ofL a) hsa W
        rw [bl_ofL] at this
        exact this
      have HNB : Hid (∀ W, Calls Tryd.prog 22 #[.string (ofL c)] W fun e w' => e = .returned (.tuple #[.int .i64 (numV c), .bool (numB c)]) ∧ W = w') := fun W => by
        have := l01Number_any (ofL c) hsb W
        rw [bl_ofL] at this
        exact this
      have HSI : Hid (smpS pk = match num a, num c with | some d, some v => some ⟨d, v⟩ | _, _ => none) := by show _ = _; unfold smpS; rw [hac]; rfl
      clear hwq HWB HWS hsa hsb h2 hac
      cases hna : num a with
      | none =>
        have HE := Lib.hid (bad.out (by rw [HSI.out, hna]))
        rw [(numF _ hna).2, (numF _ hna).1] at HNA
        clear hna bad HSI
        generalize ofL a = sa at *
        generalize ofL c = sb at *
        generalize numB c = nb at *
        generalize numV c = nv at *
        go_wp2_with fail
        refine (HSQ.out _).mono ?_
        rintro e w2 ⟨a2, c2, rfl, hb2, hr2⟩
        obtain ⟨_, _, e1, _, _, hcq⟩ := Rd.strs hr2
        injection e1 with e1 e2 e3
        subst e1 e3
        obtain ⟨bq, oq, eq, hbq, hatq⟩ := hcq (by simp)
        subst eq
        have x0 := hatq 0 (by simp)
        have x1 := hatq 1 (by simp)
        simp only [List.getElem_cons_zero, List.getElem_cons_succ, Nat.add_zero] at x0 x1
        have HB2 := Lib.hid hb2
        clear hb2 hr2 hcq hatq
        go_wp2_with (first | (go_at_call 22; with_reducible refine (HNA.out _).mono ?_; rintro e w3 ⟨rfl, rfl⟩) | (go_at_call 22; with_reducible refine (HNB.out _).mono ?_; rintro e w3 ⟨rfl, rfl⟩))
        go_ret2
        rw [HE.out]
        exact ⟨rfl, (HB1.out.trans (HB.out.mono z1)).trans (HB2.out.mono (Nat.le_trans z1 zr))⟩
      | some d =>
        rw [(numT _ d hna).2, (numT _ d hna).1] at HNA
        cases hnb : num c with
        | none =>
          have HE := Lib.hid (bad.out (by rw [HSI.out, hna, hnb]))
          rw [(numF _ hnb).2, (numF _ hnb).1] at HNB
          clear hna hnb bad HSI
          generalize ofL a = sa at *
          generalize ofL c = sb at *
          go_wp2_with fail
          refine (HSQ.out _).mono ?_
          rintro e w2 ⟨a2, c2, rfl, hb2, hr2⟩
          obtain ⟨_, _, e1, _, _, hcq⟩ := Rd.strs hr2
          injection e1 with e1 e2 e3
          subst e1 e3
          obtain ⟨bq, oq, eq, hbq, hatq⟩ := hcq (by simp)
          subst eq
          have x0 := hatq 0 (by simp)
          have x1 := hatq 1 (by simp)
          simp only [List.getElem_cons_zero, List.getElem_cons_succ, Nat.add_zero] at x0 x1
          have HB2 := Lib.hid hb2
          clear hb2 hr2 hcq hatq
          go_wp2_with (first | (go_at_call 22; with_reducible refine (HNA.out _).mono ?_; rintro e w3 ⟨rfl, rfl⟩) | (go_at_call 22; with_reducible refine (HNB.out _).mono ?_; rintro e w3 ⟨rfl, rfl⟩))
          go_ret2
          rw [HE.out]
          exact ⟨rfl, (HB1.out.trans (HB.out.mono z1)).trans (HB2.out.mono (Nat.le_trans z1 zr))⟩
        | some u =>
          rw [(numT _ u hnb).2, (numT _ u hnb).1] at HNB
          have HSN : Hid (optAll smpS (ps.take (k + 1)) = some (vs ++ [⟨d, u⟩])) := HST.out ⟨d, u⟩ (by rw [HSI.out, hna, hnb])
          clear hna hnb bad HSI HST
          generalize ofL a = sa at *
          generalize ofL c = sb at *
          go_wp2_with fail
          refine (HSQ.out _).mono ?_
          rintro e w2 ⟨a2, c2, rfl, hb2, hr2⟩
          obtain ⟨_, _, e1, _, _, hcq⟩ := Rd.strs hr2
          injection e1 with e1 e2 e3
          subst e1 e3
          obtain ⟨bq, oq, eq, hbq, hatq⟩ := hcq (by simp)
          subst eq
          have x0 := hatq 0 (by simp)
          have x1 := hatq 1 (by simp)
          simp only [List.getElem_cons_zero, List.getElem_cons_succ, Nat.add_zero] at x0 x1
          have HB2 := Lib.hid hb2
          have z2 := hb2.size
          have HG2 := Lib.hid (HG.out.below (lo := 0) In.nil hb2)
          clear hb2 hr2 hcq hatq
          go_wp2_with (first | (go_at_call 22; with_reducible refine (HNA.out _).mono ?_; rintro e w3 ⟨rfl, rfl⟩) | (go_at_call 22; with_reducible refine (HNB.out _).mono ?_; rintro e w3 ⟨rfl, rfl⟩) | (at_builtin; refine wpList_append1 rfl (.tmp 55) (.tmp 59) _ rfl (w1.heap.size) 50 i0 _ 2 16 Tryd.underlying22 hi0 hz0 hz1 hz2 rfl (by omega) _ _ _ [] rfl HG2.out [.int .i64 d, .int .i64 u] (DSample.tr ⟨d, u⟩) [] rfl 1 rfl (fun x hx => by simp at hx; rcases hx with rfl | rfl <;> rfl) (RepV_lits _ [.int .i64 d, .int .i64 u]) List.nodup_nil (fun b h => by simp at h) 0 In.nil In.nil (by simp) (by simp) (by unfold maxLen; omega) (by omega) (by omega) ?_; intro v2 w5 hgn))
          have HGN := Lib.hid hgn
          clear hgn
          go_wp2
          go_roundw
          case rel =>
            refine ⟨k + 1, vs ++ [⟨d, u⟩], by omega, by go_num, by rw [List.length_append, HVL.out]; rfl, HSN.out, HB.out.trans (Below.trans (HB2.out.mono zr) HGN.out.below), ?_⟩
            rw [List.length_append, List.flatMap_append]
            simpa using HGN.out.grow
          case measure => simp [intOf]; omega
    · obtain rfl : k = ws.length := by omega
      have hn := HN.out
      have hvl := HVL.out
      rw [hPS.out, List.take_length] at hn
      obtain ⟨av, cv, fv, ev, ov, iv⟩ := HG.out.toOwn (lo := w1.heap.size) (by omega) In.nil (by omega)
      subst ev
      have HOV := Lib.hid ov
      have HIV := Lib.hid iv
      have HRV : Hid (Rd wr.heap.size wr (DSample.sT vs) (.slice av vs.length cv)) := ov.rd iv
      have BW := Lib.hid (HB1.out.trans (HB.out.mono z1))
      have HTX : Hid (∀ W, W = wr → Calls Tryd.prog 23 #[.slice av vs.length cv] W fun e w' => e = .returned (.bool (smpsB vs)) ∧ Below W.heap.size W w') := fun W hW => by
        subst hW
        exact l29Ok_any vs _ _ W HRV.out (Nat.le_refl _) (by omega)
      have HE : Hid (samplesS (bl s) = if smpsB vs then some vs else none) := by
        show _ = _
        unfold samplesS
        rw [if_neg H0.out, HPD.out, if_neg (by rw [← hPS.out]; exact H64.out), hn]
      clear hn hvl HVL HG ov iv
      cases ht : smpsB vs with
      | true =>
        rw [ht] at HTX HE
        clear ht
        go_wp2_with (go_at_call 23; with_reducible refine (HTX.out _ rfl).mono ?_; rintro e w2 ⟨rfl, hb2⟩)
        go_ret2
        rw [HE.out]
        exact ⟨av, cv, fv, rfl, BW.out.trans (hb2.mono BW.out.size), HOV.out.below HIV.out (Nat.le_refl _) hb2, HIV.out.mono z1 hb2.size⟩
      | false =>
        rw [ht] at HTX HE
        clear ht
        go_wp2_with (go_at_call 23; with_reducible refine (HTX.out _ rfl).mono ?_; rintro e w2 ⟨rfl, hb2⟩)
        go_ret2
        rw [HE.out]
        exact ⟨rfl, BW.out.trans (hb2.mono BW.out.size)⟩
end Go.Proofs.YtjgolknofmnppaaDoor
