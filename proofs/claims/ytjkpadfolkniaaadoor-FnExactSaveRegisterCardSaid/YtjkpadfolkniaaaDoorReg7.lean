/- Contract: the reference makes changes to records. Conditions: rising keys, bounded lengths. -/
import Derived.Test.YtjkpadfolkniaaaDoorReg6
import Derived.Test.YtjkpadfolkniaaaDoorReg4
import Derived.StillTailTactics
import Derived.KernelRfl
namespace Go.Proofs.YtjkpadfolkniaaaDoor
open Go.RowKit
set_option linter.unusedVariables false
set_option linter.unusedSimpArgs false

section
variable {l0 l : List DRecord} {cs : List DChange} {k : Nat}
theorem patN_spec (h0 : Rise l0) (hl0 : l0.length ≤ 32) : (k : Nat) → (l : List DRecord) → patN l0 cs k = some l → Rise l ∧ l.length ≤ 32 := by
  intro k
  induction k with
  | zero => intro l h; unfold patN at h; injection h with h; subst h; exact ⟨h0, hl0⟩
  | succ k ih =>
    intro l h
    unfold patN at h
    cases h1 : patN l0 cs k with
    | none => rw [h1] at h; cases h
    | some m =>
      cases h2 : cs[k]? with
      | none => rw [h1, h2] at h; cases h
      | some c =>
        rw [h1, h2] at h
        simp only at h
        obtain ⟨p1, rfl, p3⟩ := patS_some h
        exact ⟨putL_rise (ih m h1).1 _ _, p3⟩
theorem patN_val (hk : k < cs.length) (h : patN l0 cs k = some l) (hv : eqS (valOf l cs[k].key) cs[k].old_ = false) : patN l0 cs (k + 1) = none := by
  unfold patN; rw [h, List.getElem?_eq_getElem hk]; simp only; unfold patS; rw [if_neg (by rw [hv]; simp)]
theorem patN_full (hk : k < cs.length) (h : patN l0 cs k = some l) (hv : eqS (valOf l cs[k].key) cs[k].old_ = true) (hl : 32 < (putL l cs[k].key cs[k].new_).length) : patN l0 cs (k + 1) = none := by
  unfold patN; rw [h, List.getElem?_eq_getElem hk]; simp only; unfold patS; rw [if_pos hv, if_neg (by omega)]
theorem patN_go (hk : k < cs.length) (h : patN l0 cs k = some l) (hv : eqS (valOf l cs[k].key) cs[k].old_ = true) (hl : (putL l cs[k].key cs[k].new_).length ≤ 32) : patN l0 cs (k + 1) = some (putL l cs[k].key cs[k].new_) := by
  unfold patN; rw [h, List.getElem?_eq_getElem hk]; simp only; unfold patS; rw [if_pos hv, if_pos hl]
theorem patN_none (h : patN l0 cs k = none) : ∀ n, k ≤ n → patN l0 cs n = none := by
  intro n
  induction n with
  | zero => intro hn; obtain rfl : k = 0 := by omega
            exact h
  | succ n ih =>
    intro hn
    by_cases e : k = n + 1
    · rw [← e]; exact h
    · have h2 := ih (by omega)
      unfold patN
      rw [h2]
end
/-- what the reference's patch returns -/
def PatQ (r : Option (List DRecord)) (w : World) (e : Ending) (w' : World) : Prop :=
  ∃ (a : Option Addr) (n c : Nat) (code : Int) (fp : List Nat), e = .returned (.tuple #[.slice a n c, .int .i64 code]) ∧ Below w.heap.size w w' ∧ (∀ l, r = some l → code = 0 ∧ n = l.length ∧ Own w' (DRecord.sT l) (.slice a n c) fp ∧ In w.heap.size w'.heap.size fp) ∧ (r = none → (code == 0) = false)
theorem PatQ.none_ {r : Option (List DRecord)} {w w' : World} {e : Ending} {code : Int} (hr : r = none) (he : e = .returned (.tuple #[.slice none 0 0, .int .i64 code])) (hc : (code == 0) = false) (hb : Below w.heap.size w w') : PatQ r w e w' :=
  ⟨none, 0, 0, code, [], he, hb, fun l h => (by rw [hr] at h; cases h), fun _ => hc⟩
set_option maxHeartbeats 4000000 in
set_option maxRecDepth 100000 in
theorem l28Patch_any (l0 : List DRecord) (cs : List DChange) (v u : Value) (w : World) (h0 : Rd w.heap.size w (DRecord.sT l0) v) (h : Rd w.heap.size w (DChange.sT cs) u) (hr : Rise l0) (hl0 : l0.length ≤ 32) (hn : cs.length ≤ 1048576) :
    Calls Tryd.prog 24 #[v, u] w (PatQ (patN l0 cs cs.length) w) := by
  obtain ⟨a0, c0, rfl, hnc0, hcm0, _⟩ := DRecord.rd h0
  obtain ⟨a, c, rfl, hnc, hcm, hcells⟩ := DChange.rd h
  have HC := Lib.hid hcells
  have HRI := Lib.hid hr
  rw [DRecord.sT_vs] at h0
  have HR0 := Lib.hid (h0.readsV (by omega))
  have HV1 := Lib.hid (DRecord.vs_one l0)
  clear h hcells hr h0
  have hnb : (cs.length : Int) ≤ 1048576 := by omega
  obtain ⟨i0, hi0, hz0, hz1, hz2⟩ := info_parts infoRecord
  go_enter Tryd.func24, Tryd.ntmps24
  go_wp2_with (at_builtin; refine wpList_append_first rfl (.tmp 9) (.tmp 10) _ rfl 61 i0 _ 2 32 Tryd.underlying29 hi0 hz0 hz1 hz2 rfl (by omega) rfl _ _ _ _ _ rfl HR0.out (Nat.le_refl _) HV1.out (by unfold maxLen; omega) (by omega) ?_; intro a1 c1 w1 ho1 hb1 hz3)
  obtain ⟨fp0, o0, i0_, m0⟩ := rowOwnB (lo := w.heap.size) ho1 (by omega) (by omega)
  have O0 : Hid (Own w1 (DRecord.sT l0) (.slice a1 l0.length c1) fp0) := by rw [DRecord.sT_vs]; exact o0
  have I0 := Lib.hid i0_
  have B1 := Lib.hid hb1
  clear ho1 o0 i0_ m0 hb1 hi0 hz0 hz1 hz2
  go_wp2
  go_loopw [6, 7] (fun lv i wr => ∃ (k : Nat) (l : List DRecord) (a2 : Option Addr) (c2 : Nat) (fp : List Nat), k ≤ cs.length ∧ i = .int .i64 k ∧ patN l0 cs k = some l ∧ lv = .slice a2 l.length c2 ∧ Below w.heap.size w wr ∧ Own wr (DRecord.sT l) (.slice a2 l.length c2) fp ∧ In w.heap.size wr.heap.size fp) (fun _ i wr => cs.length - (intOf i).toNat)
  case atStart => exact ⟨0, l0, a1, c1, fp0, Nat.zero_le _, rfl, rfl, rfl, B1.out, O0.out, I0.out⟩
  case round =>
    obtain ⟨k, l, a2, c2, fp, hk, rfl, hrep, rfl, hb, ho, hi⟩ := hrel
    have HREP := Lib.hid hrep
    have HB := Lib.hid hb
    have HO := Lib.hid ho
    have HI := Lib.hid hi
    have zr : w.heap.size ≤ wr.heap.size := hb.size
    obtain ⟨i2, i3⟩ := patN_spec HRI.out hl0 _ _ hrep
    have HRL := Lib.hid i2
    clear hrep hb ho hi i2
    by_cases hlt : k < cs.length
    · obtain ⟨b, off, rfl, hbl, hat⟩ := HC.out (by omega)
      obtain ⟨s0, s1, s2, s3⟩ := hat k hlt
      rw [← HB.out.cell (p := ⟨b, _, none⟩) hbl] at s0 s1 s2 s3
      have yb : b < wr.heap.size := by omega
      have j1 : (k : Int) < (cs.length : Int) := by omega
      have HNV : Hid (eqS (valOf l cs[k].key) cs[k].old_ = false → patN l0 cs cs.length = none) := fun h => patN_none (patN_val hlt HREP.out h) _ (by omega)
      have HNF : Hid (eqS (valOf l cs[k].key) cs[k].old_ = true → 32 < (putL l cs[k].key cs[k].new_).length → patN l0 cs cs.length = none) := fun h h2 => patN_none (patN_full hlt HREP.out h h2) _ (by omega)
      have HGO : Hid (eqS (valOf l cs[k].key) cs[k].old_ = true → (putL l cs[k].key cs[k].new_).length ≤ 32 → patN l0 cs (k + 1) = some (putL l cs[k].key cs[k].new_)) := fun h h2 => patN_go hlt HREP.out h h2
      clear hat HC
      generalize cs[k] = A at *
      have HGET : Hid (∀ W : World, Below wr.heap.size wr W → Calls Tryd.prog 40 #[.slice a2 l.length c2, .string A.key] W fun e w' => e = .returned (.string (valOf l A.key)) ∧ W = w') := fun W hW => l28Get_any l A.key _ wr.heap.size W ((HO.out.rd HI.out).below hW) hW.size (by omega)
      have oB := overC (w0 := wr) yb
      by_cases c5 : eqS (valOf l A.key) A.old_ = true
      case neg =>
        replace c5 : eqS (valOf l A.key) A.old_ = false := Bool.eq_false_iff.2 c5
        have d1 : ((valOf l A.key).toList == A.old_.toList) = false := c5
        have d2 : ((valOf l A.key).toList != A.old_.toList) = true := by rw [bne, d1]; rfl
        have HE := Lib.hid (HNV.out c5)
        clear c5
        generalize valOf l A.key = V at *
        go_upto_region 6 with (fail)
        refine wp_region_over wr.heap.size wr (Below.refl _ _) (by kernel_rfl) (by kernel_rfl) ?_
        repeat (go_big_quiet_step (first | (go_at_call 40; exact over_same (HGET.out _ (over_below _ _ _)))))
        refine wpQuiet_nil ?_
        rintro _ ⟨X, rfl⟩
        have BE := Lib.hid (HB.out.trans ((over_below wr.heap.size wr X).mono zr))
        clear oB
        generalize over wr.heap.size wr X = w2 at *
        go_wp2
        go_ret2
        exact PatQ.none_ HE.out rfl rfl BE.out
      have HV5 := Lib.hid c5
      have d1 : ((valOf l A.key).toList == A.old_.toList) = true := c5
      have d2 : ((valOf l A.key).toList != A.old_.toList) = false := by rw [bne, d1]; rfl
      have HNF2 := Lib.hid (HNF.out c5)
      have HGO2 := Lib.hid (HGO.out c5)
      clear c5 HV5 HNF HGO HNV
      generalize valOf l A.key = V at *
      go_upto_region 6 with (fail)
      refine wp_region_over wr.heap.size wr (Below.refl _ _) (by kernel_rfl) (by kernel_rfl) ?_
      repeat (go_big_quiet_step (first | (go_at_call 40; exact over_same (HGET.out _ (over_below _ _ _)))))
      refine wpQuiet_nil ?_
      rintro _ ⟨X, rfl⟩
      have hX := over_below wr.heap.size wr X
      have BE := Lib.hid (HB.out.trans (hX.mono zr))
      have HO2 := Lib.hid (HO.out.below HI.out (Nat.le_refl _) hX)
      have zx := hX.size
      have e1 := (hX.cell (p := ⟨b, _, none⟩) yb).trans s1
      have e3 := (hX.cell (p := ⟨b, _, none⟩) yb).trans s3
      clear oB s0 s1 s2 s3 hX d1 d2
      generalize over wr.heap.size wr X = w2 at *
      go_upto_region 8 with (fail)
      go_still_tail 9, (by kernel_rfl)
      change wpList _ _ _ _ _ w2.drew
      have hd2 := below_drew1 w2
      have HO3 := Lib.hid (HO2.out.below HI.out zx hd2)
      have zd : w2.drew.heap.size = w2.heap.size := rfl
      by_cases hfull : 32 < (putL l A.key A.new_).length
      · have HE := Lib.hid (HNF2.out hfull)
        have d3 : (32 : Int) < ((putL l A.key A.new_).length : Int) := by omega
        go_wp2_with (go_at_call 41; refine (l28Put_any l A.key A.new_ _ w2.drew ((HO3.out.rd HI.out).mono (by omega)) (by omega) HRL.out).mono ?_; rintro e w3 ⟨a3, c3, fp3, rfl, hb3, ho3, hi3⟩; have HO4 := Lib.hid ho3; have HI4 := Lib.hid (hi3.mono (show w.heap.size ≤ w2.drew.heap.size by omega) (Nat.le_refl _)); have HB4 := Lib.hid (BE.out.trans ((hd2.trans hb3).mono (by omega))); clear ho3 hi3 hb3)
        go_ret2
        exact PatQ.none_ HE.out rfl rfl HB4.out
      · have HE := Lib.hid (HGO2.out (by omega))
        have d3 : ((putL l A.key A.new_).length : Int) ≤ 32 := by omega
        go_wp2_with (go_at_call 41; refine (l28Put_any l A.key A.new_ _ w2.drew ((HO3.out.rd HI.out).mono (by omega)) (by omega) HRL.out).mono ?_; rintro e w3 ⟨a3, c3, fp3, rfl, hb3, ho3, hi3⟩; have HO4 := Lib.hid ho3; have HI4 := Lib.hid (hi3.mono (show w.heap.size ≤ w2.drew.heap.size by omega) (Nat.le_refl _)); have HB4 := Lib.hid (BE.out.trans ((hd2.trans hb3).mono (by omega))); clear ho3 hi3 hb3)
        go_roundw
        case rel => exact ⟨k + 1, putL l A.key A.new_, a3, c3, fp3, by omega, by go_num, HE.out, rfl, HB4.out, HO4.out, HI4.out⟩
        case measure => simp [intOf]; omega
    · obtain rfl : k = cs.length := by omega
      clear HC
      go_wp2
      go_ret2
      exact ⟨a2, l.length, c2, 0, fp, rfl, HB.out, fun l' h => (by rw [HREP.out] at h; injection h with h; subst h; exact ⟨rfl, rfl, HO.out, HI.out⟩), fun h => (by rw [HREP.out] at h; cases h)⟩
end Go.Proofs.YtjkpadfolkniaaaDoor
