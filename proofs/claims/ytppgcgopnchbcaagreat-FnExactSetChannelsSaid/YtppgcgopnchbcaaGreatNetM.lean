/- Contracts: SetChannels of the program and of the reference. Conditions: bounded lengths. -/
import Derived.Test.YtppgcgopnchbcaaGreatNetG0
import Derived.Deep.DeepCutAuto
namespace Go.Proofs.YtppgcgopnchbcaaGreat
open Go.RowKit
set_option linter.unusedVariables false

theorem Own.chan {w : World} {l : List DSector} {a : Option Addr} {N c : Nat} {fp : List Nat} (h : Own w (DSector.sT l) (.slice a N c) fp) (hN : l.length = N) {k : Nat} (hk : k < l.length) :
    ∃ b off, a = some ⟨b, off, none⟩ ∧ b ∈ fp ∧ (∃ v, w.cell? ⟨b, off + k * 9 + 8, none⟩ = some (.int .i64 v)) ∧ (∀ i, w.frozen? ⟨b, i, none⟩ = false) ∧
      ∀ ch : Int, Own (w.setCell ⟨b, off + k * 9 + 8, none⟩ (.int .i64 ch)) (DSector.sT (l.set k { l[k] with channel := ch })) (.slice a N c) fp := by
  subst hN
  obtain ⟨b, off, ea, hbf, -, -, -, -, -, -, -, -, s8, sz⟩ := h.elem9 hk
  subst ea
  refine ⟨b, off, rfl, hbf, ⟨_, s8⟩, sz, fun ch => ?_⟩
  have h1 : Own w (.sl 9 (((l.take k).flatMap DSector.tr ++ l[k].tr.take 8) ++ ([Value.int .i64 l[k].channel].map .lit ++ (l.drop (k + 1)).flatMap DSector.tr))) (.slice (some ⟨b, off, none⟩) l.length c) fp := by
    have e : l[k].tr = l[k].tr.take 8 ++ [Value.int .i64 l[k].channel].map .lit := rfl
    have e2 := flat_split DSector.tr l k hk
    rw [e] at e2
    rw [List.append_assoc, ← List.append_assoc (l[k].tr.take 8), ← e2]
    exact h
  have h2 := Own.setLits [.int .i64 l[k].channel] [.int .i64 ch] rfl _ w h1
  have e3 : off + ((l.take k).flatMap DSector.tr ++ l[k].tr.take 8).length = off + k * 9 + 8 := by
    rw [List.length_append, flat_length DSector.tr 9 DSector.tr_len, List.length_take, Nat.min_eq_left (by omega), List.length_take, DSector.tr_len]; omega
  rw [e3] at h2
  have e4 := flat_set DSector.tr l k hk { l[k] with channel := ch }
  have e5 : DSector.tr { l[k] with channel := ch } = l[k].tr.take 8 ++ [Value.int .i64 ch].map .lit := rfl
  rw [e5] at e4
  rw [List.append_assoc, ← List.append_assoc (l[k].tr.take 8), ← e4] at h2
  exact h2
/-- the first k sectors have their channels -/
def chN (l : List DSector) (cs : List Int) : Nat → List DSector
  | 0 => l
  | k + 1 => if h : k < (chN l cs k).length then (chN l cs k).set k { (chN l cs k)[k] with channel := cs.getD k 0 } else chN l cs k
theorem chN_length (l : List DSector) (cs : List Int) (k : Nat) : (chN l cs k).length = l.length := by
  induction k with
  | zero => rfl
  | succ k ih =>
    unfold chN
    split
    · rw [List.length_set]; exact ih
    · exact ih
theorem chN_succ (l : List DSector) (cs : List Int) (k : Nat) (h : k < (chN l cs k).length) (hc : k < cs.length) : chN l cs (k + 1) = (chN l cs k).set k { (chN l cs k)[k] with channel := cs[k] } := by
  rw [chN, dif_pos h]
  congr 2
  simp [List.getD, hc]
/-- SetChannels -/
def setR (n : DNetwork) (cs : List Int) : DNetwork × Int := if netB n = true then (if (cs.all fun n => inB n (-1) 999) = true then (if cs.length = n.sectors.length then ({ n with sectors := chN n.sectors cs n.sectors.length }, 0) else (⟨[], [], [], []⟩, 6)) else (⟨[], [], [], []⟩, 2)) else (⟨[], [], [], []⟩, 1)
section
variable {n : DNetwork} {cs : List Int}
theorem setR_bad (h : netB n = false) : setR n cs = (⟨[], [], [], []⟩, 1) := by unfold setR; rw [if_neg (by simp [h])]
theorem setR_range (h : netB n = true) (h2 : (cs.all fun n => inB n (-1) 999) = false) : setR n cs = (⟨[], [], [], []⟩, 2) := by unfold setR; rw [if_pos h, if_neg (by rw [h2]; simp)]
theorem setR_state (h : netB n = true) (h2 : (cs.all fun n => inB n (-1) 999) = true) (h3 : ¬ cs.length = n.sectors.length) : setR n cs = (⟨[], [], [], []⟩, 6) := by unfold setR; rw [if_pos h, if_pos h2, if_neg h3]
theorem setR_ok (h : netB n = true) (h2 : (cs.all fun n => inB n (-1) 999) = true) (h3 : cs.length = n.sectors.length) : setR n cs = ({ n with sectors := chN n.sectors cs n.sectors.length }, 0) := by unfold setR; rw [if_pos h, if_pos h2, if_pos h3]
end
set_option maxHeartbeats 8000000 in
set_option maxRecDepth 100000 in
theorem iSetChannels_std (n : DNetwork) (list : List Int) (vn0 vn1 vn2 vn3 vlist0 : Value) (w : World) (rn0 : Rd w.heap.size w (DSite.sT n.sites) vn0) (rn1 : Rd w.heap.size w (DSector.sT n.sectors) vn1) (rn2 : Rd w.heap.size w (DAntenna.sT n.antennas) vn2) (rn3 : Rd w.heap.size w (DRadio.sT n.radios) vn3) (rlist0 : Rd w.heap.size w (intsT list) vlist0) (hs_n : sizL n.tr ≤ 1048576) (hk_n : n.ok) (hs_list : siz (intsT list) ≤ 1048576) (hk_list : ∀ n ∈ list, I64 n) :
    Calls Tryz.prog 13 #[.agg #[vn0, vn1, vn2, vn3], vlist0] w (fun e w' => ∃ a0_0 c0_0 a0_1 c0_1 a0_2 c0_2 a0_3 c0_3 fp0, e = .returned (.tuple #[.agg #[.slice a0_0 (setR n list).1.sites.length c0_0, .slice a0_1 (setR n list).1.sectors.length c0_1, .slice a0_2 (setR n list).1.antennas.length c0_2, .slice a0_3 (setR n list).1.radios.length c0_3], .int .i64 (setR n list).2]) ∧ Below w.heap.size w w' ∧ OwnV w' (setR n list).1.tr [.slice a0_0 (setR n list).1.sites.length c0_0, .slice a0_1 (setR n list).1.sectors.length c0_1, .slice a0_2 (setR n list).1.antennas.length c0_2, .slice a0_3 (setR n list).1.radios.length c0_3] fp0 ∧ In w.heap.size w'.heap.size fp0) := by
  have hq := DNetwork.siz_tr n
  rw [DSite.siz_s, DSector.siz_s, DAntenna.siz_s, DRadio.siz_s] at hq
  obtain ⟨A0, C0, e0, -, -, -⟩ := DSite.rd rn0
  obtain ⟨A1, C1, e1, -, -, -⟩ := DSector.rd rn1
  obtain ⟨A2, C2, e2, -, -, -⟩ := DAntenna.rd rn2
  obtain ⟨A3, C3, e3, -, -, -⟩ := DRadio.rd rn3
  subst e0 e1 e2 e3
  have R0 := Lib.hid rn0
  have R1 := Lib.hid rn1
  have R2 := Lib.hid rn2
  have R3 := Lib.hid rn3
  clear rn0 rn1 rn2 rn3
  obtain ⟨AL, CL, eL, hLn, -, -⟩ := rlist0.ints
  subst eL
  have RL := Lib.hid rlist0
  clear rlist0
  rw [siz_ints] at hs_list
  by_cases hv : netB n = true
  case neg =>
    replace hv : netB n = false := Bool.eq_false_iff.2 hv
    have HE := Lib.hid (setR_bad (cs := list) hv)
    have BB0_ : Below w.heap.size w ((w.alloc (.cells #[.slice A0 n.sites.length C0, .slice A1 n.sectors.length C1, .slice A2 n.antennas.length C2, .slice A3 n.radios.length C3] 35)).alloc (.cells #[.slice none 0 0, .slice none 0 0, .slice none 0 0, .slice none 0 0] 35)) := Below.alloc (Below.alloc (Below.refl _ _) (by first | exact Nat.le_refl _ | (simp; done) | (simp; omega)) _) (by first | exact Nat.le_refl _ | (simp; done) | (simp; omega)) _
    have zz0 : w.heap.size + 2 ≤ ((w.alloc (.cells #[.slice A0 n.sites.length C0, .slice A1 n.sectors.length C1, .slice A2 n.antennas.length C2, .slice A3 n.radios.length C3] 35)).alloc (.cells #[.slice none 0 0, .slice none 0 0, .slice none 0 0, .slice none 0 0] 35)).heap.size := by simp
    have k_N : ((w.alloc (.cells #[.slice A0 n.sites.length C0, .slice A1 n.sectors.length C1, .slice A2 n.antennas.length C2, .slice A3 n.radios.length C3] 35)).alloc (.cells #[.slice none 0 0, .slice none 0 0, .slice none 0 0, .slice none 0 0] 35)).heap[w.heap.size]? = some (.cells #[.slice A0 n.sites.length C0, .slice A1 n.sectors.length C1, .slice A2 n.antennas.length C2, .slice A3 n.radios.length C3] 35 (0, 0)) := by
      have h := blkN w #[.slice A0 n.sites.length C0, .slice A1 n.sectors.length C1, .slice A2 n.antennas.length C2, .slice A3 n.radios.length C3] 35
      replace h := blkA h (by first | (simp; done) | (simp; omega)) (.cells #[.slice none 0 0, .slice none 0 0, .slice none 0 0, .slice none 0 0] 35)
      exact h
    have KN_0 := Lib.hid k_N
    have k_R : ((w.alloc (.cells #[.slice A0 n.sites.length C0, .slice A1 n.sectors.length C1, .slice A2 n.antennas.length C2, .slice A3 n.radios.length C3] 35)).alloc (.cells #[.slice none 0 0, .slice none 0 0, .slice none 0 0, .slice none 0 0] 35)).heap[w.heap.size + 1]? = some (.cells #[.slice none 0 0, .slice none 0 0, .slice none 0 0, .slice none 0 0] 35 (0, 0)) := by
      have h := blkN (w.alloc (.cells #[.slice A0 n.sites.length C0, .slice A1 n.sectors.length C1, .slice A2 n.antennas.length C2, .slice A3 n.radios.length C3] 35)) #[.slice none 0 0, .slice none 0 0, .slice none 0 0, .slice none 0 0] 35
      rw [show (w.alloc (.cells #[.slice A0 n.sites.length C0, .slice A1 n.sectors.length C1, .slice A2 n.antennas.length C2, .slice A3 n.radios.length C3] 35)).heap.size = w.heap.size + 1 by simp] at h
      exact h
    have KR_0 := Lib.hid k_R
    clear k_N k_R
    have BB_0 := Lib.hid BB0_
    clear BB0_
    go_enter Tryz.func13, Tryz.ntmps13
    go_upto_region 1 with (fail)
    generalize ((w.alloc (.cells #[.slice A0 n.sites.length C0, .slice A1 n.sectors.length C1, .slice A2 n.antennas.length C2, .slice A3 n.radios.length C3] 35)).alloc (.cells #[.slice none 0 0, .slice none 0 0, .slice none 0 0, .slice none 0 0] 35)) = W0 at *
    have fN0 := blkC (v := .slice A0 n.sites.length C0) KN_0.out 0 rfl
    have fN1 := blkC (v := .slice A1 n.sectors.length C1) KN_0.out 1 rfl
    have fN2 := blkC (v := .slice A2 n.antennas.length C2) KN_0.out 2 rfl
    have fN3 := blkC (v := .slice A3 n.radios.length C3) KN_0.out 3 rfl
    have fR0 := blkC (v := .slice none 0 0) KR_0.out 0 rfl
    have fR1 := blkC (v := .slice none 0 0) KR_0.out 1 rfl
    have fR2 := blkC (v := .slice none 0 0) KR_0.out 2 rfl
    have fR3 := blkC (v := .slice none 0 0) KR_0.out 3 rfl
    go_wp2_with fail
    refine (validNetwork_any n _ _ _ _ _ ((R0.out.below BB_0.out).mono (by have := BB_0.out.size; omega)) ((R1.out.below BB_0.out).mono (by have := BB_0.out.size; omega)) ((R2.out.below BB_0.out).mono (by have := BB_0.out.size; omega)) ((R3.out.below BB_0.out).mono (by have := BB_0.out.size; omega)) (by omega) hk_n).mono ?_
    rintro e X1 ⟨rfl, hb⟩
    clear fN0 fN1 fN2 fN3 fR0 fR1 fR2 fR3
    have KN_1 := Lib.hid (blkB KN_0.out hb (by omega))
    have KR_1 := Lib.hid (blkB KR_0.out hb (by omega))
    have BB_1 := Lib.hid (BB_0.out.trans (hb.mono (by omega)))
    have zz1 : W0.heap.size ≤ X1.heap.size := hb.size
    clear KN_0 KR_0 BB_0 hb
    rw [hv]
    have fN0 := blkC (v := .slice A0 n.sites.length C0) KN_1.out 0 rfl
    have fN1 := blkC (v := .slice A1 n.sectors.length C1) KN_1.out 1 rfl
    have fN2 := blkC (v := .slice A2 n.antennas.length C2) KN_1.out 2 rfl
    have fN3 := blkC (v := .slice A3 n.radios.length C3) KN_1.out 3 rfl
    have fR0 := blkC (v := .slice none 0 0) KR_1.out 0 rfl
    have fR1 := blkC (v := .slice none 0 0) KR_1.out 1 rfl
    have fR2 := blkC (v := .slice none 0 0) KR_1.out 2 rfl
    have fR3 := blkC (v := .slice none 0 0) KR_1.out 3 rfl
    have zR := blkF KR_1.out
    go_wp2
    have BF := Lib.hid (((((BB_1.out).setCell (p := ⟨w.heap.size + 1, 0, none⟩) (by show w.heap.size ≤ w.heap.size + 1; omega) (.slice none 0 0)).setCell (p := ⟨w.heap.size + 1, 1, none⟩) (by show w.heap.size ≤ w.heap.size + 1; omega) (.slice none 0 0)).setCell (p := ⟨w.heap.size + 1, 2, none⟩) (by show w.heap.size ≤ w.heap.size + 1; omega) (.slice none 0 0)).setCell (p := ⟨w.heap.size + 1, 3, none⟩) (by show w.heap.size ≤ w.heap.size + 1; omega) (.slice none 0 0))
    refine bodyPost_ret (v := .tuple #[.agg #[.slice none 0 0, .slice none 0 0, .slice none 0 0, .slice none 0 0], .int .i64 1]) (by simp [results, Tryz.results13, go_sem, *]) rfl ?_
    rw [HE.out]
    first | exact ⟨none, 0, none, 0, none, 0, none, 0, [], rfl, BF.out, ownV_zero _, In.nil⟩ | exact ⟨none, 0, none, 0, none, 0, none, 0, rfl, BF.out, [], ownV_zero _, In.nil⟩
  by_cases hx : (list.all fun n => inB n (-1) 999) = true
  case neg =>
    replace hx : (list.all fun n => inB n (-1) 999) = false := Bool.eq_false_iff.2 hx
    have HE := Lib.hid (setR_range hv hx)
    have BB0_ : Below w.heap.size w ((w.alloc (.cells #[.slice A0 n.sites.length C0, .slice A1 n.sectors.length C1, .slice A2 n.antennas.length C2, .slice A3 n.radios.length C3] 35)).alloc (.cells #[.slice none 0 0, .slice none 0 0, .slice none 0 0, .slice none 0 0] 35)) := Below.alloc (Below.alloc (Below.refl _ _) (by first | exact Nat.le_refl _ | (simp; done) | (simp; omega)) _) (by first | exact Nat.le_refl _ | (simp; done) | (simp; omega)) _
    have zz0 : w.heap.size + 2 ≤ ((w.alloc (.cells #[.slice A0 n.sites.length C0, .slice A1 n.sectors.length C1, .slice A2 n.antennas.length C2, .slice A3 n.radios.length C3] 35)).alloc (.cells #[.slice none 0 0, .slice none 0 0, .slice none 0 0, .slice none 0 0] 35)).heap.size := by simp
    have k_N : ((w.alloc (.cells #[.slice A0 n.sites.length C0, .slice A1 n.sectors.length C1, .slice A2 n.antennas.length C2, .slice A3 n.radios.length C3] 35)).alloc (.cells #[.slice none 0 0, .slice none 0 0, .slice none 0 0, .slice none 0 0] 35)).heap[w.heap.size]? = some (.cells #[.slice A0 n.sites.length C0, .slice A1 n.sectors.length C1, .slice A2 n.antennas.length C2, .slice A3 n.radios.length C3] 35 (0, 0)) := by
      have h := blkN w #[.slice A0 n.sites.length C0, .slice A1 n.sectors.length C1, .slice A2 n.antennas.length C2, .slice A3 n.radios.length C3] 35
      replace h := blkA h (by first | (simp; done) | (simp; omega)) (.cells #[.slice none 0 0, .slice none 0 0, .slice none 0 0, .slice none 0 0] 35)
      exact h
    have KN_0 := Lib.hid k_N
    have k_R : ((w.alloc (.cells #[.slice A0 n.sites.length C0, .slice A1 n.sectors.length C1, .slice A2 n.antennas.length C2, .slice A3 n.radios.length C3] 35)).alloc (.cells #[.slice none 0 0, .slice none 0 0, .slice none 0 0, .slice none 0 0] 35)).heap[w.heap.size + 1]? = some (.cells #[.slice none 0 0, .slice none 0 0, .slice none 0 0, .slice none 0 0] 35 (0, 0)) := by
      have h := blkN (w.alloc (.cells #[.slice A0 n.sites.length C0, .slice A1 n.sectors.length C1, .slice A2 n.antennas.length C2, .slice A3 n.radios.length C3] 35)) #[.slice none 0 0, .slice none 0 0, .slice none 0 0, .slice none 0 0] 35
      rw [show (w.alloc (.cells #[.slice A0 n.sites.length C0, .slice A1 n.sectors.length C1, .slice A2 n.antennas.length C2, .slice A3 n.radios.length C3] 35)).heap.size = w.heap.size + 1 by simp] at h
      exact h
    have KR_0 := Lib.hid k_R
    clear k_N k_R
    have BB_0 := Lib.hid BB0_
    clear BB0_
    go_enter Tryz.func13, Tryz.ntmps13
    go_upto_region 1 with (fail)
    generalize ((w.alloc (.cells #[.slice A0 n.sites.length C0, .slice A1 n.sectors.length C1, .slice A2 n.antennas.length C2, .slice A3 n.radios.length C3] 35)).alloc (.cells #[.slice none 0 0, .slice none 0 0, .slice none 0 0, .slice none 0 0] 35)) = W0 at *
    have fN0 := blkC (v := .slice A0 n.sites.length C0) KN_0.out 0 rfl
    have fN1 := blkC (v := .slice A1 n.sectors.length C1) KN_0.out 1 rfl
    have fN2 := blkC (v := .slice A2 n.antennas.length C2) KN_0.out 2 rfl
    have fN3 := blkC (v := .slice A3 n.radios.length C3) KN_0.out 3 rfl
    have fR0 := blkC (v := .slice none 0 0) KR_0.out 0 rfl
    have fR1 := blkC (v := .slice none 0 0) KR_0.out 1 rfl
    have fR2 := blkC (v := .slice none 0 0) KR_0.out 2 rfl
    have fR3 := blkC (v := .slice none 0 0) KR_0.out 3 rfl
    go_wp2_with fail
    refine (validNetwork_any n _ _ _ _ _ ((R0.out.below BB_0.out).mono (by have := BB_0.out.size; omega)) ((R1.out.below BB_0.out).mono (by have := BB_0.out.size; omega)) ((R2.out.below BB_0.out).mono (by have := BB_0.out.size; omega)) ((R3.out.below BB_0.out).mono (by have := BB_0.out.size; omega)) (by omega) hk_n).mono ?_
    rintro e X1 ⟨rfl, hb⟩
    clear fN0 fN1 fN2 fN3 fR0 fR1 fR2 fR3
    have KN_1 := Lib.hid (blkB KN_0.out hb (by omega))
    have KR_1 := Lib.hid (blkB KR_0.out hb (by omega))
    have BB_1 := Lib.hid (BB_0.out.trans (hb.mono (by omega)))
    have zz1 : W0.heap.size ≤ X1.heap.size := hb.size
    clear KN_0 KR_0 BB_0 hb
    rw [hv]
    have fN0 := blkC (v := .slice A0 n.sites.length C0) KN_1.out 0 rfl
    have fN1 := blkC (v := .slice A1 n.sectors.length C1) KN_1.out 1 rfl
    have fN2 := blkC (v := .slice A2 n.antennas.length C2) KN_1.out 2 rfl
    have fN3 := blkC (v := .slice A3 n.radios.length C3) KN_1.out 3 rfl
    have fR0 := blkC (v := .slice none 0 0) KR_1.out 0 rfl
    have fR1 := blkC (v := .slice none 0 0) KR_1.out 1 rfl
    have fR2 := blkC (v := .slice none 0 0) KR_1.out 2 rfl
    have fR3 := blkC (v := .slice none 0 0) KR_1.out 3 rfl
    go_wp2_with fail
    refine (allWithin_any list (-1) 999 _ w.heap.size _ (RL.out.below BB_1.out) (by have := BB_1.out.size; omega) (by omega)).mono ?_
    rintro e X2 ⟨rfl, hb⟩
    clear fN0 fN1 fN2 fN3 fR0 fR1 fR2 fR3
    have KN_2 := Lib.hid (blkB KN_1.out hb (by omega))
    have KR_2 := Lib.hid (blkB KR_1.out hb (by omega))
    have BB_2 := Lib.hid (BB_1.out.trans (hb.mono (by omega)))
    have zz2 : X1.heap.size ≤ X2.heap.size := hb.size
    clear KN_1 KR_1 BB_1 hb
    rw [hx]
    have fN0 := blkC (v := .slice A0 n.sites.length C0) KN_2.out 0 rfl
    have fN1 := blkC (v := .slice A1 n.sectors.length C1) KN_2.out 1 rfl
    have fN2 := blkC (v := .slice A2 n.antennas.length C2) KN_2.out 2 rfl
    have fN3 := blkC (v := .slice A3 n.radios.length C3) KN_2.out 3 rfl
    have fR0 := blkC (v := .slice none 0 0) KR_2.out 0 rfl
    have fR1 := blkC (v := .slice none 0 0) KR_2.out 1 rfl
    have fR2 := blkC (v := .slice none 0 0) KR_2.out 2 rfl
    have fR3 := blkC (v := .slice none 0 0) KR_2.out 3 rfl
    have zR := blkF KR_2.out
    go_wp2
    have BF := Lib.hid (((((BB_2.out).setCell (p := ⟨w.heap.size + 1, 0, none⟩) (by show w.heap.size ≤ w.heap.size + 1; omega) (.slice none 0 0)).setCell (p := ⟨w.heap.size + 1, 1, none⟩) (by show w.heap.size ≤ w.heap.size + 1; omega) (.slice none 0 0)).setCell (p := ⟨w.heap.size + 1, 2, none⟩) (by show w.heap.size ≤ w.heap.size + 1; omega) (.slice none 0 0)).setCell (p := ⟨w.heap.size + 1, 3, none⟩) (by show w.heap.size ≤ w.heap.size + 1; omega) (.slice none 0 0))
    refine bodyPost_ret (v := .tuple #[.agg #[.slice none 0 0, .slice none 0 0, .slice none 0 0, .slice none 0 0], .int .i64 2]) (by simp [results, Tryz.results13, go_sem, *]) rfl ?_
    rw [HE.out]
    first | exact ⟨none, 0, none, 0, none, 0, none, 0, [], rfl, BF.out, ownV_zero _, In.nil⟩ | exact ⟨none, 0, none, 0, none, 0, none, 0, rfl, BF.out, [], ownV_zero _, In.nil⟩
  by_cases hlen : list.length = n.sectors.length
  case neg =>
    have HE := Lib.hid (setR_state hv hx hlen)
    have hn1 : ((list.length : Int) == (n.sectors.length : Int)) = false := by simp; omega
    have hn2 : ¬ ((list.length : Int) = (n.sectors.length : Int)) := by omega
    have BB0_ : Below w.heap.size w ((w.alloc (.cells #[.slice A0 n.sites.length C0, .slice A1 n.sectors.length C1, .slice A2 n.antennas.length C2, .slice A3 n.radios.length C3] 35)).alloc (.cells #[.slice none 0 0, .slice none 0 0, .slice none 0 0, .slice none 0 0] 35)) := Below.alloc (Below.alloc (Below.refl _ _) (by first | exact Nat.le_refl _ | (simp; done) | (simp; omega)) _) (by first | exact Nat.le_refl _ | (simp; done) | (simp; omega)) _
    have zz0 : w.heap.size + 2 ≤ ((w.alloc (.cells #[.slice A0 n.sites.length C0, .slice A1 n.sectors.length C1, .slice A2 n.antennas.length C2, .slice A3 n.radios.length C3] 35)).alloc (.cells #[.slice none 0 0, .slice none 0 0, .slice none 0 0, .slice none 0 0] 35)).heap.size := by simp
    have k_N : ((w.alloc (.cells #[.slice A0 n.sites.length C0, .slice A1 n.sectors.length C1, .slice A2 n.antennas.length C2, .slice A3 n.radios.length C3] 35)).alloc (.cells #[.slice none 0 0, .slice none 0 0, .slice none 0 0, .slice none 0 0] 35)).heap[w.heap.size]? = some (.cells #[.slice A0 n.sites.length C0, .slice A1 n.sectors.length C1, .slice A2 n.antennas.length C2, .slice A3 n.radios.length C3] 35 (0, 0)) := by
      have h := blkN w #[.slice A0 n.sites.length C0, .slice A1 n.sectors.length C1, .slice A2 n.antennas.length C2, .slice A3 n.radios.length C3] 35
      replace h := blkA h (by first | (simp; done) | (simp; omega)) (.cells #[.slice none 0 0, .slice none 0 0, .slice none 0 0, .slice none 0 0] 35)
      exact h
    have KN_0 := Lib.hid k_N
    have k_R : ((w.alloc (.cells #[.slice A0 n.sites.length C0, .slice A1 n.sectors.length C1, .slice A2 n.antennas.length C2, .slice A3 n.radios.length C3] 35)).alloc (.cells #[.slice none 0 0, .slice none 0 0, .slice none 0 0, .slice none 0 0] 35)).heap[w.heap.size + 1]? = some (.cells #[.slice none 0 0, .slice none 0 0, .slice none 0 0, .slice none 0 0] 35 (0, 0)) := by
      have h := blkN (w.alloc (.cells #[.slice A0 n.sites.length C0, .slice A1 n.sectors.length C1, .slice A2 n.antennas.length C2, .slice A3 n.radios.length C3] 35)) #[.slice none 0 0, .slice none 0 0, .slice none 0 0, .slice none 0 0] 35
      rw [show (w.alloc (.cells #[.slice A0 n.sites.length C0, .slice A1 n.sectors.length C1, .slice A2 n.antennas.length C2, .slice A3 n.radios.length C3] 35)).heap.size = w.heap.size + 1 by simp] at h
      exact h
    have KR_0 := Lib.hid k_R
    clear k_N k_R
    have BB_0 := Lib.hid BB0_
    clear BB0_
    go_enter Tryz.func13, Tryz.ntmps13
    go_upto_region 1 with (fail)
    generalize ((w.alloc (.cells #[.slice A0 n.sites.length C0, .slice A1 n.sectors.length C1, .slice A2 n.antennas.length C2, .slice A3 n.radios.length C3] 35)).alloc (.cells #[.slice none 0 0, .slice none 0 0, .slice none 0 0, .slice none 0 0] 35)) = W0 at *
    have fN0 := blkC (v := .slice A0 n.sites.length C0) KN_0.out 0 rfl
    have fN1 := blkC (v := .slice A1 n.sectors.length C1) KN_0.out 1 rfl
    have fN2 := blkC (v := .slice A2 n.antennas.length C2) KN_0.out 2 rfl
    have fN3 := blkC (v := .slice A3 n.radios.length C3) KN_0.out 3 rfl
    have fR0 := blkC (v := .slice none 0 0) KR_0.out 0 rfl
    have fR1 := blkC (v := .slice none 0 0) KR_0.out 1 rfl
    have fR2 := blkC (v := .slice none 0 0) KR_0.out 2 rfl
    have fR3 := blkC (v := .slice none 0 0) KR_0.out 3 rfl
    go_wp2_with fail
    refine (validNetwork_any n _ _ _ _ _ ((R0.out.below BB_0.out).mono (by have := BB_0.out.size; omega)) ((R1.out.below BB_0.out).mono (by have := BB_0.out.size; omega)) ((R2.out.below BB_0.out).mono (by have := BB_0.out.size; omega)) ((R3.out.below BB_0.out).mono (by have := BB_0.out.size; omega)) (by omega) hk_n).mono ?_
    rintro e X1 ⟨rfl, hb⟩
    clear fN0 fN1 fN2 fN3 fR0 fR1 fR2 fR3
    have KN_1 := Lib.hid (blkB KN_0.out hb (by omega))
    have KR_1 := Lib.hid (blkB KR_0.out hb (by omega))
    have BB_1 := Lib.hid (BB_0.out.trans (hb.mono (by omega)))
    have zz1 : W0.heap.size ≤ X1.heap.size := hb.size
    clear KN_0 KR_0 BB_0 hb
    rw [hv]
    have fN0 := blkC (v := .slice A0 n.sites.length C0) KN_1.out 0 rfl
    have fN1 := blkC (v := .slice A1 n.sectors.length C1) KN_1.out 1 rfl
    have fN2 := blkC (v := .slice A2 n.antennas.length C2) KN_1.out 2 rfl
    have fN3 := blkC (v := .slice A3 n.radios.length C3) KN_1.out 3 rfl
    have fR0 := blkC (v := .slice none 0 0) KR_1.out 0 rfl
    have fR1 := blkC (v := .slice none 0 0) KR_1.out 1 rfl
    have fR2 := blkC (v := .slice none 0 0) KR_1.out 2 rfl
    have fR3 := blkC (v := .slice none 0 0) KR_1.out 3 rfl
    go_wp2_with fail
    refine (allWithin_any list (-1) 999 _ w.heap.size _ (RL.out.below BB_1.out) (by have := BB_1.out.size; omega) (by omega)).mono ?_
    rintro e X2 ⟨rfl, hb⟩
    clear fN0 fN1 fN2 fN3 fR0 fR1 fR2 fR3
    have KN_2 := Lib.hid (blkB KN_1.out hb (by omega))
    have KR_2 := Lib.hid (blkB KR_1.out hb (by omega))
    have BB_2 := Lib.hid (BB_1.out.trans (hb.mono (by omega)))
    have zz2 : X1.heap.size ≤ X2.heap.size := hb.size
    clear KN_1 KR_1 BB_1 hb
    rw [hx]
    have fN0 := blkC (v := .slice A0 n.sites.length C0) KN_2.out 0 rfl
    have fN1 := blkC (v := .slice A1 n.sectors.length C1) KN_2.out 1 rfl
    have fN2 := blkC (v := .slice A2 n.antennas.length C2) KN_2.out 2 rfl
    have fN3 := blkC (v := .slice A3 n.radios.length C3) KN_2.out 3 rfl
    have fR0 := blkC (v := .slice none 0 0) KR_2.out 0 rfl
    have fR1 := blkC (v := .slice none 0 0) KR_2.out 1 rfl
    have fR2 := blkC (v := .slice none 0 0) KR_2.out 2 rfl
    have fR3 := blkC (v := .slice none 0 0) KR_2.out 3 rfl
    have zR := blkF KR_2.out
    go_wp2
    have BF := Lib.hid (((((BB_2.out).setCell (p := ⟨w.heap.size + 1, 0, none⟩) (by show w.heap.size ≤ w.heap.size + 1; omega) (.slice none 0 0)).setCell (p := ⟨w.heap.size + 1, 1, none⟩) (by show w.heap.size ≤ w.heap.size + 1; omega) (.slice none 0 0)).setCell (p := ⟨w.heap.size + 1, 2, none⟩) (by show w.heap.size ≤ w.heap.size + 1; omega) (.slice none 0 0)).setCell (p := ⟨w.heap.size + 1, 3, none⟩) (by show w.heap.size ≤ w.heap.size + 1; omega) (.slice none 0 0))
    refine bodyPost_ret (v := .tuple #[.agg #[.slice none 0 0, .slice none 0 0, .slice none 0 0, .slice none 0 0], .int .i64 6]) (by simp [results, Tryz.results13, go_sem, *]) rfl ?_
    rw [HE.out]
    first | exact ⟨none, 0, none, 0, none, 0, none, 0, [], rfl, BF.out, ownV_zero _, In.nil⟩ | exact ⟨none, 0, none, 0, none, 0, none, 0, rfl, BF.out, [], ownV_zero _, In.nil⟩
  have HE := Lib.hid (setR_ok hv hx hlen)
  have hsl : n.sectors.length ≤ 1048576 := by omega
  have hsi : (n.sectors.length : Int) ≤ 1048576 := by omega
  replace RL : Hid (Rd w.heap.size w (intsT list) (.slice AL n.sectors.length CL)) := by have h := RL.out; rw [hlen] at h; exact h
  rw [hlen]
  have HL := Lib.hid hlen
  clear hlen
  have BB0_ : Below w.heap.size w ((w.alloc (.cells #[.slice A0 n.sites.length C0, .slice A1 n.sectors.length C1, .slice A2 n.antennas.length C2, .slice A3 n.radios.length C3] 35)).alloc (.cells #[.slice none 0 0, .slice none 0 0, .slice none 0 0, .slice none 0 0] 35)) := Below.alloc (Below.alloc (Below.refl _ _) (by first | exact Nat.le_refl _ | (simp; done) | (simp; omega)) _) (by first | exact Nat.le_refl _ | (simp; done) | (simp; omega)) _
  have zz0 : w.heap.size + 2 ≤ ((w.alloc (.cells #[.slice A0 n.sites.length C0, .slice A1 n.sectors.length C1, .slice A2 n.antennas.length C2, .slice A3 n.radios.length C3] 35)).alloc (.cells #[.slice none 0 0, .slice none 0 0, .slice none 0 0, .slice none 0 0] 35)).heap.size := by simp
  have k_N : ((w.alloc (.cells #[.slice A0 n.sites.length C0, .slice A1 n.sectors.length C1, .slice A2 n.antennas.length C2, .slice A3 n.radios.length C3] 35)).alloc (.cells #[.slice none 0 0, .slice none 0 0, .slice none 0 0, .slice none 0 0] 35)).heap[w.heap.size]? = some (.cells #[.slice A0 n.sites.length C0, .slice A1 n.sectors.length C1, .slice A2 n.antennas.length C2, .slice A3 n.radios.length C3] 35 (0, 0)) := by
    have h := blkN w #[.slice A0 n.sites.length C0, .slice A1 n.sectors.length C1, .slice A2 n.antennas.length C2, .slice A3 n.radios.length C3] 35
    replace h := blkA h (by first | (simp; done) | (simp; omega)) (.cells #[.slice none 0 0, .slice none 0 0, .slice none 0 0, .slice none 0 0] 35)
    exact h
  have KN_0 := Lib.hid k_N
  have k_R : ((w.alloc (.cells #[.slice A0 n.sites.length C0, .slice A1 n.sectors.length C1, .slice A2 n.antennas.length C2, .slice A3 n.radios.length C3] 35)).alloc (.cells #[.slice none 0 0, .slice none 0 0, .slice none 0 0, .slice none 0 0] 35)).heap[w.heap.size + 1]? = some (.cells #[.slice none 0 0, .slice none 0 0, .slice none 0 0, .slice none 0 0] 35 (0, 0)) := by
    have h := blkN (w.alloc (.cells #[.slice A0 n.sites.length C0, .slice A1 n.sectors.length C1, .slice A2 n.antennas.length C2, .slice A3 n.radios.length C3] 35)) #[.slice none 0 0, .slice none 0 0, .slice none 0 0, .slice none 0 0] 35
    rw [show (w.alloc (.cells #[.slice A0 n.sites.length C0, .slice A1 n.sectors.length C1, .slice A2 n.antennas.length C2, .slice A3 n.radios.length C3] 35)).heap.size = w.heap.size + 1 by simp] at h
    exact h
  have KR_0 := Lib.hid k_R
  clear k_N k_R
  have BB_0 := Lib.hid BB0_
  clear BB0_
  go_enter Tryz.func13, Tryz.ntmps13
  go_upto_region 1 with (fail)
  generalize ((w.alloc (.cells #[.slice A0 n.sites.length C0, .slice A1 n.sectors.length C1, .slice A2 n.antennas.length C2, .slice A3 n.radios.length C3] 35)).alloc (.cells #[.slice none 0 0, .slice none 0 0, .slice none 0 0, .slice none 0 0] 35)) = W0 at *
  have fN0 := blkC (v := .slice A0 n.sites.length C0) KN_0.out 0 rfl
  have fN1 := blkC (v := .slice A1 n.sectors.length C1) KN_0.out 1 rfl
  have fN2 := blkC (v := .slice A2 n.antennas.length C2) KN_0.out 2 rfl
  have fN3 := blkC (v := .slice A3 n.radios.length C3) KN_0.out 3 rfl
  have fR0 := blkC (v := .slice none 0 0) KR_0.out 0 rfl
  have fR1 := blkC (v := .slice none 0 0) KR_0.out 1 rfl
  have fR2 := blkC (v := .slice none 0 0) KR_0.out 2 rfl
  have fR3 := blkC (v := .slice none 0 0) KR_0.out 3 rfl
  go_wp2_with fail
  refine (validNetwork_any n _ _ _ _ _ ((R0.out.below BB_0.out).mono (by have := BB_0.out.size; omega)) ((R1.out.below BB_0.out).mono (by have := BB_0.out.size; omega)) ((R2.out.below BB_0.out).mono (by have := BB_0.out.size; omega)) ((R3.out.below BB_0.out).mono (by have := BB_0.out.size; omega)) (by omega) hk_n).mono ?_
  rintro e X1 ⟨rfl, hb⟩
  clear fN0 fN1 fN2 fN3 fR0 fR1 fR2 fR3
  have KN_1 := Lib.hid (blkB KN_0.out hb (by omega))
  have KR_1 := Lib.hid (blkB KR_0.out hb (by omega))
  have BB_1 := Lib.hid (BB_0.out.trans (hb.mono (by omega)))
  have zz1 : W0.heap.size ≤ X1.heap.size := hb.size
  clear KN_0 KR_0 BB_0 hb
  rw [hv]
  have fN0 := blkC (v := .slice A0 n.sites.length C0) KN_1.out 0 rfl
  have fN1 := blkC (v := .slice A1 n.sectors.length C1) KN_1.out 1 rfl
  have fN2 := blkC (v := .slice A2 n.antennas.length C2) KN_1.out 2 rfl
  have fN3 := blkC (v := .slice A3 n.radios.length C3) KN_1.out 3 rfl
  have fR0 := blkC (v := .slice none 0 0) KR_1.out 0 rfl
  have fR1 := blkC (v := .slice none 0 0) KR_1.out 1 rfl
  have fR2 := blkC (v := .slice none 0 0) KR_1.out 2 rfl
  have fR3 := blkC (v := .slice none 0 0) KR_1.out 3 rfl
  go_wp2_with fail
  refine (allWithin_any list (-1) 999 _ w.heap.size _ (RL.out.below BB_1.out) (by have := BB_1.out.size; omega) (by omega)).mono ?_
  rintro e X2 ⟨rfl, hb⟩
  clear fN0 fN1 fN2 fN3 fR0 fR1 fR2 fR3
  have KN_2 := Lib.hid (blkB KN_1.out hb (by omega))
  have KR_2 := Lib.hid (blkB KR_1.out hb (by omega))
  have BB_2 := Lib.hid (BB_1.out.trans (hb.mono (by omega)))
  have zz2 : X1.heap.size ≤ X2.heap.size := hb.size
  clear KN_1 KR_1 BB_1 hb
  rw [hx]
  have fN0 := blkC (v := .slice A0 n.sites.length C0) KN_2.out 0 rfl
  have fN1 := blkC (v := .slice A1 n.sectors.length C1) KN_2.out 1 rfl
  have fN2 := blkC (v := .slice A2 n.antennas.length C2) KN_2.out 2 rfl
  have fN3 := blkC (v := .slice A3 n.radios.length C3) KN_2.out 3 rfl
  have fR0 := blkC (v := .slice none 0 0) KR_2.out 0 rfl
  have fR1 := blkC (v := .slice none 0 0) KR_2.out 1 rfl
  have fR2 := blkC (v := .slice none 0 0) KR_2.out 2 rfl
  have fR3 := blkC (v := .slice none 0 0) KR_2.out 3 rfl
  go_wp2_with fail
  refine (netClone_any n _ _ _ _ _ ((R0.out.below BB_2.out).mono (by have := BB_2.out.size; omega)) ((R1.out.below BB_2.out).mono (by have := BB_2.out.size; omega)) ((R2.out.below BB_2.out).mono (by have := BB_2.out.size; omega)) ((R3.out.below BB_2.out).mono (by have := BB_2.out.size; omega)) hs_n).mono ?_
  rintro e X3 ⟨a0, c0, a1, c1, a2, c2, a3, c3, fp, rfl, hb, ov, iv_⟩
  clear fN0 fN1 fN2 fN3 fR0 fR1 fR2 fR3
  have KN_3 := Lib.hid (blkB KN_2.out hb (by omega))
  have KR_3 := Lib.hid (blkB KR_2.out hb (by omega))
  have BB_3 := Lib.hid (BB_2.out.trans (hb.mono (by omega)))
  have zz3 : X2.heap.size ≤ X3.heap.size := hb.size
  clear KN_2 KR_2 BB_2 hb
  obtain ⟨f0, f1, f2, f3, fpm, O0, O1, O2, O3, d0, d1, d2⟩ := netSplit ov
  have iv : In (w.heap.size + 2) X3.heap.size fp := iv_.mono (by omega) (Nat.le_refl _)
  clear ov iv_
  have fN0 := blkC (v := .slice A0 n.sites.length C0) KN_3.out 0 rfl
  have fN1 := blkC (v := .slice A1 n.sectors.length C1) KN_3.out 1 rfl
  have fN2 := blkC (v := .slice A2 n.antennas.length C2) KN_3.out 2 rfl
  have fN3 := blkC (v := .slice A3 n.radios.length C3) KN_3.out 3 rfl
  have fR0 := blkC (v := .slice none 0 0) KR_3.out 0 rfl
  have fR1 := blkC (v := .slice none 0 0) KR_3.out 1 rfl
  have fR2 := blkC (v := .slice none 0 0) KR_3.out 2 rfl
  have fR3 := blkC (v := .slice none 0 0) KR_3.out 3 rfl
  go_upto_region 8 with (fail)
  clear fN0 fN1 fN2 fN3 fR0 fR1 fR2 fR3
  have hbA : Below X3.heap.size X3 (X3.alloc (.cells #[.slice a0 n.sites.length c0, .slice a1 n.sectors.length c1, .slice a2 n.antennas.length c2, .slice a3 n.radios.length c3] 35)) := (Below.refl _ _).alloc (Nat.le_refl _) _
  have kL := blkN X3 #[.slice a0 n.sites.length c0, .slice a1 n.sectors.length c1, .slice a2 n.antennas.length c2, .slice a3 n.radios.length c3] 35
  have zL : X3.heap.size + 1 ≤ (X3.alloc (.cells #[.slice a0 n.sites.length c0, .slice a1 n.sectors.length c1, .slice a2 n.antennas.length c2, .slice a3 n.radios.length c3] 35)).heap.size := by simp
  have P0 := Lib.hid (O0.below (lo := w.heap.size + 2) (hi := X3.heap.size) (fun y hy => iv y ((fpm y).2 (by simp [hy]))) (Nat.le_refl _) hbA)
  have P1 := Lib.hid (O1.below (lo := w.heap.size + 2) (hi := X3.heap.size) (fun y hy => iv y ((fpm y).2 (by simp [hy]))) (Nat.le_refl _) hbA)
  have P2 := Lib.hid (O2.below (lo := w.heap.size + 2) (hi := X3.heap.size) (fun y hy => iv y ((fpm y).2 (by simp [hy]))) (Nat.le_refl _) hbA)
  have P3 := Lib.hid (O3.below (lo := w.heap.size + 2) (hi := X3.heap.size) (fun y hy => iv y ((fpm y).2 (by simp [hy]))) (Nat.le_refl _) hbA)
  clear O0 O1 O2 O3
  generalize (X3.alloc (.cells #[.slice a0 n.sites.length c0, .slice a1 n.sectors.length c1, .slice a2 n.antennas.length c2, .slice a3 n.radios.length c3] 35)) = Y at *
  have KL_4 := Lib.hid kL
  clear kL
  have KN_4 := Lib.hid (blkB KN_3.out hbA (by omega))
  have KR_4 := Lib.hid (blkB KR_3.out hbA (by omega))
  have BB_4 := Lib.hid (BB_3.out.trans (hbA.mono (by omega)))
  have zz4 : X3.heap.size ≤ Y.heap.size := hbA.size
  clear KN_3 KR_3 BB_3 hbA
  have FP : Hid (∀ y, y ∈ f1 → w.heap.size + 2 ≤ y ∧ y < X3.heap.size) := fun y hy => iv y ((fpm y).2 (by simp [hy]))
  go_wp2
  go_loopw [31] (fun i wr => ∃ (k : Nat), k ≤ n.sectors.length ∧ i = .int .i64 k ∧ Own wr (DSector.sT (chN n.sectors list k)) (.slice a1 n.sectors.length c1) f1 ∧ Chg f1 Y wr) (fun i wr => n.sectors.length - (intOf i).toNat)
  case atStart => exact ⟨0, Nat.zero_le _, rfl, P1.out, Chg.refl _ _⟩
  case round =>
    obtain ⟨k, hk, rfl, hO, hch⟩ := hrel
    have HO := Lib.hid hO
    have HCH := Lib.hid hch
    have zr : Y.heap.size ≤ wr.heap.size := hch.size
    clear hO hch
    have bWr : Below w.heap.size Y wr := HCH.out.below (by omega) (fun y hy => by have := (FP.out y hy).1; omega)
    have BWr := Lib.hid (BB_4.out.trans bWr)
    clear bWr
    have kLr := (HCH.out.block X3.heap.size (by omega) (fun e => by have := (FP.out _ e).2; omega)).trans KL_4.out
    have KLr := Lib.hid kLr
    clear kLr
    by_cases hlt : k < n.sectors.length
    · obtain ⟨al_, cl_, e_, -, -, hlc⟩ := (RL.out.below BWr.out).ints
      injection e_ with e1_ e2_ e3_
      clear e2_
      subst e1_ e3_
      obtain ⟨lb, lo, ea, hlb, hat⟩ := hlc (by have := HL.out; omega)
      subst ea
      have sl := hat k (by have := HL.out; omega)
      clear hlc hat
      have hkc : k < (chN n.sectors list k).length := by rw [chN_length]; exact hlt
      obtain ⟨b, off, ea, hbf, ⟨vc, s8⟩, sz, hset⟩ := HO.out.chan (chN_length _ _ _) hkc
      subst ea
      have hkl : k < list.length := by have := HL.out; omega
      have HS := Lib.hid (hset list[k])
      clear hset
      have i1 : (0 : Int) ≤ (k : Int) := by omega
      have i2 : (k : Int) < (n.sectors.length : Int) := by omega
      have fL1 := blkC (v := .slice (some ⟨b, off, none⟩) n.sectors.length c1) KLr.out 1 rfl
      go_wp2
      go_roundw
      case rel =>
        refine ⟨k + 1, by omega, by go_num, ?_, ?_⟩
        · rw [chN_succ n.sectors list k hkc (by have := HL.out; omega)]
          exact HS.out
        · exact HCH.out.setCell (p := ⟨b, off + k * 9 + 8, none⟩) hbf _
      case measure => simp [intOf]; omega
    · obtain rfl : k = n.sectors.length := by omega
      have o0 := P0.out.chg (lo := w.heap.size + 2) (hi := X3.heap.size) (fun y hy => iv y ((fpm y).2 (by simp [hy]))) (by omega) HCH.out (fun y hy => (d0 y hy).1)
      have o2 := P2.out.chg (lo := w.heap.size + 2) (hi := X3.heap.size) (fun y hy => iv y ((fpm y).2 (by simp [hy]))) (by omega) HCH.out (fun y hy h => (d1 y h).1 hy)
      have o3 := P3.out.chg (lo := w.heap.size + 2) (hi := X3.heap.size) (fun y hy => iv y ((fpm y).2 (by simp [hy]))) (by omega) HCH.out (fun y hy h => (d1 y h).2 hy)
      have ov := netJoin (n := { n with sectors := chN n.sectors list n.sectors.length }) o0 HO.out o2 o3 d0 d1 d2
      have ivf : In (w.heap.size + 2) wr.heap.size (f0 ++ (f1 ++ (f2 ++ (f3 ++ [])))) := fun y hy => by
        have h := iv y ((fpm y).2 (by simpa using hy))
        omega
      have BF := Lib.hid (((((BWr.out).setCell (p := ⟨w.heap.size + 1, 0, none⟩) (by show w.heap.size ≤ w.heap.size + 1; omega) (.slice a0 n.sites.length c0)).setCell (p := ⟨w.heap.size + 1, 1, none⟩) (by show w.heap.size ≤ w.heap.size + 1; omega) (.slice a1 n.sectors.length c1)).setCell (p := ⟨w.heap.size + 1, 2, none⟩) (by show w.heap.size ≤ w.heap.size + 1; omega) (.slice a2 n.antennas.length c2)).setCell (p := ⟨w.heap.size + 1, 3, none⟩) (by show w.heap.size ≤ w.heap.size + 1; omega) (.slice a3 n.radios.length c3))
      have OF := Lib.hid (((((ov).setFar (p := ⟨w.heap.size + 1, 0, none⟩) (fun e => by have := (ivf _ e).1; simp only at this; omega) (.slice a0 n.sites.length c0)).setFar (p := ⟨w.heap.size + 1, 1, none⟩) (fun e => by have := (ivf _ e).1; simp only at this; omega) (.slice a1 n.sectors.length c1)).setFar (p := ⟨w.heap.size + 1, 2, none⟩) (fun e => by have := (ivf _ e).1; simp only at this; omega) (.slice a2 n.antennas.length c2)).setFar (p := ⟨w.heap.size + 1, 3, none⟩) (fun e => by have := (ivf _ e).1; simp only at this; omega) (.slice a3 n.radios.length c3))
      have IVF := Lib.hid ivf
      have KRr := Lib.hid ((HCH.out.block (w.heap.size + 1) (by omega) (fun e => by have := (FP.out _ e).1; omega)).trans KR_4.out)
      clear o0 o2 o3 ov ivf d0 d1 d2 fpm iv P0 P1 P2 P3 HO HCH
      have fL0 := blkC (v := .slice a0 n.sites.length c0) KLr.out 0 rfl
      have fL1 := blkC (v := .slice a1 n.sectors.length c1) KLr.out 1 rfl
      have fL2 := blkC (v := .slice a2 n.antennas.length c2) KLr.out 2 rfl
      have fL3 := blkC (v := .slice a3 n.radios.length c3) KLr.out 3 rfl
      have fR0 := blkC (v := .slice none 0 0) KRr.out 0 rfl
      have fR1 := blkC (v := .slice none 0 0) KRr.out 1 rfl
      have fR2 := blkC (v := .slice none 0 0) KRr.out 2 rfl
      have fR3 := blkC (v := .slice none 0 0) KRr.out 3 rfl
      have zR := blkF KRr.out
      go_wp2
      refine bodyPost_ret (v := .tuple #[.agg #[.slice a0 n.sites.length c0, .slice a1 n.sectors.length c1, .slice a2 n.antennas.length c2, .slice a3 n.radios.length c3], .int .i64 0]) (by simp [results, Tryz.results13, go_sem, *]) rfl ?_
      rw [HE.out]
      simp only [chN_length]
      first | refine ⟨a0, c0, a1, c1, a2, c2, a3, c3, _, rfl, BF.out, OF.out, ?_⟩ | refine ⟨a0, c0, a1, c1, a2, c2, a3, c3, rfl, BF.out, _, OF.out, ?_⟩
      simp only [size_setCell]
      exact IVF.out.mono (by omega) (Nat.le_refl _)
set_option maxHeartbeats 8000000 in
set_option maxRecDepth 100000 in
theorem sSetChannels_std (n : DNetwork) (list : List Int) (vn0 vn1 vn2 vn3 vlist0 : Value) (w : World) (rn0 : Rd w.heap.size w (DSite.sT n.sites) vn0) (rn1 : Rd w.heap.size w (DSector.sT n.sectors) vn1) (rn2 : Rd w.heap.size w (DAntenna.sT n.antennas) vn2) (rn3 : Rd w.heap.size w (DRadio.sT n.radios) vn3) (rlist0 : Rd w.heap.size w (intsT list) vlist0) (hs_n : sizL n.tr ≤ 1048576) (hk_n : n.ok) (hs_list : siz (intsT list) ≤ 1048576) (hk_list : ∀ n ∈ list, I64 n) :
    Calls Tryz.prog 10 #[.agg #[vn0, vn1, vn2, vn3], vlist0] w (fun e w' => ∃ a0_0 c0_0 a0_1 c0_1 a0_2 c0_2 a0_3 c0_3 fp0, e = .returned (.tuple #[.agg #[.slice a0_0 (setR n list).1.sites.length c0_0, .slice a0_1 (setR n list).1.sectors.length c0_1, .slice a0_2 (setR n list).1.antennas.length c0_2, .slice a0_3 (setR n list).1.radios.length c0_3], .int .i64 (setR n list).2]) ∧ Below w.heap.size w w' ∧ OwnV w' (setR n list).1.tr [.slice a0_0 (setR n list).1.sites.length c0_0, .slice a0_1 (setR n list).1.sectors.length c0_1, .slice a0_2 (setR n list).1.antennas.length c0_2, .slice a0_3 (setR n list).1.radios.length c0_3] fp0 ∧ In w.heap.size w'.heap.size fp0) := by
  have hq := DNetwork.siz_tr n
  rw [DSite.siz_s, DSector.siz_s, DAntenna.siz_s, DRadio.siz_s] at hq
  obtain ⟨A0, C0, e0, -, -, -⟩ := DSite.rd rn0
  obtain ⟨A1, C1, e1, -, -, -⟩ := DSector.rd rn1
  obtain ⟨A2, C2, e2, -, -, -⟩ := DAntenna.rd rn2
  obtain ⟨A3, C3, e3, -, -, -⟩ := DRadio.rd rn3
  subst e0 e1 e2 e3
  have R0 := Lib.hid rn0
  have R1 := Lib.hid rn1
  have R2 := Lib.hid rn2
  have R3 := Lib.hid rn3
  clear rn0 rn1 rn2 rn3
  obtain ⟨AL, CL, eL, hLn, -, -⟩ := rlist0.ints
  subst eL
  have RL := Lib.hid rlist0
  clear rlist0
  rw [siz_ints] at hs_list
  by_cases hv : netB n = true
  case neg =>
    replace hv : netB n = false := Bool.eq_false_iff.2 hv
    have HE := Lib.hid (setR_bad (cs := list) hv)
    have BB0_ : Below w.heap.size w ((w.alloc (.cells #[.slice A0 n.sites.length C0, .slice A1 n.sectors.length C1, .slice A2 n.antennas.length C2, .slice A3 n.radios.length C3] 35)).alloc (.cells #[.slice none 0 0, .slice none 0 0, .slice none 0 0, .slice none 0 0] 35)) := Below.alloc (Below.alloc (Below.refl _ _) (by first | exact Nat.le_refl _ | (simp; done) | (simp; omega)) _) (by first | exact Nat.le_refl _ | (simp; done) | (simp; omega)) _
    have zz0 : w.heap.size + 2 ≤ ((w.alloc (.cells #[.slice A0 n.sites.length C0, .slice A1 n.sectors.length C1, .slice A2 n.antennas.length C2, .slice A3 n.radios.length C3] 35)).alloc (.cells #[.slice none 0 0, .slice none 0 0, .slice none 0 0, .slice none 0 0] 35)).heap.size := by simp
    have k_N : ((w.alloc (.cells #[.slice A0 n.sites.length C0, .slice A1 n.sectors.length C1, .slice A2 n.antennas.length C2, .slice A3 n.radios.length C3] 35)).alloc (.cells #[.slice none 0 0, .slice none 0 0, .slice none 0 0, .slice none 0 0] 35)).heap[w.heap.size]? = some (.cells #[.slice A0 n.sites.length C0, .slice A1 n.sectors.length C1, .slice A2 n.antennas.length C2, .slice A3 n.radios.length C3] 35 (0, 0)) := by
      have h := blkN w #[.slice A0 n.sites.length C0, .slice A1 n.sectors.length C1, .slice A2 n.antennas.length C2, .slice A3 n.radios.length C3] 35
      replace h := blkA h (by first | (simp; done) | (simp; omega)) (.cells #[.slice none 0 0, .slice none 0 0, .slice none 0 0, .slice none 0 0] 35)
      exact h
    have KN_0 := Lib.hid k_N
    have k_R : ((w.alloc (.cells #[.slice A0 n.sites.length C0, .slice A1 n.sectors.length C1, .slice A2 n.antennas.length C2, .slice A3 n.radios.length C3] 35)).alloc (.cells #[.slice none 0 0, .slice none 0 0, .slice none 0 0, .slice none 0 0] 35)).heap[w.heap.size + 1]? = some (.cells #[.slice none 0 0, .slice none 0 0, .slice none 0 0, .slice none 0 0] 35 (0, 0)) := by
      have h := blkN (w.alloc (.cells #[.slice A0 n.sites.length C0, .slice A1 n.sectors.length C1, .slice A2 n.antennas.length C2, .slice A3 n.radios.length C3] 35)) #[.slice none 0 0, .slice none 0 0, .slice none 0 0, .slice none 0 0] 35
      rw [show (w.alloc (.cells #[.slice A0 n.sites.length C0, .slice A1 n.sectors.length C1, .slice A2 n.antennas.length C2, .slice A3 n.radios.length C3] 35)).heap.size = w.heap.size + 1 by simp] at h
      exact h
    have KR_0 := Lib.hid k_R
    clear k_N k_R
    have BB_0 := Lib.hid BB0_
    clear BB0_
    go_enter Tryz.func10, Tryz.ntmps10
    go_upto_region 1 with (fail)
    generalize ((w.alloc (.cells #[.slice A0 n.sites.length C0, .slice A1 n.sectors.length C1, .slice A2 n.antennas.length C2, .slice A3 n.radios.length C3] 35)).alloc (.cells #[.slice none 0 0, .slice none 0 0, .slice none 0 0, .slice none 0 0] 35)) = W0 at *
    have fN0 := blkC (v := .slice A0 n.sites.length C0) KN_0.out 0 rfl
    have fN1 := blkC (v := .slice A1 n.sectors.length C1) KN_0.out 1 rfl
    have fN2 := blkC (v := .slice A2 n.antennas.length C2) KN_0.out 2 rfl
    have fN3 := blkC (v := .slice A3 n.radios.length C3) KN_0.out 3 rfl
    have fR0 := blkC (v := .slice none 0 0) KR_0.out 0 rfl
    have fR1 := blkC (v := .slice none 0 0) KR_0.out 1 rfl
    have fR2 := blkC (v := .slice none 0 0) KR_0.out 2 rfl
    have fR3 := blkC (v := .slice none 0 0) KR_0.out 3 rfl
    go_wp2_with fail
    refine (l14Ok_any n _ _ _ _ w.heap.size _ ((R0.out.below BB_0.out).mono (by have := BB_0.out.size; omega)) ((R1.out.below BB_0.out).mono (by have := BB_0.out.size; omega)) ((R2.out.below BB_0.out).mono (by have := BB_0.out.size; omega)) ((R3.out.below BB_0.out).mono (by have := BB_0.out.size; omega)) (by omega) (blkC KN_0.out 0 rfl) (blkC KN_0.out 1 rfl) (blkC KN_0.out 2 rfl) (blkC KN_0.out 3 rfl) (by omega) hk_n).mono ?_
    rintro e X1 ⟨rfl, hb⟩
    clear fN0 fN1 fN2 fN3 fR0 fR1 fR2 fR3
    have KN_1 := Lib.hid (blkB KN_0.out hb (by omega))
    have KR_1 := Lib.hid (blkB KR_0.out hb (by omega))
    have BB_1 := Lib.hid (BB_0.out.trans (hb.mono (by omega)))
    have zz1 : W0.heap.size ≤ X1.heap.size := hb.size
    clear KN_0 KR_0 BB_0 hb
    rw [hv]
    have fN0 := blkC (v := .slice A0 n.sites.length C0) KN_1.out 0 rfl
    have fN1 := blkC (v := .slice A1 n.sectors.length C1) KN_1.out 1 rfl
    have fN2 := blkC (v := .slice A2 n.antennas.length C2) KN_1.out 2 rfl
    have fN3 := blkC (v := .slice A3 n.radios.length C3) KN_1.out 3 rfl
    have fR0 := blkC (v := .slice none 0 0) KR_1.out 0 rfl
    have fR1 := blkC (v := .slice none 0 0) KR_1.out 1 rfl
    have fR2 := blkC (v := .slice none 0 0) KR_1.out 2 rfl
    have fR3 := blkC (v := .slice none 0 0) KR_1.out 3 rfl
    have zR := blkF KR_1.out
    go_wp2
    have BF := Lib.hid (((((BB_1.out).setCell (p := ⟨w.heap.size + 1, 0, none⟩) (by show w.heap.size ≤ w.heap.size + 1; omega) (.slice none 0 0)).setCell (p := ⟨w.heap.size + 1, 1, none⟩) (by show w.heap.size ≤ w.heap.size + 1; omega) (.slice none 0 0)).setCell (p := ⟨w.heap.size + 1, 2, none⟩) (by show w.heap.size ≤ w.heap.size + 1; omega) (.slice none 0 0)).setCell (p := ⟨w.heap.size + 1, 3, none⟩) (by show w.heap.size ≤ w.heap.size + 1; omega) (.slice none 0 0))
    refine bodyPost_ret (v := .tuple #[.agg #[.slice none 0 0, .slice none 0 0, .slice none 0 0, .slice none 0 0], .int .i64 1]) (by simp [results, Tryz.results10, go_sem, *]) rfl ?_
    rw [HE.out]
    first | exact ⟨none, 0, none, 0, none, 0, none, 0, [], rfl, BF.out, ownV_zero _, In.nil⟩ | exact ⟨none, 0, none, 0, none, 0, none, 0, rfl, BF.out, [], ownV_zero _, In.nil⟩
  by_cases hx : (list.all fun n => inB n (-1) 999) = true
  case neg =>
    replace hx : (list.all fun n => inB n (-1) 999) = false := Bool.eq_false_iff.2 hx
    have HE := Lib.hid (setR_range hv hx)
    have BB0_ : Below w.heap.size w ((w.alloc (.cells #[.slice A0 n.sites.length C0, .slice A1 n.sectors.length C1, .slice A2 n.antennas.length C2, .slice A3 n.radios.length C3] 35)).alloc (.cells #[.slice none 0 0, .slice none 0 0, .slice none 0 0, .slice none 0 0] 35)) := Below.alloc (Below.alloc (Below.refl _ _) (by first | exact Nat.le_refl _ | (simp; done) | (simp; omega)) _) (by first | exact Nat.le_refl _ | (simp; done) | (simp; omega)) _
    have zz0 : w.heap.size + 2 ≤ ((w.alloc (.cells #[.slice A0 n.sites.length C0, .slice A1 n.sectors.length C1, .slice A2 n.antennas.length C2, .slice A3 n.radios.length C3] 35)).alloc (.cells #[.slice none 0 0, .slice none 0 0, .slice none 0 0, .slice none 0 0] 35)).heap.size := by simp
    have k_N : ((w.alloc (.cells #[.slice A0 n.sites.length C0, .slice A1 n.sectors.length C1, .slice A2 n.antennas.length C2, .slice A3 n.radios.length C3] 35)).alloc (.cells #[.slice none 0 0, .slice none 0 0, .slice none 0 0, .slice none 0 0] 35)).heap[w.heap.size]? = some (.cells #[.slice A0 n.sites.length C0, .slice A1 n.sectors.length C1, .slice A2 n.antennas.length C2, .slice A3 n.radios.length C3] 35 (0, 0)) := by
      have h := blkN w #[.slice A0 n.sites.length C0, .slice A1 n.sectors.length C1, .slice A2 n.antennas.length C2, .slice A3 n.radios.length C3] 35
      replace h := blkA h (by first | (simp; done) | (simp; omega)) (.cells #[.slice none 0 0, .slice none 0 0, .slice none 0 0, .slice none 0 0] 35)
      exact h
    have KN_0 := Lib.hid k_N
    have k_R : ((w.alloc (.cells #[.slice A0 n.sites.length C0, .slice A1 n.sectors.length C1, .slice A2 n.antennas.length C2, .slice A3 n.radios.length C3] 35)).alloc (.cells #[.slice none 0 0, .slice none 0 0, .slice none 0 0, .slice none 0 0] 35)).heap[w.heap.size + 1]? = some (.cells #[.slice none 0 0, .slice none 0 0, .slice none 0 0, .slice none 0 0] 35 (0, 0)) := by
      have h := blkN (w.alloc (.cells #[.slice A0 n.sites.length C0, .slice A1 n.sectors.length C1, .slice A2 n.antennas.length C2, .slice A3 n.radios.length C3] 35)) #[.slice none 0 0, .slice none 0 0, .slice none 0 0, .slice none 0 0] 35
      rw [show (w.alloc (.cells #[.slice A0 n.sites.length C0, .slice A1 n.sectors.length C1, .slice A2 n.antennas.length C2, .slice A3 n.radios.length C3] 35)).heap.size = w.heap.size + 1 by simp] at h
      exact h
    have KR_0 := Lib.hid k_R
    clear k_N k_R
    have BB_0 := Lib.hid BB0_
    clear BB0_
    go_enter Tryz.func10, Tryz.ntmps10
    go_upto_region 1 with (fail)
    generalize ((w.alloc (.cells #[.slice A0 n.sites.length C0, .slice A1 n.sectors.length C1, .slice A2 n.antennas.length C2, .slice A3 n.radios.length C3] 35)).alloc (.cells #[.slice none 0 0, .slice none 0 0, .slice none 0 0, .slice none 0 0] 35)) = W0 at *
    have fN0 := blkC (v := .slice A0 n.sites.length C0) KN_0.out 0 rfl
    have fN1 := blkC (v := .slice A1 n.sectors.length C1) KN_0.out 1 rfl
    have fN2 := blkC (v := .slice A2 n.antennas.length C2) KN_0.out 2 rfl
    have fN3 := blkC (v := .slice A3 n.radios.length C3) KN_0.out 3 rfl
    have fR0 := blkC (v := .slice none 0 0) KR_0.out 0 rfl
    have fR1 := blkC (v := .slice none 0 0) KR_0.out 1 rfl
    have fR2 := blkC (v := .slice none 0 0) KR_0.out 2 rfl
    have fR3 := blkC (v := .slice none 0 0) KR_0.out 3 rfl
    go_wp2_with fail
    refine (l14Ok_any n _ _ _ _ w.heap.size _ ((R0.out.below BB_0.out).mono (by have := BB_0.out.size; omega)) ((R1.out.below BB_0.out).mono (by have := BB_0.out.size; omega)) ((R2.out.below BB_0.out).mono (by have := BB_0.out.size; omega)) ((R3.out.below BB_0.out).mono (by have := BB_0.out.size; omega)) (by omega) (blkC KN_0.out 0 rfl) (blkC KN_0.out 1 rfl) (blkC KN_0.out 2 rfl) (blkC KN_0.out 3 rfl) (by omega) hk_n).mono ?_
    rintro e X1 ⟨rfl, hb⟩
    clear fN0 fN1 fN2 fN3 fR0 fR1 fR2 fR3
    have KN_1 := Lib.hid (blkB KN_0.out hb (by omega))
    have KR_1 := Lib.hid (blkB KR_0.out hb (by omega))
    have BB_1 := Lib.hid (BB_0.out.trans (hb.mono (by omega)))
    have zz1 : W0.heap.size ≤ X1.heap.size := hb.size
    clear KN_0 KR_0 BB_0 hb
    rw [hv]
    go_wp2
    go_loop [6] (fun i => ∃ (k : Nat), k ≤ list.length ∧ i = .int .i64 k ∧ ((list.take k).all fun n => inB n (-1) 999) = true) (fun i => list.length - (intOf i).toNat)
    case atStart => exact ⟨0, Nat.zero_le _, rfl, by simp⟩
    case round =>
      obtain ⟨k, hk, rfl, hno⟩ := hrel
      have HN := Lib.hid hno
      clear hno
      by_cases hlt : k < list.length
      · have hkl : k < list.length := by omega
        obtain ⟨al_, cl_, e_, -, -, hlc⟩ := (RL.out.below BB_1.out).ints
        injection e_ with e1_ e2_ e3_
        clear e2_
        subst e1_ e3_
        obtain ⟨lb, lo, ea, hlb, hat⟩ := hlc (by omega)
        subst ea
        have sl := hat k (by omega)
        clear hlc hat
        have i1 : (0 : Int) ≤ (k : Int) := by omega
        have i2 : (k : Int) < (list.length : Int) := by omega
        by_cases hp : inB list[k] (-1) 999 = true
        · go_wp2_with fail
          refine (l00In_any _ _ _ _).mono ?_
          rintro e _ ⟨rfl, rfl⟩
          rw [hp]
          go_wp2
          go_round
          case rel => exact ⟨k + 1, by omega, by go_num, by rw [all_take_succ _ list k hkl, HN.out]; exact hp⟩
          case measure => simp [intOf]; omega
        · replace hp : inB list[k] (-1) 999 = false := Bool.eq_false_iff.2 hp
          go_wp2_with fail
          refine (l00In_any _ _ _ _).mono ?_
          rintro e _ ⟨rfl, rfl⟩
          rw [hp]
          have fN0 := blkC (v := .slice A0 n.sites.length C0) KN_1.out 0 rfl
          have fN1 := blkC (v := .slice A1 n.sectors.length C1) KN_1.out 1 rfl
          have fN2 := blkC (v := .slice A2 n.antennas.length C2) KN_1.out 2 rfl
          have fN3 := blkC (v := .slice A3 n.radios.length C3) KN_1.out 3 rfl
          have fR0 := blkC (v := .slice none 0 0) KR_1.out 0 rfl
          have fR1 := blkC (v := .slice none 0 0) KR_1.out 1 rfl
          have fR2 := blkC (v := .slice none 0 0) KR_1.out 2 rfl
          have fR3 := blkC (v := .slice none 0 0) KR_1.out 3 rfl
          have zR := blkF KR_1.out
          go_wp2
          have BF := Lib.hid (((((BB_1.out).setCell (p := ⟨w.heap.size + 1, 0, none⟩) (by show w.heap.size ≤ w.heap.size + 1; omega) (.slice none 0 0)).setCell (p := ⟨w.heap.size + 1, 1, none⟩) (by show w.heap.size ≤ w.heap.size + 1; omega) (.slice none 0 0)).setCell (p := ⟨w.heap.size + 1, 2, none⟩) (by show w.heap.size ≤ w.heap.size + 1; omega) (.slice none 0 0)).setCell (p := ⟨w.heap.size + 1, 3, none⟩) (by show w.heap.size ≤ w.heap.size + 1; omega) (.slice none 0 0))
          refine bodyPost_ret (v := .tuple #[.agg #[.slice none 0 0, .slice none 0 0, .slice none 0 0, .slice none 0 0], .int .i64 2]) (by simp [results, Tryz.results10, go_sem, *]) rfl ?_
          rw [HE.out]
          first | exact ⟨none, 0, none, 0, none, 0, none, 0, [], rfl, BF.out, ownV_zero _, In.nil⟩ | exact ⟨none, 0, none, 0, none, 0, none, 0, rfl, BF.out, [], ownV_zero _, In.nil⟩
      · obtain rfl : k = list.length := by omega
        have hh := HN.out
        rw [List.take_length, hx] at hh
        exact absurd hh (by simp)
  by_cases hlen : list.length = n.sectors.length
  case neg =>
    have HE := Lib.hid (setR_state hv hx hlen)
    have hn1 : ((list.length : Int) == (n.sectors.length : Int)) = false := by simp; omega
    have hn2 : ¬ ((list.length : Int) = (n.sectors.length : Int)) := by omega
    have BB0_ : Below w.heap.size w ((w.alloc (.cells #[.slice A0 n.sites.length C0, .slice A1 n.sectors.length C1, .slice A2 n.antennas.length C2, .slice A3 n.radios.length C3] 35)).alloc (.cells #[.slice none 0 0, .slice none 0 0, .slice none 0 0, .slice none 0 0] 35)) := Below.alloc (Below.alloc (Below.refl _ _) (by first | exact Nat.le_refl _ | (simp; done) | (simp; omega)) _) (by first | exact Nat.le_refl _ | (simp; done) | (simp; omega)) _
    have zz0 : w.heap.size + 2 ≤ ((w.alloc (.cells #[.slice A0 n.sites.length C0, .slice A1 n.sectors.length C1, .slice A2 n.antennas.length C2, .slice A3 n.radios.length C3] 35)).alloc (.cells #[.slice none 0 0, .slice none 0 0, .slice none 0 0, .slice none 0 0] 35)).heap.size := by simp
    have k_N : ((w.alloc (.cells #[.slice A0 n.sites.length C0, .slice A1 n.sectors.length C1, .slice A2 n.antennas.length C2, .slice A3 n.radios.length C3] 35)).alloc (.cells #[.slice none 0 0, .slice none 0 0, .slice none 0 0, .slice none 0 0] 35)).heap[w.heap.size]? = some (.cells #[.slice A0 n.sites.length C0, .slice A1 n.sectors.length C1, .slice A2 n.antennas.length C2, .slice A3 n.radios.length C3] 35 (0, 0)) := by
      have h := blkN w #[.slice A0 n.sites.length C0, .slice A1 n.sectors.length C1, .slice A2 n.antennas.length C2, .slice A3 n.radios.length C3] 35
      replace h := blkA h (by first | (simp; done) | (simp; omega)) (.cells #[.slice none 0 0, .slice none 0 0, .slice none 0 0, .slice none 0 0] 35)
      exact h
    have KN_0 := Lib.hid k_N
    have k_R : ((w.alloc (.cells #[.slice A0 n.sites.length C0, .slice A1 n.sectors.length C1, .slice A2 n.antennas.length C2, .slice A3 n.radios.length C3] 35)).alloc (.cells #[.slice none 0 0, .slice none 0 0, .slice none 0 0, .slice none 0 0] 35)).heap[w.heap.size + 1]? = some (.cells #[.slice none 0 0, .slice none 0 0, .slice none 0 0, .slice none 0 0] 35 (0, 0)) := by
      have h := blkN (w.alloc (.cells #[.slice A0 n.sites.length C0, .slice A1 n.sectors.length C1, .slice A2 n.antennas.length C2, .slice A3 n.radios.length C3] 35)) #[.slice none 0 0, .slice none 0 0, .slice none 0 0, .slice none 0 0] 35
      rw [show (w.alloc (.cells #[.slice A0 n.sites.length C0, .slice A1 n.sectors.length C1, .slice A2 n.antennas.length C2, .slice A3 n.radios.length C3] 35)).heap.size = w.heap.size + 1 by simp] at h
      exact h
    have KR_0 := Lib.hid k_R
    clear k_N k_R
    have BB_0 := Lib.hid BB0_
    clear BB0_
    go_enter Tryz.func10, Tryz.ntmps10
    go_upto_region 1 with (fail)
    generalize ((w.alloc (.cells #[.slice A0 n.sites.length C0, .slice A1 n.sectors.length C1, .slice A2 n.antennas.length C2, .slice A3 n.radios.length C3] 35)).alloc (.cells #[.slice none 0 0, .slice none 0 0, .slice none 0 0, .slice none 0 0] 35)) = W0 at *
    have fN0 := blkC (v := .slice A0 n.sites.length C0) KN_0.out 0 rfl
    have fN1 := blkC (v := .slice A1 n.sectors.length C1) KN_0.out 1 rfl
    have fN2 := blkC (v := .slice A2 n.antennas.length C2) KN_0.out 2 rfl
    have fN3 := blkC (v := .slice A3 n.radios.length C3) KN_0.out 3 rfl
    have fR0 := blkC (v := .slice none 0 0) KR_0.out 0 rfl
    have fR1 := blkC (v := .slice none 0 0) KR_0.out 1 rfl
    have fR2 := blkC (v := .slice none 0 0) KR_0.out 2 rfl
    have fR3 := blkC (v := .slice none 0 0) KR_0.out 3 rfl
    go_wp2_with fail
    refine (l14Ok_any n _ _ _ _ w.heap.size _ ((R0.out.below BB_0.out).mono (by have := BB_0.out.size; omega)) ((R1.out.below BB_0.out).mono (by have := BB_0.out.size; omega)) ((R2.out.below BB_0.out).mono (by have := BB_0.out.size; omega)) ((R3.out.below BB_0.out).mono (by have := BB_0.out.size; omega)) (by omega) (blkC KN_0.out 0 rfl) (blkC KN_0.out 1 rfl) (blkC KN_0.out 2 rfl) (blkC KN_0.out 3 rfl) (by omega) hk_n).mono ?_
    rintro e X1 ⟨rfl, hb⟩
    clear fN0 fN1 fN2 fN3 fR0 fR1 fR2 fR3
    have KN_1 := Lib.hid (blkB KN_0.out hb (by omega))
    have KR_1 := Lib.hid (blkB KR_0.out hb (by omega))
    have BB_1 := Lib.hid (BB_0.out.trans (hb.mono (by omega)))
    have zz1 : W0.heap.size ≤ X1.heap.size := hb.size
    clear KN_0 KR_0 BB_0 hb
    rw [hv]
    go_wp2
    go_loop [6] (fun i => ∃ (k : Nat), k ≤ list.length ∧ i = .int .i64 k ∧ ((list.take k).all fun n => inB n (-1) 999) = true) (fun i => list.length - (intOf i).toNat)
    case atStart => exact ⟨0, Nat.zero_le _, rfl, by simp⟩
    case round =>
      obtain ⟨k, hk, rfl, hno⟩ := hrel
      have HN := Lib.hid hno
      clear hno
      by_cases hlt : k < list.length
      · have hkl : k < list.length := by omega
        obtain ⟨al_, cl_, e_, -, -, hlc⟩ := (RL.out.below BB_1.out).ints
        injection e_ with e1_ e2_ e3_
        clear e2_
        subst e1_ e3_
        obtain ⟨lb, lo, ea, hlb, hat⟩ := hlc (by omega)
        subst ea
        have sl := hat k (by omega)
        clear hlc hat
        have i1 : (0 : Int) ≤ (k : Int) := by omega
        have i2 : (k : Int) < (list.length : Int) := by omega
        have hp : inB list[k] (-1) 999 = true := List.all_eq_true.1 hx _ (List.getElem_mem hkl)
        go_wp2_with fail
        refine (l00In_any _ _ _ _).mono ?_
        rintro e _ ⟨rfl, rfl⟩
        rw [hp]
        go_wp2
        go_round
        case rel => exact ⟨k + 1, by omega, by go_num, by rw [all_take_succ _ list k hkl, HN.out]; exact hp⟩
        case measure => simp [intOf]; omega
      · obtain rfl : k = list.length := by omega
        have fN0 := blkC (v := .slice A0 n.sites.length C0) KN_1.out 0 rfl
        have fN1 := blkC (v := .slice A1 n.sectors.length C1) KN_1.out 1 rfl
        have fN2 := blkC (v := .slice A2 n.antennas.length C2) KN_1.out 2 rfl
        have fN3 := blkC (v := .slice A3 n.radios.length C3) KN_1.out 3 rfl
        have fR0 := blkC (v := .slice none 0 0) KR_1.out 0 rfl
        have fR1 := blkC (v := .slice none 0 0) KR_1.out 1 rfl
        have fR2 := blkC (v := .slice none 0 0) KR_1.out 2 rfl
        have fR3 := blkC (v := .slice none 0 0) KR_1.out 3 rfl
        have zR := blkF KR_1.out
        go_wp2
        have BF := Lib.hid (((((BB_1.out).setCell (p := ⟨w.heap.size + 1, 0, none⟩) (by show w.heap.size ≤ w.heap.size + 1; omega) (.slice none 0 0)).setCell (p := ⟨w.heap.size + 1, 1, none⟩) (by show w.heap.size ≤ w.heap.size + 1; omega) (.slice none 0 0)).setCell (p := ⟨w.heap.size + 1, 2, none⟩) (by show w.heap.size ≤ w.heap.size + 1; omega) (.slice none 0 0)).setCell (p := ⟨w.heap.size + 1, 3, none⟩) (by show w.heap.size ≤ w.heap.size + 1; omega) (.slice none 0 0))
        refine bodyPost_ret (v := .tuple #[.agg #[.slice none 0 0, .slice none 0 0, .slice none 0 0, .slice none 0 0], .int .i64 6]) (by simp [results, Tryz.results10, go_sem, *]) rfl ?_
        rw [HE.out]
        first | exact ⟨none, 0, none, 0, none, 0, none, 0, [], rfl, BF.out, ownV_zero _, In.nil⟩ | exact ⟨none, 0, none, 0, none, 0, none, 0, rfl, BF.out, [], ownV_zero _, In.nil⟩
  have HE := Lib.hid (setR_ok hv hx hlen)
  have hsl : n.sectors.length ≤ 1048576 := by omega
  have hsi : (n.sectors.length : Int) ≤ 1048576 := by omega
  replace RL : Hid (Rd w.heap.size w (intsT list) (.slice AL n.sectors.length CL)) := by have h := RL.out; rw [hlen] at h; exact h
  rw [hlen]
  have HL := Lib.hid hlen
  clear hlen
  have BB0_ : Below w.heap.size w ((w.alloc (.cells #[.slice A0 n.sites.length C0, .slice A1 n.sectors.length C1, .slice A2 n.antennas.length C2, .slice A3 n.radios.length C3] 35)).alloc (.cells #[.slice none 0 0, .slice none 0 0, .slice none 0 0, .slice none 0 0] 35)) := Below.alloc (Below.alloc (Below.refl _ _) (by first | exact Nat.le_refl _ | (simp; done) | (simp; omega)) _) (by first | exact Nat.le_refl _ | (simp; done) | (simp; omega)) _
  have zz0 : w.heap.size + 2 ≤ ((w.alloc (.cells #[.slice A0 n.sites.length C0, .slice A1 n.sectors.length C1, .slice A2 n.antennas.length C2, .slice A3 n.radios.length C3] 35)).alloc (.cells #[.slice none 0 0, .slice none 0 0, .slice none 0 0, .slice none 0 0] 35)).heap.size := by simp
  have k_N : ((w.alloc (.cells #[.slice A0 n.sites.length C0, .slice A1 n.sectors.length C1, .slice A2 n.antennas.length C2, .slice A3 n.radios.length C3] 35)).alloc (.cells #[.slice none 0 0, .slice none 0 0, .slice none 0 0, .slice none 0 0] 35)).heap[w.heap.size]? = some (.cells #[.slice A0 n.sites.length C0, .slice A1 n.sectors.length C1, .slice A2 n.antennas.length C2, .slice A3 n.radios.length C3] 35 (0, 0)) := by
    have h := blkN w #[.slice A0 n.sites.length C0, .slice A1 n.sectors.length C1, .slice A2 n.antennas.length C2, .slice A3 n.radios.length C3] 35
    replace h := blkA h (by first | (simp; done) | (simp; omega)) (.cells #[.slice none 0 0, .slice none 0 0, .slice none 0 0, .slice none 0 0] 35)
    exact h
  have KN_0 := Lib.hid k_N
  have k_R : ((w.alloc (.cells #[.slice A0 n.sites.length C0, .slice A1 n.sectors.length C1, .slice A2 n.antennas.length C2, .slice A3 n.radios.length C3] 35)).alloc (.cells #[.slice none 0 0, .slice none 0 0, .slice none 0 0, .slice none 0 0] 35)).heap[w.heap.size + 1]? = some (.cells #[.slice none 0 0, .slice none 0 0, .slice none 0 0, .slice none 0 0] 35 (0, 0)) := by
    have h := blkN (w.alloc (.cells #[.slice A0 n.sites.length C0, .slice A1 n.sectors.length C1, .slice A2 n.antennas.length C2, .slice A3 n.radios.length C3] 35)) #[.slice none 0 0, .slice none 0 0, .slice none 0 0, .slice none 0 0] 35
    rw [show (w.alloc (.cells #[.slice A0 n.sites.length C0, .slice A1 n.sectors.length C1, .slice A2 n.antennas.length C2, .slice A3 n.radios.length C3] 35)).heap.size = w.heap.size + 1 by simp] at h
    exact h
  have KR_0 := Lib.hid k_R
  clear k_N k_R
  have BB_0 := Lib.hid BB0_
  clear BB0_
  go_enter Tryz.func10, Tryz.ntmps10
  go_upto_region 1 with (fail)
  generalize ((w.alloc (.cells #[.slice A0 n.sites.length C0, .slice A1 n.sectors.length C1, .slice A2 n.antennas.length C2, .slice A3 n.radios.length C3] 35)).alloc (.cells #[.slice none 0 0, .slice none 0 0, .slice none 0 0, .slice none 0 0] 35)) = W0 at *
  have fN0 := blkC (v := .slice A0 n.sites.length C0) KN_0.out 0 rfl
  have fN1 := blkC (v := .slice A1 n.sectors.length C1) KN_0.out 1 rfl
  have fN2 := blkC (v := .slice A2 n.antennas.length C2) KN_0.out 2 rfl
  have fN3 := blkC (v := .slice A3 n.radios.length C3) KN_0.out 3 rfl
  have fR0 := blkC (v := .slice none 0 0) KR_0.out 0 rfl
  have fR1 := blkC (v := .slice none 0 0) KR_0.out 1 rfl
  have fR2 := blkC (v := .slice none 0 0) KR_0.out 2 rfl
  have fR3 := blkC (v := .slice none 0 0) KR_0.out 3 rfl
  go_wp2_with fail
  refine (l14Ok_any n _ _ _ _ w.heap.size _ ((R0.out.below BB_0.out).mono (by have := BB_0.out.size; omega)) ((R1.out.below BB_0.out).mono (by have := BB_0.out.size; omega)) ((R2.out.below BB_0.out).mono (by have := BB_0.out.size; omega)) ((R3.out.below BB_0.out).mono (by have := BB_0.out.size; omega)) (by omega) (blkC KN_0.out 0 rfl) (blkC KN_0.out 1 rfl) (blkC KN_0.out 2 rfl) (blkC KN_0.out 3 rfl) (by omega) hk_n).mono ?_
  rintro e X1 ⟨rfl, hb⟩
  clear fN0 fN1 fN2 fN3 fR0 fR1 fR2 fR3
  have KN_1 := Lib.hid (blkB KN_0.out hb (by omega))
  have KR_1 := Lib.hid (blkB KR_0.out hb (by omega))
  have BB_1 := Lib.hid (BB_0.out.trans (hb.mono (by omega)))
  have zz1 : W0.heap.size ≤ X1.heap.size := hb.size
  clear KN_0 KR_0 BB_0 hb
  rw [hv]
  go_wp2
  go_loop [6] (fun i => ∃ (k : Nat), k ≤ n.sectors.length ∧ i = .int .i64 k ∧ ((list.take k).all fun n => inB n (-1) 999) = true) (fun i => n.sectors.length - (intOf i).toNat)
  case atStart => exact ⟨0, Nat.zero_le _, rfl, by simp⟩
  case round =>
    obtain ⟨k, hk, rfl, hno⟩ := hrel
    have HN := Lib.hid hno
    clear hno
    by_cases hlt : k < n.sectors.length
    · have hkl : k < list.length := by have := HL.out; omega
      obtain ⟨al_, cl_, e_, -, -, hlc⟩ := (RL.out.below BB_1.out).ints
      injection e_ with e1_ e2_ e3_
      clear e2_
      subst e1_ e3_
      obtain ⟨lb, lo, ea, hlb, hat⟩ := hlc (by have := HL.out; omega)
      subst ea
      have sl := hat k (by have := HL.out; omega)
      clear hlc hat
      have i1 : (0 : Int) ≤ (k : Int) := by omega
      have i2 : (k : Int) < (n.sectors.length : Int) := by omega
      have hp : inB list[k] (-1) 999 = true := List.all_eq_true.1 hx _ (List.getElem_mem hkl)
      go_wp2_with fail
      refine (l00In_any _ _ _ _).mono ?_
      rintro e _ ⟨rfl, rfl⟩
      rw [hp]
      go_wp2
      go_round
      case rel => exact ⟨k + 1, by omega, by go_num, by rw [all_take_succ _ list k hkl, HN.out]; exact hp⟩
      case measure => simp [intOf]; omega
    · obtain rfl : k = n.sectors.length := by omega
      have fN0 := blkC (v := .slice A0 n.sites.length C0) KN_1.out 0 rfl
      have fN1 := blkC (v := .slice A1 n.sectors.length C1) KN_1.out 1 rfl
      have fN2 := blkC (v := .slice A2 n.antennas.length C2) KN_1.out 2 rfl
      have fN3 := blkC (v := .slice A3 n.radios.length C3) KN_1.out 3 rfl
      have fR0 := blkC (v := .slice none 0 0) KR_1.out 0 rfl
      have fR1 := blkC (v := .slice none 0 0) KR_1.out 1 rfl
      have fR2 := blkC (v := .slice none 0 0) KR_1.out 2 rfl
      have fR3 := blkC (v := .slice none 0 0) KR_1.out 3 rfl
      go_wp2_with fail
      refine (l14Own_any n _ _ _ _ w.heap.size _ ((R0.out.below BB_1.out).mono (by have := BB_1.out.size; omega)) ((R1.out.below BB_1.out).mono (by have := BB_1.out.size; omega)) ((R2.out.below BB_1.out).mono (by have := BB_1.out.size; omega)) ((R3.out.below BB_1.out).mono (by have := BB_1.out.size; omega)) (by omega) (blkC KN_1.out 0 rfl) (blkC KN_1.out 1 rfl) (blkC KN_1.out 2 rfl) (blkC KN_1.out 3 rfl) hs_n).mono ?_
      rintro e X2 ⟨a0, c0, a1, c1, a2, c2, a3, c3, fp, rfl, hb, ov, iv_⟩
      clear fN0 fN1 fN2 fN3 fR0 fR1 fR2 fR3
      have KN_2 := Lib.hid (blkB KN_1.out hb (by omega))
      have KR_2 := Lib.hid (blkB KR_1.out hb (by omega))
      have BB_2 := Lib.hid (BB_1.out.trans (hb.mono (by omega)))
      have zz2 : X1.heap.size ≤ X2.heap.size := hb.size
      clear KN_1 KR_1 BB_1 hb
      obtain ⟨f0, f1, f2, f3, fpm, O0, O1, O2, O3, d0, d1, d2⟩ := netSplit ov
      have iv : In (w.heap.size + 2) X2.heap.size fp := iv_.mono (by omega) (Nat.le_refl _)
      clear ov iv_
      have fN0 := blkC (v := .slice A0 n.sites.length C0) KN_2.out 0 rfl
      have fN1 := blkC (v := .slice A1 n.sectors.length C1) KN_2.out 1 rfl
      have fN2 := blkC (v := .slice A2 n.antennas.length C2) KN_2.out 2 rfl
      have fN3 := blkC (v := .slice A3 n.radios.length C3) KN_2.out 3 rfl
      have fR0 := blkC (v := .slice none 0 0) KR_2.out 0 rfl
      have fR1 := blkC (v := .slice none 0 0) KR_2.out 1 rfl
      have fR2 := blkC (v := .slice none 0 0) KR_2.out 2 rfl
      have fR3 := blkC (v := .slice none 0 0) KR_2.out 3 rfl
      go_upto_region 11 with (fail)
      clear fN0 fN1 fN2 fN3 fR0 fR1 fR2 fR3
      have hbA : Below X2.heap.size X2 (X2.alloc (.cells #[.slice a0 n.sites.length c0, .slice a1 n.sectors.length c1, .slice a2 n.antennas.length c2, .slice a3 n.radios.length c3] 35)) := (Below.refl _ _).alloc (Nat.le_refl _) _
      have kL := blkN X2 #[.slice a0 n.sites.length c0, .slice a1 n.sectors.length c1, .slice a2 n.antennas.length c2, .slice a3 n.radios.length c3] 35
      have zL : X2.heap.size + 1 ≤ (X2.alloc (.cells #[.slice a0 n.sites.length c0, .slice a1 n.sectors.length c1, .slice a2 n.antennas.length c2, .slice a3 n.radios.length c3] 35)).heap.size := by simp
      have P0 := Lib.hid (O0.below (lo := w.heap.size + 2) (hi := X2.heap.size) (fun y hy => iv y ((fpm y).2 (by simp [hy]))) (Nat.le_refl _) hbA)
      have P1 := Lib.hid (O1.below (lo := w.heap.size + 2) (hi := X2.heap.size) (fun y hy => iv y ((fpm y).2 (by simp [hy]))) (Nat.le_refl _) hbA)
      have P2 := Lib.hid (O2.below (lo := w.heap.size + 2) (hi := X2.heap.size) (fun y hy => iv y ((fpm y).2 (by simp [hy]))) (Nat.le_refl _) hbA)
      have P3 := Lib.hid (O3.below (lo := w.heap.size + 2) (hi := X2.heap.size) (fun y hy => iv y ((fpm y).2 (by simp [hy]))) (Nat.le_refl _) hbA)
      clear O0 O1 O2 O3
      generalize (X2.alloc (.cells #[.slice a0 n.sites.length c0, .slice a1 n.sectors.length c1, .slice a2 n.antennas.length c2, .slice a3 n.radios.length c3] 35)) = Y at *
      have KL_3 := Lib.hid kL
      clear kL
      have KN_3 := Lib.hid (blkB KN_2.out hbA (by omega))
      have KR_3 := Lib.hid (blkB KR_2.out hbA (by omega))
      have BB_3 := Lib.hid (BB_2.out.trans (hbA.mono (by omega)))
      have zz3 : X2.heap.size ≤ Y.heap.size := hbA.size
      clear KN_2 KR_2 BB_2 hbA
      have FP : Hid (∀ y, y ∈ f1 → w.heap.size + 2 ≤ y ∧ y < X2.heap.size) := fun y hy => iv y ((fpm y).2 (by simp [hy]))
      go_wp2
      go_loopw [8] (fun i wr => ∃ (k : Nat), k ≤ n.sectors.length ∧ i = .int .i64 k ∧ Own wr (DSector.sT (chN n.sectors list k)) (.slice a1 n.sectors.length c1) f1 ∧ Chg f1 Y wr) (fun i wr => n.sectors.length - (intOf i).toNat)
      case atStart => exact ⟨0, Nat.zero_le _, rfl, P1.out, Chg.refl _ _⟩
      case round =>
        obtain ⟨k, hk, rfl, hO, hch⟩ := hrel
        have HO := Lib.hid hO
        have HCH := Lib.hid hch
        have zr : Y.heap.size ≤ wr.heap.size := hch.size
        clear hO hch
        have bWr : Below w.heap.size Y wr := HCH.out.below (by omega) (fun y hy => by have := (FP.out y hy).1; omega)
        have BWr := Lib.hid (BB_3.out.trans bWr)
        clear bWr
        have kLr := (HCH.out.block X2.heap.size (by omega) (fun e => by have := (FP.out _ e).2; omega)).trans KL_3.out
        have KLr := Lib.hid kLr
        clear kLr
        by_cases hlt : k < n.sectors.length
        · obtain ⟨al_, cl_, e_, -, -, hlc⟩ := (RL.out.below BWr.out).ints
          injection e_ with e1_ e2_ e3_
          clear e2_
          subst e1_ e3_
          obtain ⟨lb, lo, ea, hlb, hat⟩ := hlc (by have := HL.out; omega)
          subst ea
          have sl := hat k (by have := HL.out; omega)
          clear hlc hat
          have hkc : k < (chN n.sectors list k).length := by rw [chN_length]; exact hlt
          obtain ⟨b, off, ea, hbf, ⟨vc, s8⟩, sz, hset⟩ := HO.out.chan (chN_length _ _ _) hkc
          subst ea
          have hkl : k < list.length := by have := HL.out; omega
          have HS := Lib.hid (hset list[k])
          clear hset
          have i1 : (0 : Int) ≤ (k : Int) := by omega
          have i2 : (k : Int) < (n.sectors.length : Int) := by omega
          have fL1 := blkC (v := .slice (some ⟨b, off, none⟩) n.sectors.length c1) KLr.out 1 rfl
          go_wp2
          refine wp_region_ord 7 [(0, true), (1, true), (2, true), (3, true), (4, true), (5, true), (6, true)] (fun W => W.cell? ⟨X2.heap.size, 1, none⟩ = some (.slice (some ⟨b, off, none⟩) n.sectors.length c1) ∧ W.cell? ⟨lb, lo + k, none⟩ = some (.int .i64 list[k])) (by kernel_rfl) (by kernel_rfl) ⟨fL1, sl⟩ (fun hHeld => ?_)
          refine wpOrd_read (v := ?_) rfl (fun _ _ _ h => h) ?_ ?_
          rotate_left
          · (intro W hSW; (try dsimp only at hSW); (go_simp <;> with_reducible rfl))
          (try simp only [Act.put, List.setIfInBounds_toArray, List.set_cons_zero, List.set_cons_succ])
          refine wpOrd_read (v := ?_) rfl (fun _ _ _ h => h) ?_ ?_
          rotate_left
          · (intro W hSW; (try dsimp only at hSW); (go_simp <;> with_reducible rfl))
          (try simp only [Act.put, List.setIfInBounds_toArray, List.set_cons_zero, List.set_cons_succ])
          refine wpOrd_read (v := ?_) rfl (fun _ _ _ h => h) ?_ ?_
          rotate_left
          · (intro W hSW; (try dsimp only at hSW); (go_simp <;> with_reducible rfl))
          (try simp only [Act.put, List.setIfInBounds_toArray, List.set_cons_zero, List.set_cons_succ])
          refine wpOrd_read (v := ?_) rfl (fun _ _ _ h => h) ?_ ?_
          rotate_left
          · (intro W hSW; (try dsimp only at hSW); (go_simp <;> with_reducible rfl))
          (try simp only [Act.put, List.setIfInBounds_toArray, List.set_cons_zero, List.set_cons_succ])
          refine wpOrd_read (v := ?_) rfl (fun _ _ _ h => h) ?_ ?_
          rotate_left
          · (intro W hSW; (try dsimp only at hSW); (go_simp <;> with_reducible rfl))
          (try simp only [Act.put, List.setIfInBounds_toArray, List.set_cons_zero, List.set_cons_succ])
          refine wpOrd_read (v := ?_) rfl (fun _ _ _ h => h) ?_ ?_
          rotate_left
          · (intro W hSW; (try dsimp only at hSW); (go_simp <;> with_reducible rfl))
          (try simp only [Act.put, List.setIfInBounds_toArray, List.set_cons_zero, List.set_cons_succ])
          refine wpOrd_read (v := ?_) rfl (fun _ _ _ h => h) ?_ ?_
          rotate_left
          · (intro W hSW; (try dsimp only at hSW); (go_simp <;> with_reducible rfl))
          (try simp only [Act.put, List.setIfInBounds_toArray, List.set_cons_zero, List.set_cons_succ])
          refine wpOrd_nil ?_
          simp only [List.drop_succ_cons, List.drop_zero]
          have s8d : wr.drew.cell? ⟨b, off + k * 9 + 8, none⟩ = some (.int .i64 vc) := s8
          have szd : ∀ i, wr.drew.frozen? ⟨b, i, none⟩ = false := sz
          go_wp2
          go_roundw
          case rel =>
            refine ⟨k + 1, by omega, by go_num, ?_, ?_⟩
            · rw [chN_succ n.sectors list k hkc (by have := HL.out; omega)]
              exact HS.out.below (lo := w.heap.size + 2) (hi := X2.heap.size) (fun y hy => FP.out y hy) (by first | omega | (simp only [size_setCell]; omega)) (Below.refl _ _).drew
            · exact (HCH.out.setCell (p := ⟨b, off + k * 9 + 8, none⟩) hbf (.int .i64 list[k])).trans (Chg.of_below (Below.refl _ _).drew)
          case measure => simp [intOf]; omega
        · obtain rfl : k = n.sectors.length := by omega
          have o0 := P0.out.chg (lo := w.heap.size + 2) (hi := X2.heap.size) (fun y hy => iv y ((fpm y).2 (by simp [hy]))) (by omega) HCH.out (fun y hy => (d0 y hy).1)
          have o2 := P2.out.chg (lo := w.heap.size + 2) (hi := X2.heap.size) (fun y hy => iv y ((fpm y).2 (by simp [hy]))) (by omega) HCH.out (fun y hy h => (d1 y h).1 hy)
          have o3 := P3.out.chg (lo := w.heap.size + 2) (hi := X2.heap.size) (fun y hy => iv y ((fpm y).2 (by simp [hy]))) (by omega) HCH.out (fun y hy h => (d1 y h).2 hy)
          have ov := netJoin (n := { n with sectors := chN n.sectors list n.sectors.length }) o0 HO.out o2 o3 d0 d1 d2
          have ivf : In (w.heap.size + 2) wr.heap.size (f0 ++ (f1 ++ (f2 ++ (f3 ++ [])))) := fun y hy => by
            have h := iv y ((fpm y).2 (by simpa using hy))
            omega
          have BF := Lib.hid (((((BWr.out).setCell (p := ⟨w.heap.size + 1, 0, none⟩) (by show w.heap.size ≤ w.heap.size + 1; omega) (.slice a0 n.sites.length c0)).setCell (p := ⟨w.heap.size + 1, 1, none⟩) (by show w.heap.size ≤ w.heap.size + 1; omega) (.slice a1 n.sectors.length c1)).setCell (p := ⟨w.heap.size + 1, 2, none⟩) (by show w.heap.size ≤ w.heap.size + 1; omega) (.slice a2 n.antennas.length c2)).setCell (p := ⟨w.heap.size + 1, 3, none⟩) (by show w.heap.size ≤ w.heap.size + 1; omega) (.slice a3 n.radios.length c3))
          have OF := Lib.hid (((((ov).setFar (p := ⟨w.heap.size + 1, 0, none⟩) (fun e => by have := (ivf _ e).1; simp only at this; omega) (.slice a0 n.sites.length c0)).setFar (p := ⟨w.heap.size + 1, 1, none⟩) (fun e => by have := (ivf _ e).1; simp only at this; omega) (.slice a1 n.sectors.length c1)).setFar (p := ⟨w.heap.size + 1, 2, none⟩) (fun e => by have := (ivf _ e).1; simp only at this; omega) (.slice a2 n.antennas.length c2)).setFar (p := ⟨w.heap.size + 1, 3, none⟩) (fun e => by have := (ivf _ e).1; simp only at this; omega) (.slice a3 n.radios.length c3))
          have IVF := Lib.hid ivf
          have KRr := Lib.hid ((HCH.out.block (w.heap.size + 1) (by omega) (fun e => by have := (FP.out _ e).1; omega)).trans KR_3.out)
          clear o0 o2 o3 ov ivf d0 d1 d2 fpm iv P0 P1 P2 P3 HO HCH
          have fL0 := blkC (v := .slice a0 n.sites.length c0) KLr.out 0 rfl
          have fL1 := blkC (v := .slice a1 n.sectors.length c1) KLr.out 1 rfl
          have fL2 := blkC (v := .slice a2 n.antennas.length c2) KLr.out 2 rfl
          have fL3 := blkC (v := .slice a3 n.radios.length c3) KLr.out 3 rfl
          have fR0 := blkC (v := .slice none 0 0) KRr.out 0 rfl
          have fR1 := blkC (v := .slice none 0 0) KRr.out 1 rfl
          have fR2 := blkC (v := .slice none 0 0) KRr.out 2 rfl
          have fR3 := blkC (v := .slice none 0 0) KRr.out 3 rfl
          have zR := blkF KRr.out
          go_wp2
          refine bodyPost_ret (v := .tuple #[.agg #[.slice a0 n.sites.length c0, .slice a1 n.sectors.length c1, .slice a2 n.antennas.length c2, .slice a3 n.radios.length c3], .int .i64 0]) (by simp [results, Tryz.results10, go_sem, *]) rfl ?_
          rw [HE.out]
          simp only [chN_length]
          first | refine ⟨a0, c0, a1, c1, a2, c2, a3, c3, _, rfl, BF.out, OF.out, ?_⟩ | refine ⟨a0, c0, a1, c1, a2, c2, a3, c3, rfl, BF.out, _, OF.out, ?_⟩
          simp only [size_setCell]
          exact IVF.out.mono (by omega) (Nat.le_refl _)
end Go.Proofs.YtppgcgopnchbcaaGreat
