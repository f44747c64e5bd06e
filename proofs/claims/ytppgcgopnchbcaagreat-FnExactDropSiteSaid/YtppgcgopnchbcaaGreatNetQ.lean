/- Contracts: DropSite of the program and of the reference. Conditions: bounded lengths. -/
import Derived.Test.YtppgcgopnchbcaaGreatNetN
import Derived.Test.YtppgcgopnchbcaaGreatApp3
import Derived.Test.YtppgcgopnchbcaaGreatNetAt
import Derived.Deep.DeepCutAuto
import Derived.IntWalk
namespace Go.Proofs.YtppgcgopnchbcaaGreat
open Go.RowKit
set_option linter.unusedVariables false

theorem firstIdx_nonneg2 {α : Type} (p : α → Bool) (l : List α) : decide (0 ≤ firstIdx' p l) = l.any p := by
  rcases firstIdx_cases' p l with ⟨h1, h2⟩ | ⟨i, hi, h1, h2, _⟩
  · rw [h1, h2]; rfl
  · rw [h1, show l.any p = true from List.any_eq_true.2 ⟨_, List.getElem_mem hi, h2⟩]; simp
theorem containsFuncSector_any (l : List DSector) (p : DSector → Bool) (fn : FuncId) (cap : List Value) (v : Value) (B : Nat) (w : World) (h : Rd B w (DSector.sT l) v) (hB : B ≤ w.heap.size) (hn : l.length ≤ 1099511627776)
    (hcf : ∀ (args : Array Value) (W : World), (callFunc fn args).run Tryz.prog W = .ok (.enter fn args) W)
    (hf : ∀ x ∈ l, ∀ W : World, Below w.heap.size w W → Calls Tryz.prog fn (Value.agg #[.string x.name, .string x.site, .string x.antenna, .string x.radio, .string x.band, .int .i64 x.azimuth, .int .i64 x.tilt, .int .i64 x.above, .int .i64 x.channel] :: cap).toArray W fun e W' => e = .returned (.bool (p x)) ∧ Below W.heap.size W W') :
    Calls Tryz.prog 68 #[v, .func (.func fn) #[] cap.toArray] w fun e w' => e = .returned (.bool (l.any p)) ∧ Below w.heap.size w w' := by
  have HC := Lib.hid (indexFuncSector_any l p fn cap v B w h hB hn hcf hf)
  have HE := Lib.hid (firstIdx_nonneg2 p l)
  clear hf h hcf
  generalize l.any p = r at *
  go_enter Tryz.func68, Tryz.ntmps68
  go_wp2_with fail
  refine (HC.out).mono ?_
  rintro e w1 ⟨rfl, hb1⟩
  have he := HE.out
  generalize firstIdx' p l = m at *
  go_wp2
  go_ret
  exact ⟨rfl, hb1⟩
/-- DropSite -/
def dropSiteR (n : DNetwork) (nm : ByteArray) : DNetwork × Int := if netB n = true then (if 0 ≤ idxSite n.sites nm then (if n.sectors.any (atSite nm) = true then (⟨[], [], [], []⟩, 6) else ({ n with sites := n.sites.eraseIdx (idxSite n.sites nm).toNat }, 0)) else (⟨[], [], [], []⟩, 3)) else (⟨[], [], [], []⟩, 1)
section
variable {n : DNetwork} {nm : ByteArray}
theorem dropSiteR_bad (h : netB n = false) : dropSiteR n nm = (⟨[], [], [], []⟩, 1) := by unfold dropSiteR; rw [if_neg (by simp [h])]
theorem dropSiteR_none (h : netB n = true) (hi : idxSite n.sites nm = -1) : dropSiteR n nm = (⟨[], [], [], []⟩, 3) := by unfold dropSiteR; rw [if_pos h, if_neg (by omega)]
theorem dropSiteR_used (h : netB n = true) {k : Nat} (hi : idxSite n.sites nm = (k : Int)) (hu : n.sectors.any (atSite nm) = true) : dropSiteR n nm = (⟨[], [], [], []⟩, 6) := by unfold dropSiteR; rw [if_pos h, if_pos (by omega), if_pos hu]
theorem dropSiteR_ok (h : netB n = true) {k : Nat} (hi : idxSite n.sites nm = (k : Int)) (hu : n.sectors.any (atSite nm) = false) : dropSiteR n nm = ({ n with sites := n.sites.eraseIdx k }, 0) := by unfold dropSiteR; rw [if_pos h, if_pos (by omega), if_neg (by simp [hu]), hi, Int.toNat_natCast]
end
set_option maxHeartbeats 8000000 in
set_option maxRecDepth 100000 in
theorem iDropSite_std (n : DNetwork) (nm : ByteArray) (vn0 vn1 vn2 vn3 : Value) (w : World) (rn0 : Rd w.heap.size w (DSite.sT n.sites) vn0) (rn1 : Rd w.heap.size w (DSector.sT n.sectors) vn1) (rn2 : Rd w.heap.size w (DAntenna.sT n.antennas) vn2) (rn3 : Rd w.heap.size w (DRadio.sT n.radios) vn3) (hs_n : sizL n.tr ≤ 1048576) (hk_n : n.ok) (hs_nm : nm.size ≤ 1048576) :
    Calls Tryz.prog 24 #[.agg #[vn0, vn1, vn2, vn3], .string nm] w (fun e w' => ∃ a0_0 c0_0 a0_1 c0_1 a0_2 c0_2 a0_3 c0_3 fp0, e = .returned (.tuple #[.agg #[.slice a0_0 (dropSiteR n nm).1.sites.length c0_0, .slice a0_1 (dropSiteR n nm).1.sectors.length c0_1, .slice a0_2 (dropSiteR n nm).1.antennas.length c0_2, .slice a0_3 (dropSiteR n nm).1.radios.length c0_3], .int .i64 (dropSiteR n nm).2]) ∧ Below w.heap.size w w' ∧ OwnV w' (dropSiteR n nm).1.tr [.slice a0_0 (dropSiteR n nm).1.sites.length c0_0, .slice a0_1 (dropSiteR n nm).1.sectors.length c0_1, .slice a0_2 (dropSiteR n nm).1.antennas.length c0_2, .slice a0_3 (dropSiteR n nm).1.radios.length c0_3] fp0 ∧ In w.heap.size w'.heap.size fp0) := by
  have hq := DNetwork.siz_tr n
  rw [DSite.siz_s, DSector.siz_s, DAntenna.siz_s, DRadio.siz_s] at hq
  obtain ⟨A0, C0, e0, -, -, -⟩ := DSite.rd rn0
  obtain ⟨A1, C1, e1, -, -, -⟩ := DSector.rd rn1
  obtain ⟨A2, C2, e2, -, -, -⟩ := DAntenna.rd rn2
  obtain ⟨A3, C3, e3, -, -, -⟩ := DRadio.rd rn3
  subst e0 e1 e2 e3
  have R0 := Lib.hid rn0
  have R1 := Lib.hid rn1
  have R2 := Lib.hid rn2
  have R3 := Lib.hid rn3
  clear rn0 rn1 rn2 rn3
  by_cases hv : netB n = true
  case neg =>
    replace hv : netB n = false := Bool.eq_false_iff.2 hv
    have HE := Lib.hid (dropSiteR_bad (nm := nm) hv)
    have BB0_ : Below w.heap.size w (((w.alloc (.cells #[.slice A0 n.sites.length C0, .slice A1 n.sectors.length C1, .slice A2 n.antennas.length C2, .slice A3 n.radios.length C3] 35)).alloc (.cells #[.string nm] 9)).alloc (.cells #[.slice none 0 0, .slice none 0 0, .slice none 0 0, .slice none 0 0] 35)) := Below.alloc (Below.alloc (Below.alloc (Below.refl _ _) (by first | exact Nat.le_refl _ | (simp; done) | (simp; omega)) _) (by first | exact Nat.le_refl _ | (simp; done) | (simp; omega)) _) (by first | exact Nat.le_refl _ | (simp; done) | (simp; omega)) _
    have zz0 : w.heap.size + 3 ≤ (((w.alloc (.cells #[.slice A0 n.sites.length C0, .slice A1 n.sectors.length C1, .slice A2 n.antennas.length C2, .slice A3 n.radios.length C3] 35)).alloc (.cells #[.string nm] 9)).alloc (.cells #[.slice none 0 0, .slice none 0 0, .slice none 0 0, .slice none 0 0] 35)).heap.size := by simp
    have k_N : (((w.alloc (.cells #[.slice A0 n.sites.length C0, .slice A1 n.sectors.length C1, .slice A2 n.antennas.length C2, .slice A3 n.radios.length C3] 35)).alloc (.cells #[.string nm] 9)).alloc (.cells #[.slice none 0 0, .slice none 0 0, .slice none 0 0, .slice none 0 0] 35)).heap[w.heap.size]? = some (.cells #[.slice A0 n.sites.length C0, .slice A1 n.sectors.length C1, .slice A2 n.antennas.length C2, .slice A3 n.radios.length C3] 35 (0, 0)) := by
      have h := blkN w #[.slice A0 n.sites.length C0, .slice A1 n.sectors.length C1, .slice A2 n.antennas.length C2, .slice A3 n.radios.length C3] 35
      replace h := blkA h (by first | (simp; done) | (simp; omega)) (.cells #[.string nm] 9)
      replace h := blkA h (by first | (simp; done) | (simp; omega)) (.cells #[.slice none 0 0, .slice none 0 0, .slice none 0 0, .slice none 0 0] 35)
      exact h
    have KN_0 := Lib.hid k_N
    have k_S : (((w.alloc (.cells #[.slice A0 n.sites.length C0, .slice A1 n.sectors.length C1, .slice A2 n.antennas.length C2, .slice A3 n.radios.length C3] 35)).alloc (.cells #[.string nm] 9)).alloc (.cells #[.slice none 0 0, .slice none 0 0, .slice none 0 0, .slice none 0 0] 35)).heap[w.heap.size + 1]? = some (.cells #[.string nm] 9 (0, 0)) := by
      have h := blkN (w.alloc (.cells #[.slice A0 n.sites.length C0, .slice A1 n.sectors.length C1, .slice A2 n.antennas.length C2, .slice A3 n.radios.length C3] 35)) #[.string nm] 9
      rw [show (w.alloc (.cells #[.slice A0 n.sites.length C0, .slice A1 n.sectors.length C1, .slice A2 n.antennas.length C2, .slice A3 n.radios.length C3] 35)).heap.size = w.heap.size + 1 by simp] at h
      replace h := blkA h (by first | (simp; done) | (simp; omega)) (.cells #[.slice none 0 0, .slice none 0 0, .slice none 0 0, .slice none 0 0] 35)
      exact h
    have KS_0 := Lib.hid k_S
    have k_R : (((w.alloc (.cells #[.slice A0 n.sites.length C0, .slice A1 n.sectors.length C1, .slice A2 n.antennas.length C2, .slice A3 n.radios.length C3] 35)).alloc (.cells #[.string nm] 9)).alloc (.cells #[.slice none 0 0, .slice none 0 0, .slice none 0 0, .slice none 0 0] 35)).heap[w.heap.size + 2]? = some (.cells #[.slice none 0 0, .slice none 0 0, .slice none 0 0, .slice none 0 0] 35 (0, 0)) := by
      have h := blkN ((w.alloc (.cells #[.slice A0 n.sites.length C0, .slice A1 n.sectors.length C1, .slice A2 n.antennas.length C2, .slice A3 n.radios.length C3] 35)).alloc (.cells #[.string nm] 9)) #[.slice none 0 0, .slice none 0 0, .slice none 0 0, .slice none 0 0] 35
      rw [show ((w.alloc (.cells #[.slice A0 n.sites.length C0, .slice A1 n.sectors.length C1, .slice A2 n.antennas.length C2, .slice A3 n.radios.length C3] 35)).alloc (.cells #[.string nm] 9)).heap.size = w.heap.size + 2 by simp] at h
      exact h
    have KR_0 := Lib.hid k_R
    clear k_N k_S k_R
    have BB_0 := Lib.hid BB0_
    clear BB0_
    go_enter Tryz.func24, Tryz.ntmps24
    go_upto_region 1 with (fail)
    generalize (((w.alloc (.cells #[.slice A0 n.sites.length C0, .slice A1 n.sectors.length C1, .slice A2 n.antennas.length C2, .slice A3 n.radios.length C3] 35)).alloc (.cells #[.string nm] 9)).alloc (.cells #[.slice none 0 0, .slice none 0 0, .slice none 0 0, .slice none 0 0] 35)) = W0 at *
    have fN0 := blkC (v := .slice A0 n.sites.length C0) KN_0.out 0 rfl
    have fN1 := blkC (v := .slice A1 n.sectors.length C1) KN_0.out 1 rfl
    have fN2 := blkC (v := .slice A2 n.antennas.length C2) KN_0.out 2 rfl
    have fN3 := blkC (v := .slice A3 n.radios.length C3) KN_0.out 3 rfl
    have fS0 := blkC (v := .string nm) KS_0.out 0 rfl
    have fR0 := blkC (v := .slice none 0 0) KR_0.out 0 rfl
    have fR1 := blkC (v := .slice none 0 0) KR_0.out 1 rfl
    have fR2 := blkC (v := .slice none 0 0) KR_0.out 2 rfl
    have fR3 := blkC (v := .slice none 0 0) KR_0.out 3 rfl
    go_wp2_with fail
    refine (siteNamed_any n.sites nm _ _ _ _ w.heap.size _ (R0.out.below BB_0.out) (by have := BB_0.out.size; omega) (by omega)).mono ?_
    rintro e X1 ⟨rfl, hb⟩
    clear fN0 fN1 fN2 fN3 fS0 fR0 fR1 fR2 fR3
    have KN_1 := Lib.hid (blkB KN_0.out hb (by omega))
    have KS_1 := Lib.hid (blkB KS_0.out hb (by omega))
    have KR_1 := Lib.hid (blkB KR_0.out hb (by omega))
    have BB_1 := Lib.hid (BB_0.out.trans (hb.mono (by omega)))
    have zz1 : W0.heap.size ≤ X1.heap.size := hb.size
    clear KN_0 KS_0 KR_0 BB_0 hb
    generalize idxSite n.sites nm = ix at *
    have fN0 := blkC (v := .slice A0 n.sites.length C0) KN_1.out 0 rfl
    have fN1 := blkC (v := .slice A1 n.sectors.length C1) KN_1.out 1 rfl
    have fN2 := blkC (v := .slice A2 n.antennas.length C2) KN_1.out 2 rfl
    have fN3 := blkC (v := .slice A3 n.radios.length C3) KN_1.out 3 rfl
    have fS0 := blkC (v := .string nm) KS_1.out 0 rfl
    have fR0 := blkC (v := .slice none 0 0) KR_1.out 0 rfl
    have fR1 := blkC (v := .slice none 0 0) KR_1.out 1 rfl
    have fR2 := blkC (v := .slice none 0 0) KR_1.out 2 rfl
    have fR3 := blkC (v := .slice none 0 0) KR_1.out 3 rfl
    go_wp2_with fail
    refine (validNetwork_any n _ _ _ _ _ ((R0.out.below BB_1.out).mono (by have := BB_1.out.size; omega)) ((R1.out.below BB_1.out).mono (by have := BB_1.out.size; omega)) ((R2.out.below BB_1.out).mono (by have := BB_1.out.size; omega)) ((R3.out.below BB_1.out).mono (by have := BB_1.out.size; omega)) (by omega) hk_n).mono ?_
    rintro e X2 ⟨rfl, hb⟩
    clear fN0 fN1 fN2 fN3 fS0 fR0 fR1 fR2 fR3
    have KN_2 := Lib.hid (blkB KN_1.out hb (by omega))
    have KS_2 := Lib.hid (blkB KS_1.out hb (by omega))
    have KR_2 := Lib.hid (blkB KR_1.out hb (by omega))
    have BB_2 := Lib.hid (BB_1.out.trans (hb.mono (by omega)))
    have zz2 : X1.heap.size ≤ X2.heap.size := hb.size
    clear KN_1 KS_1 KR_1 BB_1 hb
    rw [hv]
    have fN0 := blkC (v := .slice A0 n.sites.length C0) KN_2.out 0 rfl
    have fN1 := blkC (v := .slice A1 n.sectors.length C1) KN_2.out 1 rfl
    have fN2 := blkC (v := .slice A2 n.antennas.length C2) KN_2.out 2 rfl
    have fN3 := blkC (v := .slice A3 n.radios.length C3) KN_2.out 3 rfl
    have fR0 := blkC (v := .slice none 0 0) KR_2.out 0 rfl
    have fR1 := blkC (v := .slice none 0 0) KR_2.out 1 rfl
    have fR2 := blkC (v := .slice none 0 0) KR_2.out 2 rfl
    have fR3 := blkC (v := .slice none 0 0) KR_2.out 3 rfl
    have zR := blkF KR_2.out
    go_wp2
    have BF := Lib.hid (((((BB_2.out).setCell (p := ⟨w.heap.size + 2, 0, none⟩) (by show w.heap.size ≤ w.heap.size + 2; omega) (.slice none 0 0)).setCell (p := ⟨w.heap.size + 2, 1, none⟩) (by show w.heap.size ≤ w.heap.size + 2; omega) (.slice none 0 0)).setCell (p := ⟨w.heap.size + 2, 2, none⟩) (by show w.heap.size ≤ w.heap.size + 2; omega) (.slice none 0 0)).setCell (p := ⟨w.heap.size + 2, 3, none⟩) (by show w.heap.size ≤ w.heap.size + 2; omega) (.slice none 0 0))
    refine bodyPost_ret (v := .tuple #[.agg #[.slice none 0 0, .slice none 0 0, .slice none 0 0, .slice none 0 0], .int .i64 1]) (by simp [results, Tryz.results24, go_sem, *]) rfl ?_
    rw [HE.out]
    first | exact ⟨none, 0, none, 0, none, 0, none, 0, [], rfl, BF.out, ownV_zero _, In.nil⟩ | exact ⟨none, 0, none, 0, none, 0, none, 0, rfl, BF.out, [], ownV_zero _, In.nil⟩
  rcases firstIdx_cases' (fun y : DSite => eqS y.name nm) n.sites with ⟨hi, _⟩ | ⟨k, hk, hi, _, _⟩
  · have HE := Lib.hid (dropSiteR_none hv hi)
    have HI : Hid (idxSite n.sites nm = -1) := hi
    clear hi
    have BB0_ : Below w.heap.size w (((w.alloc (.cells #[.slice A0 n.sites.length C0, .slice A1 n.sectors.length C1, .slice A2 n.antennas.length C2, .slice A3 n.radios.length C3] 35)).alloc (.cells #[.string nm] 9)).alloc (.cells #[.slice none 0 0, .slice none 0 0, .slice none 0 0, .slice none 0 0] 35)) := Below.alloc (Below.alloc (Below.alloc (Below.refl _ _) (by first | exact Nat.le_refl _ | (simp; done) | (simp; omega)) _) (by first | exact Nat.le_refl _ | (simp; done) | (simp; omega)) _) (by first | exact Nat.le_refl _ | (simp; done) | (simp; omega)) _
    have zz0 : w.heap.size + 3 ≤ (((w.alloc (.cells #[.slice A0 n.sites.length C0, .slice A1 n.sectors.length C1, .slice A2 n.antennas.length C2, .slice A3 n.radios.length C3] 35)).alloc (.cells #[.string nm] 9)).alloc (.cells #[.slice none 0 0, .slice none 0 0, .slice none 0 0, .slice none 0 0] 35)).heap.size := by simp
    have k_N : (((w.alloc (.cells #[.slice A0 n.sites.length C0, .slice A1 n.sectors.length C1, .slice A2 n.antennas.length C2, .slice A3 n.radios.length C3] 35)).alloc (.cells #[.string nm] 9)).alloc (.cells #[.slice none 0 0, .slice none 0 0, .slice none 0 0, .slice none 0 0] 35)).heap[w.heap.size]? = some (.cells #[.slice A0 n.sites.length C0, .slice A1 n.sectors.length C1, .slice A2 n.antennas.length C2, .slice A3 n.radios.length C3] 35 (0, 0)) := by
      have h := blkN w #[.slice A0 n.sites.length C0, .slice A1 n.sectors.length C1, .slice A2 n.antennas.length C2, .slice A3 n.radios.length C3] 35
      replace h := blkA h (by first | (simp; done) | (simp; omega)) (.cells #[.string nm] 9)
      replace h := blkA h (by first | (simp; done) | (simp; omega)) (.cells #[.slice none 0 0, .slice none 0 0, .slice none 0 0, .slice none 0 0] 35)
      exact h
    have KN_0 := Lib.hid k_N
    have k_S : (((w.alloc (.cells #[.slice A0 n.sites.length C0, .slice A1 n.sectors.length C1, .slice A2 n.antennas.length C2, .slice A3 n.radios.length C3] 35)).alloc (.cells #[.string nm] 9)).alloc (.cells #[.slice none 0 0, .slice none 0 0, .slice none 0 0, .slice none 0 0] 35)).heap[w.heap.size + 1]? = some (.cells #[.string nm] 9 (0, 0)) := by
      have h := blkN (w.alloc (.cells #[.slice A0 n.sites.length C0, .slice A1 n.sectors.length C1, .slice A2 n.antennas.length C2, .slice A3 n.radios.length C3] 35)) #[.string nm] 9
      rw [show (w.alloc (.cells #[.slice A0 n.sites.length C0, .slice A1 n.sectors.length C1, .slice A2 n.antennas.length C2, .slice A3 n.radios.length C3] 35)).heap.size = w.heap.size + 1 by simp] at h
      replace h := blkA h (by first | (simp; done) | (simp; omega)) (.cells #[.slice none 0 0, .slice none 0 0, .slice none 0 0, .slice none 0 0] 35)
      exact h
    have KS_0 := Lib.hid k_S
    have k_R : (((w.alloc (.cells #[.slice A0 n.sites.length C0, .slice A1 n.sectors.length C1, .slice A2 n.antennas.length C2, .slice A3 n.radios.length C3] 35)).alloc (.cells #[.string nm] 9)).alloc (.cells #[.slice none 0 0, .slice none 0 0, .slice none 0 0, .slice none 0 0] 35)).heap[w.heap.size + 2]? = some (.cells #[.slice none 0 0, .slice none 0 0, .slice none 0 0, .slice none 0 0] 35 (0, 0)) := by
      have h := blkN ((w.alloc (.cells #[.slice A0 n.sites.length C0, .slice A1 n.sectors.length C1, .slice A2 n.antennas.length C2, .slice A3 n.radios.length C3] 35)).alloc (.cells #[.string nm] 9)) #[.slice none 0 0, .slice none 0 0, .slice none 0 0, .slice none 0 0] 35
      rw [show ((w.alloc (.cells #[.slice A0 n.sites.length C0, .slice A1 n.sectors.length C1, .slice A2 n.antennas.length C2, .slice A3 n.radios.length C3] 35)).alloc (.cells #[.string nm] 9)).heap.size = w.heap.size + 2 by simp] at h
      exact h
    have KR_0 := Lib.hid k_R
    clear k_N k_S k_R
    have BB_0 := Lib.hid BB0_
    clear BB0_
    go_enter Tryz.func24, Tryz.ntmps24
    go_upto_region 1 with (fail)
    generalize (((w.alloc (.cells #[.slice A0 n.sites.length C0, .slice A1 n.sectors.length C1, .slice A2 n.antennas.length C2, .slice A3 n.radios.length C3] 35)).alloc (.cells #[.string nm] 9)).alloc (.cells #[.slice none 0 0, .slice none 0 0, .slice none 0 0, .slice none 0 0] 35)) = W0 at *
    have fN0 := blkC (v := .slice A0 n.sites.length C0) KN_0.out 0 rfl
    have fN1 := blkC (v := .slice A1 n.sectors.length C1) KN_0.out 1 rfl
    have fN2 := blkC (v := .slice A2 n.antennas.length C2) KN_0.out 2 rfl
    have fN3 := blkC (v := .slice A3 n.radios.length C3) KN_0.out 3 rfl
    have fS0 := blkC (v := .string nm) KS_0.out 0 rfl
    have fR0 := blkC (v := .slice none 0 0) KR_0.out 0 rfl
    have fR1 := blkC (v := .slice none 0 0) KR_0.out 1 rfl
    have fR2 := blkC (v := .slice none 0 0) KR_0.out 2 rfl
    have fR3 := blkC (v := .slice none 0 0) KR_0.out 3 rfl
    go_wp2_with fail
    refine (siteNamed_any n.sites nm _ _ _ _ w.heap.size _ (R0.out.below BB_0.out) (by have := BB_0.out.size; omega) (by omega)).mono ?_
    rintro e X1 ⟨rfl, hb⟩
    clear fN0 fN1 fN2 fN3 fS0 fR0 fR1 fR2 fR3
    have KN_1 := Lib.hid (blkB KN_0.out hb (by omega))
    have KS_1 := Lib.hid (blkB KS_0.out hb (by omega))
    have KR_1 := Lib.hid (blkB KR_0.out hb (by omega))
    have BB_1 := Lib.hid (BB_0.out.trans (hb.mono (by omega)))
    have zz1 : W0.heap.size ≤ X1.heap.size := hb.size
    clear KN_0 KS_0 KR_0 BB_0 hb
    rw [HI.out]
    have fN0 := blkC (v := .slice A0 n.sites.length C0) KN_1.out 0 rfl
    have fN1 := blkC (v := .slice A1 n.sectors.length C1) KN_1.out 1 rfl
    have fN2 := blkC (v := .slice A2 n.antennas.length C2) KN_1.out 2 rfl
    have fN3 := blkC (v := .slice A3 n.radios.length C3) KN_1.out 3 rfl
    have fS0 := blkC (v := .string nm) KS_1.out 0 rfl
    have fR0 := blkC (v := .slice none 0 0) KR_1.out 0 rfl
    have fR1 := blkC (v := .slice none 0 0) KR_1.out 1 rfl
    have fR2 := blkC (v := .slice none 0 0) KR_1.out 2 rfl
    have fR3 := blkC (v := .slice none 0 0) KR_1.out 3 rfl
    go_wp2_with fail
    refine (validNetwork_any n _ _ _ _ _ ((R0.out.below BB_1.out).mono (by have := BB_1.out.size; omega)) ((R1.out.below BB_1.out).mono (by have := BB_1.out.size; omega)) ((R2.out.below BB_1.out).mono (by have := BB_1.out.size; omega)) ((R3.out.below BB_1.out).mono (by have := BB_1.out.size; omega)) (by omega) hk_n).mono ?_
    rintro e X2 ⟨rfl, hb⟩
    clear fN0 fN1 fN2 fN3 fS0 fR0 fR1 fR2 fR3
    have KN_2 := Lib.hid (blkB KN_1.out hb (by omega))
    have KS_2 := Lib.hid (blkB KS_1.out hb (by omega))
    have KR_2 := Lib.hid (blkB KR_1.out hb (by omega))
    have BB_2 := Lib.hid (BB_1.out.trans (hb.mono (by omega)))
    have zz2 : X1.heap.size ≤ X2.heap.size := hb.size
    clear KN_1 KS_1 KR_1 BB_1 hb
    rw [hv]
    have fN0 := blkC (v := .slice A0 n.sites.length C0) KN_2.out 0 rfl
    have fN1 := blkC (v := .slice A1 n.sectors.length C1) KN_2.out 1 rfl
    have fN2 := blkC (v := .slice A2 n.antennas.length C2) KN_2.out 2 rfl
    have fN3 := blkC (v := .slice A3 n.radios.length C3) KN_2.out 3 rfl
    have fR0 := blkC (v := .slice none 0 0) KR_2.out 0 rfl
    have fR1 := blkC (v := .slice none 0 0) KR_2.out 1 rfl
    have fR2 := blkC (v := .slice none 0 0) KR_2.out 2 rfl
    have fR3 := blkC (v := .slice none 0 0) KR_2.out 3 rfl
    have zR := blkF KR_2.out
    go_wp2
    have BF := Lib.hid (((((BB_2.out).setCell (p := ⟨w.heap.size + 2, 0, none⟩) (by show w.heap.size ≤ w.heap.size + 2; omega) (.slice none 0 0)).setCell (p := ⟨w.heap.size + 2, 1, none⟩) (by show w.heap.size ≤ w.heap.size + 2; omega) (.slice none 0 0)).setCell (p := ⟨w.heap.size + 2, 2, none⟩) (by show w.heap.size ≤ w.heap.size + 2; omega) (.slice none 0 0)).setCell (p := ⟨w.heap.size + 2, 3, none⟩) (by show w.heap.size ≤ w.heap.size + 2; omega) (.slice none 0 0))
    refine bodyPost_ret (v := .tuple #[.agg #[.slice none 0 0, .slice none 0 0, .slice none 0 0, .slice none 0 0], .int .i64 3]) (by simp [results, Tryz.results24, go_sem, *]) rfl ?_
    rw [HE.out]
    first | exact ⟨none, 0, none, 0, none, 0, none, 0, [], rfl, BF.out, ownV_zero _, In.nil⟩ | exact ⟨none, 0, none, 0, none, 0, none, 0, rfl, BF.out, [], ownV_zero _, In.nil⟩
  by_cases hu : n.sectors.any (atSite nm) = true
  · have HE := Lib.hid (dropSiteR_used hv hi hu)
    have HI : Hid (idxSite n.sites nm = (k : Int)) := hi
    have HU := Lib.hid hu
    clear hi hu
    have BB0_ : Below w.heap.size w (((w.alloc (.cells #[.slice A0 n.sites.length C0, .slice A1 n.sectors.length C1, .slice A2 n.antennas.length C2, .slice A3 n.radios.length C3] 35)).alloc (.cells #[.string nm] 9)).alloc (.cells #[.slice none 0 0, .slice none 0 0, .slice none 0 0, .slice none 0 0] 35)) := Below.alloc (Below.alloc (Below.alloc (Below.refl _ _) (by first | exact Nat.le_refl _ | (simp; done) | (simp; omega)) _) (by first | exact Nat.le_refl _ | (simp; done) | (simp; omega)) _) (by first | exact Nat.le_refl _ | (simp; done) | (simp; omega)) _
    have zz0 : w.heap.size + 3 ≤ (((w.alloc (.cells #[.slice A0 n.sites.length C0, .slice A1 n.sectors.length C1, .slice A2 n.antennas.length C2, .slice A3 n.radios.length C3] 35)).alloc (.cells #[.string nm] 9)).alloc (.cells #[.slice none 0 0, .slice none 0 0, .slice none 0 0, .slice none 0 0] 35)).heap.size := by simp
    have k_N : (((w.alloc (.cells #[.slice A0 n.sites.length C0, .slice A1 n.sectors.length C1, .slice A2 n.antennas.length C2, .slice A3 n.radios.length C3] 35)).alloc (.cells #[.string nm] 9)).alloc (.cells #[.slice none 0 0, .slice none 0 0, .slice none 0 0, .slice none 0 0] 35)).heap[w.heap.size]? = some (.cells #[.slice A0 n.sites.length C0, .slice A1 n.sectors.length C1, .slice A2 n.antennas.length C2, .slice A3 n.radios.length C3] 35 (0, 0)) := by
      have h := blkN w #[.slice A0 n.sites.length C0, .slice A1 n.sectors.length C1, .slice A2 n.antennas.length C2, .slice A3 n.radios.length C3] 35
      replace h := blkA h (by first | (simp; done) | (simp; omega)) (.cells #[.string nm] 9)
      replace h := blkA h (by first | (simp; done) | (simp; omega)) (.cells #[.slice none 0 0, .slice none 0 0, .slice none 0 0, .slice none 0 0] 35)
      exact h
    have KN_0 := Lib.hid k_N
    have k_S : (((w.alloc (.cells #[.slice A0 n.sites.length C0, .slice A1 n.sectors.length C1, .slice A2 n.antennas.length C2, .slice A3 n.radios.length C3] 35)).alloc (.cells #[.string nm] 9)).alloc (.cells #[.slice none 0 0, .slice none 0 0, .slice none 0 0, .slice none 0 0] 35)).heap[w.heap.size + 1]? = some (.cells #[.string nm] 9 (0, 0)) := by
      have h := blkN (w.alloc (.cells #[.slice A0 n.sites.length C0, .slice A1 n.sectors.length C1, .slice A2 n.antennas.length C2, .slice A3 n.radios.length C3] 35)) #[.string nm] 9
      rw [show (w.alloc (.cells #[.slice A0 n.sites.length C0, .slice A1 n.sectors.length C1, .slice A2 n.antennas.length C2, .slice A3 n.radios.length C3] 35)).heap.size = w.heap.size + 1 by simp] at h
      replace h := blkA h (by first | (simp; done) | (simp; omega)) (.cells #[.slice none 0 0, .slice none 0 0, .slice none 0 0, .slice none 0 0] 35)
      exact h
    have KS_0 := Lib.hid k_S
    have k_R : (((w.alloc (.cells #[.slice A0 n.sites.length C0, .slice A1 n.sectors.length C1, .slice A2 n.antennas.length C2, .slice A3 n.radios.length C3] 35)).alloc (.cells #[.string nm] 9)).alloc (.cells #[.slice none 0 0, .slice none 0 0, .slice none 0 0, .slice none 0 0] 35)).heap[w.heap.size + 2]? = some (.cells #[.slice none 0 0, .slice none 0 0, .slice none 0 0, .slice none 0 0] 35 (0, 0)) := by
      have h := blkN ((w.alloc (.cells #[.slice A0 n.sites.length C0, .slice A1 n.sectors.length C1, .slice A2 n.antennas.length C2, .slice A3 n.radios.length C3] 35)).alloc (.cells #[.string nm] 9)) #[.slice none 0 0, .slice none 0 0, .slice none 0 0, .slice none 0 0] 35
      rw [show ((w.alloc (.cells #[.slice A0 n.sites.length C0, .slice A1 n.sectors.length C1, .slice A2 n.antennas.length C2, .slice A3 n.radios.length C3] 35)).alloc (.cells #[.string nm] 9)).heap.size = w.heap.size + 2 by simp] at h
      exact h
    have KR_0 := Lib.hid k_R
    clear k_N k_S k_R
    have BB_0 := Lib.hid BB0_
    clear BB0_
    go_enter Tryz.func24, Tryz.ntmps24
    go_upto_region 1 with (fail)
    generalize (((w.alloc (.cells #[.slice A0 n.sites.length C0, .slice A1 n.sectors.length C1, .slice A2 n.antennas.length C2, .slice A3 n.radios.length C3] 35)).alloc (.cells #[.string nm] 9)).alloc (.cells #[.slice none 0 0, .slice none 0 0, .slice none 0 0, .slice none 0 0] 35)) = W0 at *
    have fN0 := blkC (v := .slice A0 n.sites.length C0) KN_0.out 0 rfl
    have fN1 := blkC (v := .slice A1 n.sectors.length C1) KN_0.out 1 rfl
    have fN2 := blkC (v := .slice A2 n.antennas.length C2) KN_0.out 2 rfl
    have fN3 := blkC (v := .slice A3 n.radios.length C3) KN_0.out 3 rfl
    have fS0 := blkC (v := .string nm) KS_0.out 0 rfl
    have fR0 := blkC (v := .slice none 0 0) KR_0.out 0 rfl
    have fR1 := blkC (v := .slice none 0 0) KR_0.out 1 rfl
    have fR2 := blkC (v := .slice none 0 0) KR_0.out 2 rfl
    have fR3 := blkC (v := .slice none 0 0) KR_0.out 3 rfl
    go_wp2_with fail
    refine (siteNamed_any n.sites nm _ _ _ _ w.heap.size _ (R0.out.below BB_0.out) (by have := BB_0.out.size; omega) (by omega)).mono ?_
    rintro e X1 ⟨rfl, hb⟩
    clear fN0 fN1 fN2 fN3 fS0 fR0 fR1 fR2 fR3
    have KN_1 := Lib.hid (blkB KN_0.out hb (by omega))
    have KS_1 := Lib.hid (blkB KS_0.out hb (by omega))
    have KR_1 := Lib.hid (blkB KR_0.out hb (by omega))
    have BB_1 := Lib.hid (BB_0.out.trans (hb.mono (by omega)))
    have zz1 : W0.heap.size ≤ X1.heap.size := hb.size
    clear KN_0 KS_0 KR_0 BB_0 hb
    rw [HI.out]
    have fN0 := blkC (v := .slice A0 n.sites.length C0) KN_1.out 0 rfl
    have fN1 := blkC (v := .slice A1 n.sectors.length C1) KN_1.out 1 rfl
    have fN2 := blkC (v := .slice A2 n.antennas.length C2) KN_1.out 2 rfl
    have fN3 := blkC (v := .slice A3 n.radios.length C3) KN_1.out 3 rfl
    have fS0 := blkC (v := .string nm) KS_1.out 0 rfl
    have fR0 := blkC (v := .slice none 0 0) KR_1.out 0 rfl
    have fR1 := blkC (v := .slice none 0 0) KR_1.out 1 rfl
    have fR2 := blkC (v := .slice none 0 0) KR_1.out 2 rfl
    have fR3 := blkC (v := .slice none 0 0) KR_1.out 3 rfl
    go_wp2_with fail
    refine (validNetwork_any n _ _ _ _ _ ((R0.out.below BB_1.out).mono (by have := BB_1.out.size; omega)) ((R1.out.below BB_1.out).mono (by have := BB_1.out.size; omega)) ((R2.out.below BB_1.out).mono (by have := BB_1.out.size; omega)) ((R3.out.below BB_1.out).mono (by have := BB_1.out.size; omega)) (by omega) hk_n).mono ?_
    rintro e X2 ⟨rfl, hb⟩
    clear fN0 fN1 fN2 fN3 fS0 fR0 fR1 fR2 fR3
    have KN_2 := Lib.hid (blkB KN_1.out hb (by omega))
    have KS_2 := Lib.hid (blkB KS_1.out hb (by omega))
    have KR_2 := Lib.hid (blkB KR_1.out hb (by omega))
    have BB_2 := Lib.hid (BB_1.out.trans (hb.mono (by omega)))
    have zz2 : X1.heap.size ≤ X2.heap.size := hb.size
    clear KN_1 KS_1 KR_1 BB_1 hb
    rw [hv]
    have hneg : decide ((k : Int) < 0) = false := by simp
    have HCL := Lib.hid (containsFuncSector_any n.sectors (atSite nm) 69 [.pointer (some ⟨w.heap.size + 1, 0, none⟩)] _ w.heap.size X2 (R1.out.below BB_2.out) (by have := BB_2.out.size; omega) (by omega) (fun _ _ => by kernel_rfl) (fun x _ W hW => by
      have c1 : W.cell? ⟨w.heap.size + 1, 0, none⟩ = some (.string nm) := by rw [hW.cell (p := ⟨w.heap.size + 1, 0, none⟩) (by show w.heap.size + 1 < _; omega)]; exact blkC KS_2.out 0 rfl
      have c2 : w.heap.size + 1 < W.heap.size := by have := hW.size; omega
      clear hW HE HI HU hneg
      unfold atSite
      go_enter Tryz.func69, Tryz.ntmps69
      go_wp2
      go_ret
      exact ⟨rfl, (Below.refl _ _).alloc (Nat.le_refl _) _⟩))
    rw [HU.out] at HCL
    have fN0 := blkC (v := .slice A0 n.sites.length C0) KN_2.out 0 rfl
    have fN1 := blkC (v := .slice A1 n.sectors.length C1) KN_2.out 1 rfl
    have fN2 := blkC (v := .slice A2 n.antennas.length C2) KN_2.out 2 rfl
    have fN3 := blkC (v := .slice A3 n.radios.length C3) KN_2.out 3 rfl
    have fS0 := blkC (v := .string nm) KS_2.out 0 rfl
    have fR0 := blkC (v := .slice none 0 0) KR_2.out 0 rfl
    have fR1 := blkC (v := .slice none 0 0) KR_2.out 1 rfl
    have fR2 := blkC (v := .slice none 0 0) KR_2.out 2 rfl
    have fR3 := blkC (v := .slice none 0 0) KR_2.out 3 rfl
    go_wp2_with fail
    refine (HCL.out).mono ?_
    rintro e X3 ⟨rfl, hb⟩
    clear fN0 fN1 fN2 fN3 fS0 fR0 fR1 fR2 fR3
    have KN_3 := Lib.hid (blkB KN_2.out hb (by omega))
    have KS_3 := Lib.hid (blkB KS_2.out hb (by omega))
    have KR_3 := Lib.hid (blkB KR_2.out hb (by omega))
    have BB_3 := Lib.hid (BB_2.out.trans (hb.mono (by omega)))
    have zz3 : X2.heap.size ≤ X3.heap.size := hb.size
    clear KN_2 KS_2 KR_2 BB_2 hb
    clear HCL
    have fN0 := blkC (v := .slice A0 n.sites.length C0) KN_3.out 0 rfl
    have fN1 := blkC (v := .slice A1 n.sectors.length C1) KN_3.out 1 rfl
    have fN2 := blkC (v := .slice A2 n.antennas.length C2) KN_3.out 2 rfl
    have fN3 := blkC (v := .slice A3 n.radios.length C3) KN_3.out 3 rfl
    have fR0 := blkC (v := .slice none 0 0) KR_3.out 0 rfl
    have fR1 := blkC (v := .slice none 0 0) KR_3.out 1 rfl
    have fR2 := blkC (v := .slice none 0 0) KR_3.out 2 rfl
    have fR3 := blkC (v := .slice none 0 0) KR_3.out 3 rfl
    have zR := blkF KR_3.out
    go_wp2
    have BF := Lib.hid (((((BB_3.out).setCell (p := ⟨w.heap.size + 2, 0, none⟩) (by show w.heap.size ≤ w.heap.size + 2; omega) (.slice none 0 0)).setCell (p := ⟨w.heap.size + 2, 1, none⟩) (by show w.heap.size ≤ w.heap.size + 2; omega) (.slice none 0 0)).setCell (p := ⟨w.heap.size + 2, 2, none⟩) (by show w.heap.size ≤ w.heap.size + 2; omega) (.slice none 0 0)).setCell (p := ⟨w.heap.size + 2, 3, none⟩) (by show w.heap.size ≤ w.heap.size + 2; omega) (.slice none 0 0))
    refine bodyPost_ret (v := .tuple #[.agg #[.slice none 0 0, .slice none 0 0, .slice none 0 0, .slice none 0 0], .int .i64 6]) (by simp [results, Tryz.results24, go_sem, *]) rfl ?_
    rw [HE.out]
    first | exact ⟨none, 0, none, 0, none, 0, none, 0, [], rfl, BF.out, ownV_zero _, In.nil⟩ | exact ⟨none, 0, none, 0, none, 0, none, 0, rfl, BF.out, [], ownV_zero _, In.nil⟩
  replace hu : n.sectors.any (atSite nm) = false := Bool.eq_false_iff.2 hu
  have HE := Lib.hid (dropSiteR_ok hv hi hu)
  have HI : Hid (idxSite n.sites nm = (k : Int)) := hi
  have HU := Lib.hid hu
  clear hi hu
  have hsl : n.sites.length ≤ 1048576 := by omega
  have BB0_ : Below w.heap.size w (((w.alloc (.cells #[.slice A0 n.sites.length C0, .slice A1 n.sectors.length C1, .slice A2 n.antennas.length C2, .slice A3 n.radios.length C3] 35)).alloc (.cells #[.string nm] 9)).alloc (.cells #[.slice none 0 0, .slice none 0 0, .slice none 0 0, .slice none 0 0] 35)) := Below.alloc (Below.alloc (Below.alloc (Below.refl _ _) (by first | exact Nat.le_refl _ | (simp; done) | (simp; omega)) _) (by first | exact Nat.le_refl _ | (simp; done) | (simp; omega)) _) (by first | exact Nat.le_refl _ | (simp; done) | (simp; omega)) _
  have zz0 : w.heap.size + 3 ≤ (((w.alloc (.cells #[.slice A0 n.sites.length C0, .slice A1 n.sectors.length C1, .slice A2 n.antennas.length C2, .slice A3 n.radios.length C3] 35)).alloc (.cells #[.string nm] 9)).alloc (.cells #[.slice none 0 0, .slice none 0 0, .slice none 0 0, .slice none 0 0] 35)).heap.size := by simp
  have k_N : (((w.alloc (.cells #[.slice A0 n.sites.length C0, .slice A1 n.sectors.length C1, .slice A2 n.antennas.length C2, .slice A3 n.radios.length C3] 35)).alloc (.cells #[.string nm] 9)).alloc (.cells #[.slice none 0 0, .slice none 0 0, .slice none 0 0, .slice none 0 0] 35)).heap[w.heap.size]? = some (.cells #[.slice A0 n.sites.length C0, .slice A1 n.sectors.length C1, .slice A2 n.antennas.length C2, .slice A3 n.radios.length C3] 35 (0, 0)) := by
    have h := blkN w #[.slice A0 n.sites.length C0, .slice A1 n.sectors.length C1, .slice A2 n.antennas.length C2, .slice A3 n.radios.length C3] 35
    replace h := blkA h (by first | (simp; done) | (simp; omega)) (.cells #[.string nm] 9)
    replace h := blkA h (by first | (simp; done) | (simp; omega)) (.cells #[.slice none 0 0, .slice none 0 0, .slice none 0 0, .slice none 0 0] 35)
    exact h
  have KN_0 := Lib.hid k_N
  have k_S : (((w.alloc (.cells #[.slice A0 n.sites.length C0, .slice A1 n.sectors.length C1, .slice A2 n.antennas.length C2, .slice A3 n.radios.length C3] 35)).alloc (.cells #[.string nm] 9)).alloc (.cells #[.slice none 0 0, .slice none 0 0, .slice none 0 0, .slice none 0 0] 35)).heap[w.heap.size + 1]? = some (.cells #[.string nm] 9 (0, 0)) := by
    have h := blkN (w.alloc (.cells #[.slice A0 n.sites.length C0, .slice A1 n.sectors.length C1, .slice A2 n.antennas.length C2, .slice A3 n.radios.length C3] 35)) #[.string nm] 9
    rw [show (w.alloc (.cells #[.slice A0 n.sites.length C0, .slice A1 n.sectors.length C1, .slice A2 n.antennas.length C2, .slice A3 n.radios.length C3] 35)).heap.size = w.heap.size + 1 by simp] at h
    replace h := blkA h (by first | (simp; done) | (simp; omega)) (.cells #[.slice none 0 0, .slice none 0 0, .slice none 0 0, .slice none 0 0] 35)
    exact h
  have KS_0 := Lib.hid k_S
  have k_R : (((w.alloc (.cells #[.slice A0 n.sites.length C0, .slice A1 n.sectors.length C1, .slice A2 n.antennas.length C2, .slice A3 n.radios.length C3] 35)).alloc (.cells #[.string nm] 9)).alloc (.cells #[.slice none 0 0, .slice none 0 0, .slice none 0 0, .slice none 0 0] 35)).heap[w.heap.size + 2]? = some (.cells #[.slice none 0 0, .slice none 0 0, .slice none 0 0, .slice none 0 0] 35 (0, 0)) := by
    have h := blkN ((w.alloc (.cells #[.slice A0 n.sites.length C0, .slice A1 n.sectors.length C1, .slice A2 n.antennas.length C2, .slice A3 n.radios.length C3] 35)).alloc (.cells #[.string nm] 9)) #[.slice none 0 0, .slice none 0 0, .slice none 0 0, .slice none 0 0] 35
    rw [show ((w.alloc (.cells #[.slice A0 n.sites.length C0, .slice A1 n.sectors.length C1, .slice A2 n.antennas.length C2, .slice A3 n.radios.length C3] 35)).alloc (.cells #[.string nm] 9)).heap.size = w.heap.size + 2 by simp] at h
    exact h
  have KR_0 := Lib.hid k_R
  clear k_N k_S k_R
  have BB_0 := Lib.hid BB0_
  clear BB0_
  go_enter Tryz.func24, Tryz.ntmps24
  go_upto_region 1 with (fail)
  generalize (((w.alloc (.cells #[.slice A0 n.sites.length C0, .slice A1 n.sectors.length C1, .slice A2 n.antennas.length C2, .slice A3 n.radios.length C3] 35)).alloc (.cells #[.string nm] 9)).alloc (.cells #[.slice none 0 0, .slice none 0 0, .slice none 0 0, .slice none 0 0] 35)) = W0 at *
  have fN0 := blkC (v := .slice A0 n.sites.length C0) KN_0.out 0 rfl
  have fN1 := blkC (v := .slice A1 n.sectors.length C1) KN_0.out 1 rfl
  have fN2 := blkC (v := .slice A2 n.antennas.length C2) KN_0.out 2 rfl
  have fN3 := blkC (v := .slice A3 n.radios.length C3) KN_0.out 3 rfl
  have fS0 := blkC (v := .string nm) KS_0.out 0 rfl
  have fR0 := blkC (v := .slice none 0 0) KR_0.out 0 rfl
  have fR1 := blkC (v := .slice none 0 0) KR_0.out 1 rfl
  have fR2 := blkC (v := .slice none 0 0) KR_0.out 2 rfl
  have fR3 := blkC (v := .slice none 0 0) KR_0.out 3 rfl
  go_wp2_with fail
  refine (siteNamed_any n.sites nm _ _ _ _ w.heap.size _ (R0.out.below BB_0.out) (by have := BB_0.out.size; omega) (by omega)).mono ?_
  rintro e X1 ⟨rfl, hb⟩
  clear fN0 fN1 fN2 fN3 fS0 fR0 fR1 fR2 fR3
  have KN_1 := Lib.hid (blkB KN_0.out hb (by omega))
  have KS_1 := Lib.hid (blkB KS_0.out hb (by omega))
  have KR_1 := Lib.hid (blkB KR_0.out hb (by omega))
  have BB_1 := Lib.hid (BB_0.out.trans (hb.mono (by omega)))
  have zz1 : W0.heap.size ≤ X1.heap.size := hb.size
  clear KN_0 KS_0 KR_0 BB_0 hb
  rw [HI.out]
  have fN0 := blkC (v := .slice A0 n.sites.length C0) KN_1.out 0 rfl
  have fN1 := blkC (v := .slice A1 n.sectors.length C1) KN_1.out 1 rfl
  have fN2 := blkC (v := .slice A2 n.antennas.length C2) KN_1.out 2 rfl
  have fN3 := blkC (v := .slice A3 n.radios.length C3) KN_1.out 3 rfl
  have fS0 := blkC (v := .string nm) KS_1.out 0 rfl
  have fR0 := blkC (v := .slice none 0 0) KR_1.out 0 rfl
  have fR1 := blkC (v := .slice none 0 0) KR_1.out 1 rfl
  have fR2 := blkC (v := .slice none 0 0) KR_1.out 2 rfl
  have fR3 := blkC (v := .slice none 0 0) KR_1.out 3 rfl
  go_wp2_with fail
  refine (validNetwork_any n _ _ _ _ _ ((R0.out.below BB_1.out).mono (by have := BB_1.out.size; omega)) ((R1.out.below BB_1.out).mono (by have := BB_1.out.size; omega)) ((R2.out.below BB_1.out).mono (by have := BB_1.out.size; omega)) ((R3.out.below BB_1.out).mono (by have := BB_1.out.size; omega)) (by omega) hk_n).mono ?_
  rintro e X2 ⟨rfl, hb⟩
  clear fN0 fN1 fN2 fN3 fS0 fR0 fR1 fR2 fR3
  have KN_2 := Lib.hid (blkB KN_1.out hb (by omega))
  have KS_2 := Lib.hid (blkB KS_1.out hb (by omega))
  have KR_2 := Lib.hid (blkB KR_1.out hb (by omega))
  have BB_2 := Lib.hid (BB_1.out.trans (hb.mono (by omega)))
  have zz2 : X1.heap.size ≤ X2.heap.size := hb.size
  clear KN_1 KS_1 KR_1 BB_1 hb
  rw [hv]
  have hneg : decide ((k : Int) < 0) = false := by simp
  have HCL := Lib.hid (containsFuncSector_any n.sectors (atSite nm) 69 [.pointer (some ⟨w.heap.size + 1, 0, none⟩)] _ w.heap.size X2 (R1.out.below BB_2.out) (by have := BB_2.out.size; omega) (by omega) (fun _ _ => by kernel_rfl) (fun x _ W hW => by
    have c1 : W.cell? ⟨w.heap.size + 1, 0, none⟩ = some (.string nm) := by rw [hW.cell (p := ⟨w.heap.size + 1, 0, none⟩) (by show w.heap.size + 1 < _; omega)]; exact blkC KS_2.out 0 rfl
    have c2 : w.heap.size + 1 < W.heap.size := by have := hW.size; omega
    clear hW HE HI HU hneg
    unfold atSite
    go_enter Tryz.func69, Tryz.ntmps69
    go_wp2
    go_ret
    exact ⟨rfl, (Below.refl _ _).alloc (Nat.le_refl _) _⟩))
  rw [HU.out] at HCL
  have fN0 := blkC (v := .slice A0 n.sites.length C0) KN_2.out 0 rfl
  have fN1 := blkC (v := .slice A1 n.sectors.length C1) KN_2.out 1 rfl
  have fN2 := blkC (v := .slice A2 n.antennas.length C2) KN_2.out 2 rfl
  have fN3 := blkC (v := .slice A3 n.radios.length C3) KN_2.out 3 rfl
  have fS0 := blkC (v := .string nm) KS_2.out 0 rfl
  have fR0 := blkC (v := .slice none 0 0) KR_2.out 0 rfl
  have fR1 := blkC (v := .slice none 0 0) KR_2.out 1 rfl
  have fR2 := blkC (v := .slice none 0 0) KR_2.out 2 rfl
  have fR3 := blkC (v := .slice none 0 0) KR_2.out 3 rfl
  go_wp2_with fail
  refine (HCL.out).mono ?_
  rintro e X3 ⟨rfl, hb⟩
  clear fN0 fN1 fN2 fN3 fS0 fR0 fR1 fR2 fR3
  have KN_3 := Lib.hid (blkB KN_2.out hb (by omega))
  have KS_3 := Lib.hid (blkB KS_2.out hb (by omega))
  have KR_3 := Lib.hid (blkB KR_2.out hb (by omega))
  have BB_3 := Lib.hid (BB_2.out.trans (hb.mono (by omega)))
  have zz3 : X2.heap.size ≤ X3.heap.size := hb.size
  clear KN_2 KS_2 KR_2 BB_2 hb
  clear HCL
  have fN0 := blkC (v := .slice A0 n.sites.length C0) KN_3.out 0 rfl
  have fN1 := blkC (v := .slice A1 n.sectors.length C1) KN_3.out 1 rfl
  have fN2 := blkC (v := .slice A2 n.antennas.length C2) KN_3.out 2 rfl
  have fN3 := blkC (v := .slice A3 n.radios.length C3) KN_3.out 3 rfl
  have fS0 := blkC (v := .string nm) KS_3.out 0 rfl
  have fR0 := blkC (v := .slice none 0 0) KR_3.out 0 rfl
  have fR1 := blkC (v := .slice none 0 0) KR_3.out 1 rfl
  have fR2 := blkC (v := .slice none 0 0) KR_3.out 2 rfl
  have fR3 := blkC (v := .slice none 0 0) KR_3.out 3 rfl
  go_wp2_with fail
  refine (netClone_any n _ _ _ _ _ ((R0.out.below BB_3.out).mono (by have := BB_3.out.size; omega)) ((R1.out.below BB_3.out).mono (by have := BB_3.out.size; omega)) ((R2.out.below BB_3.out).mono (by have := BB_3.out.size; omega)) ((R3.out.below BB_3.out).mono (by have := BB_3.out.size; omega)) hs_n).mono ?_
  rintro e X4 ⟨a0, c0, a1, c1, a2, c2, a3, c3, fp, rfl, hb, ov, iv_⟩
  clear fN0 fN1 fN2 fN3 fS0 fR0 fR1 fR2 fR3
  have KN_4 := Lib.hid (blkB KN_3.out hb (by omega))
  have KS_4 := Lib.hid (blkB KS_3.out hb (by omega))
  have KR_4 := Lib.hid (blkB KR_3.out hb (by omega))
  have BB_4 := Lib.hid (BB_3.out.trans (hb.mono (by omega)))
  have zz4 : X3.heap.size ≤ X4.heap.size := hb.size
  clear KN_3 KS_3 KR_3 BB_3 hb
  clear hneg
  obtain ⟨f0, f1, f2, f3, fpm, O0, O1, O2, O3, d0, d1, d2⟩ := netSplit ov
  have iv : In (w.heap.size + 3) X4.heap.size fp := iv_.mono (by omega) (Nat.le_refl _)
  clear ov iv_
  have fN0 := blkC (v := .slice A0 n.sites.length C0) KN_4.out 0 rfl
  have fN1 := blkC (v := .slice A1 n.sectors.length C1) KN_4.out 1 rfl
  have fN2 := blkC (v := .slice A2 n.antennas.length C2) KN_4.out 2 rfl
  have fN3 := blkC (v := .slice A3 n.radios.length C3) KN_4.out 3 rfl
  have fR0 := blkC (v := .slice none 0 0) KR_4.out 0 rfl
  have fR1 := blkC (v := .slice none 0 0) KR_4.out 1 rfl
  have fR2 := blkC (v := .slice none 0 0) KR_4.out 2 rfl
  have fR3 := blkC (v := .slice none 0 0) KR_4.out 3 rfl
  go_upto_region 9 with (fail)
  clear fN0 fN1 fN2 fN3 fR0 fR1 fR2 fR3
  have hbA : Below X4.heap.size X4 (X4.alloc (.cells #[.slice a0 n.sites.length c0, .slice a1 n.sectors.length c1, .slice a2 n.antennas.length c2, .slice a3 n.radios.length c3] 35)) := (Below.refl _ _).alloc (Nat.le_refl _) _
  have kL := blkN X4 #[.slice a0 n.sites.length c0, .slice a1 n.sectors.length c1, .slice a2 n.antennas.length c2, .slice a3 n.radios.length c3] 35
  have zL : X4.heap.size + 1 ≤ (X4.alloc (.cells #[.slice a0 n.sites.length c0, .slice a1 n.sectors.length c1, .slice a2 n.antennas.length c2, .slice a3 n.radios.length c3] 35)).heap.size := by simp
  have P0 := Lib.hid (O0.below (lo := w.heap.size + 3) (hi := X4.heap.size) (fun y hy => iv y ((fpm y).2 (by simp [hy]))) (Nat.le_refl _) hbA)
  have P1 := Lib.hid (O1.below (lo := w.heap.size + 3) (hi := X4.heap.size) (fun y hy => iv y ((fpm y).2 (by simp [hy]))) (Nat.le_refl _) hbA)
  have P2 := Lib.hid (O2.below (lo := w.heap.size + 3) (hi := X4.heap.size) (fun y hy => iv y ((fpm y).2 (by simp [hy]))) (Nat.le_refl _) hbA)
  have P3 := Lib.hid (O3.below (lo := w.heap.size + 3) (hi := X4.heap.size) (fun y hy => iv y ((fpm y).2 (by simp [hy]))) (Nat.le_refl _) hbA)
  clear O0 O1 O2 O3
  generalize (X4.alloc (.cells #[.slice a0 n.sites.length c0, .slice a1 n.sectors.length c1, .slice a2 n.antennas.length c2, .slice a3 n.radios.length c3] 35)) = Y at *
  have KL_5 := Lib.hid kL
  clear kL
  have KN_5 := Lib.hid (blkB KN_4.out hbA (by omega))
  have KS_5 := Lib.hid (blkB KS_4.out hbA (by omega))
  have KR_5 := Lib.hid (blkB KR_4.out hbA (by omega))
  have BB_5 := Lib.hid (BB_4.out.trans (hbA.mono (by omega)))
  have zz5 : X4.heap.size ≤ Y.heap.size := hbA.size
  clear KN_4 KS_4 KR_4 BB_4 hbA
  have FP : Hid (∀ y, y ∈ f0 → w.heap.size + 3 ≤ y ∧ y < X4.heap.size) := fun y hy => iv y ((fpm y).2 (by simp [hy]))
  have ki : (((k : Nat) : Int) + 1) ≤ 1048577 := by omega
  have fL0 := blkC (v := .slice a0 n.sites.length c0) KL_5.out 0 rfl
  have fL1 := blkC (v := .slice a1 n.sectors.length c1) KL_5.out 1 rfl
  have fL2 := blkC (v := .slice a2 n.antennas.length c2) KL_5.out 2 rfl
  have fL3 := blkC (v := .slice a3 n.radios.length c3) KL_5.out 3 rfl
  go_wp2_with fail
  refine (deleteSite_any n.sites k a0 c0 f0 _ P0.out hk (by omega)).mono ?_
  rintro e X ⟨fq, rfl, hch, oq, hsub⟩
  clear fL0 fL1 fL2 fL3
  clear ki
  have zX : Y.heap.size ≤ X.heap.size := hch.size
  have bX := BB_5.out.trans (hch.below (B := w.heap.size) (by omega) (fun y hy => by have := (FP.out y hy).1; omega))
  have KLr := Lib.hid ((hch.block X4.heap.size (by omega) (fun e => by have := (FP.out _ e).2; omega)).trans KL_5.out)
  have KRr := Lib.hid ((hch.block (w.heap.size + 2) (by omega) (fun e => by have := (FP.out _ e).1; omega)).trans KR_5.out)
  have o1 := P1.out.chg (lo := w.heap.size + 3) (hi := X4.heap.size) (fun y hy => iv y ((fpm y).2 (by simp [hy]))) (by omega) hch (fun y hy h => (d0 y h).1 hy)
  have o2 := P2.out.chg (lo := w.heap.size + 3) (hi := X4.heap.size) (fun y hy => iv y ((fpm y).2 (by simp [hy]))) (by omega) hch (fun y hy h => (d0 y h).2.1 hy)
  have o3 := P3.out.chg (lo := w.heap.size + 3) (hi := X4.heap.size) (fun y hy => iv y ((fpm y).2 (by simp [hy]))) (by omega) hch (fun y hy h => (d0 y h).2.2 hy)
  have ov := netJoin (n := { n with sites := n.sites.eraseIdx k }) oq o1 o2 o3 (fun y hy => d0 y (hsub y hy)) d1 d2
  have ivf : In (w.heap.size + 3) X4.heap.size (fq ++ (f1 ++ (f2 ++ (f3 ++ [])))) := fun y hy => by
    simp only [List.mem_append, List.not_mem_nil, or_false] at hy
    rcases hy with h | h | h | h
    · have h := hsub y h
      exact iv y ((fpm y).2 (by simp [h]))
    · exact iv y ((fpm y).2 (by simp [h]))
    · exact iv y ((fpm y).2 (by simp [h]))
    · exact iv y ((fpm y).2 (by simp [h]))
  have BF := Lib.hid ((((((bX).setCell (p := ⟨X4.heap.size, 0, none⟩) (by show w.heap.size ≤ X4.heap.size; omega) (.slice a0 (n.sites.length - 1) c0)).setCell (p := ⟨w.heap.size + 2, 0, none⟩) (by show w.heap.size ≤ w.heap.size + 2; omega) (.slice a0 (n.sites.length - 1) c0)).setCell (p := ⟨w.heap.size + 2, 1, none⟩) (by show w.heap.size ≤ w.heap.size + 2; omega) (.slice a1 n.sectors.length c1)).setCell (p := ⟨w.heap.size + 2, 2, none⟩) (by show w.heap.size ≤ w.heap.size + 2; omega) (.slice a2 n.antennas.length c2)).setCell (p := ⟨w.heap.size + 2, 3, none⟩) (by show w.heap.size ≤ w.heap.size + 2; omega) (.slice a3 n.radios.length c3))
  have OF := Lib.hid ((((((ov).setFar (p := ⟨X4.heap.size, 0, none⟩) (fun e => by have := (ivf _ e).2; simp only at this; omega) (.slice a0 (n.sites.length - 1) c0)).setFar (p := ⟨w.heap.size + 2, 0, none⟩) (fun e => by have := (ivf _ e).1; simp only at this; omega) (.slice a0 (n.sites.length - 1) c0)).setFar (p := ⟨w.heap.size + 2, 1, none⟩) (fun e => by have := (ivf _ e).1; simp only at this; omega) (.slice a1 n.sectors.length c1)).setFar (p := ⟨w.heap.size + 2, 2, none⟩) (fun e => by have := (ivf _ e).1; simp only at this; omega) (.slice a2 n.antennas.length c2)).setFar (p := ⟨w.heap.size + 2, 3, none⟩) (fun e => by have := (ivf _ e).1; simp only at this; omega) (.slice a3 n.radios.length c3))
  have IVF := Lib.hid ivf
  clear ivf d0 d1 d2 fpm iv P0 P1 P2 P3 FP
  try clear hch ov bX oq hsub
  try clear o0
  try clear o1
  try clear o2
  try clear o3
  have fL0 := blkC (v := .slice a0 n.sites.length c0) KLr.out 0 rfl
  have fL1 := blkC (v := .slice a1 n.sectors.length c1) KLr.out 1 rfl
  have fL2 := blkC (v := .slice a2 n.antennas.length c2) KLr.out 2 rfl
  have fL3 := blkC (v := .slice a3 n.radios.length c3) KLr.out 3 rfl
  have zLz := blkF KLr.out
  have fR0 := blkC (v := .slice none 0 0) KRr.out 0 rfl
  have fR1 := blkC (v := .slice none 0 0) KRr.out 1 rfl
  have fR2 := blkC (v := .slice none 0 0) KRr.out 2 rfl
  have fR3 := blkC (v := .slice none 0 0) KRr.out 3 rfl
  have zR := blkF KRr.out
  have hneR : (X4.heap.size) ≠ (w.heap.size + 2) := by omega
  go_wp2
  refine bodyPost_ret (v := .tuple #[.agg #[.slice a0 (n.sites.length - 1) c0, .slice a1 n.sectors.length c1, .slice a2 n.antennas.length c2, .slice a3 n.radios.length c3], .int .i64 0]) (by simp [results, Tryz.results24, go_sem, *]) rfl ?_
  rw [HE.out]
  simp only [List.length_eraseIdx_of_lt hk]
  first | refine ⟨a0, c0, a1, c1, a2, c2, a3, c3, _, rfl, BF.out, OF.out, ?_⟩ | refine ⟨a0, c0, a1, c1, a2, c2, a3, c3, rfl, BF.out, _, OF.out, ?_⟩
  simp only [size_setCell]
  exact IVF.out.mono (by omega) (by omega)
set_option maxHeartbeats 8000000 in
set_option maxRecDepth 100000 in
theorem sDropSite_std (n : DNetwork) (nm : ByteArray) (vn0 vn1 vn2 vn3 : Value) (w : World) (rn0 : Rd w.heap.size w (DSite.sT n.sites) vn0) (rn1 : Rd w.heap.size w (DSector.sT n.sectors) vn1) (rn2 : Rd w.heap.size w (DAntenna.sT n.antennas) vn2) (rn3 : Rd w.heap.size w (DRadio.sT n.radios) vn3) (hs_n : sizL n.tr ≤ 1048576) (hk_n : n.ok) (hs_nm : nm.size ≤ 1048576) :
    Calls Tryz.prog 23 #[.agg #[vn0, vn1, vn2, vn3], .string nm] w (fun e w' => ∃ a0_0 c0_0 a0_1 c0_1 a0_2 c0_2 a0_3 c0_3 fp0, e = .returned (.tuple #[.agg #[.slice a0_0 (dropSiteR n nm).1.sites.length c0_0, .slice a0_1 (dropSiteR n nm).1.sectors.length c0_1, .slice a0_2 (dropSiteR n nm).1.antennas.length c0_2, .slice a0_3 (dropSiteR n nm).1.radios.length c0_3], .int .i64 (dropSiteR n nm).2]) ∧ Below w.heap.size w w' ∧ OwnV w' (dropSiteR n nm).1.tr [.slice a0_0 (dropSiteR n nm).1.sites.length c0_0, .slice a0_1 (dropSiteR n nm).1.sectors.length c0_1, .slice a0_2 (dropSiteR n nm).1.antennas.length c0_2, .slice a0_3 (dropSiteR n nm).1.radios.length c0_3] fp0 ∧ In w.heap.size w'.heap.size fp0) := by
  have hq := DNetwork.siz_tr n
  rw [DSite.siz_s, DSector.siz_s, DAntenna.siz_s, DRadio.siz_s] at hq
  obtain ⟨A0, C0, e0, -, -, -⟩ := DSite.rd rn0
  obtain ⟨A1, C1, e1, -, -, -⟩ := DSector.rd rn1
  obtain ⟨A2, C2, e2, -, -, -⟩ := DAntenna.rd rn2
  obtain ⟨A3, C3, e3, -, -, -⟩ := DRadio.rd rn3
  subst e0 e1 e2 e3
  have R0 := Lib.hid rn0
  have R1 := Lib.hid rn1
  have R2 := Lib.hid rn2
  have R3 := Lib.hid rn3
  clear rn0 rn1 rn2 rn3
  by_cases hv : netB n = true
  case neg =>
    replace hv : netB n = false := Bool.eq_false_iff.2 hv
    have HE := Lib.hid (dropSiteR_bad (nm := nm) hv)
    have BB0_ : Below w.heap.size w ((w.alloc (.cells #[.slice A0 n.sites.length C0, .slice A1 n.sectors.length C1, .slice A2 n.antennas.length C2, .slice A3 n.radios.length C3] 35)).alloc (.cells #[.slice none 0 0, .slice none 0 0, .slice none 0 0, .slice none 0 0] 35)) := Below.alloc (Below.alloc (Below.refl _ _) (by first | exact Nat.le_refl _ | (simp; done) | (simp; omega)) _) (by first | exact Nat.le_refl _ | (simp; done) | (simp; omega)) _
    have zz0 : w.heap.size + 2 ≤ ((w.alloc (.cells #[.slice A0 n.sites.length C0, .slice A1 n.sectors.length C1, .slice A2 n.antennas.length C2, .slice A3 n.radios.length C3] 35)).alloc (.cells #[.slice none 0 0, .slice none 0 0, .slice none 0 0, .slice none 0 0] 35)).heap.size := by simp
    have k_N : ((w.alloc (.cells #[.slice A0 n.sites.length C0, .slice A1 n.sectors.length C1, .slice A2 n.antennas.length C2, .slice A3 n.radios.length C3] 35)).alloc (.cells #[.slice none 0 0, .slice none 0 0, .slice none 0 0, .slice none 0 0] 35)).heap[w.heap.size]? = some (.cells #[.slice A0 n.sites.length C0, .slice A1 n.sectors.length C1, .slice A2 n.antennas.length C2, .slice A3 n.radios.length C3] 35 (0, 0)) := by
      have h := blkN w #[.slice A0 n.sites.length C0, .slice A1 n.sectors.length C1, .slice A2 n.antennas.length C2, .slice A3 n.radios.length C3] 35
      replace h := blkA h (by first | (simp; done) | (simp; omega)) (.cells #[.slice none 0 0, .slice none 0 0, .slice none 0 0, .slice none 0 0] 35)
      exact h
    have KN_0 := Lib.hid k_N
    have k_R : ((w.alloc (.cells #[.slice A0 n.sites.length C0, .slice A1 n.sectors.length C1, .slice A2 n.antennas.length C2, .slice A3 n.radios.length C3] 35)).alloc (.cells #[.slice none 0 0, .slice none 0 0, .slice none 0 0, .slice none 0 0] 35)).heap[w.heap.size + 1]? = some (.cells #[.slice none 0 0, .slice none 0 0, .slice none 0 0, .slice none 0 0] 35 (0, 0)) := by
      have h := blkN (w.alloc (.cells #[.slice A0 n.sites.length C0, .slice A1 n.sectors.length C1, .slice A2 n.antennas.length C2, .slice A3 n.radios.length C3] 35)) #[.slice none 0 0, .slice none 0 0, .slice none 0 0, .slice none 0 0] 35
      rw [show (w.alloc (.cells #[.slice A0 n.sites.length C0, .slice A1 n.sectors.length C1, .slice A2 n.antennas.length C2, .slice A3 n.radios.length C3] 35)).heap.size = w.heap.size + 1 by simp] at h
      exact h
    have KR_0 := Lib.hid k_R
    clear k_N k_R
    have BB_0 := Lib.hid BB0_
    clear BB0_
    go_enter Tryz.func23, Tryz.ntmps23
    go_upto_region 1 with (fail)
    generalize ((w.alloc (.cells #[.slice A0 n.sites.length C0, .slice A1 n.sectors.length C1, .slice A2 n.antennas.length C2, .slice A3 n.radios.length C3] 35)).alloc (.cells #[.slice none 0 0, .slice none 0 0, .slice none 0 0, .slice none 0 0] 35)) = W0 at *
    have fN0 := blkC (v := .slice A0 n.sites.length C0) KN_0.out 0 rfl
    have fN1 := blkC (v := .slice A1 n.sectors.length C1) KN_0.out 1 rfl
    have fN2 := blkC (v := .slice A2 n.antennas.length C2) KN_0.out 2 rfl
    have fN3 := blkC (v := .slice A3 n.radios.length C3) KN_0.out 3 rfl
    have fR0 := blkC (v := .slice none 0 0) KR_0.out 0 rfl
    have fR1 := blkC (v := .slice none 0 0) KR_0.out 1 rfl
    have fR2 := blkC (v := .slice none 0 0) KR_0.out 2 rfl
    have fR3 := blkC (v := .slice none 0 0) KR_0.out 3 rfl
    go_wp2_with fail
    refine (l14Ok_any n _ _ _ _ w.heap.size _ ((R0.out.below BB_0.out).mono (by have := BB_0.out.size; omega)) ((R1.out.below BB_0.out).mono (by have := BB_0.out.size; omega)) ((R2.out.below BB_0.out).mono (by have := BB_0.out.size; omega)) ((R3.out.below BB_0.out).mono (by have := BB_0.out.size; omega)) (by omega) (blkC KN_0.out 0 rfl) (blkC KN_0.out 1 rfl) (blkC KN_0.out 2 rfl) (blkC KN_0.out 3 rfl) (by omega) hk_n).mono ?_
    rintro e X1 ⟨rfl, hb⟩
    clear fN0 fN1 fN2 fN3 fR0 fR1 fR2 fR3
    have KN_1 := Lib.hid (blkB KN_0.out hb (by omega))
    have KR_1 := Lib.hid (blkB KR_0.out hb (by omega))
    have BB_1 := Lib.hid (BB_0.out.trans (hb.mono (by omega)))
    have zz1 : W0.heap.size ≤ X1.heap.size := hb.size
    clear KN_0 KR_0 BB_0 hb
    rw [hv]
    have fN0 := blkC (v := .slice A0 n.sites.length C0) KN_1.out 0 rfl
    have fN1 := blkC (v := .slice A1 n.sectors.length C1) KN_1.out 1 rfl
    have fN2 := blkC (v := .slice A2 n.antennas.length C2) KN_1.out 2 rfl
    have fN3 := blkC (v := .slice A3 n.radios.length C3) KN_1.out 3 rfl
    have fR0 := blkC (v := .slice none 0 0) KR_1.out 0 rfl
    have fR1 := blkC (v := .slice none 0 0) KR_1.out 1 rfl
    have fR2 := blkC (v := .slice none 0 0) KR_1.out 2 rfl
    have fR3 := blkC (v := .slice none 0 0) KR_1.out 3 rfl
    have zR := blkF KR_1.out
    go_wp2
    have BF := Lib.hid (((((BB_1.out).setCell (p := ⟨w.heap.size + 1, 0, none⟩) (by show w.heap.size ≤ w.heap.size + 1; omega) (.slice none 0 0)).setCell (p := ⟨w.heap.size + 1, 1, none⟩) (by show w.heap.size ≤ w.heap.size + 1; omega) (.slice none 0 0)).setCell (p := ⟨w.heap.size + 1, 2, none⟩) (by show w.heap.size ≤ w.heap.size + 1; omega) (.slice none 0 0)).setCell (p := ⟨w.heap.size + 1, 3, none⟩) (by show w.heap.size ≤ w.heap.size + 1; omega) (.slice none 0 0))
    refine bodyPost_ret (v := .tuple #[.agg #[.slice none 0 0, .slice none 0 0, .slice none 0 0, .slice none 0 0], .int .i64 1]) (by simp [results, Tryz.results23, go_sem, *]) rfl ?_
    rw [HE.out]
    first | exact ⟨none, 0, none, 0, none, 0, none, 0, [], rfl, BF.out, ownV_zero _, In.nil⟩ | exact ⟨none, 0, none, 0, none, 0, none, 0, rfl, BF.out, [], ownV_zero _, In.nil⟩
  rcases firstIdx_cases' (fun y : DSite => eqS y.name nm) n.sites with ⟨hi, _⟩ | ⟨k, hk, hi, _, _⟩
  · have HE := Lib.hid (dropSiteR_none hv hi)
    have HI : Hid (idxSite n.sites nm = -1) := hi
    clear hi
    have BB0_ : Below w.heap.size w ((w.alloc (.cells #[.slice A0 n.sites.length C0, .slice A1 n.sectors.length C1, .slice A2 n.antennas.length C2, .slice A3 n.radios.length C3] 35)).alloc (.cells #[.slice none 0 0, .slice none 0 0, .slice none 0 0, .slice none 0 0] 35)) := Below.alloc (Below.alloc (Below.refl _ _) (by first | exact Nat.le_refl _ | (simp; done) | (simp; omega)) _) (by first | exact Nat.le_refl _ | (simp; done) | (simp; omega)) _
    have zz0 : w.heap.size + 2 ≤ ((w.alloc (.cells #[.slice A0 n.sites.length C0, .slice A1 n.sectors.length C1, .slice A2 n.antennas.length C2, .slice A3 n.radios.length C3] 35)).alloc (.cells #[.slice none 0 0, .slice none 0 0, .slice none 0 0, .slice none 0 0] 35)).heap.size := by simp
    have k_N : ((w.alloc (.cells #[.slice A0 n.sites.length C0, .slice A1 n.sectors.length C1, .slice A2 n.antennas.length C2, .slice A3 n.radios.length C3] 35)).alloc (.cells #[.slice none 0 0, .slice none 0 0, .slice none 0 0, .slice none 0 0] 35)).heap[w.heap.size]? = some (.cells #[.slice A0 n.sites.length C0, .slice A1 n.sectors.length C1, .slice A2 n.antennas.length C2, .slice A3 n.radios.length C3] 35 (0, 0)) := by
      have h := blkN w #[.slice A0 n.sites.length C0, .slice A1 n.sectors.length C1, .slice A2 n.antennas.length C2, .slice A3 n.radios.length C3] 35
      replace h := blkA h (by first | (simp; done) | (simp; omega)) (.cells #[.slice none 0 0, .slice none 0 0, .slice none 0 0, .slice none 0 0] 35)
      exact h
    have KN_0 := Lib.hid k_N
    have k_R : ((w.alloc (.cells #[.slice A0 n.sites.length C0, .slice A1 n.sectors.length C1, .slice A2 n.antennas.length C2, .slice A3 n.radios.length C3] 35)).alloc (.cells #[.slice none 0 0, .slice none 0 0, .slice none 0 0, .slice none 0 0] 35)).heap[w.heap.size + 1]? = some (.cells #[.slice none 0 0, .slice none 0 0, .slice none 0 0, .slice none 0 0] 35 (0, 0)) := by
      have h := blkN (w.alloc (.cells #[.slice A0 n.sites.length C0, .slice A1 n.sectors.length C1, .slice A2 n.antennas.length C2, .slice A3 n.radios.length C3] 35)) #[.slice none 0 0, .slice none 0 0, .slice none 0 0, .slice none 0 0] 35
      rw [show (w.alloc (.cells #[.slice A0 n.sites.length C0, .slice A1 n.sectors.length C1, .slice A2 n.antennas.length C2, .slice A3 n.radios.length C3] 35)).heap.size = w.heap.size + 1 by simp] at h
      exact h
    have KR_0 := Lib.hid k_R
    clear k_N k_R
    have BB_0 := Lib.hid BB0_
    clear BB0_
    go_enter Tryz.func23, Tryz.ntmps23
    go_upto_region 1 with (fail)
    generalize ((w.alloc (.cells #[.slice A0 n.sites.length C0, .slice A1 n.sectors.length C1, .slice A2 n.antennas.length C2, .slice A3 n.radios.length C3] 35)).alloc (.cells #[.slice none 0 0, .slice none 0 0, .slice none 0 0, .slice none 0 0] 35)) = W0 at *
    have fN0 := blkC (v := .slice A0 n.sites.length C0) KN_0.out 0 rfl
    have fN1 := blkC (v := .slice A1 n.sectors.length C1) KN_0.out 1 rfl
    have fN2 := blkC (v := .slice A2 n.antennas.length C2) KN_0.out 2 rfl
    have fN3 := blkC (v := .slice A3 n.radios.length C3) KN_0.out 3 rfl
    have fR0 := blkC (v := .slice none 0 0) KR_0.out 0 rfl
    have fR1 := blkC (v := .slice none 0 0) KR_0.out 1 rfl
    have fR2 := blkC (v := .slice none 0 0) KR_0.out 2 rfl
    have fR3 := blkC (v := .slice none 0 0) KR_0.out 3 rfl
    go_wp2_with fail
    refine (l14Ok_any n _ _ _ _ w.heap.size _ ((R0.out.below BB_0.out).mono (by have := BB_0.out.size; omega)) ((R1.out.below BB_0.out).mono (by have := BB_0.out.size; omega)) ((R2.out.below BB_0.out).mono (by have := BB_0.out.size; omega)) ((R3.out.below BB_0.out).mono (by have := BB_0.out.size; omega)) (by omega) (blkC KN_0.out 0 rfl) (blkC KN_0.out 1 rfl) (blkC KN_0.out 2 rfl) (blkC KN_0.out 3 rfl) (by omega) hk_n).mono ?_
    rintro e X1 ⟨rfl, hb⟩
    clear fN0 fN1 fN2 fN3 fR0 fR1 fR2 fR3
    have KN_1 := Lib.hid (blkB KN_0.out hb (by omega))
    have KR_1 := Lib.hid (blkB KR_0.out hb (by omega))
    have BB_1 := Lib.hid (BB_0.out.trans (hb.mono (by omega)))
    have zz1 : W0.heap.size ≤ X1.heap.size := hb.size
    clear KN_0 KR_0 BB_0 hb
    rw [hv]
    have fN0 := blkC (v := .slice A0 n.sites.length C0) KN_1.out 0 rfl
    have fN1 := blkC (v := .slice A1 n.sectors.length C1) KN_1.out 1 rfl
    have fN2 := blkC (v := .slice A2 n.antennas.length C2) KN_1.out 2 rfl
    have fN3 := blkC (v := .slice A3 n.radios.length C3) KN_1.out 3 rfl
    have fR0 := blkC (v := .slice none 0 0) KR_1.out 0 rfl
    have fR1 := blkC (v := .slice none 0 0) KR_1.out 1 rfl
    have fR2 := blkC (v := .slice none 0 0) KR_1.out 2 rfl
    have fR3 := blkC (v := .slice none 0 0) KR_1.out 3 rfl
    go_wp2_with fail
    refine (l14FindSite_any n.sites nm _ w.heap.size w.heap.size _ (R0.out.below BB_1.out) (by have := BB_1.out.size; omega) (blkC KN_1.out 0 rfl) (by omega)).mono ?_
    rintro e _ ⟨rfl, rfl⟩
    clear fN0 fN1 fN2 fN3 fR0 fR1 fR2 fR3
    rw [HI.out]
    have fN0 := blkC (v := .slice A0 n.sites.length C0) KN_1.out 0 rfl
    have fN1 := blkC (v := .slice A1 n.sectors.length C1) KN_1.out 1 rfl
    have fN2 := blkC (v := .slice A2 n.antennas.length C2) KN_1.out 2 rfl
    have fN3 := blkC (v := .slice A3 n.radios.length C3) KN_1.out 3 rfl
    have fR0 := blkC (v := .slice none 0 0) KR_1.out 0 rfl
    have fR1 := blkC (v := .slice none 0 0) KR_1.out 1 rfl
    have fR2 := blkC (v := .slice none 0 0) KR_1.out 2 rfl
    have fR3 := blkC (v := .slice none 0 0) KR_1.out 3 rfl
    have zR := blkF KR_1.out
    go_wp2
    have BF := Lib.hid (((((BB_1.out).setCell (p := ⟨w.heap.size + 1, 0, none⟩) (by show w.heap.size ≤ w.heap.size + 1; omega) (.slice none 0 0)).setCell (p := ⟨w.heap.size + 1, 1, none⟩) (by show w.heap.size ≤ w.heap.size + 1; omega) (.slice none 0 0)).setCell (p := ⟨w.heap.size + 1, 2, none⟩) (by show w.heap.size ≤ w.heap.size + 1; omega) (.slice none 0 0)).setCell (p := ⟨w.heap.size + 1, 3, none⟩) (by show w.heap.size ≤ w.heap.size + 1; omega) (.slice none 0 0))
    refine bodyPost_ret (v := .tuple #[.agg #[.slice none 0 0, .slice none 0 0, .slice none 0 0, .slice none 0 0], .int .i64 3]) (by simp [results, Tryz.results23, go_sem, *]) rfl ?_
    rw [HE.out]
    first | exact ⟨none, 0, none, 0, none, 0, none, 0, [], rfl, BF.out, ownV_zero _, In.nil⟩ | exact ⟨none, 0, none, 0, none, 0, none, 0, rfl, BF.out, [], ownV_zero _, In.nil⟩
  by_cases hu : n.sectors.any (atSite nm) = true
  · have HE := Lib.hid (dropSiteR_used hv hi hu)
    have HI : Hid (idxSite n.sites nm = (k : Int)) := hi
    have HU := Lib.hid hu
    clear hi hu
    have BB0_ : Below w.heap.size w ((w.alloc (.cells #[.slice A0 n.sites.length C0, .slice A1 n.sectors.length C1, .slice A2 n.antennas.length C2, .slice A3 n.radios.length C3] 35)).alloc (.cells #[.slice none 0 0, .slice none 0 0, .slice none 0 0, .slice none 0 0] 35)) := Below.alloc (Below.alloc (Below.refl _ _) (by first | exact Nat.le_refl _ | (simp; done) | (simp; omega)) _) (by first | exact Nat.le_refl _ | (simp; done) | (simp; omega)) _
    have zz0 : w.heap.size + 2 ≤ ((w.alloc (.cells #[.slice A0 n.sites.length C0, .slice A1 n.sectors.length C1, .slice A2 n.antennas.length C2, .slice A3 n.radios.length C3] 35)).alloc (.cells #[.slice none 0 0, .slice none 0 0, .slice none 0 0, .slice none 0 0] 35)).heap.size := by simp
    have k_N : ((w.alloc (.cells #[.slice A0 n.sites.length C0, .slice A1 n.sectors.length C1, .slice A2 n.antennas.length C2, .slice A3 n.radios.length C3] 35)).alloc (.cells #[.slice none 0 0, .slice none 0 0, .slice none 0 0, .slice none 0 0] 35)).heap[w.heap.size]? = some (.cells #[.slice A0 n.sites.length C0, .slice A1 n.sectors.length C1, .slice A2 n.antennas.length C2, .slice A3 n.radios.length C3] 35 (0, 0)) := by
      have h := blkN w #[.slice A0 n.sites.length C0, .slice A1 n.sectors.length C1, .slice A2 n.antennas.length C2, .slice A3 n.radios.length C3] 35
      replace h := blkA h (by first | (simp; done) | (simp; omega)) (.cells #[.slice none 0 0, .slice none 0 0, .slice none 0 0, .slice none 0 0] 35)
      exact h
    have KN_0 := Lib.hid k_N
    have k_R : ((w.alloc (.cells #[.slice A0 n.sites.length C0, .slice A1 n.sectors.length C1, .slice A2 n.antennas.length C2, .slice A3 n.radios.length C3] 35)).alloc (.cells #[.slice none 0 0, .slice none 0 0, .slice none 0 0, .slice none 0 0] 35)).heap[w.heap.size + 1]? = some (.cells #[.slice none 0 0, .slice none 0 0, .slice none 0 0, .slice none 0 0] 35 (0, 0)) := by
      have h := blkN (w.alloc (.cells #[.slice A0 n.sites.length C0, .slice A1 n.sectors.length C1, .slice A2 n.antennas.length C2, .slice A3 n.radios.length C3] 35)) #[.slice none 0 0, .slice none 0 0, .slice none 0 0, .slice none 0 0] 35
      rw [show (w.alloc (.cells #[.slice A0 n.sites.length C0, .slice A1 n.sectors.length C1, .slice A2 n.antennas.length C2, .slice A3 n.radios.length C3] 35)).heap.size = w.heap.size + 1 by simp] at h
      exact h
    have KR_0 := Lib.hid k_R
    clear k_N k_R
    have BB_0 := Lib.hid BB0_
    clear BB0_
    go_enter Tryz.func23, Tryz.ntmps23
    go_upto_region 1 with (fail)
    generalize ((w.alloc (.cells #[.slice A0 n.sites.length C0, .slice A1 n.sectors.length C1, .slice A2 n.antennas.length C2, .slice A3 n.radios.length C3] 35)).alloc (.cells #[.slice none 0 0, .slice none 0 0, .slice none 0 0, .slice none 0 0] 35)) = W0 at *
    have fN0 := blkC (v := .slice A0 n.sites.length C0) KN_0.out 0 rfl
    have fN1 := blkC (v := .slice A1 n.sectors.length C1) KN_0.out 1 rfl
    have fN2 := blkC (v := .slice A2 n.antennas.length C2) KN_0.out 2 rfl
    have fN3 := blkC (v := .slice A3 n.radios.length C3) KN_0.out 3 rfl
    have fR0 := blkC (v := .slice none 0 0) KR_0.out 0 rfl
    have fR1 := blkC (v := .slice none 0 0) KR_0.out 1 rfl
    have fR2 := blkC (v := .slice none 0 0) KR_0.out 2 rfl
    have fR3 := blkC (v := .slice none 0 0) KR_0.out 3 rfl
    go_wp2_with fail
    refine (l14Ok_any n _ _ _ _ w.heap.size _ ((R0.out.below BB_0.out).mono (by have := BB_0.out.size; omega)) ((R1.out.below BB_0.out).mono (by have := BB_0.out.size; omega)) ((R2.out.below BB_0.out).mono (by have := BB_0.out.size; omega)) ((R3.out.below BB_0.out).mono (by have := BB_0.out.size; omega)) (by omega) (blkC KN_0.out 0 rfl) (blkC KN_0.out 1 rfl) (blkC KN_0.out 2 rfl) (blkC KN_0.out 3 rfl) (by omega) hk_n).mono ?_
    rintro e X1 ⟨rfl, hb⟩
    clear fN0 fN1 fN2 fN3 fR0 fR1 fR2 fR3
    have KN_1 := Lib.hid (blkB KN_0.out hb (by omega))
    have KR_1 := Lib.hid (blkB KR_0.out hb (by omega))
    have BB_1 := Lib.hid (BB_0.out.trans (hb.mono (by omega)))
    have zz1 : W0.heap.size ≤ X1.heap.size := hb.size
    clear KN_0 KR_0 BB_0 hb
    rw [hv]
    have fN0 := blkC (v := .slice A0 n.sites.length C0) KN_1.out 0 rfl
    have fN1 := blkC (v := .slice A1 n.sectors.length C1) KN_1.out 1 rfl
    have fN2 := blkC (v := .slice A2 n.antennas.length C2) KN_1.out 2 rfl
    have fN3 := blkC (v := .slice A3 n.radios.length C3) KN_1.out 3 rfl
    have fR0 := blkC (v := .slice none 0 0) KR_1.out 0 rfl
    have fR1 := blkC (v := .slice none 0 0) KR_1.out 1 rfl
    have fR2 := blkC (v := .slice none 0 0) KR_1.out 2 rfl
    have fR3 := blkC (v := .slice none 0 0) KR_1.out 3 rfl
    go_wp2_with fail
    refine (l14FindSite_any n.sites nm _ w.heap.size w.heap.size _ (R0.out.below BB_1.out) (by have := BB_1.out.size; omega) (blkC KN_1.out 0 rfl) (by omega)).mono ?_
    rintro e _ ⟨rfl, rfl⟩
    clear fN0 fN1 fN2 fN3 fR0 fR1 fR2 fR3
    rw [HI.out]
    have hneg : decide ((k : Int) < 0) = false := by simp
    have fN0 := blkC (v := .slice A0 n.sites.length C0) KN_1.out 0 rfl
    have fN1 := blkC (v := .slice A1 n.sectors.length C1) KN_1.out 1 rfl
    have fN2 := blkC (v := .slice A2 n.antennas.length C2) KN_1.out 2 rfl
    have fN3 := blkC (v := .slice A3 n.radios.length C3) KN_1.out 3 rfl
    have fR0 := blkC (v := .slice none 0 0) KR_1.out 0 rfl
    have fR1 := blkC (v := .slice none 0 0) KR_1.out 1 rfl
    have fR2 := blkC (v := .slice none 0 0) KR_1.out 2 rfl
    have fR3 := blkC (v := .slice none 0 0) KR_1.out 3 rfl
    go_wp2_with fail
    refine (l14At_any n nm _ w.heap.size _ ((R1.out.below BB_1.out).mono (by have := BB_1.out.size; omega)) (by omega) (blkC KN_1.out 1 rfl) (by omega)).mono ?_
    rintro e X2 ⟨aL, cL, fL_, rfl, hb, -, -⟩
    clear fN0 fN1 fN2 fN3 fR0 fR1 fR2 fR3
    have KN_2 := Lib.hid (blkB KN_1.out hb (by omega))
    have KR_2 := Lib.hid (blkB KR_1.out hb (by omega))
    have BB_2 := Lib.hid (BB_1.out.trans (hb.mono (by omega)))
    have zz2 : X1.heap.size ≤ X2.heap.size := hb.size
    clear KN_1 KR_1 BB_1 hb
    have hpos := col_any DSector.name (atSite nm) n.sectors HU.out
    generalize (col DSector.name (atSite nm) n.sectors).length = cl at *
    have hpos2 : (0 : Int) < (cl : Int) := by omega
    have fN0 := blkC (v := .slice A0 n.sites.length C0) KN_2.out 0 rfl
    have fN1 := blkC (v := .slice A1 n.sectors.length C1) KN_2.out 1 rfl
    have fN2 := blkC (v := .slice A2 n.antennas.length C2) KN_2.out 2 rfl
    have fN3 := blkC (v := .slice A3 n.radios.length C3) KN_2.out 3 rfl
    have fR0 := blkC (v := .slice none 0 0) KR_2.out 0 rfl
    have fR1 := blkC (v := .slice none 0 0) KR_2.out 1 rfl
    have fR2 := blkC (v := .slice none 0 0) KR_2.out 2 rfl
    have fR3 := blkC (v := .slice none 0 0) KR_2.out 3 rfl
    have zR := blkF KR_2.out
    go_wp2
    have BF := Lib.hid (((((BB_2.out).setCell (p := ⟨w.heap.size + 1, 0, none⟩) (by show w.heap.size ≤ w.heap.size + 1; omega) (.slice none 0 0)).setCell (p := ⟨w.heap.size + 1, 1, none⟩) (by show w.heap.size ≤ w.heap.size + 1; omega) (.slice none 0 0)).setCell (p := ⟨w.heap.size + 1, 2, none⟩) (by show w.heap.size ≤ w.heap.size + 1; omega) (.slice none 0 0)).setCell (p := ⟨w.heap.size + 1, 3, none⟩) (by show w.heap.size ≤ w.heap.size + 1; omega) (.slice none 0 0))
    refine bodyPost_ret (v := .tuple #[.agg #[.slice none 0 0, .slice none 0 0, .slice none 0 0, .slice none 0 0], .int .i64 6]) (by simp [results, Tryz.results23, go_sem, *]) rfl ?_
    rw [HE.out]
    first | exact ⟨none, 0, none, 0, none, 0, none, 0, [], rfl, BF.out, ownV_zero _, In.nil⟩ | exact ⟨none, 0, none, 0, none, 0, none, 0, rfl, BF.out, [], ownV_zero _, In.nil⟩
  replace hu : n.sectors.any (atSite nm) = false := Bool.eq_false_iff.2 hu
  have HE := Lib.hid (dropSiteR_ok hv hi hu)
  have HI : Hid (idxSite n.sites nm = (k : Int)) := hi
  have HU := Lib.hid hu
  clear hi hu
  have hsl : n.sites.length ≤ 1048576 := by omega
  have rs_ := R0.out
  rw [DSite.sT_vs] at rs_
  have RS := Lib.hid (rs_.readsV (by omega))
  obtain ⟨_, _, ee_, hlc, hcm_, -⟩ := DSite.rd R0.out
  injection ee_ with ee1_ _ ee3_
  subst ee1_ ee3_
  unfold maxLen at hcm_
  have ON := Lib.hid (DSite.vs_one n.sites)
  clear rs_
  have hkn : k ≤ n.sites.length := by omega
  have kc1 : (k : Int) ≤ (C0 : Int) := by omega
  have kc2 : k ≤ C0 := by omega
  have BB0_ : Below w.heap.size w ((w.alloc (.cells #[.slice A0 n.sites.length C0, .slice A1 n.sectors.length C1, .slice A2 n.antennas.length C2, .slice A3 n.radios.length C3] 35)).alloc (.cells #[.slice none 0 0, .slice none 0 0, .slice none 0 0, .slice none 0 0] 35)) := Below.alloc (Below.alloc (Below.refl _ _) (by first | exact Nat.le_refl _ | (simp; done) | (simp; omega)) _) (by first | exact Nat.le_refl _ | (simp; done) | (simp; omega)) _
  have zz0 : w.heap.size + 2 ≤ ((w.alloc (.cells #[.slice A0 n.sites.length C0, .slice A1 n.sectors.length C1, .slice A2 n.antennas.length C2, .slice A3 n.radios.length C3] 35)).alloc (.cells #[.slice none 0 0, .slice none 0 0, .slice none 0 0, .slice none 0 0] 35)).heap.size := by simp
  have k_N : ((w.alloc (.cells #[.slice A0 n.sites.length C0, .slice A1 n.sectors.length C1, .slice A2 n.antennas.length C2, .slice A3 n.radios.length C3] 35)).alloc (.cells #[.slice none 0 0, .slice none 0 0, .slice none 0 0, .slice none 0 0] 35)).heap[w.heap.size]? = some (.cells #[.slice A0 n.sites.length C0, .slice A1 n.sectors.length C1, .slice A2 n.antennas.length C2, .slice A3 n.radios.length C3] 35 (0, 0)) := by
    have h := blkN w #[.slice A0 n.sites.length C0, .slice A1 n.sectors.length C1, .slice A2 n.antennas.length C2, .slice A3 n.radios.length C3] 35
    replace h := blkA h (by first | (simp; done) | (simp; omega)) (.cells #[.slice none 0 0, .slice none 0 0, .slice none 0 0, .slice none 0 0] 35)
    exact h
  have KN_0 := Lib.hid k_N
  have k_R : ((w.alloc (.cells #[.slice A0 n.sites.length C0, .slice A1 n.sectors.length C1, .slice A2 n.antennas.length C2, .slice A3 n.radios.length C3] 35)).alloc (.cells #[.slice none 0 0, .slice none 0 0, .slice none 0 0, .slice none 0 0] 35)).heap[w.heap.size + 1]? = some (.cells #[.slice none 0 0, .slice none 0 0, .slice none 0 0, .slice none 0 0] 35 (0, 0)) := by
    have h := blkN (w.alloc (.cells #[.slice A0 n.sites.length C0, .slice A1 n.sectors.length C1, .slice A2 n.antennas.length C2, .slice A3 n.radios.length C3] 35)) #[.slice none 0 0, .slice none 0 0, .slice none 0 0, .slice none 0 0] 35
    rw [show (w.alloc (.cells #[.slice A0 n.sites.length C0, .slice A1 n.sectors.length C1, .slice A2 n.antennas.length C2, .slice A3 n.radios.length C3] 35)).heap.size = w.heap.size + 1 by simp] at h
    exact h
  have KR_0 := Lib.hid k_R
  clear k_N k_R
  have BB_0 := Lib.hid BB0_
  clear BB0_
  go_enter Tryz.func23, Tryz.ntmps23
  go_upto_region 1 with (fail)
  generalize ((w.alloc (.cells #[.slice A0 n.sites.length C0, .slice A1 n.sectors.length C1, .slice A2 n.antennas.length C2, .slice A3 n.radios.length C3] 35)).alloc (.cells #[.slice none 0 0, .slice none 0 0, .slice none 0 0, .slice none 0 0] 35)) = W0 at *
  have fN0 := blkC (v := .slice A0 n.sites.length C0) KN_0.out 0 rfl
  have fN1 := blkC (v := .slice A1 n.sectors.length C1) KN_0.out 1 rfl
  have fN2 := blkC (v := .slice A2 n.antennas.length C2) KN_0.out 2 rfl
  have fN3 := blkC (v := .slice A3 n.radios.length C3) KN_0.out 3 rfl
  have fR0 := blkC (v := .slice none 0 0) KR_0.out 0 rfl
  have fR1 := blkC (v := .slice none 0 0) KR_0.out 1 rfl
  have fR2 := blkC (v := .slice none 0 0) KR_0.out 2 rfl
  have fR3 := blkC (v := .slice none 0 0) KR_0.out 3 rfl
  go_wp2_with fail
  refine (l14Ok_any n _ _ _ _ w.heap.size _ ((R0.out.below BB_0.out).mono (by have := BB_0.out.size; omega)) ((R1.out.below BB_0.out).mono (by have := BB_0.out.size; omega)) ((R2.out.below BB_0.out).mono (by have := BB_0.out.size; omega)) ((R3.out.below BB_0.out).mono (by have := BB_0.out.size; omega)) (by omega) (blkC KN_0.out 0 rfl) (blkC KN_0.out 1 rfl) (blkC KN_0.out 2 rfl) (blkC KN_0.out 3 rfl) (by omega) hk_n).mono ?_
  rintro e X1 ⟨rfl, hb⟩
  clear fN0 fN1 fN2 fN3 fR0 fR1 fR2 fR3
  have KN_1 := Lib.hid (blkB KN_0.out hb (by omega))
  have KR_1 := Lib.hid (blkB KR_0.out hb (by omega))
  have BB_1 := Lib.hid (BB_0.out.trans (hb.mono (by omega)))
  have zz1 : W0.heap.size ≤ X1.heap.size := hb.size
  clear KN_0 KR_0 BB_0 hb
  rw [hv]
  have fN0 := blkC (v := .slice A0 n.sites.length C0) KN_1.out 0 rfl
  have fN1 := blkC (v := .slice A1 n.sectors.length C1) KN_1.out 1 rfl
  have fN2 := blkC (v := .slice A2 n.antennas.length C2) KN_1.out 2 rfl
  have fN3 := blkC (v := .slice A3 n.radios.length C3) KN_1.out 3 rfl
  have fR0 := blkC (v := .slice none 0 0) KR_1.out 0 rfl
  have fR1 := blkC (v := .slice none 0 0) KR_1.out 1 rfl
  have fR2 := blkC (v := .slice none 0 0) KR_1.out 2 rfl
  have fR3 := blkC (v := .slice none 0 0) KR_1.out 3 rfl
  go_wp2_with fail
  refine (l14FindSite_any n.sites nm _ w.heap.size w.heap.size _ (R0.out.below BB_1.out) (by have := BB_1.out.size; omega) (blkC KN_1.out 0 rfl) (by omega)).mono ?_
  rintro e _ ⟨rfl, rfl⟩
  clear fN0 fN1 fN2 fN3 fR0 fR1 fR2 fR3
  rw [HI.out]
  have hneg : decide ((k : Int) < 0) = false := by simp
  have fN0 := blkC (v := .slice A0 n.sites.length C0) KN_1.out 0 rfl
  have fN1 := blkC (v := .slice A1 n.sectors.length C1) KN_1.out 1 rfl
  have fN2 := blkC (v := .slice A2 n.antennas.length C2) KN_1.out 2 rfl
  have fN3 := blkC (v := .slice A3 n.radios.length C3) KN_1.out 3 rfl
  have fR0 := blkC (v := .slice none 0 0) KR_1.out 0 rfl
  have fR1 := blkC (v := .slice none 0 0) KR_1.out 1 rfl
  have fR2 := blkC (v := .slice none 0 0) KR_1.out 2 rfl
  have fR3 := blkC (v := .slice none 0 0) KR_1.out 3 rfl
  go_wp2_with fail
  refine (l14At_any n nm _ w.heap.size _ ((R1.out.below BB_1.out).mono (by have := BB_1.out.size; omega)) (by omega) (blkC KN_1.out 1 rfl) (by omega)).mono ?_
  rintro e X2 ⟨aL, cL, fL_, rfl, hb, -, -⟩
  clear fN0 fN1 fN2 fN3 fR0 fR1 fR2 fR3
  have KN_2 := Lib.hid (blkB KN_1.out hb (by omega))
  have KR_2 := Lib.hid (blkB KR_1.out hb (by omega))
  have BB_2 := Lib.hid (BB_1.out.trans (hb.mono (by omega)))
  have zz2 : X1.heap.size ≤ X2.heap.size := hb.size
  clear KN_1 KR_1 BB_1 hb
  rw [col_none DSector.name (atSite nm) n.sectors HU.out]
  have fN0 := blkC (v := .slice A0 n.sites.length C0) KN_2.out 0 rfl
  have fN1 := blkC (v := .slice A1 n.sectors.length C1) KN_2.out 1 rfl
  have fN2 := blkC (v := .slice A2 n.antennas.length C2) KN_2.out 2 rfl
  have fN3 := blkC (v := .slice A3 n.radios.length C3) KN_2.out 3 rfl
  have fR0 := blkC (v := .slice none 0 0) KR_2.out 0 rfl
  have fR1 := blkC (v := .slice none 0 0) KR_2.out 1 rfl
  have fR2 := blkC (v := .slice none 0 0) KR_2.out 2 rfl
  have fR3 := blkC (v := .slice none 0 0) KR_2.out 3 rfl
  go_wp2_with fail
  refine (l14Own_any n _ _ _ _ w.heap.size _ ((R0.out.below BB_2.out).mono (by have := BB_2.out.size; omega)) ((R1.out.below BB_2.out).mono (by have := BB_2.out.size; omega)) ((R2.out.below BB_2.out).mono (by have := BB_2.out.size; omega)) ((R3.out.below BB_2.out).mono (by have := BB_2.out.size; omega)) (by omega) (blkC KN_2.out 0 rfl) (blkC KN_2.out 1 rfl) (blkC KN_2.out 2 rfl) (blkC KN_2.out 3 rfl) hs_n).mono ?_
  rintro e X3 ⟨a0, c0, a1, c1, a2, c2, a3, c3, fp, rfl, hb, ov, iv_⟩
  clear fN0 fN1 fN2 fN3 fR0 fR1 fR2 fR3
  have KN_3 := Lib.hid (blkB KN_2.out hb (by omega))
  have KR_3 := Lib.hid (blkB KR_2.out hb (by omega))
  have BB_3 := Lib.hid (BB_2.out.trans (hb.mono (by omega)))
  have zz3 : X2.heap.size ≤ X3.heap.size := hb.size
  clear KN_2 KR_2 BB_2 hb
  clear hneg
  obtain ⟨f0, f1, f2, f3, fpm, O0, O1, O2, O3, d0, d1, d2⟩ := netSplit ov
  have iv : In (w.heap.size + 2) X3.heap.size fp := iv_.mono (by omega) (Nat.le_refl _)
  clear ov iv_
  have fN0 := blkC (v := .slice A0 n.sites.length C0) KN_3.out 0 rfl
  have fN1 := blkC (v := .slice A1 n.sectors.length C1) KN_3.out 1 rfl
  have fN2 := blkC (v := .slice A2 n.antennas.length C2) KN_3.out 2 rfl
  have fN3 := blkC (v := .slice A3 n.radios.length C3) KN_3.out 3 rfl
  have fR0 := blkC (v := .slice none 0 0) KR_3.out 0 rfl
  have fR1 := blkC (v := .slice none 0 0) KR_3.out 1 rfl
  have fR2 := blkC (v := .slice none 0 0) KR_3.out 2 rfl
  have fR3 := blkC (v := .slice none 0 0) KR_3.out 3 rfl
  go_upto_region 9 with (fail)
  clear fN0 fN1 fN2 fN3 fR0 fR1 fR2 fR3
  have hbA : Below X3.heap.size X3 (X3.alloc (.cells #[.slice a0 n.sites.length c0, .slice a1 n.sectors.length c1, .slice a2 n.antennas.length c2, .slice a3 n.radios.length c3] 35)) := (Below.refl _ _).alloc (Nat.le_refl _) _
  have kL := blkN X3 #[.slice a0 n.sites.length c0, .slice a1 n.sectors.length c1, .slice a2 n.antennas.length c2, .slice a3 n.radios.length c3] 35
  have zL : X3.heap.size + 1 ≤ (X3.alloc (.cells #[.slice a0 n.sites.length c0, .slice a1 n.sectors.length c1, .slice a2 n.antennas.length c2, .slice a3 n.radios.length c3] 35)).heap.size := by simp
  have P0 := Lib.hid (O0.below (lo := w.heap.size + 2) (hi := X3.heap.size) (fun y hy => iv y ((fpm y).2 (by simp [hy]))) (Nat.le_refl _) hbA)
  have P1 := Lib.hid (O1.below (lo := w.heap.size + 2) (hi := X3.heap.size) (fun y hy => iv y ((fpm y).2 (by simp [hy]))) (Nat.le_refl _) hbA)
  have P2 := Lib.hid (O2.below (lo := w.heap.size + 2) (hi := X3.heap.size) (fun y hy => iv y ((fpm y).2 (by simp [hy]))) (Nat.le_refl _) hbA)
  have P3 := Lib.hid (O3.below (lo := w.heap.size + 2) (hi := X3.heap.size) (fun y hy => iv y ((fpm y).2 (by simp [hy]))) (Nat.le_refl _) hbA)
  clear O0 O1 O2 O3
  generalize (X3.alloc (.cells #[.slice a0 n.sites.length c0, .slice a1 n.sectors.length c1, .slice a2 n.antennas.length c2, .slice a3 n.radios.length c3] 35)) = Y at *
  have KL_4 := Lib.hid kL
  clear kL
  have KN_4 := Lib.hid (blkB KN_3.out hbA (by omega))
  have KR_4 := Lib.hid (blkB KR_3.out hbA (by omega))
  have BB_4 := Lib.hid (BB_3.out.trans (hbA.mono (by omega)))
  have zz4 : X3.heap.size ≤ Y.heap.size := hbA.size
  clear KN_3 KR_3 BB_3 hbA
  obtain ⟨ti, hi0, hi1, hi2, hi3⟩ := info_parts infoSite
  have IN1 : Hid (In (w.heap.size + 2) X3.heap.size f1) := fun y hy => iv y ((fpm y).2 (by simp [hy]))
  have IN2 : Hid (In (w.heap.size + 2) X3.heap.size f2) := fun y hy => iv y ((fpm y).2 (by simp [hy]))
  have IN3 : Hid (In (w.heap.size + 2) X3.heap.size f3) := fun y hy => iv y ((fpm y).2 (by simp [hy]))
  have hYb : X3.heap.size < Y.heap.size := by omega
  have BW_4 := Lib.hid BB_4.out
  have P1_4 := P1
  have P2_4 := P2
  have P3_4 := P3
  have zY_4 : Y.heap.size ≤ Y.heap.size := Nat.le_refl _
  have fL0 := blkC (v := .slice a0 n.sites.length c0) KL_4.out 0 rfl
  have fL1 := blkC (v := .slice a1 n.sectors.length c1) KL_4.out 1 rfl
  have fL2 := blkC (v := .slice a2 n.antennas.length c2) KL_4.out 2 rfl
  have fL3 := blkC (v := .slice a3 n.radios.length c3) KL_4.out 3 rfl
  have zLz := blkF KL_4.out
  have hnc := (blkC (v := .slice A0 n.sites.length C0) KN_4.out 0 rfl)
  have hby : w.heap.size < Y.heap.size := by have := BW_4.out.size; omega
  go_wp2_with (at_builtin; refine wpList_append_first rfl (.tmp 22) (.tmp 26) _ rfl 62 ti _ 4 48 Tryz.underlying30 hi0 hi1 hi2 hi3 rfl (by omega) rfl w.heap.size A0 k C0 ((n.sites.flatMap DSite.vs).take (k * 4)) rfl ((RS.out.below BW_4.out).head hkn) (by omega) (fun u hu => ON.out u (List.mem_of_mem_take hu)) (by simp only [maxLen]; omega) (by omega) ?_; intro a5 c5 Z1 hown1 hb1 hz1; have HO_5 := Lib.hid hown1; have HB1 := Lib.hid hb1; have kl1 := ((hb1.block X3.heap.size (by omega)).trans KL_4.out); have g0 := blkC (v := .slice a0 n.sites.length c0) kl1 0 rfl; have gz := blkF kl1; clear hown1 hb1 kl1)
  have hb1 := HB1.out
  clear HB1 hnc hby gz g0 fL0 fL1 fL2 fL3 zLz
  have KN_5 := Lib.hid ((hb1.block (w.heap.size) (by omega)).trans KN_4.out)
  have KR_5 := Lib.hid ((hb1.block (w.heap.size + 1) (by omega)).trans KR_4.out)
  have KL_5 := Lib.hid ((hb1.block (X3.heap.size) (by omega)).trans KL_4.out)
  have BW_5 := Lib.hid (BW_4.out.trans (hb1.mono (by omega)))
  have P1_5 := Lib.hid (P1_4.out.below IN1.out (by omega) hb1)
  have P2_5 := Lib.hid (P2_4.out.below IN2.out (by omega) hb1)
  have P3_5 := Lib.hid (P3_4.out.below IN3.out (by omega) hb1)
  have zY_5 : Y.heap.size ≤ Z1.heap.size := by have := hb1.size; omega
  clear KN_4 KR_4 KL_4 BW_4 P1_4 P2_4 P3_4
  clear hb1
  have KN_6 : Hid ((Z1.setCell ⟨X3.heap.size, 0, none⟩ (.slice a5 k c5)).heap[(w.heap.size)]? = _) := Lib.hid (blkO KN_5.out (p := ⟨X3.heap.size, 0, none⟩) (by show w.heap.size ≠ X3.heap.size; omega) (.slice a5 k c5))
  have KR_6 : Hid ((Z1.setCell ⟨X3.heap.size, 0, none⟩ (.slice a5 k c5)).heap[(w.heap.size + 1)]? = _) := Lib.hid (blkO KR_5.out (p := ⟨X3.heap.size, 0, none⟩) (by show w.heap.size + 1 ≠ X3.heap.size; omega) (.slice a5 k c5))
  have kl_ : (Z1.setCell ⟨X3.heap.size, 0, none⟩ (.slice a5 k c5)).heap[X3.heap.size]? = some (.cells #[.slice a5 k c5, .slice a1 n.sectors.length c1, .slice a2 n.antennas.length c2, .slice a3 n.radios.length c3] 35 (0, 0)) := by
    have h_ := blkS KL_5.out 0 (.slice a5 k c5)
    simpa using h_
  have KL_6 := Lib.hid kl_
  clear kl_
  have BW_6 := Lib.hid (BW_5.out.setCell (p := ⟨X3.heap.size, 0, none⟩) (by show w.heap.size ≤ X3.heap.size; omega) (.slice a5 k c5))
  have P1_6 := Lib.hid (P1_5.out.frame (w' := (Z1.setCell ⟨X3.heap.size, 0, none⟩ (.slice a5 k c5))) (fun b hb => Below.heap_setCell _ _ _ b (by have := (IN1.out b hb).2; show b ≠ X3.heap.size; omega)))
  have P2_6 := Lib.hid (P2_5.out.frame (w' := (Z1.setCell ⟨X3.heap.size, 0, none⟩ (.slice a5 k c5))) (fun b hb => Below.heap_setCell _ _ _ b (by have := (IN2.out b hb).2; show b ≠ X3.heap.size; omega)))
  have P3_6 := Lib.hid (P3_5.out.frame (w' := (Z1.setCell ⟨X3.heap.size, 0, none⟩ (.slice a5 k c5))) (fun b hb => Below.heap_setCell _ _ _ b (by have := (IN3.out b hb).2; show b ≠ X3.heap.size; omega)))
  have zY_6 : Y.heap.size ≤ (Z1.setCell ⟨X3.heap.size, 0, none⟩ (.slice a5 k c5)).heap.size := by rw [size_setCell]; omega
  have HO_6 := Lib.hid (ownsRow_frame (w' := (Z1.setCell ⟨X3.heap.size, 0, none⟩ (.slice a5 k c5))) HO_5.out (fun g hg => Below.heap_setCell _ _ _ g (by have := (ownsRow_block HO_5.out hg).1; show g ≠ X3.heap.size; omega)))
  clear KN_5 KR_5 KL_5 BW_5 P1_5 P2_5 P3_5
  clear HO_5
  generalize (Z1.setCell ⟨X3.heap.size, 0, none⟩ (.slice a5 k c5)) = Z2 at *
  have kd1 : (k : Int) + 1 ≤ (n.sites.length : Int) := by omega
  have kd2 : IntKind.i64.wrap ((k : Int) + 1) = (k : Int) + 1 := IntWalk.i64_in _ (by omega)
  have kd3 : (0 : Int) ≤ (k : Int) + 1 := by omega
  have kd4 : ((k : Int) + 1).toNat = k + 1 := by omega
  have fL0 := blkC (v := .slice a5 k c5) KL_6.out 0 rfl
  have fL1 := blkC (v := .slice a1 n.sectors.length c1) KL_6.out 1 rfl
  have fL2 := blkC (v := .slice a2 n.antennas.length c2) KL_6.out 2 rfl
  have fL3 := blkC (v := .slice a3 n.radios.length c3) KL_6.out 3 rfl
  have zLz := blkF KL_6.out
  have fN_ : Z2.cell? ⟨w.heap.size, 0, none⟩ = some (.slice A0 n.sites.length C0) := blkC KN_6.out 0 rfl
  refine wp_region_ord 7 [(0, true), (1, true), (2, true), (3, true), (4, true), (5, true), (6, true)] (fun W => W.cell? ⟨X3.heap.size, 0, none⟩ = some (.slice a5 k c5) ∧ W.cell? ⟨w.heap.size, 0, none⟩ = some (.slice A0 n.sites.length C0)) (by kernel_rfl) (by kernel_rfl) ⟨fL0, fN_⟩ (fun hHeld => ?_)
  refine wpOrd_read (v := ?_) rfl (fun _ _ _ h => h) ?_ ?_
  rotate_left
  · (intro W hSW; (try dsimp only at hSW); (go_simp <;> with_reducible rfl))
  (try simp only [Act.put, List.setIfInBounds_toArray, List.set_cons_zero, List.set_cons_succ])
  refine wpOrd_read (v := ?_) rfl (fun _ _ _ h => h) ?_ ?_
  rotate_left
  · (intro W hSW; (try dsimp only at hSW); (go_simp <;> with_reducible rfl))
  (try simp only [Act.put, List.setIfInBounds_toArray, List.set_cons_zero, List.set_cons_succ])
  refine wpOrd_read (v := ?_) rfl (fun _ _ _ h => h) ?_ ?_
  rotate_left
  · (intro W hSW; (try dsimp only at hSW); (go_simp <;> with_reducible rfl))
  (try simp only [Act.put, List.setIfInBounds_toArray, List.set_cons_zero, List.set_cons_succ])
  refine wpOrd_read (v := ?_) rfl (fun _ _ _ h => h) ?_ ?_
  rotate_left
  · (intro W hSW; (try dsimp only at hSW); (go_simp <;> with_reducible rfl))
  (try simp only [Act.put, List.setIfInBounds_toArray, List.set_cons_zero, List.set_cons_succ])
  refine wpOrd_read (v := ?_) rfl (fun _ _ _ h => h) ?_ ?_
  rotate_left
  · (intro W hSW; (try dsimp only at hSW); (go_simp <;> with_reducible rfl))
  (try simp only [Act.put, List.setIfInBounds_toArray, List.set_cons_zero, List.set_cons_succ])
  refine wpOrd_read (v := ?_) rfl (fun _ _ _ h => h) ?_ ?_
  rotate_left
  · (intro W hSW; (try dsimp only at hSW); (go_simp <;> with_reducible rfl))
  (try simp only [Act.put, List.setIfInBounds_toArray, List.set_cons_zero, List.set_cons_succ])
  refine wpOrd_read (v := ?_) rfl (fun _ _ _ h => h) ?_ ?_
  rotate_left
  · (intro W hSW; (try dsimp only at hSW); (go_simp <;> with_reducible rfl))
  (try simp only [Act.put, List.setIfInBounds_toArray, List.set_cons_zero, List.set_cons_succ])
  refine wpOrd_nil ?_
  simp only [List.drop_succ_cons, List.drop_zero]
  clear fN_ fL0 fL1 fL2 fL3 zLz
  refine wpList_append_more rfl (.tmp 30) (.tmp 35) _ rfl Y.heap.size 62 ti _ 4 48 Tryz.underlying30 hi0 hi1 hi2 hi3 rfl (by omega) (.slice a5 k c5) _ _ rfl HO_6.out.drew w.heap.size (if C0 = k + 1 then A0 else A0.map (·.add ((k + 1) * 4))) (n.sites.length - (k + 1)) (C0 - (k + 1)) ((n.sites.flatMap DSite.vs).drop ((k + 1) * 4)) rfl ((RS.out.below (BW_6.out.drew)).cut (by omega) (by omega)) (fun u hu => ON.out u (List.mem_of_mem_drop hu)) (by simp only [maxLen]; omega) (by omega) (by show Y.heap.size ≤ Z2.heap.size; omega) ?_
  intro a6 c6 Z3 hown hb
  have HO_7 := Lib.hid hown
  clear hown
  have hbd : Below Y.heap.size Z2 Z3 := ((Below.refl _ _).drew).trans hb
  clear hb
  have KN_7 := Lib.hid ((hbd.block (w.heap.size) (by omega)).trans KN_6.out)
  have KR_7 := Lib.hid ((hbd.block (w.heap.size + 1) (by omega)).trans KR_6.out)
  have KL_7 := Lib.hid ((hbd.block (X3.heap.size) (by omega)).trans KL_6.out)
  have BW_7 := Lib.hid (BW_6.out.trans (hbd.mono (by omega)))
  have P1_7 := Lib.hid (P1_6.out.below IN1.out (by omega) hbd)
  have P2_7 := Lib.hid (P2_6.out.below IN2.out (by omega) hbd)
  have P3_7 := Lib.hid (P3_6.out.below IN3.out (by omega) hbd)
  have zY_7 : Y.heap.size ≤ Z3.heap.size := by have := hbd.size; omega
  clear KN_6 KR_6 KL_6 BW_6 P1_6 P2_6 P3_6
  clear hbd HO_6
  clear kd1 kd2 kd3 kd4
  have hle : (n.sites.eraseIdx k).length = k + (n.sites.length - (k + 1)) := by rw [List.length_eraseIdx_of_lt hk]; omega
  obtain ⟨ax, cx, fq, ex_, oq, iq⟩ := ownsRow_own (lo := Y.heap.size) HO_7.out (by omega) (Nat.le_refl _)
  injection ex_ with ex1 _ ex3
  subst ex1 ex3
  have oq2 : Own Z3 (DSite.sT (n.sites.eraseIdx k)) (.slice a6 (k + (n.sites.length - (k + 1))) c6) fq := by rw [DSite.sT_vs, erase_flatv DSite.vs 4 DSite.vs_len n.sites k]; exact oq
  have ov := netJoin (n := { n with sites := n.sites.eraseIdx k }) oq2 P1_7.out P2_7.out P3_7.out (fun y hy => ⟨fun h => (by have := (IN1.out y h).2; have := (iq y hy).1; omega), fun h => (by have := (IN2.out y h).2; have := (iq y hy).1; omega), fun h => (by have := (IN3.out y h).2; have := (iq y hy).1; omega)⟩) d1 d2
  have ivn : ∀ y ∈ (fq ++ (f1 ++ (f2 ++ (f3 ++ [])))), (w.heap.size + 2 ≤ y ∧ y < Z3.heap.size) ∧ y ≠ X3.heap.size ∧ y ≠ w.heap.size + 1 := fun y hy => by
    simp only [List.mem_append, List.not_mem_nil, or_false] at hy
    rcases hy with h | h | h | h
    · have := iq y h; omega
    · have := IN1.out y h; omega
    · have := IN2.out y h; omega
    · have := IN3.out y h; omega
  have BF := Lib.hid ((((((BW_7.out).setCell (p := ⟨X3.heap.size, 0, none⟩) (by show w.heap.size ≤ X3.heap.size; omega) (.slice a6 (k + (n.sites.length - (k + 1))) c6)).setCell (p := ⟨w.heap.size + 1, 0, none⟩) (by show w.heap.size ≤ w.heap.size + 1; omega) (.slice a6 (k + (n.sites.length - (k + 1))) c6)).setCell (p := ⟨w.heap.size + 1, 1, none⟩) (by show w.heap.size ≤ w.heap.size + 1; omega) (.slice a1 n.sectors.length c1)).setCell (p := ⟨w.heap.size + 1, 2, none⟩) (by show w.heap.size ≤ w.heap.size + 1; omega) (.slice a2 n.antennas.length c2)).setCell (p := ⟨w.heap.size + 1, 3, none⟩) (by show w.heap.size ≤ w.heap.size + 1; omega) (.slice a3 n.radios.length c3))
  have OF := Lib.hid ((((((ov).setFar (p := ⟨X3.heap.size, 0, none⟩) (fun e => (ivn _ e).2.1 rfl) (.slice a6 (k + (n.sites.length - (k + 1))) c6)).setFar (p := ⟨w.heap.size + 1, 0, none⟩) (fun e => (ivn _ e).2.2 rfl) (.slice a6 (k + (n.sites.length - (k + 1))) c6)).setFar (p := ⟨w.heap.size + 1, 1, none⟩) (fun e => (ivn _ e).2.2 rfl) (.slice a1 n.sectors.length c1)).setFar (p := ⟨w.heap.size + 1, 2, none⟩) (fun e => (ivn _ e).2.2 rfl) (.slice a2 n.antennas.length c2)).setFar (p := ⟨w.heap.size + 1, 3, none⟩) (fun e => (ivn _ e).2.2 rfl) (.slice a3 n.radios.length c3))
  have IVF : Hid (In w.heap.size Z3.heap.size (fq ++ (f1 ++ (f2 ++ (f3 ++ []))))) := fun y hy => by have := (ivn y hy).1; omega
  clear ivn ov d0 d1 d2 fpm iv oq oq2 iq
  have fL0 := blkC (v := .slice a5 k c5) KL_7.out 0 rfl
  have fL1 := blkC (v := .slice a1 n.sectors.length c1) KL_7.out 1 rfl
  have fL2 := blkC (v := .slice a2 n.antennas.length c2) KL_7.out 2 rfl
  have fL3 := blkC (v := .slice a3 n.radios.length c3) KL_7.out 3 rfl
  have zLz := blkF KL_7.out
  have fR0 := blkC (v := .slice none 0 0) KR_7.out 0 rfl
  have fR1 := blkC (v := .slice none 0 0) KR_7.out 1 rfl
  have fR2 := blkC (v := .slice none 0 0) KR_7.out 2 rfl
  have fR3 := blkC (v := .slice none 0 0) KR_7.out 3 rfl
  have zR := blkF KR_7.out
  have hneR : X3.heap.size ≠ (w.heap.size + 1) := by omega
  go_wp2
  all_goals
    refine bodyPost_ret (v := .tuple #[.agg #[.slice a6 (k + (n.sites.length - (k + 1))) c6, .slice a1 n.sectors.length c1, .slice a2 n.antennas.length c2, .slice a3 n.radios.length c3], .int .i64 0]) (by simp [results, Tryz.results23, go_sem, *]) rfl ?_
    rw [HE.out]
    simp only [hle]
    first | refine ⟨a6, c6, a1, c1, a2, c2, a3, c3, _, rfl, BF.out, OF.out, ?_⟩ | refine ⟨a6, c6, a1, c1, a2, c2, a3, c3, rfl, BF.out, _, OF.out, ?_⟩
    simp only [size_setCell]
    exact IVF.out
end Go.Proofs.YtppgcgopnchbcaaGreat
