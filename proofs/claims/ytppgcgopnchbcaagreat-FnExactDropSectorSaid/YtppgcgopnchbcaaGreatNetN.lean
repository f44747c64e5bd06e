/- Contracts: DropSector of the program. Conditions: bounded lengths. -/
import Derived.Test.YtppgcgopnchbcaaGreatNetG0
import Derived.Test.YtppgcgopnchbcaaGreatDelT
import Derived.Deep.DeepCutAuto
namespace Go.Proofs.YtppgcgopnchbcaaGreat
open Go.RowKit
set_option linter.unusedVariables false

/-- DropSector -/
def dropSecR (n : DNetwork) (nm : ByteArray) : DNetwork × Int := if netB n = true then (if 0 ≤ idxSector n.sectors nm then ({ n with sectors := n.sectors.eraseIdx (idxSector n.sectors nm).toNat }, 0) else (⟨[], [], [], []⟩, 3)) else (⟨[], [], [], []⟩, 1)
section
variable {n : DNetwork} {nm : ByteArray}
theorem dropSecR_bad (h : netB n = false) : dropSecR n nm = (⟨[], [], [], []⟩, 1) := by unfold dropSecR; rw [if_neg (by simp [h])]
theorem dropSecR_none (h : netB n = true) (hi : idxSector n.sectors nm = -1) : dropSecR n nm = (⟨[], [], [], []⟩, 3) := by unfold dropSecR; rw [if_pos h, if_neg (by omega)]
theorem dropSecR_ok (h : netB n = true) {k : Nat} (hi : idxSector n.sectors nm = (k : Int)) : dropSecR n nm = ({ n with sectors := n.sectors.eraseIdx k }, 0) := by unfold dropSecR; rw [if_pos h, if_pos (by omega), hi, Int.toNat_natCast]
end
set_option maxHeartbeats 8000000 in
set_option maxRecDepth 100000 in
theorem iDropSector_std (n : DNetwork) (nm : ByteArray) (vn0 vn1 vn2 vn3 : Value) (w : World) (rn0 : Rd w.heap.size w (DSite.sT n.sites) vn0) (rn1 : Rd w.heap.size w (DSector.sT n.sectors) vn1) (rn2 : Rd w.heap.size w (DAntenna.sT n.antennas) vn2) (rn3 : Rd w.heap.size w (DRadio.sT n.radios) vn3) (hs_n : sizL n.tr ≤ 1048576) (hk_n : n.ok) (hs_nm : nm.size ≤ 1048576) :
    Calls Tryz.prog 26 #[.agg #[vn0, vn1, vn2, vn3], .string nm] w (fun e w' => ∃ a0_0 c0_0 a0_1 c0_1 a0_2 c0_2 a0_3 c0_3 fp0, e = .returned (.tuple #[.agg #[.slice a0_0 (dropSecR n nm).1.sites.length c0_0, .slice a0_1 (dropSecR n nm).1.sectors.length c0_1, .slice a0_2 (dropSecR n nm).1.antennas.length c0_2, .slice a0_3 (dropSecR n nm).1.radios.length c0_3], .int .i64 (dropSecR n nm).2]) ∧ Below w.heap.size w w' ∧ OwnV w' (dropSecR n nm).1.tr [.slice a0_0 (dropSecR n nm).1.sites.length c0_0, .slice a0_1 (dropSecR n nm).1.sectors.length c0_1, .slice a0_2 (dropSecR n nm).1.antennas.length c0_2, .slice a0_3 (dropSecR n nm).1.radios.length c0_3] fp0 ∧ In w.heap.size w'.heap.size fp0) := by
  have hq := DNetwork.siz_tr n
  rw [DSite.siz_s, DSector.siz_s, DAntenna.siz_s, DRadio.siz_s] at hq
  obtain ⟨A0, C0, e0, -, -, -⟩ := DSite.rd rn0
  obtain ⟨A1, C1, e1, -, -, -⟩ := DSector.rd rn1
  obtain ⟨A2, C2, e2, -, -, -⟩ := DAntenna.rd rn2
  obtain ⟨A3, C3, e3, -, -, -⟩ := DRadio.rd rn3
  subst e0 e1 e2 e3
  have R0 := Lib.hid rn0
  have R1 := Lib.hid rn1
  have R2 := Lib.hid rn2
  have R3 := Lib.hid rn3
  clear rn0 rn1 rn2 rn3
  by_cases hv : netB n = true
  case neg =>
    replace hv : netB n = false := Bool.eq_false_iff.2 hv
    have HE := Lib.hid (dropSecR_bad (nm := nm) hv)
    have BB0_ : Below w.heap.size w ((w.alloc (.cells #[.slice A0 n.sites.length C0, .slice A1 n.sectors.length C1, .slice A2 n.antennas.length C2, .slice A3 n.radios.length C3] 35)).alloc (.cells #[.slice none 0 0, .slice none 0 0, .slice none 0 0, .slice none 0 0] 35)) := Below.alloc (Below.alloc (Below.refl _ _) (by first | exact Nat.le_refl _ | (simp; done) | (simp; omega)) _) (by first | exact Nat.le_refl _ | (simp; done) | (simp; omega)) _
    have zz0 : w.heap.size + 2 ≤ ((w.alloc (.cells #[.slice A0 n.sites.length C0, .slice A1 n.sectors.length C1, .slice A2 n.antennas.length C2, .slice A3 n.radios.length C3] 35)).alloc (.cells #[.slice none 0 0, .slice none 0 0, .slice none 0 0, .slice none 0 0] 35)).heap.size := by simp
    have k_N : ((w.alloc (.cells #[.slice A0 n.sites.length C0, .slice A1 n.sectors.length C1, .slice A2 n.antennas.length C2, .slice A3 n.radios.length C3] 35)).alloc (.cells #[.slice none 0 0, .slice none 0 0, .slice none 0 0, .slice none 0 0] 35)).heap[w.heap.size]? = some (.cells #[.slice A0 n.sites.length C0, .slice A1 n.sectors.length C1, .slice A2 n.antennas.length C2, .slice A3 n.radios.length C3] 35 (0, 0)) := by
      have h := blkN w #[.slice A0 n.sites.length C0, .slice A1 n.sectors.length C1, .slice A2 n.antennas.length C2, .slice A3 n.radios.length C3] 35
      replace h := blkA h (by first | (simp; done) | (simp; omega)) (.cells #[.slice none 0 0, .slice none 0 0, .slice none 0 0, .slice none 0 0] 35)
      exact h
    have KN_0 := Lib.hid k_N
    have k_R : ((w.alloc (.cells #[.slice A0 n.sites.length C0, .slice A1 n.sectors.length C1, .slice A2 n.antennas.length C2, .slice A3 n.radios.length C3] 35)).alloc (.cells #[.slice none 0 0, .slice none 0 0, .slice none 0 0, .slice none 0 0] 35)).heap[w.heap.size + 1]? = some (.cells #[.slice none 0 0, .slice none 0 0, .slice none 0 0, .slice none 0 0] 35 (0, 0)) := by
      have h := blkN (w.alloc (.cells #[.slice A0 n.sites.length C0, .slice A1 n.sectors.length C1, .slice A2 n.antennas.length C2, .slice A3 n.radios.length C3] 35)) #[.slice none 0 0, .slice none 0 0, .slice none 0 0, .slice none 0 0] 35
      rw [show (w.alloc (.cells #[.slice A0 n.sites.length C0, .slice A1 n.sectors.length C1, .slice A2 n.antennas.length C2, .slice A3 n.radios.length C3] 35)).heap.size = w.heap.size + 1 by simp] at h
      exact h
    have KR_0 := Lib.hid k_R
    clear k_N k_R
    have BB_0 := Lib.hid BB0_
    clear BB0_
    go_enter Tryz.func26, Tryz.ntmps26
    go_upto_region 1 with (fail)
    generalize ((w.alloc (.cells #[.slice A0 n.sites.length C0, .slice A1 n.sectors.length C1, .slice A2 n.antennas.length C2, .slice A3 n.radios.length C3] 35)).alloc (.cells #[.slice none 0 0, .slice none 0 0, .slice none 0 0, .slice none 0 0] 35)) = W0 at *
    have fN0 := blkC (v := .slice A0 n.sites.length C0) KN_0.out 0 rfl
    have fN1 := blkC (v := .slice A1 n.sectors.length C1) KN_0.out 1 rfl
    have fN2 := blkC (v := .slice A2 n.antennas.length C2) KN_0.out 2 rfl
    have fN3 := blkC (v := .slice A3 n.radios.length C3) KN_0.out 3 rfl
    have fR0 := blkC (v := .slice none 0 0) KR_0.out 0 rfl
    have fR1 := blkC (v := .slice none 0 0) KR_0.out 1 rfl
    have fR2 := blkC (v := .slice none 0 0) KR_0.out 2 rfl
    have fR3 := blkC (v := .slice none 0 0) KR_0.out 3 rfl
    go_wp2_with fail
    refine (sectorNamed_any n.sectors nm _ _ _ _ w.heap.size _ (R1.out.below BB_0.out) (by have := BB_0.out.size; omega) (by omega)).mono ?_
    rintro e X1 ⟨rfl, hb⟩
    clear fN0 fN1 fN2 fN3 fR0 fR1 fR2 fR3
    have KN_1 := Lib.hid (blkB KN_0.out hb (by omega))
    have KR_1 := Lib.hid (blkB KR_0.out hb (by omega))
    have BB_1 := Lib.hid (BB_0.out.trans (hb.mono (by omega)))
    have zz1 : W0.heap.size ≤ X1.heap.size := hb.size
    clear KN_0 KR_0 BB_0 hb
    generalize idxSector n.sectors nm = ix at *
    have fN0 := blkC (v := .slice A0 n.sites.length C0) KN_1.out 0 rfl
    have fN1 := blkC (v := .slice A1 n.sectors.length C1) KN_1.out 1 rfl
    have fN2 := blkC (v := .slice A2 n.antennas.length C2) KN_1.out 2 rfl
    have fN3 := blkC (v := .slice A3 n.radios.length C3) KN_1.out 3 rfl
    have fR0 := blkC (v := .slice none 0 0) KR_1.out 0 rfl
    have fR1 := blkC (v := .slice none 0 0) KR_1.out 1 rfl
    have fR2 := blkC (v := .slice none 0 0) KR_1.out 2 rfl
    have fR3 := blkC (v := .slice none 0 0) KR_1.out 3 rfl
    go_wp2_with fail
    refine (validNetwork_any n _ _ _ _ _ ((R0.out.below BB_1.out).mono (by have := BB_1.out.size; omega)) ((R1.out.below BB_1.out).mono (by have := BB_1.out.size; omega)) ((R2.out.below BB_1.out).mono (by have := BB_1.out.size; omega)) ((R3.out.below BB_1.out).mono (by have := BB_1.out.size; omega)) (by omega) hk_n).mono ?_
    rintro e X2 ⟨rfl, hb⟩
    clear fN0 fN1 fN2 fN3 fR0 fR1 fR2 fR3
    have KN_2 := Lib.hid (blkB KN_1.out hb (by omega))
    have KR_2 := Lib.hid (blkB KR_1.out hb (by omega))
    have BB_2 := Lib.hid (BB_1.out.trans (hb.mono (by omega)))
    have zz2 : X1.heap.size ≤ X2.heap.size := hb.size
    clear KN_1 KR_1 BB_1 hb
    rw [hv]
    have fN0 := blkC (v := .slice A0 n.sites.length C0) KN_2.out 0 rfl
    have fN1 := blkC (v := .slice A1 n.sectors.length C1) KN_2.out 1 rfl
    have fN2 := blkC (v := .slice A2 n.antennas.length C2) KN_2.out 2 rfl
    have fN3 := blkC (v := .slice A3 n.radios.length C3) KN_2.out 3 rfl
    have fR0 := blkC (v := .slice none 0 0) KR_2.out 0 rfl
    have fR1 := blkC (v := .slice none 0 0) KR_2.out 1 rfl
    have fR2 := blkC (v := .slice none 0 0) KR_2.out 2 rfl
    have fR3 := blkC (v := .slice none 0 0) KR_2.out 3 rfl
    have zR := blkF KR_2.out
    go_wp2
    have BF := Lib.hid (((((BB_2.out).setCell (p := ⟨w.heap.size + 1, 0, none⟩) (by show w.heap.size ≤ w.heap.size + 1; omega) (.slice none 0 0)).setCell (p := ⟨w.heap.size + 1, 1, none⟩) (by show w.heap.size ≤ w.heap.size + 1; omega) (.slice none 0 0)).setCell (p := ⟨w.heap.size + 1, 2, none⟩) (by show w.heap.size ≤ w.heap.size + 1; omega) (.slice none 0 0)).setCell (p := ⟨w.heap.size + 1, 3, none⟩) (by show w.heap.size ≤ w.heap.size + 1; omega) (.slice none 0 0))
    refine bodyPost_ret (v := .tuple #[.agg #[.slice none 0 0, .slice none 0 0, .slice none 0 0, .slice none 0 0], .int .i64 1]) (by simp [results, Tryz.results26, go_sem, *]) rfl ?_
    rw [HE.out]
    first | exact ⟨none, 0, none, 0, none, 0, none, 0, [], rfl, BF.out, ownV_zero _, In.nil⟩ | exact ⟨none, 0, none, 0, none, 0, none, 0, rfl, BF.out, [], ownV_zero _, In.nil⟩
  rcases firstIdx_cases' (fun y : DSector => eqS y.name nm) n.sectors with ⟨hi, _⟩ | ⟨k, hk, hi, _, _⟩
  · have HE := Lib.hid (dropSecR_none hv hi)
    have HI : Hid (idxSector n.sectors nm = -1) := hi
    clear hi
    have BB0_ : Below w.heap.size w ((w.alloc (.cells #[.slice A0 n.sites.length C0, .slice A1 n.sectors.length C1, .slice A2 n.antennas.length C2, .slice A3 n.radios.length C3] 35)).alloc (.cells #[.slice none 0 0, .slice none 0 0, .slice none 0 0, .slice none 0 0] 35)) := Below.alloc (Below.alloc (Below.refl _ _) (by first | exact Nat.le_refl _ | (simp; done) | (simp; omega)) _) (by first | exact Nat.le_refl _ | (simp; done) | (simp; omega)) _
    have zz0 : w.heap.size + 2 ≤ ((w.alloc (.cells #[.slice A0 n.sites.length C0, .slice A1 n.sectors.length C1, .slice A2 n.antennas.length C2, .slice A3 n.radios.length C3] 35)).alloc (.cells #[.slice none 0 0, .slice none 0 0, .slice none 0 0, .slice none 0 0] 35)).heap.size := by simp
    have k_N : ((w.alloc (.cells #[.slice A0 n.sites.length C0, .slice A1 n.sectors.length C1, .slice A2 n.antennas.length C2, .slice A3 n.radios.length C3] 35)).alloc (.cells #[.slice none 0 0, .slice none 0 0, .slice none 0 0, .slice none 0 0] 35)).heap[w.heap.size]? = some (.cells #[.slice A0 n.sites.length C0, .slice A1 n.sectors.length C1, .slice A2 n.antennas.length C2, .slice A3 n.radios.length C3] 35 (0, 0)) := by
      have h := blkN w #[.slice A0 n.sites.length C0, .slice A1 n.sectors.length C1, .slice A2 n.antennas.length C2, .slice A3 n.radios.length C3] 35
      replace h := blkA h (by first | (simp; done) | (simp; omega)) (.cells #[.slice none 0 0, .slice none 0 0, .slice none 0 0, .slice none 0 0] 35)
      exact h
    have KN_0 := Lib.hid k_N
    have k_R : ((w.alloc (.cells #[.slice A0 n.sites.length C0, .slice A1 n.sectors.length C1, .slice A2 n.antennas.length C2, .slice A3 n.radios.length C3] 35)).alloc (.cells #[.slice none 0 0, .slice none 0 0, .slice none 0 0, .slice none 0 0] 35)).heap[w.heap.size + 1]? = some (.cells #[.slice none 0 0, .slice none 0 0, .slice none 0 0, .slice none 0 0] 35 (0, 0)) := by
      have h := blkN (w.alloc (.cells #[.slice A0 n.sites.length C0, .slice A1 n.sectors.length C1, .slice A2 n.antennas.length C2, .slice A3 n.radios.length C3] 35)) #[.slice none 0 0, .slice none 0 0, .slice none 0 0, .slice none 0 0] 35
      rw [show (w.alloc (.cells #[.slice A0 n.sites.length C0, .slice A1 n.sectors.length C1, .slice A2 n.antennas.length C2, .slice A3 n.radios.length C3] 35)).heap.size = w.heap.size + 1 by simp] at h
      exact h
    have KR_0 := Lib.hid k_R
    clear k_N k_R
    have BB_0 := Lib.hid BB0_
    clear BB0_
    go_enter Tryz.func26, Tryz.ntmps26
    go_upto_region 1 with (fail)
    generalize ((w.alloc (.cells #[.slice A0 n.sites.length C0, .slice A1 n.sectors.length C1, .slice A2 n.antennas.length C2, .slice A3 n.radios.length C3] 35)).alloc (.cells #[.slice none 0 0, .slice none 0 0, .slice none 0 0, .slice none 0 0] 35)) = W0 at *
    have fN0 := blkC (v := .slice A0 n.sites.length C0) KN_0.out 0 rfl
    have fN1 := blkC (v := .slice A1 n.sectors.length C1) KN_0.out 1 rfl
    have fN2 := blkC (v := .slice A2 n.antennas.length C2) KN_0.out 2 rfl
    have fN3 := blkC (v := .slice A3 n.radios.length C3) KN_0.out 3 rfl
    have fR0 := blkC (v := .slice none 0 0) KR_0.out 0 rfl
    have fR1 := blkC (v := .slice none 0 0) KR_0.out 1 rfl
    have fR2 := blkC (v := .slice none 0 0) KR_0.out 2 rfl
    have fR3 := blkC (v := .slice none 0 0) KR_0.out 3 rfl
    go_wp2_with fail
    refine (sectorNamed_any n.sectors nm _ _ _ _ w.heap.size _ (R1.out.below BB_0.out) (by have := BB_0.out.size; omega) (by omega)).mono ?_
    rintro e X1 ⟨rfl, hb⟩
    clear fN0 fN1 fN2 fN3 fR0 fR1 fR2 fR3
    have KN_1 := Lib.hid (blkB KN_0.out hb (by omega))
    have KR_1 := Lib.hid (blkB KR_0.out hb (by omega))
    have BB_1 := Lib.hid (BB_0.out.trans (hb.mono (by omega)))
    have zz1 : W0.heap.size ≤ X1.heap.size := hb.size
    clear KN_0 KR_0 BB_0 hb
    rw [HI.out]
    have fN0 := blkC (v := .slice A0 n.sites.length C0) KN_1.out 0 rfl
    have fN1 := blkC (v := .slice A1 n.sectors.length C1) KN_1.out 1 rfl
    have fN2 := blkC (v := .slice A2 n.antennas.length C2) KN_1.out 2 rfl
    have fN3 := blkC (v := .slice A3 n.radios.length C3) KN_1.out 3 rfl
    have fR0 := blkC (v := .slice none 0 0) KR_1.out 0 rfl
    have fR1 := blkC (v := .slice none 0 0) KR_1.out 1 rfl
    have fR2 := blkC (v := .slice none 0 0) KR_1.out 2 rfl
    have fR3 := blkC (v := .slice none 0 0) KR_1.out 3 rfl
    go_wp2_with fail
    refine (validNetwork_any n _ _ _ _ _ ((R0.out.below BB_1.out).mono (by have := BB_1.out.size; omega)) ((R1.out.below BB_1.out).mono (by have := BB_1.out.size; omega)) ((R2.out.below BB_1.out).mono (by have := BB_1.out.size; omega)) ((R3.out.below BB_1.out).mono (by have := BB_1.out.size; omega)) (by omega) hk_n).mono ?_
    rintro e X2 ⟨rfl, hb⟩
    clear fN0 fN1 fN2 fN3 fR0 fR1 fR2 fR3
    have KN_2 := Lib.hid (blkB KN_1.out hb (by omega))
    have KR_2 := Lib.hid (blkB KR_1.out hb (by omega))
    have BB_2 := Lib.hid (BB_1.out.trans (hb.mono (by omega)))
    have zz2 : X1.heap.size ≤ X2.heap.size := hb.size
    clear KN_1 KR_1 BB_1 hb
    rw [hv]
    have fN0 := blkC (v := .slice A0 n.sites.length C0) KN_2.out 0 rfl
    have fN1 := blkC (v := .slice A1 n.sectors.length C1) KN_2.out 1 rfl
    have fN2 := blkC (v := .slice A2 n.antennas.length C2) KN_2.out 2 rfl
    have fN3 := blkC (v := .slice A3 n.radios.length C3) KN_2.out 3 rfl
    have fR0 := blkC (v := .slice none 0 0) KR_2.out 0 rfl
    have fR1 := blkC (v := .slice none 0 0) KR_2.out 1 rfl
    have fR2 := blkC (v := .slice none 0 0) KR_2.out 2 rfl
    have fR3 := blkC (v := .slice none 0 0) KR_2.out 3 rfl
    have zR := blkF KR_2.out
    go_wp2
    have BF := Lib.hid (((((BB_2.out).setCell (p := ⟨w.heap.size + 1, 0, none⟩) (by show w.heap.size ≤ w.heap.size + 1; omega) (.slice none 0 0)).setCell (p := ⟨w.heap.size + 1, 1, none⟩) (by show w.heap.size ≤ w.heap.size + 1; omega) (.slice none 0 0)).setCell (p := ⟨w.heap.size + 1, 2, none⟩) (by show w.heap.size ≤ w.heap.size + 1; omega) (.slice none 0 0)).setCell (p := ⟨w.heap.size + 1, 3, none⟩) (by show w.heap.size ≤ w.heap.size + 1; omega) (.slice none 0 0))
    refine bodyPost_ret (v := .tuple #[.agg #[.slice none 0 0, .slice none 0 0, .slice none 0 0, .slice none 0 0], .int .i64 3]) (by simp [results, Tryz.results26, go_sem, *]) rfl ?_
    rw [HE.out]
    first | exact ⟨none, 0, none, 0, none, 0, none, 0, [], rfl, BF.out, ownV_zero _, In.nil⟩ | exact ⟨none, 0, none, 0, none, 0, none, 0, rfl, BF.out, [], ownV_zero _, In.nil⟩
  have HE := Lib.hid (dropSecR_ok hv hi)
  have HI : Hid (idxSector n.sectors nm = (k : Int)) := hi
  clear hi
  have hsl : n.sectors.length ≤ 1048576 := by omega
  have BB0_ : Below w.heap.size w ((w.alloc (.cells #[.slice A0 n.sites.length C0, .slice A1 n.sectors.length C1, .slice A2 n.antennas.length C2, .slice A3 n.radios.length C3] 35)).alloc (.cells #[.slice none 0 0, .slice none 0 0, .slice none 0 0, .slice none 0 0] 35)) := Below.alloc (Below.alloc (Below.refl _ _) (by first | exact Nat.le_refl _ | (simp; done) | (simp; omega)) _) (by first | exact Nat.le_refl _ | (simp; done) | (simp; omega)) _
  have zz0 : w.heap.size + 2 ≤ ((w.alloc (.cells #[.slice A0 n.sites.length C0, .slice A1 n.sectors.length C1, .slice A2 n.antennas.length C2, .slice A3 n.radios.length C3] 35)).alloc (.cells #[.slice none 0 0, .slice none 0 0, .slice none 0 0, .slice none 0 0] 35)).heap.size := by simp
  have k_N : ((w.alloc (.cells #[.slice A0 n.sites.length C0, .slice A1 n.sectors.length C1, .slice A2 n.antennas.length C2, .slice A3 n.radios.length C3] 35)).alloc (.cells #[.slice none 0 0, .slice none 0 0, .slice none 0 0, .slice none 0 0] 35)).heap[w.heap.size]? = some (.cells #[.slice A0 n.sites.length C0, .slice A1 n.sectors.length C1, .slice A2 n.antennas.length C2, .slice A3 n.radios.length C3] 35 (0, 0)) := by
    have h := blkN w #[.slice A0 n.sites.length C0, .slice A1 n.sectors.length C1, .slice A2 n.antennas.length C2, .slice A3 n.radios.length C3] 35
    replace h := blkA h (by first | (simp; done) | (simp; omega)) (.cells #[.slice none 0 0, .slice none 0 0, .slice none 0 0, .slice none 0 0] 35)
    exact h
  have KN_0 := Lib.hid k_N
  have k_R : ((w.alloc (.cells #[.slice A0 n.sites.length C0, .slice A1 n.sectors.length C1, .slice A2 n.antennas.length C2, .slice A3 n.radios.length C3] 35)).alloc (.cells #[.slice none 0 0, .slice none 0 0, .slice none 0 0, .slice none 0 0] 35)).heap[w.heap.size + 1]? = some (.cells #[.slice none 0 0, .slice none 0 0, .slice none 0 0, .slice none 0 0] 35 (0, 0)) := by
    have h := blkN (w.alloc (.cells #[.slice A0 n.sites.length C0, .slice A1 n.sectors.length C1, .slice A2 n.antennas.length C2, .slice A3 n.radios.length C3] 35)) #[.slice none 0 0, .slice none 0 0, .slice none 0 0, .slice none 0 0] 35
    rw [show (w.alloc (.cells #[.slice A0 n.sites.length C0, .slice A1 n.sectors.length C1, .slice A2 n.antennas.length C2, .slice A3 n.radios.length C3] 35)).heap.size = w.heap.size + 1 by simp] at h
    exact h
  have KR_0 := Lib.hid k_R
  clear k_N k_R
  have BB_0 := Lib.hid BB0_
  clear BB0_
  go_enter Tryz.func26, Tryz.ntmps26
  go_upto_region 1 with (fail)
  generalize ((w.alloc (.cells #[.slice A0 n.sites.length C0, .slice A1 n.sectors.length C1, .slice A2 n.antennas.length C2, .slice A3 n.radios.length C3] 35)).alloc (.cells #[.slice none 0 0, .slice none 0 0, .slice none 0 0, .slice none 0 0] 35)) = W0 at *
  have fN0 := blkC (v := .slice A0 n.sites.length C0) KN_0.out 0 rfl
  have fN1 := blkC (v := .slice A1 n.sectors.length C1) KN_0.out 1 rfl
  have fN2 := blkC (v := .slice A2 n.antennas.length C2) KN_0.out 2 rfl
  have fN3 := blkC (v := .slice A3 n.radios.length C3) KN_0.out 3 rfl
  have fR0 := blkC (v := .slice none 0 0) KR_0.out 0 rfl
  have fR1 := blkC (v := .slice none 0 0) KR_0.out 1 rfl
  have fR2 := blkC (v := .slice none 0 0) KR_0.out 2 rfl
  have fR3 := blkC (v := .slice none 0 0) KR_0.out 3 rfl
  go_wp2_with fail
  refine (sectorNamed_any n.sectors nm _ _ _ _ w.heap.size _ (R1.out.below BB_0.out) (by have := BB_0.out.size; omega) (by omega)).mono ?_
  rintro e X1 ⟨rfl, hb⟩
  clear fN0 fN1 fN2 fN3 fR0 fR1 fR2 fR3
  have KN_1 := Lib.hid (blkB KN_0.out hb (by omega))
  have KR_1 := Lib.hid (blkB KR_0.out hb (by omega))
  have BB_1 := Lib.hid (BB_0.out.trans (hb.mono (by omega)))
  have zz1 : W0.heap.size ≤ X1.heap.size := hb.size
  clear KN_0 KR_0 BB_0 hb
  rw [HI.out]
  have fN0 := blkC (v := .slice A0 n.sites.length C0) KN_1.out 0 rfl
  have fN1 := blkC (v := .slice A1 n.sectors.length C1) KN_1.out 1 rfl
  have fN2 := blkC (v := .slice A2 n.antennas.length C2) KN_1.out 2 rfl
  have fN3 := blkC (v := .slice A3 n.radios.length C3) KN_1.out 3 rfl
  have fR0 := blkC (v := .slice none 0 0) KR_1.out 0 rfl
  have fR1 := blkC (v := .slice none 0 0) KR_1.out 1 rfl
  have fR2 := blkC (v := .slice none 0 0) KR_1.out 2 rfl
  have fR3 := blkC (v := .slice none 0 0) KR_1.out 3 rfl
  go_wp2_with fail
  refine (validNetwork_any n _ _ _ _ _ ((R0.out.below BB_1.out).mono (by have := BB_1.out.size; omega)) ((R1.out.below BB_1.out).mono (by have := BB_1.out.size; omega)) ((R2.out.below BB_1.out).mono (by have := BB_1.out.size; omega)) ((R3.out.below BB_1.out).mono (by have := BB_1.out.size; omega)) (by omega) hk_n).mono ?_
  rintro e X2 ⟨rfl, hb⟩
  clear fN0 fN1 fN2 fN3 fR0 fR1 fR2 fR3
  have KN_2 := Lib.hid (blkB KN_1.out hb (by omega))
  have KR_2 := Lib.hid (blkB KR_1.out hb (by omega))
  have BB_2 := Lib.hid (BB_1.out.trans (hb.mono (by omega)))
  have zz2 : X1.heap.size ≤ X2.heap.size := hb.size
  clear KN_1 KR_1 BB_1 hb
  rw [hv]
  have hneg : decide ((k : Int) < 0) = false := by simp
  have fN0 := blkC (v := .slice A0 n.sites.length C0) KN_2.out 0 rfl
  have fN1 := blkC (v := .slice A1 n.sectors.length C1) KN_2.out 1 rfl
  have fN2 := blkC (v := .slice A2 n.antennas.length C2) KN_2.out 2 rfl
  have fN3 := blkC (v := .slice A3 n.radios.length C3) KN_2.out 3 rfl
  have fR0 := blkC (v := .slice none 0 0) KR_2.out 0 rfl
  have fR1 := blkC (v := .slice none 0 0) KR_2.out 1 rfl
  have fR2 := blkC (v := .slice none 0 0) KR_2.out 2 rfl
  have fR3 := blkC (v := .slice none 0 0) KR_2.out 3 rfl
  go_wp2_with fail
  refine (netClone_any n _ _ _ _ _ ((R0.out.below BB_2.out).mono (by have := BB_2.out.size; omega)) ((R1.out.below BB_2.out).mono (by have := BB_2.out.size; omega)) ((R2.out.below BB_2.out).mono (by have := BB_2.out.size; omega)) ((R3.out.below BB_2.out).mono (by have := BB_2.out.size; omega)) hs_n).mono ?_
  rintro e X3 ⟨a0, c0, a1, c1, a2, c2, a3, c3, fp, rfl, hb, ov, iv_⟩
  clear fN0 fN1 fN2 fN3 fR0 fR1 fR2 fR3
  have KN_3 := Lib.hid (blkB KN_2.out hb (by omega))
  have KR_3 := Lib.hid (blkB KR_2.out hb (by omega))
  have BB_3 := Lib.hid (BB_2.out.trans (hb.mono (by omega)))
  have zz3 : X2.heap.size ≤ X3.heap.size := hb.size
  clear KN_2 KR_2 BB_2 hb
  clear hneg
  obtain ⟨f0, f1, f2, f3, fpm, O0, O1, O2, O3, d0, d1, d2⟩ := netSplit ov
  have iv : In (w.heap.size + 2) X3.heap.size fp := iv_.mono (by omega) (Nat.le_refl _)
  clear ov iv_
  have fN0 := blkC (v := .slice A0 n.sites.length C0) KN_3.out 0 rfl
  have fN1 := blkC (v := .slice A1 n.sectors.length C1) KN_3.out 1 rfl
  have fN2 := blkC (v := .slice A2 n.antennas.length C2) KN_3.out 2 rfl
  have fN3 := blkC (v := .slice A3 n.radios.length C3) KN_3.out 3 rfl
  have fR0 := blkC (v := .slice none 0 0) KR_3.out 0 rfl
  have fR1 := blkC (v := .slice none 0 0) KR_3.out 1 rfl
  have fR2 := blkC (v := .slice none 0 0) KR_3.out 2 rfl
  have fR3 := blkC (v := .slice none 0 0) KR_3.out 3 rfl
  go_upto_region 7 with (fail)
  clear fN0 fN1 fN2 fN3 fR0 fR1 fR2 fR3
  have hbA : Below X3.heap.size X3 (X3.alloc (.cells #[.slice a0 n.sites.length c0, .slice a1 n.sectors.length c1, .slice a2 n.antennas.length c2, .slice a3 n.radios.length c3] 35)) := (Below.refl _ _).alloc (Nat.le_refl _) _
  have kL := blkN X3 #[.slice a0 n.sites.length c0, .slice a1 n.sectors.length c1, .slice a2 n.antennas.length c2, .slice a3 n.radios.length c3] 35
  have zL : X3.heap.size + 1 ≤ (X3.alloc (.cells #[.slice a0 n.sites.length c0, .slice a1 n.sectors.length c1, .slice a2 n.antennas.length c2, .slice a3 n.radios.length c3] 35)).heap.size := by simp
  have P0 := Lib.hid (O0.below (lo := w.heap.size + 2) (hi := X3.heap.size) (fun y hy => iv y ((fpm y).2 (by simp [hy]))) (Nat.le_refl _) hbA)
  have P1 := Lib.hid (O1.below (lo := w.heap.size + 2) (hi := X3.heap.size) (fun y hy => iv y ((fpm y).2 (by simp [hy]))) (Nat.le_refl _) hbA)
  have P2 := Lib.hid (O2.below (lo := w.heap.size + 2) (hi := X3.heap.size) (fun y hy => iv y ((fpm y).2 (by simp [hy]))) (Nat.le_refl _) hbA)
  have P3 := Lib.hid (O3.below (lo := w.heap.size + 2) (hi := X3.heap.size) (fun y hy => iv y ((fpm y).2 (by simp [hy]))) (Nat.le_refl _) hbA)
  clear O0 O1 O2 O3
  generalize (X3.alloc (.cells #[.slice a0 n.sites.length c0, .slice a1 n.sectors.length c1, .slice a2 n.antennas.length c2, .slice a3 n.radios.length c3] 35)) = Y at *
  have KL_4 := Lib.hid kL
  clear kL
  have KN_4 := Lib.hid (blkB KN_3.out hbA (by omega))
  have KR_4 := Lib.hid (blkB KR_3.out hbA (by omega))
  have BB_4 := Lib.hid (BB_3.out.trans (hbA.mono (by omega)))
  have zz4 : X3.heap.size ≤ Y.heap.size := hbA.size
  clear KN_3 KR_3 BB_3 hbA
  have FP : Hid (∀ y, y ∈ f1 → w.heap.size + 2 ≤ y ∧ y < X3.heap.size) := fun y hy => iv y ((fpm y).2 (by simp [hy]))
  have ki : (((k : Nat) : Int) + 1) ≤ 1048577 := by omega
  have fL0 := blkC (v := .slice a0 n.sites.length c0) KL_4.out 0 rfl
  have fL1 := blkC (v := .slice a1 n.sectors.length c1) KL_4.out 1 rfl
  have fL2 := blkC (v := .slice a2 n.antennas.length c2) KL_4.out 2 rfl
  have fL3 := blkC (v := .slice a3 n.radios.length c3) KL_4.out 3 rfl
  go_wp2_with fail
  refine (deleteSector_any n.sectors k a1 c1 f1 _ P1.out hk (by omega)).mono ?_
  rintro e X ⟨fq, rfl, hch, oq, hsub⟩
  clear fL0 fL1 fL2 fL3
  clear ki
  have zX : Y.heap.size ≤ X.heap.size := hch.size
  have bX := BB_4.out.trans (hch.below (B := w.heap.size) (by omega) (fun y hy => by have := (FP.out y hy).1; omega))
  have KLr := Lib.hid ((hch.block X3.heap.size (by omega) (fun e => by have := (FP.out _ e).2; omega)).trans KL_4.out)
  have KRr := Lib.hid ((hch.block (w.heap.size + 1) (by omega) (fun e => by have := (FP.out _ e).1; omega)).trans KR_4.out)
  have o0 := P0.out.chg (lo := w.heap.size + 2) (hi := X3.heap.size) (fun y hy => iv y ((fpm y).2 (by simp [hy]))) (by omega) hch (fun y hy => (d0 y hy).1)
  have o2 := P2.out.chg (lo := w.heap.size + 2) (hi := X3.heap.size) (fun y hy => iv y ((fpm y).2 (by simp [hy]))) (by omega) hch (fun y hy h => (d1 y h).1 hy)
  have o3 := P3.out.chg (lo := w.heap.size + 2) (hi := X3.heap.size) (fun y hy => iv y ((fpm y).2 (by simp [hy]))) (by omega) hch (fun y hy h => (d1 y h).2 hy)
  have ov := netJoin (n := { n with sectors := n.sectors.eraseIdx k }) o0 oq o2 o3 (fun y hy => ⟨fun h => (d0 y hy).1 (hsub y h), (d0 y hy).2⟩) (fun y hy => d1 y (hsub y hy)) d2
  have ivf : In (w.heap.size + 2) X3.heap.size (f0 ++ (fq ++ (f2 ++ (f3 ++ [])))) := fun y hy => by
    simp only [List.mem_append, List.not_mem_nil, or_false] at hy
    rcases hy with h | h | h | h
    · exact iv y ((fpm y).2 (by simp [h]))
    · have h := hsub y h
      exact iv y ((fpm y).2 (by simp [h]))
    · exact iv y ((fpm y).2 (by simp [h]))
    · exact iv y ((fpm y).2 (by simp [h]))
  have BF := Lib.hid ((((((bX).setCell (p := ⟨X3.heap.size, 1, none⟩) (by show w.heap.size ≤ X3.heap.size; omega) (.slice a1 (n.sectors.length - 1) c1)).setCell (p := ⟨w.heap.size + 1, 0, none⟩) (by show w.heap.size ≤ w.heap.size + 1; omega) (.slice a0 n.sites.length c0)).setCell (p := ⟨w.heap.size + 1, 1, none⟩) (by show w.heap.size ≤ w.heap.size + 1; omega) (.slice a1 (n.sectors.length - 1) c1)).setCell (p := ⟨w.heap.size + 1, 2, none⟩) (by show w.heap.size ≤ w.heap.size + 1; omega) (.slice a2 n.antennas.length c2)).setCell (p := ⟨w.heap.size + 1, 3, none⟩) (by show w.heap.size ≤ w.heap.size + 1; omega) (.slice a3 n.radios.length c3))
  have OF := Lib.hid ((((((ov).setFar (p := ⟨X3.heap.size, 1, none⟩) (fun e => by have := (ivf _ e).2; simp only at this; omega) (.slice a1 (n.sectors.length - 1) c1)).setFar (p := ⟨w.heap.size + 1, 0, none⟩) (fun e => by have := (ivf _ e).1; simp only at this; omega) (.slice a0 n.sites.length c0)).setFar (p := ⟨w.heap.size + 1, 1, none⟩) (fun e => by have := (ivf _ e).1; simp only at this; omega) (.slice a1 (n.sectors.length - 1) c1)).setFar (p := ⟨w.heap.size + 1, 2, none⟩) (fun e => by have := (ivf _ e).1; simp only at this; omega) (.slice a2 n.antennas.length c2)).setFar (p := ⟨w.heap.size + 1, 3, none⟩) (fun e => by have := (ivf _ e).1; simp only at this; omega) (.slice a3 n.radios.length c3))
  have IVF := Lib.hid ivf
  clear ivf d0 d1 d2 fpm iv P0 P1 P2 P3 FP
  try clear hch ov bX oq hsub
  try clear o0
  try clear o1
  try clear o2
  try clear o3
  have fL0 := blkC (v := .slice a0 n.sites.length c0) KLr.out 0 rfl
  have fL1 := blkC (v := .slice a1 n.sectors.length c1) KLr.out 1 rfl
  have fL2 := blkC (v := .slice a2 n.antennas.length c2) KLr.out 2 rfl
  have fL3 := blkC (v := .slice a3 n.radios.length c3) KLr.out 3 rfl
  have zLz := blkF KLr.out
  have fR0 := blkC (v := .slice none 0 0) KRr.out 0 rfl
  have fR1 := blkC (v := .slice none 0 0) KRr.out 1 rfl
  have fR2 := blkC (v := .slice none 0 0) KRr.out 2 rfl
  have fR3 := blkC (v := .slice none 0 0) KRr.out 3 rfl
  have zR := blkF KRr.out
  have hneR : (X3.heap.size) ≠ (w.heap.size + 1) := by omega
  go_wp2
  refine bodyPost_ret (v := .tuple #[.agg #[.slice a0 n.sites.length c0, .slice a1 (n.sectors.length - 1) c1, .slice a2 n.antennas.length c2, .slice a3 n.radios.length c3], .int .i64 0]) (by simp [results, Tryz.results26, go_sem, *]) rfl ?_
  rw [HE.out]
  simp only [List.length_eraseIdx_of_lt hk]
  first | refine ⟨a0, c0, a1, c1, a2, c2, a3, c3, _, rfl, BF.out, OF.out, ?_⟩ | refine ⟨a0, c0, a1, c1, a2, c2, a3, c3, rfl, BF.out, _, OF.out, ?_⟩
  simp only [size_setCell]
  exact IVF.out.mono (by omega) (by omega)
end Go.Proofs.YtppgcgopnchbcaaGreat
