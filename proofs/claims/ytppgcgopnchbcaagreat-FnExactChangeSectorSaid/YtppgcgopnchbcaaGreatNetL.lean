/- Contracts: ChangeSector of the program and of the reference. Conditions: bounded lengths. -/
import Derived.Test.YtppgcgopnchbcaaGreatNetG0
import Derived.Deep.DeepCutAuto
namespace Go.Proofs.YtppgcgopnchbcaaGreat
open Go.RowKit
set_option linter.unusedVariables false

/-- ChangeSector -/
def chgR (n : DNetwork) (x : DSector) : DNetwork × Int := if netB n = true then (if sectorB x = true then (if 0 ≤ idxSector n.sectors x.name then (if refersB n x = true then ({ n with sectors := n.sectors.set (idxSector n.sectors x.name).toNat x }, 0) else (⟨[], [], [], []⟩, 3)) else (⟨[], [], [], []⟩, 3)) else (⟨[], [], [], []⟩, 1)) else (⟨[], [], [], []⟩, 1)
section
variable {n : DNetwork} {x : DSector}
theorem chgR_bad (h : netB n = false) : chgR n x = (⟨[], [], [], []⟩, 1) := by unfold chgR; rw [if_neg (by simp [h])]
theorem chgR_bad2 (h : netB n = true) (h2 : sectorB x = false) : chgR n x = (⟨[], [], [], []⟩, 1) := by unfold chgR; rw [if_pos h, if_neg (by simp [h2])]
theorem chgR_none (h : netB n = true) (h2 : sectorB x = true) (hi : idxSector n.sectors x.name = -1) : chgR n x = (⟨[], [], [], []⟩, 3) := by unfold chgR; rw [if_pos h, if_pos h2, if_neg (by omega)]
theorem chgR_parts (h : netB n = true) (h2 : sectorB x = true) {k : Nat} (hi : idxSector n.sectors x.name = (k : Int)) (h3 : refersB n x = false) : chgR n x = (⟨[], [], [], []⟩, 3) := by unfold chgR; rw [if_pos h, if_pos h2, if_pos (by omega), if_neg (by simp [h3])]
theorem chgR_ok (h : netB n = true) (h2 : sectorB x = true) {k : Nat} (hi : idxSector n.sectors x.name = (k : Int)) (h3 : refersB n x = true) : chgR n x = ({ n with sectors := n.sectors.set k x }, 0) := by unfold chgR; rw [if_pos h, if_pos h2, if_pos (by omega), if_pos h3, hi, Int.toNat_natCast]
end
set_option maxHeartbeats 8000000 in
set_option maxRecDepth 100000 in
theorem iChangeSector_std (n : DNetwork) (x : DSector) (vn0 vn1 vn2 vn3 : Value) (w : World) (rn0 : Rd w.heap.size w (DSite.sT n.sites) vn0) (rn1 : Rd w.heap.size w (DSector.sT n.sectors) vn1) (rn2 : Rd w.heap.size w (DAntenna.sT n.antennas) vn2) (rn3 : Rd w.heap.size w (DRadio.sT n.radios) vn3) (hs_n : sizL n.tr ≤ 1048576) (hk_n : n.ok) (hs_x : sizL x.tr ≤ 1048576) (hk_x : x.ok) :
    Calls Tryz.prog 22 #[.agg #[vn0, vn1, vn2, vn3], .agg #[.string x.name, .string x.site, .string x.antenna, .string x.radio, .string x.band, .int .i64 x.azimuth, .int .i64 x.tilt, .int .i64 x.above, .int .i64 x.channel]] w (fun e w' => ∃ a0_0 c0_0 a0_1 c0_1 a0_2 c0_2 a0_3 c0_3 fp0, e = .returned (.tuple #[.agg #[.slice a0_0 (chgR n x).1.sites.length c0_0, .slice a0_1 (chgR n x).1.sectors.length c0_1, .slice a0_2 (chgR n x).1.antennas.length c0_2, .slice a0_3 (chgR n x).1.radios.length c0_3], .int .i64 (chgR n x).2]) ∧ Below w.heap.size w w' ∧ OwnV w' (chgR n x).1.tr [.slice a0_0 (chgR n x).1.sites.length c0_0, .slice a0_1 (chgR n x).1.sectors.length c0_1, .slice a0_2 (chgR n x).1.antennas.length c0_2, .slice a0_3 (chgR n x).1.radios.length c0_3] fp0 ∧ In w.heap.size w'.heap.size fp0) := by
  have hq := DNetwork.siz_tr n
  rw [DSite.siz_s, DSector.siz_s, DAntenna.siz_s, DRadio.siz_s] at hq
  obtain ⟨A0, C0, e0, -, -, -⟩ := DSite.rd rn0
  obtain ⟨A1, C1, e1, -, -, -⟩ := DSector.rd rn1
  obtain ⟨A2, C2, e2, -, -, -⟩ := DAntenna.rd rn2
  obtain ⟨A3, C3, e3, -, -, -⟩ := DRadio.rd rn3
  subst e0 e1 e2 e3
  have R0 := Lib.hid rn0
  have R1 := Lib.hid rn1
  have R2 := Lib.hid rn2
  have R3 := Lib.hid rn3
  clear rn0 rn1 rn2 rn3
  have hko := hk_x
  by_cases hv : netB n = true
  case neg =>
    replace hv : netB n = false := Bool.eq_false_iff.2 hv
    have HE := Lib.hid (chgR_bad (x := x) hv)
    have BB0_ : Below w.heap.size w (((w.alloc (.cells #[.slice A0 n.sites.length C0, .slice A1 n.sectors.length C1, .slice A2 n.antennas.length C2, .slice A3 n.radios.length C3] 35)).alloc (.cells #[.string x.name, .string x.site, .string x.antenna, .string x.radio, .string x.band, .int .i64 x.azimuth, .int .i64 x.tilt, .int .i64 x.above, .int .i64 x.channel] 49)).alloc (.cells #[.slice none 0 0, .slice none 0 0, .slice none 0 0, .slice none 0 0] 35)) := Below.alloc (Below.alloc (Below.alloc (Below.refl _ _) (by first | exact Nat.le_refl _ | (simp; done) | (simp; omega)) _) (by first | exact Nat.le_refl _ | (simp; done) | (simp; omega)) _) (by first | exact Nat.le_refl _ | (simp; done) | (simp; omega)) _
    have zz0 : w.heap.size + 3 ≤ (((w.alloc (.cells #[.slice A0 n.sites.length C0, .slice A1 n.sectors.length C1, .slice A2 n.antennas.length C2, .slice A3 n.radios.length C3] 35)).alloc (.cells #[.string x.name, .string x.site, .string x.antenna, .string x.radio, .string x.band, .int .i64 x.azimuth, .int .i64 x.tilt, .int .i64 x.above, .int .i64 x.channel] 49)).alloc (.cells #[.slice none 0 0, .slice none 0 0, .slice none 0 0, .slice none 0 0] 35)).heap.size := by simp
    have k_N : (((w.alloc (.cells #[.slice A0 n.sites.length C0, .slice A1 n.sectors.length C1, .slice A2 n.antennas.length C2, .slice A3 n.radios.length C3] 35)).alloc (.cells #[.string x.name, .string x.site, .string x.antenna, .string x.radio, .string x.band, .int .i64 x.azimuth, .int .i64 x.tilt, .int .i64 x.above, .int .i64 x.channel] 49)).alloc (.cells #[.slice none 0 0, .slice none 0 0, .slice none 0 0, .slice none 0 0] 35)).heap[w.heap.size]? = some (.cells #[.slice A0 n.sites.length C0, .slice A1 n.sectors.length C1, .slice A2 n.antennas.length C2, .slice A3 n.radios.length C3] 35 (0, 0)) := by
      have h := blkN w #[.slice A0 n.sites.length C0, .slice A1 n.sectors.length C1, .slice A2 n.antennas.length C2, .slice A3 n.radios.length C3] 35
      replace h := blkA h (by first | (simp; done) | (simp; omega)) (.cells #[.string x.name, .string x.site, .string x.antenna, .string x.radio, .string x.band, .int .i64 x.azimuth, .int .i64 x.tilt, .int .i64 x.above, .int .i64 x.channel] 49)
      replace h := blkA h (by first | (simp; done) | (simp; omega)) (.cells #[.slice none 0 0, .slice none 0 0, .slice none 0 0, .slice none 0 0] 35)
      exact h
    have KN_0 := Lib.hid k_N
    have k_X : (((w.alloc (.cells #[.slice A0 n.sites.length C0, .slice A1 n.sectors.length C1, .slice A2 n.antennas.length C2, .slice A3 n.radios.length C3] 35)).alloc (.cells #[.string x.name, .string x.site, .string x.antenna, .string x.radio, .string x.band, .int .i64 x.azimuth, .int .i64 x.tilt, .int .i64 x.above, .int .i64 x.channel] 49)).alloc (.cells #[.slice none 0 0, .slice none 0 0, .slice none 0 0, .slice none 0 0] 35)).heap[w.heap.size + 1]? = some (.cells #[.string x.name, .string x.site, .string x.antenna, .string x.radio, .string x.band, .int .i64 x.azimuth, .int .i64 x.tilt, .int .i64 x.above, .int .i64 x.channel] 49 (0, 0)) := by
      have h := blkN (w.alloc (.cells #[.slice A0 n.sites.length C0, .slice A1 n.sectors.length C1, .slice A2 n.antennas.length C2, .slice A3 n.radios.length C3] 35)) #[.string x.name, .string x.site, .string x.antenna, .string x.radio, .string x.band, .int .i64 x.azimuth, .int .i64 x.tilt, .int .i64 x.above, .int .i64 x.channel] 49
      rw [show (w.alloc (.cells #[.slice A0 n.sites.length C0, .slice A1 n.sectors.length C1, .slice A2 n.antennas.length C2, .slice A3 n.radios.length C3] 35)).heap.size = w.heap.size + 1 by simp] at h
      replace h := blkA h (by first | (simp; done) | (simp; omega)) (.cells #[.slice none 0 0, .slice none 0 0, .slice none 0 0, .slice none 0 0] 35)
      exact h
    have KX_0 := Lib.hid k_X
    have k_R : (((w.alloc (.cells #[.slice A0 n.sites.length C0, .slice A1 n.sectors.length C1, .slice A2 n.antennas.length C2, .slice A3 n.radios.length C3] 35)).alloc (.cells #[.string x.name, .string x.site, .string x.antenna, .string x.radio, .string x.band, .int .i64 x.azimuth, .int .i64 x.tilt, .int .i64 x.above, .int .i64 x.channel] 49)).alloc (.cells #[.slice none 0 0, .slice none 0 0, .slice none 0 0, .slice none 0 0] 35)).heap[w.heap.size + 2]? = some (.cells #[.slice none 0 0, .slice none 0 0, .slice none 0 0, .slice none 0 0] 35 (0, 0)) := by
      have h := blkN ((w.alloc (.cells #[.slice A0 n.sites.length C0, .slice A1 n.sectors.length C1, .slice A2 n.antennas.length C2, .slice A3 n.radios.length C3] 35)).alloc (.cells #[.string x.name, .string x.site, .string x.antenna, .string x.radio, .string x.band, .int .i64 x.azimuth, .int .i64 x.tilt, .int .i64 x.above, .int .i64 x.channel] 49)) #[.slice none 0 0, .slice none 0 0, .slice none 0 0, .slice none 0 0] 35
      rw [show ((w.alloc (.cells #[.slice A0 n.sites.length C0, .slice A1 n.sectors.length C1, .slice A2 n.antennas.length C2, .slice A3 n.radios.length C3] 35)).alloc (.cells #[.string x.name, .string x.site, .string x.antenna, .string x.radio, .string x.band, .int .i64 x.azimuth, .int .i64 x.tilt, .int .i64 x.above, .int .i64 x.channel] 49)).heap.size = w.heap.size + 2 by simp] at h
      exact h
    have KR_0 := Lib.hid k_R
    clear k_N k_X k_R
    have BB_0 := Lib.hid BB0_
    clear BB0_
    go_enter Tryz.func22, Tryz.ntmps22
    go_upto_region 1 with (fail)
    generalize (((w.alloc (.cells #[.slice A0 n.sites.length C0, .slice A1 n.sectors.length C1, .slice A2 n.antennas.length C2, .slice A3 n.radios.length C3] 35)).alloc (.cells #[.string x.name, .string x.site, .string x.antenna, .string x.radio, .string x.band, .int .i64 x.azimuth, .int .i64 x.tilt, .int .i64 x.above, .int .i64 x.channel] 49)).alloc (.cells #[.slice none 0 0, .slice none 0 0, .slice none 0 0, .slice none 0 0] 35)) = W0 at *
    have fN0 := blkC (v := .slice A0 n.sites.length C0) KN_0.out 0 rfl
    have fN1 := blkC (v := .slice A1 n.sectors.length C1) KN_0.out 1 rfl
    have fN2 := blkC (v := .slice A2 n.antennas.length C2) KN_0.out 2 rfl
    have fN3 := blkC (v := .slice A3 n.radios.length C3) KN_0.out 3 rfl
    have fX0 := blkC (v := .string x.name) KX_0.out 0 rfl
    have fX1 := blkC (v := .string x.site) KX_0.out 1 rfl
    have fX2 := blkC (v := .string x.antenna) KX_0.out 2 rfl
    have fX3 := blkC (v := .string x.radio) KX_0.out 3 rfl
    have fX4 := blkC (v := .string x.band) KX_0.out 4 rfl
    have fX5 := blkC (v := .int .i64 x.azimuth) KX_0.out 5 rfl
    have fX6 := blkC (v := .int .i64 x.tilt) KX_0.out 6 rfl
    have fX7 := blkC (v := .int .i64 x.above) KX_0.out 7 rfl
    have fX8 := blkC (v := .int .i64 x.channel) KX_0.out 8 rfl
    have fR0 := blkC (v := .slice none 0 0) KR_0.out 0 rfl
    have fR1 := blkC (v := .slice none 0 0) KR_0.out 1 rfl
    have fR2 := blkC (v := .slice none 0 0) KR_0.out 2 rfl
    have fR3 := blkC (v := .slice none 0 0) KR_0.out 3 rfl
    go_wp2_with fail
    refine (sectorNamed_any n.sectors x.name _ _ _ _ w.heap.size _ (R1.out.below BB_0.out) (by have := BB_0.out.size; omega) (by omega)).mono ?_
    rintro e X1 ⟨rfl, hb⟩
    clear fN0 fN1 fN2 fN3 fX0 fX1 fX2 fX3 fX4 fX5 fX6 fX7 fX8 fR0 fR1 fR2 fR3
    have KN_1 := Lib.hid (blkB KN_0.out hb (by omega))
    have KX_1 := Lib.hid (blkB KX_0.out hb (by omega))
    have KR_1 := Lib.hid (blkB KR_0.out hb (by omega))
    have BB_1 := Lib.hid (BB_0.out.trans (hb.mono (by omega)))
    have zz1 : W0.heap.size ≤ X1.heap.size := hb.size
    clear KN_0 KX_0 KR_0 BB_0 hb
    generalize idxSector n.sectors x.name = ix at *
    have fN0 := blkC (v := .slice A0 n.sites.length C0) KN_1.out 0 rfl
    have fN1 := blkC (v := .slice A1 n.sectors.length C1) KN_1.out 1 rfl
    have fN2 := blkC (v := .slice A2 n.antennas.length C2) KN_1.out 2 rfl
    have fN3 := blkC (v := .slice A3 n.radios.length C3) KN_1.out 3 rfl
    have fX0 := blkC (v := .string x.name) KX_1.out 0 rfl
    have fX1 := blkC (v := .string x.site) KX_1.out 1 rfl
    have fX2 := blkC (v := .string x.antenna) KX_1.out 2 rfl
    have fX3 := blkC (v := .string x.radio) KX_1.out 3 rfl
    have fX4 := blkC (v := .string x.band) KX_1.out 4 rfl
    have fX5 := blkC (v := .int .i64 x.azimuth) KX_1.out 5 rfl
    have fX6 := blkC (v := .int .i64 x.tilt) KX_1.out 6 rfl
    have fX7 := blkC (v := .int .i64 x.above) KX_1.out 7 rfl
    have fX8 := blkC (v := .int .i64 x.channel) KX_1.out 8 rfl
    have fR0 := blkC (v := .slice none 0 0) KR_1.out 0 rfl
    have fR1 := blkC (v := .slice none 0 0) KR_1.out 1 rfl
    have fR2 := blkC (v := .slice none 0 0) KR_1.out 2 rfl
    have fR3 := blkC (v := .slice none 0 0) KR_1.out 3 rfl
    go_wp2_with fail
    refine (validNetwork_any n _ _ _ _ _ ((R0.out.below BB_1.out).mono (by have := BB_1.out.size; omega)) ((R1.out.below BB_1.out).mono (by have := BB_1.out.size; omega)) ((R2.out.below BB_1.out).mono (by have := BB_1.out.size; omega)) ((R3.out.below BB_1.out).mono (by have := BB_1.out.size; omega)) (by omega) hk_n).mono ?_
    rintro e X2 ⟨rfl, hb⟩
    clear fN0 fN1 fN2 fN3 fX0 fX1 fX2 fX3 fX4 fX5 fX6 fX7 fX8 fR0 fR1 fR2 fR3
    have KN_2 := Lib.hid (blkB KN_1.out hb (by omega))
    have KX_2 := Lib.hid (blkB KX_1.out hb (by omega))
    have KR_2 := Lib.hid (blkB KR_1.out hb (by omega))
    have BB_2 := Lib.hid (BB_1.out.trans (hb.mono (by omega)))
    have zz2 : X1.heap.size ≤ X2.heap.size := hb.size
    clear KN_1 KX_1 KR_1 BB_1 hb
    rw [hv]
    have fN0 := blkC (v := .slice A0 n.sites.length C0) KN_2.out 0 rfl
    have fN1 := blkC (v := .slice A1 n.sectors.length C1) KN_2.out 1 rfl
    have fN2 := blkC (v := .slice A2 n.antennas.length C2) KN_2.out 2 rfl
    have fN3 := blkC (v := .slice A3 n.radios.length C3) KN_2.out 3 rfl
    have fX0 := blkC (v := .string x.name) KX_2.out 0 rfl
    have fX1 := blkC (v := .string x.site) KX_2.out 1 rfl
    have fX2 := blkC (v := .string x.antenna) KX_2.out 2 rfl
    have fX3 := blkC (v := .string x.radio) KX_2.out 3 rfl
    have fX4 := blkC (v := .string x.band) KX_2.out 4 rfl
    have fX5 := blkC (v := .int .i64 x.azimuth) KX_2.out 5 rfl
    have fX6 := blkC (v := .int .i64 x.tilt) KX_2.out 6 rfl
    have fX7 := blkC (v := .int .i64 x.above) KX_2.out 7 rfl
    have fX8 := blkC (v := .int .i64 x.channel) KX_2.out 8 rfl
    have fR0 := blkC (v := .slice none 0 0) KR_2.out 0 rfl
    have fR1 := blkC (v := .slice none 0 0) KR_2.out 1 rfl
    have fR2 := blkC (v := .slice none 0 0) KR_2.out 2 rfl
    have fR3 := blkC (v := .slice none 0 0) KR_2.out 3 rfl
    have zR := blkF KR_2.out
    go_wp2
    have BF := Lib.hid (((((BB_2.out).setCell (p := ⟨w.heap.size + 2, 0, none⟩) (by show w.heap.size ≤ w.heap.size + 2; omega) (.slice none 0 0)).setCell (p := ⟨w.heap.size + 2, 1, none⟩) (by show w.heap.size ≤ w.heap.size + 2; omega) (.slice none 0 0)).setCell (p := ⟨w.heap.size + 2, 2, none⟩) (by show w.heap.size ≤ w.heap.size + 2; omega) (.slice none 0 0)).setCell (p := ⟨w.heap.size + 2, 3, none⟩) (by show w.heap.size ≤ w.heap.size + 2; omega) (.slice none 0 0))
    refine bodyPost_ret (v := .tuple #[.agg #[.slice none 0 0, .slice none 0 0, .slice none 0 0, .slice none 0 0], .int .i64 1]) (by simp [results, Tryz.results22, go_sem, *]) rfl ?_
    rw [HE.out]
    exact ⟨none, 0, none, 0, none, 0, none, 0, [], rfl, BF.out, ownV_zero _, In.nil⟩
  by_cases hx : sectorB x = true
  case neg =>
    replace hx : sectorB x = false := Bool.eq_false_iff.2 hx
    have HE := Lib.hid (chgR_bad2 hv hx)
    have BB0_ : Below w.heap.size w (((w.alloc (.cells #[.slice A0 n.sites.length C0, .slice A1 n.sectors.length C1, .slice A2 n.antennas.length C2, .slice A3 n.radios.length C3] 35)).alloc (.cells #[.string x.name, .string x.site, .string x.antenna, .string x.radio, .string x.band, .int .i64 x.azimuth, .int .i64 x.tilt, .int .i64 x.above, .int .i64 x.channel] 49)).alloc (.cells #[.slice none 0 0, .slice none 0 0, .slice none 0 0, .slice none 0 0] 35)) := Below.alloc (Below.alloc (Below.alloc (Below.refl _ _) (by first | exact Nat.le_refl _ | (simp; done) | (simp; omega)) _) (by first | exact Nat.le_refl _ | (simp; done) | (simp; omega)) _) (by first | exact Nat.le_refl _ | (simp; done) | (simp; omega)) _
    have zz0 : w.heap.size + 3 ≤ (((w.alloc (.cells #[.slice A0 n.sites.length C0, .slice A1 n.sectors.length C1, .slice A2 n.antennas.length C2, .slice A3 n.radios.length C3] 35)).alloc (.cells #[.string x.name, .string x.site, .string x.antenna, .string x.radio, .string x.band, .int .i64 x.azimuth, .int .i64 x.tilt, .int .i64 x.above, .int .i64 x.channel] 49)).alloc (.cells #[.slice none 0 0, .slice none 0 0, .slice none 0 0, .slice none 0 0] 35)).heap.size := by simp
    have k_N : (((w.alloc (.cells #[.slice A0 n.sites.length C0, .slice A1 n.sectors.length C1, .slice A2 n.antennas.length C2, .slice A3 n.radios.length C3] 35)).alloc (.cells #[.string x.name, .string x.site, .string x.antenna, .string x.radio, .string x.band, .int .i64 x.azimuth, .int .i64 x.tilt, .int .i64 x.above, .int .i64 x.channel] 49)).alloc (.cells #[.slice none 0 0, .slice none 0 0, .slice none 0 0, .slice none 0 0] 35)).heap[w.heap.size]? = some (.cells #[.slice A0 n.sites.length C0, .slice A1 n.sectors.length C1, .slice A2 n.antennas.length C2, .slice A3 n.radios.length C3] 35 (0, 0)) := by
      have h := blkN w #[.slice A0 n.sites.length C0, .slice A1 n.sectors.length C1, .slice A2 n.antennas.length C2, .slice A3 n.radios.length C3] 35
      replace h := blkA h (by first | (simp; done) | (simp; omega)) (.cells #[.string x.name, .string x.site, .string x.antenna, .string x.radio, .string x.band, .int .i64 x.azimuth, .int .i64 x.tilt, .int .i64 x.above, .int .i64 x.channel] 49)
      replace h := blkA h (by first | (simp; done) | (simp; omega)) (.cells #[.slice none 0 0, .slice none 0 0, .slice none 0 0, .slice none 0 0] 35)
      exact h
    have KN_0 := Lib.hid k_N
    have k_X : (((w.alloc (.cells #[.slice A0 n.sites.length C0, .slice A1 n.sectors.length C1, .slice A2 n.antennas.length C2, .slice A3 n.radios.length C3] 35)).alloc (.cells #[.string x.name, .string x.site, .string x.antenna, .string x.radio, .string x.band, .int .i64 x.azimuth, .int .i64 x.tilt, .int .i64 x.above, .int .i64 x.channel] 49)).alloc (.cells #[.slice none 0 0, .slice none 0 0, .slice none 0 0, .slice none 0 0] 35)).heap[w.heap.size + 1]? = some (.cells #[.string x.name, .string x.site, .string x.antenna, .string x.radio, .string x.band, .int .i64 x.azimuth, .int .i64 x.tilt, .int .i64 x.above, .int .i64 x.channel] 49 (0, 0)) := by
      have h := blkN (w.alloc (.cells #[.slice A0 n.sites.length C0, .slice A1 n.sectors.length C1, .slice A2 n.antennas.length C2, .slice A3 n.radios.length C3] 35)) #[.string x.name, .string x.site, .string x.antenna, .string x.radio, .string x.band, .int .i64 x.azimuth, .int .i64 x.tilt, .int .i64 x.above, .int .i64 x.channel] 49
      rw [show (w.alloc (.cells #[.slice A0 n.sites.length C0, .slice A1 n.sectors.length C1, .slice A2 n.antennas.length C2, .slice A3 n.radios.length C3] 35)).heap.size = w.heap.size + 1 by simp] at h
      replace h := blkA h (by first | (simp; done) | (simp; omega)) (.cells #[.slice none 0 0, .slice none 0 0, .slice none 0 0, .slice none 0 0] 35)
      exact h
    have KX_0 := Lib.hid k_X
    have k_R : (((w.alloc (.cells #[.slice A0 n.sites.length C0, .slice A1 n.sectors.length C1, .slice A2 n.antennas.length C2, .slice A3 n.radios.length C3] 35)).alloc (.cells #[.string x.name, .string x.site, .string x.antenna, .string x.radio, .string x.band, .int .i64 x.azimuth, .int .i64 x.tilt, .int .i64 x.above, .int .i64 x.channel] 49)).alloc (.cells #[.slice none 0 0, .slice none 0 0, .slice none 0 0, .slice none 0 0] 35)).heap[w.heap.size + 2]? = some (.cells #[.slice none 0 0, .slice none 0 0, .slice none 0 0, .slice none 0 0] 35 (0, 0)) := by
      have h := blkN ((w.alloc (.cells #[.slice A0 n.sites.length C0, .slice A1 n.sectors.length C1, .slice A2 n.antennas.length C2, .slice A3 n.radios.length C3] 35)).alloc (.cells #[.string x.name, .string x.site, .string x.antenna, .string x.radio, .string x.band, .int .i64 x.azimuth, .int .i64 x.tilt, .int .i64 x.above, .int .i64 x.channel] 49)) #[.slice none 0 0, .slice none 0 0, .slice none 0 0, .slice none 0 0] 35
      rw [show ((w.alloc (.cells #[.slice A0 n.sites.length C0, .slice A1 n.sectors.length C1, .slice A2 n.antennas.length C2, .slice A3 n.radios.length C3] 35)).alloc (.cells #[.string x.name, .string x.site, .string x.antenna, .string x.radio, .string x.band, .int .i64 x.azimuth, .int .i64 x.tilt, .int .i64 x.above, .int .i64 x.channel] 49)).heap.size = w.heap.size + 2 by simp] at h
      exact h
    have KR_0 := Lib.hid k_R
    clear k_N k_X k_R
    have BB_0 := Lib.hid BB0_
    clear BB0_
    go_enter Tryz.func22, Tryz.ntmps22
    go_upto_region 1 with (fail)
    generalize (((w.alloc (.cells #[.slice A0 n.sites.length C0, .slice A1 n.sectors.length C1, .slice A2 n.antennas.length C2, .slice A3 n.radios.length C3] 35)).alloc (.cells #[.string x.name, .string x.site, .string x.antenna, .string x.radio, .string x.band, .int .i64 x.azimuth, .int .i64 x.tilt, .int .i64 x.above, .int .i64 x.channel] 49)).alloc (.cells #[.slice none 0 0, .slice none 0 0, .slice none 0 0, .slice none 0 0] 35)) = W0 at *
    have fN0 := blkC (v := .slice A0 n.sites.length C0) KN_0.out 0 rfl
    have fN1 := blkC (v := .slice A1 n.sectors.length C1) KN_0.out 1 rfl
    have fN2 := blkC (v := .slice A2 n.antennas.length C2) KN_0.out 2 rfl
    have fN3 := blkC (v := .slice A3 n.radios.length C3) KN_0.out 3 rfl
    have fX0 := blkC (v := .string x.name) KX_0.out 0 rfl
    have fX1 := blkC (v := .string x.site) KX_0.out 1 rfl
    have fX2 := blkC (v := .string x.antenna) KX_0.out 2 rfl
    have fX3 := blkC (v := .string x.radio) KX_0.out 3 rfl
    have fX4 := blkC (v := .string x.band) KX_0.out 4 rfl
    have fX5 := blkC (v := .int .i64 x.azimuth) KX_0.out 5 rfl
    have fX6 := blkC (v := .int .i64 x.tilt) KX_0.out 6 rfl
    have fX7 := blkC (v := .int .i64 x.above) KX_0.out 7 rfl
    have fX8 := blkC (v := .int .i64 x.channel) KX_0.out 8 rfl
    have fR0 := blkC (v := .slice none 0 0) KR_0.out 0 rfl
    have fR1 := blkC (v := .slice none 0 0) KR_0.out 1 rfl
    have fR2 := blkC (v := .slice none 0 0) KR_0.out 2 rfl
    have fR3 := blkC (v := .slice none 0 0) KR_0.out 3 rfl
    go_wp2_with fail
    refine (sectorNamed_any n.sectors x.name _ _ _ _ w.heap.size _ (R1.out.below BB_0.out) (by have := BB_0.out.size; omega) (by omega)).mono ?_
    rintro e X1 ⟨rfl, hb⟩
    clear fN0 fN1 fN2 fN3 fX0 fX1 fX2 fX3 fX4 fX5 fX6 fX7 fX8 fR0 fR1 fR2 fR3
    have KN_1 := Lib.hid (blkB KN_0.out hb (by omega))
    have KX_1 := Lib.hid (blkB KX_0.out hb (by omega))
    have KR_1 := Lib.hid (blkB KR_0.out hb (by omega))
    have BB_1 := Lib.hid (BB_0.out.trans (hb.mono (by omega)))
    have zz1 : W0.heap.size ≤ X1.heap.size := hb.size
    clear KN_0 KX_0 KR_0 BB_0 hb
    generalize idxSector n.sectors x.name = ix at *
    have fN0 := blkC (v := .slice A0 n.sites.length C0) KN_1.out 0 rfl
    have fN1 := blkC (v := .slice A1 n.sectors.length C1) KN_1.out 1 rfl
    have fN2 := blkC (v := .slice A2 n.antennas.length C2) KN_1.out 2 rfl
    have fN3 := blkC (v := .slice A3 n.radios.length C3) KN_1.out 3 rfl
    have fX0 := blkC (v := .string x.name) KX_1.out 0 rfl
    have fX1 := blkC (v := .string x.site) KX_1.out 1 rfl
    have fX2 := blkC (v := .string x.antenna) KX_1.out 2 rfl
    have fX3 := blkC (v := .string x.radio) KX_1.out 3 rfl
    have fX4 := blkC (v := .string x.band) KX_1.out 4 rfl
    have fX5 := blkC (v := .int .i64 x.azimuth) KX_1.out 5 rfl
    have fX6 := blkC (v := .int .i64 x.tilt) KX_1.out 6 rfl
    have fX7 := blkC (v := .int .i64 x.above) KX_1.out 7 rfl
    have fX8 := blkC (v := .int .i64 x.channel) KX_1.out 8 rfl
    have fR0 := blkC (v := .slice none 0 0) KR_1.out 0 rfl
    have fR1 := blkC (v := .slice none 0 0) KR_1.out 1 rfl
    have fR2 := blkC (v := .slice none 0 0) KR_1.out 2 rfl
    have fR3 := blkC (v := .slice none 0 0) KR_1.out 3 rfl
    go_wp2_with fail
    refine (validNetwork_any n _ _ _ _ _ ((R0.out.below BB_1.out).mono (by have := BB_1.out.size; omega)) ((R1.out.below BB_1.out).mono (by have := BB_1.out.size; omega)) ((R2.out.below BB_1.out).mono (by have := BB_1.out.size; omega)) ((R3.out.below BB_1.out).mono (by have := BB_1.out.size; omega)) (by omega) hk_n).mono ?_
    rintro e X2 ⟨rfl, hb⟩
    clear fN0 fN1 fN2 fN3 fX0 fX1 fX2 fX3 fX4 fX5 fX6 fX7 fX8 fR0 fR1 fR2 fR3
    have KN_2 := Lib.hid (blkB KN_1.out hb (by omega))
    have KX_2 := Lib.hid (blkB KX_1.out hb (by omega))
    have KR_2 := Lib.hid (blkB KR_1.out hb (by omega))
    have BB_2 := Lib.hid (BB_1.out.trans (hb.mono (by omega)))
    have zz2 : X1.heap.size ≤ X2.heap.size := hb.size
    clear KN_1 KX_1 KR_1 BB_1 hb
    rw [hv]
    have fN0 := blkC (v := .slice A0 n.sites.length C0) KN_2.out 0 rfl
    have fN1 := blkC (v := .slice A1 n.sectors.length C1) KN_2.out 1 rfl
    have fN2 := blkC (v := .slice A2 n.antennas.length C2) KN_2.out 2 rfl
    have fN3 := blkC (v := .slice A3 n.radios.length C3) KN_2.out 3 rfl
    have fX0 := blkC (v := .string x.name) KX_2.out 0 rfl
    have fX1 := blkC (v := .string x.site) KX_2.out 1 rfl
    have fX2 := blkC (v := .string x.antenna) KX_2.out 2 rfl
    have fX3 := blkC (v := .string x.radio) KX_2.out 3 rfl
    have fX4 := blkC (v := .string x.band) KX_2.out 4 rfl
    have fX5 := blkC (v := .int .i64 x.azimuth) KX_2.out 5 rfl
    have fX6 := blkC (v := .int .i64 x.tilt) KX_2.out 6 rfl
    have fX7 := blkC (v := .int .i64 x.above) KX_2.out 7 rfl
    have fX8 := blkC (v := .int .i64 x.channel) KX_2.out 8 rfl
    have fR0 := blkC (v := .slice none 0 0) KR_2.out 0 rfl
    have fR1 := blkC (v := .slice none 0 0) KR_2.out 1 rfl
    have fR2 := blkC (v := .slice none 0 0) KR_2.out 2 rfl
    have fR3 := blkC (v := .slice none 0 0) KR_2.out 3 rfl
    go_wp2_with fail
    refine (sectorValid_any x hko.name hko.site hko.antenna hko.radio hko.band _).mono ?_
    rintro e X3 ⟨rfl, hb⟩
    clear fN0 fN1 fN2 fN3 fX0 fX1 fX2 fX3 fX4 fX5 fX6 fX7 fX8 fR0 fR1 fR2 fR3
    have KN_3 := Lib.hid (blkB KN_2.out hb (by omega))
    have KX_3 := Lib.hid (blkB KX_2.out hb (by omega))
    have KR_3 := Lib.hid (blkB KR_2.out hb (by omega))
    have BB_3 := Lib.hid (BB_2.out.trans (hb.mono (by omega)))
    have zz3 : X2.heap.size ≤ X3.heap.size := hb.size
    clear KN_2 KX_2 KR_2 BB_2 hb
    rw [hx]
    have fN0 := blkC (v := .slice A0 n.sites.length C0) KN_3.out 0 rfl
    have fN1 := blkC (v := .slice A1 n.sectors.length C1) KN_3.out 1 rfl
    have fN2 := blkC (v := .slice A2 n.antennas.length C2) KN_3.out 2 rfl
    have fN3 := blkC (v := .slice A3 n.radios.length C3) KN_3.out 3 rfl
    have fX0 := blkC (v := .string x.name) KX_3.out 0 rfl
    have fX1 := blkC (v := .string x.site) KX_3.out 1 rfl
    have fX2 := blkC (v := .string x.antenna) KX_3.out 2 rfl
    have fX3 := blkC (v := .string x.radio) KX_3.out 3 rfl
    have fX4 := blkC (v := .string x.band) KX_3.out 4 rfl
    have fX5 := blkC (v := .int .i64 x.azimuth) KX_3.out 5 rfl
    have fX6 := blkC (v := .int .i64 x.tilt) KX_3.out 6 rfl
    have fX7 := blkC (v := .int .i64 x.above) KX_3.out 7 rfl
    have fX8 := blkC (v := .int .i64 x.channel) KX_3.out 8 rfl
    have fR0 := blkC (v := .slice none 0 0) KR_3.out 0 rfl
    have fR1 := blkC (v := .slice none 0 0) KR_3.out 1 rfl
    have fR2 := blkC (v := .slice none 0 0) KR_3.out 2 rfl
    have fR3 := blkC (v := .slice none 0 0) KR_3.out 3 rfl
    have zR := blkF KR_3.out
    go_wp2
    have BF := Lib.hid (((((BB_3.out).setCell (p := ⟨w.heap.size + 2, 0, none⟩) (by show w.heap.size ≤ w.heap.size + 2; omega) (.slice none 0 0)).setCell (p := ⟨w.heap.size + 2, 1, none⟩) (by show w.heap.size ≤ w.heap.size + 2; omega) (.slice none 0 0)).setCell (p := ⟨w.heap.size + 2, 2, none⟩) (by show w.heap.size ≤ w.heap.size + 2; omega) (.slice none 0 0)).setCell (p := ⟨w.heap.size + 2, 3, none⟩) (by show w.heap.size ≤ w.heap.size + 2; omega) (.slice none 0 0))
    refine bodyPost_ret (v := .tuple #[.agg #[.slice none 0 0, .slice none 0 0, .slice none 0 0, .slice none 0 0], .int .i64 1]) (by simp [results, Tryz.results22, go_sem, *]) rfl ?_
    rw [HE.out]
    exact ⟨none, 0, none, 0, none, 0, none, 0, [], rfl, BF.out, ownV_zero _, In.nil⟩
  rcases firstIdx_cases' (fun y : DSector => eqS y.name x.name) n.sectors with ⟨hi, _⟩ | ⟨k, hk, hi, _, _⟩
  · have HE := Lib.hid (chgR_none hv hx hi)
    have HI : Hid (idxSector n.sectors x.name = -1) := hi
    clear hi
    have BB0_ : Below w.heap.size w (((w.alloc (.cells #[.slice A0 n.sites.length C0, .slice A1 n.sectors.length C1, .slice A2 n.antennas.length C2, .slice A3 n.radios.length C3] 35)).alloc (.cells #[.string x.name, .string x.site, .string x.antenna, .string x.radio, .string x.band, .int .i64 x.azimuth, .int .i64 x.tilt, .int .i64 x.above, .int .i64 x.channel] 49)).alloc (.cells #[.slice none 0 0, .slice none 0 0, .slice none 0 0, .slice none 0 0] 35)) := Below.alloc (Below.alloc (Below.alloc (Below.refl _ _) (by first | exact Nat.le_refl _ | (simp; done) | (simp; omega)) _) (by first | exact Nat.le_refl _ | (simp; done) | (simp; omega)) _) (by first | exact Nat.le_refl _ | (simp; done) | (simp; omega)) _
    have zz0 : w.heap.size + 3 ≤ (((w.alloc (.cells #[.slice A0 n.sites.length C0, .slice A1 n.sectors.length C1, .slice A2 n.antennas.length C2, .slice A3 n.radios.length C3] 35)).alloc (.cells #[.string x.name, .string x.site, .string x.antenna, .string x.radio, .string x.band, .int .i64 x.azimuth, .int .i64 x.tilt, .int .i64 x.above, .int .i64 x.channel] 49)).alloc (.cells #[.slice none 0 0, .slice none 0 0, .slice none 0 0, .slice none 0 0] 35)).heap.size := by simp
    have k_N : (((w.alloc (.cells #[.slice A0 n.sites.length C0, .slice A1 n.sectors.length C1, .slice A2 n.antennas.length C2, .slice A3 n.radios.length C3] 35)).alloc (.cells #[.string x.name, .string x.site, .string x.antenna, .string x.radio, .string x.band, .int .i64 x.azimuth, .int .i64 x.tilt, .int .i64 x.above, .int .i64 x.channel] 49)).alloc (.cells #[.slice none 0 0, .slice none 0 0, .slice none 0 0, .slice none 0 0] 35)).heap[w.heap.size]? = some (.cells #[.slice A0 n.sites.length C0, .slice A1 n.sectors.length C1, .slice A2 n.antennas.length C2, .slice A3 n.radios.length C3] 35 (0, 0)) := by
      have h := blkN w #[.slice A0 n.sites.length C0, .slice A1 n.sectors.length C1, .slice A2 n.antennas.length C2, .slice A3 n.radios.length C3] 35
      replace h := blkA h (by first | (simp; done) | (simp; omega)) (.cells #[.string x.name, .string x.site, .string x.antenna, .string x.radio, .string x.band, .int .i64 x.azimuth, .int .i64 x.tilt, .int .i64 x.above, .int .i64 x.channel] 49)
      replace h := blkA h (by first | (simp; done) | (simp; omega)) (.cells #[.slice none 0 0, .slice none 0 0, .slice none 0 0, .slice none 0 0] 35)
      exact h
    have KN_0 := Lib.hid k_N
    have k_X : (((w.alloc (.cells #[.slice A0 n.sites.length C0, .slice A1 n.sectors.length C1, .slice A2 n.antennas.length C2, .slice A3 n.radios.length C3] 35)).alloc (.cells #[.string x.name, .string x.site, .string x.antenna, .string x.radio, .string x.band, .int .i64 x.azimuth, .int .i64 x.tilt, .int .i64 x.above, .int .i64 x.channel] 49)).alloc (.cells #[.slice none 0 0, .slice none 0 0, .slice none 0 0, .slice none 0 0] 35)).heap[w.heap.size + 1]? = some (.cells #[.string x.name, .string x.site, .string x.antenna, .string x.radio, .string x.band, .int .i64 x.azimuth, .int .i64 x.tilt, .int .i64 x.above, .int .i64 x.channel] 49 (0, 0)) := by
      have h := blkN (w.alloc (.cells #[.slice A0 n.sites.length C0, .slice A1 n.sectors.length C1, .slice A2 n.antennas.length C2, .slice A3 n.radios.length C3] 35)) #[.string x.name, .string x.site, .string x.antenna, .string x.radio, .string x.band, .int .i64 x.azimuth, .int .i64 x.tilt, .int .i64 x.above, .int .i64 x.channel] 49
      rw [show (w.alloc (.cells #[.slice A0 n.sites.length C0, .slice A1 n.sectors.length C1, .slice A2 n.antennas.length C2, .slice A3 n.radios.length C3] 35)).heap.size = w.heap.size + 1 by simp] at h
      replace h := blkA h (by first | (simp; done) | (simp; omega)) (.cells #[.slice none 0 0, .slice none 0 0, .slice none 0 0, .slice none 0 0] 35)
      exact h
    have KX_0 := Lib.hid k_X
    have k_R : (((w.alloc (.cells #[.slice A0 n.sites.length C0, .slice A1 n.sectors.length C1, .slice A2 n.antennas.length C2, .slice A3 n.radios.length C3] 35)).alloc (.cells #[.string x.name, .string x.site, .string x.antenna, .string x.radio, .string x.band, .int .i64 x.azimuth, .int .i64 x.tilt, .int .i64 x.above, .int .i64 x.channel] 49)).alloc (.cells #[.slice none 0 0, .slice none 0 0, .slice none 0 0, .slice none 0 0] 35)).heap[w.heap.size + 2]? = some (.cells #[.slice none 0 0, .slice none 0 0, .slice none 0 0, .slice none 0 0] 35 (0, 0)) := by
      have h := blkN ((w.alloc (.cells #[.slice A0 n.sites.length C0, .slice A1 n.sectors.length C1, .slice A2 n.antennas.length C2, .slice A3 n.radios.length C3] 35)).alloc (.cells #[.string x.name, .string x.site, .string x.antenna, .string x.radio, .string x.band, .int .i64 x.azimuth, .int .i64 x.tilt, .int .i64 x.above, .int .i64 x.channel] 49)) #[.slice none 0 0, .slice none 0 0, .slice none 0 0, .slice none 0 0] 35
      rw [show ((w.alloc (.cells #[.slice A0 n.sites.length C0, .slice A1 n.sectors.length C1, .slice A2 n.antennas.length C2, .slice A3 n.radios.length C3] 35)).alloc (.cells #[.string x.name, .string x.site, .string x.antenna, .string x.radio, .string x.band, .int .i64 x.azimuth, .int .i64 x.tilt, .int .i64 x.above, .int .i64 x.channel] 49)).heap.size = w.heap.size + 2 by simp] at h
      exact h
    have KR_0 := Lib.hid k_R
    clear k_N k_X k_R
    have BB_0 := Lib.hid BB0_
    clear BB0_
    go_enter Tryz.func22, Tryz.ntmps22
    go_upto_region 1 with (fail)
    generalize (((w.alloc (.cells #[.slice A0 n.sites.length C0, .slice A1 n.sectors.length C1, .slice A2 n.antennas.length C2, .slice A3 n.radios.length C3] 35)).alloc (.cells #[.string x.name, .string x.site, .string x.antenna, .string x.radio, .string x.band, .int .i64 x.azimuth, .int .i64 x.tilt, .int .i64 x.above, .int .i64 x.channel] 49)).alloc (.cells #[.slice none 0 0, .slice none 0 0, .slice none 0 0, .slice none 0 0] 35)) = W0 at *
    have fN0 := blkC (v := .slice A0 n.sites.length C0) KN_0.out 0 rfl
    have fN1 := blkC (v := .slice A1 n.sectors.length C1) KN_0.out 1 rfl
    have fN2 := blkC (v := .slice A2 n.antennas.length C2) KN_0.out 2 rfl
    have fN3 := blkC (v := .slice A3 n.radios.length C3) KN_0.out 3 rfl
    have fX0 := blkC (v := .string x.name) KX_0.out 0 rfl
    have fX1 := blkC (v := .string x.site) KX_0.out 1 rfl
    have fX2 := blkC (v := .string x.antenna) KX_0.out 2 rfl
    have fX3 := blkC (v := .string x.radio) KX_0.out 3 rfl
    have fX4 := blkC (v := .string x.band) KX_0.out 4 rfl
    have fX5 := blkC (v := .int .i64 x.azimuth) KX_0.out 5 rfl
    have fX6 := blkC (v := .int .i64 x.tilt) KX_0.out 6 rfl
    have fX7 := blkC (v := .int .i64 x.above) KX_0.out 7 rfl
    have fX8 := blkC (v := .int .i64 x.channel) KX_0.out 8 rfl
    have fR0 := blkC (v := .slice none 0 0) KR_0.out 0 rfl
    have fR1 := blkC (v := .slice none 0 0) KR_0.out 1 rfl
    have fR2 := blkC (v := .slice none 0 0) KR_0.out 2 rfl
    have fR3 := blkC (v := .slice none 0 0) KR_0.out 3 rfl
    go_wp2_with fail
    refine (sectorNamed_any n.sectors x.name _ _ _ _ w.heap.size _ (R1.out.below BB_0.out) (by have := BB_0.out.size; omega) (by omega)).mono ?_
    rintro e X1 ⟨rfl, hb⟩
    clear fN0 fN1 fN2 fN3 fX0 fX1 fX2 fX3 fX4 fX5 fX6 fX7 fX8 fR0 fR1 fR2 fR3
    have KN_1 := Lib.hid (blkB KN_0.out hb (by omega))
    have KX_1 := Lib.hid (blkB KX_0.out hb (by omega))
    have KR_1 := Lib.hid (blkB KR_0.out hb (by omega))
    have BB_1 := Lib.hid (BB_0.out.trans (hb.mono (by omega)))
    have zz1 : W0.heap.size ≤ X1.heap.size := hb.size
    clear KN_0 KX_0 KR_0 BB_0 hb
    rw [HI.out]
    have fN0 := blkC (v := .slice A0 n.sites.length C0) KN_1.out 0 rfl
    have fN1 := blkC (v := .slice A1 n.sectors.length C1) KN_1.out 1 rfl
    have fN2 := blkC (v := .slice A2 n.antennas.length C2) KN_1.out 2 rfl
    have fN3 := blkC (v := .slice A3 n.radios.length C3) KN_1.out 3 rfl
    have fX0 := blkC (v := .string x.name) KX_1.out 0 rfl
    have fX1 := blkC (v := .string x.site) KX_1.out 1 rfl
    have fX2 := blkC (v := .string x.antenna) KX_1.out 2 rfl
    have fX3 := blkC (v := .string x.radio) KX_1.out 3 rfl
    have fX4 := blkC (v := .string x.band) KX_1.out 4 rfl
    have fX5 := blkC (v := .int .i64 x.azimuth) KX_1.out 5 rfl
    have fX6 := blkC (v := .int .i64 x.tilt) KX_1.out 6 rfl
    have fX7 := blkC (v := .int .i64 x.above) KX_1.out 7 rfl
    have fX8 := blkC (v := .int .i64 x.channel) KX_1.out 8 rfl
    have fR0 := blkC (v := .slice none 0 0) KR_1.out 0 rfl
    have fR1 := blkC (v := .slice none 0 0) KR_1.out 1 rfl
    have fR2 := blkC (v := .slice none 0 0) KR_1.out 2 rfl
    have fR3 := blkC (v := .slice none 0 0) KR_1.out 3 rfl
    go_wp2_with fail
    refine (validNetwork_any n _ _ _ _ _ ((R0.out.below BB_1.out).mono (by have := BB_1.out.size; omega)) ((R1.out.below BB_1.out).mono (by have := BB_1.out.size; omega)) ((R2.out.below BB_1.out).mono (by have := BB_1.out.size; omega)) ((R3.out.below BB_1.out).mono (by have := BB_1.out.size; omega)) (by omega) hk_n).mono ?_
    rintro e X2 ⟨rfl, hb⟩
    clear fN0 fN1 fN2 fN3 fX0 fX1 fX2 fX3 fX4 fX5 fX6 fX7 fX8 fR0 fR1 fR2 fR3
    have KN_2 := Lib.hid (blkB KN_1.out hb (by omega))
    have KX_2 := Lib.hid (blkB KX_1.out hb (by omega))
    have KR_2 := Lib.hid (blkB KR_1.out hb (by omega))
    have BB_2 := Lib.hid (BB_1.out.trans (hb.mono (by omega)))
    have zz2 : X1.heap.size ≤ X2.heap.size := hb.size
    clear KN_1 KX_1 KR_1 BB_1 hb
    rw [hv]
    have fN0 := blkC (v := .slice A0 n.sites.length C0) KN_2.out 0 rfl
    have fN1 := blkC (v := .slice A1 n.sectors.length C1) KN_2.out 1 rfl
    have fN2 := blkC (v := .slice A2 n.antennas.length C2) KN_2.out 2 rfl
    have fN3 := blkC (v := .slice A3 n.radios.length C3) KN_2.out 3 rfl
    have fX0 := blkC (v := .string x.name) KX_2.out 0 rfl
    have fX1 := blkC (v := .string x.site) KX_2.out 1 rfl
    have fX2 := blkC (v := .string x.antenna) KX_2.out 2 rfl
    have fX3 := blkC (v := .string x.radio) KX_2.out 3 rfl
    have fX4 := blkC (v := .string x.band) KX_2.out 4 rfl
    have fX5 := blkC (v := .int .i64 x.azimuth) KX_2.out 5 rfl
    have fX6 := blkC (v := .int .i64 x.tilt) KX_2.out 6 rfl
    have fX7 := blkC (v := .int .i64 x.above) KX_2.out 7 rfl
    have fX8 := blkC (v := .int .i64 x.channel) KX_2.out 8 rfl
    have fR0 := blkC (v := .slice none 0 0) KR_2.out 0 rfl
    have fR1 := blkC (v := .slice none 0 0) KR_2.out 1 rfl
    have fR2 := blkC (v := .slice none 0 0) KR_2.out 2 rfl
    have fR3 := blkC (v := .slice none 0 0) KR_2.out 3 rfl
    go_wp2_with fail
    refine (sectorValid_any x hko.name hko.site hko.antenna hko.radio hko.band _).mono ?_
    rintro e X3 ⟨rfl, hb⟩
    clear fN0 fN1 fN2 fN3 fX0 fX1 fX2 fX3 fX4 fX5 fX6 fX7 fX8 fR0 fR1 fR2 fR3
    have KN_3 := Lib.hid (blkB KN_2.out hb (by omega))
    have KX_3 := Lib.hid (blkB KX_2.out hb (by omega))
    have KR_3 := Lib.hid (blkB KR_2.out hb (by omega))
    have BB_3 := Lib.hid (BB_2.out.trans (hb.mono (by omega)))
    have zz3 : X2.heap.size ≤ X3.heap.size := hb.size
    clear KN_2 KX_2 KR_2 BB_2 hb
    rw [hx]
    have fN0 := blkC (v := .slice A0 n.sites.length C0) KN_3.out 0 rfl
    have fN1 := blkC (v := .slice A1 n.sectors.length C1) KN_3.out 1 rfl
    have fN2 := blkC (v := .slice A2 n.antennas.length C2) KN_3.out 2 rfl
    have fN3 := blkC (v := .slice A3 n.radios.length C3) KN_3.out 3 rfl
    have fX0 := blkC (v := .string x.name) KX_3.out 0 rfl
    have fX1 := blkC (v := .string x.site) KX_3.out 1 rfl
    have fX2 := blkC (v := .string x.antenna) KX_3.out 2 rfl
    have fX3 := blkC (v := .string x.radio) KX_3.out 3 rfl
    have fX4 := blkC (v := .string x.band) KX_3.out 4 rfl
    have fX5 := blkC (v := .int .i64 x.azimuth) KX_3.out 5 rfl
    have fX6 := blkC (v := .int .i64 x.tilt) KX_3.out 6 rfl
    have fX7 := blkC (v := .int .i64 x.above) KX_3.out 7 rfl
    have fX8 := blkC (v := .int .i64 x.channel) KX_3.out 8 rfl
    have fR0 := blkC (v := .slice none 0 0) KR_3.out 0 rfl
    have fR1 := blkC (v := .slice none 0 0) KR_3.out 1 rfl
    have fR2 := blkC (v := .slice none 0 0) KR_3.out 2 rfl
    have fR3 := blkC (v := .slice none 0 0) KR_3.out 3 rfl
    have zR := blkF KR_3.out
    go_wp2
    have BF := Lib.hid (((((BB_3.out).setCell (p := ⟨w.heap.size + 2, 0, none⟩) (by show w.heap.size ≤ w.heap.size + 2; omega) (.slice none 0 0)).setCell (p := ⟨w.heap.size + 2, 1, none⟩) (by show w.heap.size ≤ w.heap.size + 2; omega) (.slice none 0 0)).setCell (p := ⟨w.heap.size + 2, 2, none⟩) (by show w.heap.size ≤ w.heap.size + 2; omega) (.slice none 0 0)).setCell (p := ⟨w.heap.size + 2, 3, none⟩) (by show w.heap.size ≤ w.heap.size + 2; omega) (.slice none 0 0))
    refine bodyPost_ret (v := .tuple #[.agg #[.slice none 0 0, .slice none 0 0, .slice none 0 0, .slice none 0 0], .int .i64 3]) (by simp [results, Tryz.results22, go_sem, *]) rfl ?_
    rw [HE.out]
    exact ⟨none, 0, none, 0, none, 0, none, 0, [], rfl, BF.out, ownV_zero _, In.nil⟩
  by_cases hp : refersB n x = true
  case neg =>
    replace hp : refersB n x = false := Bool.eq_false_iff.2 hp
    have HE := Lib.hid (chgR_parts hv hx hi hp)
    have HI : Hid (idxSector n.sectors x.name = (k : Int)) := hi
    clear hi
    have BB0_ : Below w.heap.size w (((w.alloc (.cells #[.slice A0 n.sites.length C0, .slice A1 n.sectors.length C1, .slice A2 n.antennas.length C2, .slice A3 n.radios.length C3] 35)).alloc (.cells #[.string x.name, .string x.site, .string x.antenna, .string x.radio, .string x.band, .int .i64 x.azimuth, .int .i64 x.tilt, .int .i64 x.above, .int .i64 x.channel] 49)).alloc (.cells #[.slice none 0 0, .slice none 0 0, .slice none 0 0, .slice none 0 0] 35)) := Below.alloc (Below.alloc (Below.alloc (Below.refl _ _) (by first | exact Nat.le_refl _ | (simp; done) | (simp; omega)) _) (by first | exact Nat.le_refl _ | (simp; done) | (simp; omega)) _) (by first | exact Nat.le_refl _ | (simp; done) | (simp; omega)) _
    have zz0 : w.heap.size + 3 ≤ (((w.alloc (.cells #[.slice A0 n.sites.length C0, .slice A1 n.sectors.length C1, .slice A2 n.antennas.length C2, .slice A3 n.radios.length C3] 35)).alloc (.cells #[.string x.name, .string x.site, .string x.antenna, .string x.radio, .string x.band, .int .i64 x.azimuth, .int .i64 x.tilt, .int .i64 x.above, .int .i64 x.channel] 49)).alloc (.cells #[.slice none 0 0, .slice none 0 0, .slice none 0 0, .slice none 0 0] 35)).heap.size := by simp
    have k_N : (((w.alloc (.cells #[.slice A0 n.sites.length C0, .slice A1 n.sectors.length C1, .slice A2 n.antennas.length C2, .slice A3 n.radios.length C3] 35)).alloc (.cells #[.string x.name, .string x.site, .string x.antenna, .string x.radio, .string x.band, .int .i64 x.azimuth, .int .i64 x.tilt, .int .i64 x.above, .int .i64 x.channel] 49)).alloc (.cells #[.slice none 0 0, .slice none 0 0, .slice none 0 0, .slice none 0 0] 35)).heap[w.heap.size]? = some (.cells #[.slice A0 n.sites.length C0, .slice A1 n.sectors.length C1, .slice A2 n.antennas.length C2, .slice A3 n.radios.length C3] 35 (0, 0)) := by
      have h := blkN w #[.slice A0 n.sites.length C0, .slice A1 n.sectors.length C1, .slice A2 n.antennas.length C2, .slice A3 n.radios.length C3] 35
      replace h := blkA h (by first | (simp; done) | (simp; omega)) (.cells #[.string x.name, .string x.site, .string x.antenna, .string x.radio, .string x.band, .int .i64 x.azimuth, .int .i64 x.tilt, .int .i64 x.above, .int .i64 x.channel] 49)
      replace h := blkA h (by first | (simp; done) | (simp; omega)) (.cells #[.slice none 0 0, .slice none 0 0, .slice none 0 0, .slice none 0 0] 35)
      exact h
    have KN_0 := Lib.hid k_N
    have k_X : (((w.alloc (.cells #[.slice A0 n.sites.length C0, .slice A1 n.sectors.length C1, .slice A2 n.antennas.length C2, .slice A3 n.radios.length C3] 35)).alloc (.cells #[.string x.name, .string x.site, .string x.antenna, .string x.radio, .string x.band, .int .i64 x.azimuth, .int .i64 x.tilt, .int .i64 x.above, .int .i64 x.channel] 49)).alloc (.cells #[.slice none 0 0, .slice none 0 0, .slice none 0 0, .slice none 0 0] 35)).heap[w.heap.size + 1]? = some (.cells #[.string x.name, .string x.site, .string x.antenna, .string x.radio, .string x.band, .int .i64 x.azimuth, .int .i64 x.tilt, .int .i64 x.above, .int .i64 x.channel] 49 (0, 0)) := by
      have h := blkN (w.alloc (.cells #[.slice A0 n.sites.length C0, .slice A1 n.sectors.length C1, .slice A2 n.antennas.length C2, .slice A3 n.radios.length C3] 35)) #[.string x.name, .string x.site, .string x.antenna, .string x.radio, .string x.band, .int .i64 x.azimuth, .int .i64 x.tilt, .int .i64 x.above, .int .i64 x.channel] 49
      rw [show (w.alloc (.cells #[.slice A0 n.sites.length C0, .slice A1 n.sectors.length C1, .slice A2 n.antennas.length C2, .slice A3 n.radios.length C3] 35)).heap.size = w.heap.size + 1 by simp] at h
      replace h := blkA h (by first | (simp; done) | (simp; omega)) (.cells #[.slice none 0 0, .slice none 0 0, .slice none 0 0, .slice none 0 0] 35)
      exact h
    have KX_0 := Lib.hid k_X
    have k_R : (((w.alloc (.cells #[.slice A0 n.sites.length C0, .slice A1 n.sectors.length C1, .slice A2 n.antennas.length C2, .slice A3 n.radios.length C3] 35)).alloc (.cells #[.string x.name, .string x.site, .string x.antenna, .string x.radio, .string x.band, .int .i64 x.azimuth, .int .i64 x.tilt, .int .i64 x.above, .int .i64 x.channel] 49)).alloc (.cells #[.slice none 0 0, .slice none 0 0, .slice none 0 0, .slice none 0 0] 35)).heap[w.heap.size + 2]? = some (.cells #[.slice none 0 0, .slice none 0 0, .slice none 0 0, .slice none 0 0] 35 (0, 0)) := by
      have h := blkN ((w.alloc (.cells #[.slice A0 n.sites.length C0, .slice A1 n.sectors.length C1, .slice A2 n.antennas.length C2, .slice A3 n.radios.length C3] 35)).alloc (.cells #[.string x.name, .string x.site, .string x.antenna, .string x.radio, .string x.band, .int .i64 x.azimuth, .int .i64 x.tilt, .int .i64 x.above, .int .i64 x.channel] 49)) #[.slice none 0 0, .slice none 0 0, .slice none 0 0, .slice none 0 0] 35
      rw [show ((w.alloc (.cells #[.slice A0 n.sites.length C0, .slice A1 n.sectors.length C1, .slice A2 n.antennas.length C2, .slice A3 n.radios.length C3] 35)).alloc (.cells #[.string x.name, .string x.site, .string x.antenna, .string x.radio, .string x.band, .int .i64 x.azimuth, .int .i64 x.tilt, .int .i64 x.above, .int .i64 x.channel] 49)).heap.size = w.heap.size + 2 by simp] at h
      exact h
    have KR_0 := Lib.hid k_R
    clear k_N k_X k_R
    have BB_0 := Lib.hid BB0_
    clear BB0_
    go_enter Tryz.func22, Tryz.ntmps22
    go_upto_region 1 with (fail)
    generalize (((w.alloc (.cells #[.slice A0 n.sites.length C0, .slice A1 n.sectors.length C1, .slice A2 n.antennas.length C2, .slice A3 n.radios.length C3] 35)).alloc (.cells #[.string x.name, .string x.site, .string x.antenna, .string x.radio, .string x.band, .int .i64 x.azimuth, .int .i64 x.tilt, .int .i64 x.above, .int .i64 x.channel] 49)).alloc (.cells #[.slice none 0 0, .slice none 0 0, .slice none 0 0, .slice none 0 0] 35)) = W0 at *
    have fN0 := blkC (v := .slice A0 n.sites.length C0) KN_0.out 0 rfl
    have fN1 := blkC (v := .slice A1 n.sectors.length C1) KN_0.out 1 rfl
    have fN2 := blkC (v := .slice A2 n.antennas.length C2) KN_0.out 2 rfl
    have fN3 := blkC (v := .slice A3 n.radios.length C3) KN_0.out 3 rfl
    have fX0 := blkC (v := .string x.name) KX_0.out 0 rfl
    have fX1 := blkC (v := .string x.site) KX_0.out 1 rfl
    have fX2 := blkC (v := .string x.antenna) KX_0.out 2 rfl
    have fX3 := blkC (v := .string x.radio) KX_0.out 3 rfl
    have fX4 := blkC (v := .string x.band) KX_0.out 4 rfl
    have fX5 := blkC (v := .int .i64 x.azimuth) KX_0.out 5 rfl
    have fX6 := blkC (v := .int .i64 x.tilt) KX_0.out 6 rfl
    have fX7 := blkC (v := .int .i64 x.above) KX_0.out 7 rfl
    have fX8 := blkC (v := .int .i64 x.channel) KX_0.out 8 rfl
    have fR0 := blkC (v := .slice none 0 0) KR_0.out 0 rfl
    have fR1 := blkC (v := .slice none 0 0) KR_0.out 1 rfl
    have fR2 := blkC (v := .slice none 0 0) KR_0.out 2 rfl
    have fR3 := blkC (v := .slice none 0 0) KR_0.out 3 rfl
    go_wp2_with fail
    refine (sectorNamed_any n.sectors x.name _ _ _ _ w.heap.size _ (R1.out.below BB_0.out) (by have := BB_0.out.size; omega) (by omega)).mono ?_
    rintro e X1 ⟨rfl, hb⟩
    clear fN0 fN1 fN2 fN3 fX0 fX1 fX2 fX3 fX4 fX5 fX6 fX7 fX8 fR0 fR1 fR2 fR3
    have KN_1 := Lib.hid (blkB KN_0.out hb (by omega))
    have KX_1 := Lib.hid (blkB KX_0.out hb (by omega))
    have KR_1 := Lib.hid (blkB KR_0.out hb (by omega))
    have BB_1 := Lib.hid (BB_0.out.trans (hb.mono (by omega)))
    have zz1 : W0.heap.size ≤ X1.heap.size := hb.size
    clear KN_0 KX_0 KR_0 BB_0 hb
    rw [HI.out]
    have fN0 := blkC (v := .slice A0 n.sites.length C0) KN_1.out 0 rfl
    have fN1 := blkC (v := .slice A1 n.sectors.length C1) KN_1.out 1 rfl
    have fN2 := blkC (v := .slice A2 n.antennas.length C2) KN_1.out 2 rfl
    have fN3 := blkC (v := .slice A3 n.radios.length C3) KN_1.out 3 rfl
    have fX0 := blkC (v := .string x.name) KX_1.out 0 rfl
    have fX1 := blkC (v := .string x.site) KX_1.out 1 rfl
    have fX2 := blkC (v := .string x.antenna) KX_1.out 2 rfl
    have fX3 := blkC (v := .string x.radio) KX_1.out 3 rfl
    have fX4 := blkC (v := .string x.band) KX_1.out 4 rfl
    have fX5 := blkC (v := .int .i64 x.azimuth) KX_1.out 5 rfl
    have fX6 := blkC (v := .int .i64 x.tilt) KX_1.out 6 rfl
    have fX7 := blkC (v := .int .i64 x.above) KX_1.out 7 rfl
    have fX8 := blkC (v := .int .i64 x.channel) KX_1.out 8 rfl
    have fR0 := blkC (v := .slice none 0 0) KR_1.out 0 rfl
    have fR1 := blkC (v := .slice none 0 0) KR_1.out 1 rfl
    have fR2 := blkC (v := .slice none 0 0) KR_1.out 2 rfl
    have fR3 := blkC (v := .slice none 0 0) KR_1.out 3 rfl
    go_wp2_with fail
    refine (validNetwork_any n _ _ _ _ _ ((R0.out.below BB_1.out).mono (by have := BB_1.out.size; omega)) ((R1.out.below BB_1.out).mono (by have := BB_1.out.size; omega)) ((R2.out.below BB_1.out).mono (by have := BB_1.out.size; omega)) ((R3.out.below BB_1.out).mono (by have := BB_1.out.size; omega)) (by omega) hk_n).mono ?_
    rintro e X2 ⟨rfl, hb⟩
    clear fN0 fN1 fN2 fN3 fX0 fX1 fX2 fX3 fX4 fX5 fX6 fX7 fX8 fR0 fR1 fR2 fR3
    have KN_2 := Lib.hid (blkB KN_1.out hb (by omega))
    have KX_2 := Lib.hid (blkB KX_1.out hb (by omega))
    have KR_2 := Lib.hid (blkB KR_1.out hb (by omega))
    have BB_2 := Lib.hid (BB_1.out.trans (hb.mono (by omega)))
    have zz2 : X1.heap.size ≤ X2.heap.size := hb.size
    clear KN_1 KX_1 KR_1 BB_1 hb
    rw [hv]
    have fN0 := blkC (v := .slice A0 n.sites.length C0) KN_2.out 0 rfl
    have fN1 := blkC (v := .slice A1 n.sectors.length C1) KN_2.out 1 rfl
    have fN2 := blkC (v := .slice A2 n.antennas.length C2) KN_2.out 2 rfl
    have fN3 := blkC (v := .slice A3 n.radios.length C3) KN_2.out 3 rfl
    have fX0 := blkC (v := .string x.name) KX_2.out 0 rfl
    have fX1 := blkC (v := .string x.site) KX_2.out 1 rfl
    have fX2 := blkC (v := .string x.antenna) KX_2.out 2 rfl
    have fX3 := blkC (v := .string x.radio) KX_2.out 3 rfl
    have fX4 := blkC (v := .string x.band) KX_2.out 4 rfl
    have fX5 := blkC (v := .int .i64 x.azimuth) KX_2.out 5 rfl
    have fX6 := blkC (v := .int .i64 x.tilt) KX_2.out 6 rfl
    have fX7 := blkC (v := .int .i64 x.above) KX_2.out 7 rfl
    have fX8 := blkC (v := .int .i64 x.channel) KX_2.out 8 rfl
    have fR0 := blkC (v := .slice none 0 0) KR_2.out 0 rfl
    have fR1 := blkC (v := .slice none 0 0) KR_2.out 1 rfl
    have fR2 := blkC (v := .slice none 0 0) KR_2.out 2 rfl
    have fR3 := blkC (v := .slice none 0 0) KR_2.out 3 rfl
    go_wp2_with fail
    refine (sectorValid_any x hko.name hko.site hko.antenna hko.radio hko.band _).mono ?_
    rintro e X3 ⟨rfl, hb⟩
    clear fN0 fN1 fN2 fN3 fX0 fX1 fX2 fX3 fX4 fX5 fX6 fX7 fX8 fR0 fR1 fR2 fR3
    have KN_3 := Lib.hid (blkB KN_2.out hb (by omega))
    have KX_3 := Lib.hid (blkB KX_2.out hb (by omega))
    have KR_3 := Lib.hid (blkB KR_2.out hb (by omega))
    have BB_3 := Lib.hid (BB_2.out.trans (hb.mono (by omega)))
    have zz3 : X2.heap.size ≤ X3.heap.size := hb.size
    clear KN_2 KX_2 KR_2 BB_2 hb
    rw [hx]
    have hneg : decide ((k : Int) < 0) = false := by simp
    have fN0 := blkC (v := .slice A0 n.sites.length C0) KN_3.out 0 rfl
    have fN1 := blkC (v := .slice A1 n.sectors.length C1) KN_3.out 1 rfl
    have fN2 := blkC (v := .slice A2 n.antennas.length C2) KN_3.out 2 rfl
    have fN3 := blkC (v := .slice A3 n.radios.length C3) KN_3.out 3 rfl
    have fX0 := blkC (v := .string x.name) KX_3.out 0 rfl
    have fX1 := blkC (v := .string x.site) KX_3.out 1 rfl
    have fX2 := blkC (v := .string x.antenna) KX_3.out 2 rfl
    have fX3 := blkC (v := .string x.radio) KX_3.out 3 rfl
    have fX4 := blkC (v := .string x.band) KX_3.out 4 rfl
    have fX5 := blkC (v := .int .i64 x.azimuth) KX_3.out 5 rfl
    have fX6 := blkC (v := .int .i64 x.tilt) KX_3.out 6 rfl
    have fX7 := blkC (v := .int .i64 x.above) KX_3.out 7 rfl
    have fX8 := blkC (v := .int .i64 x.channel) KX_3.out 8 rfl
    have fR0 := blkC (v := .slice none 0 0) KR_3.out 0 rfl
    have fR1 := blkC (v := .slice none 0 0) KR_3.out 1 rfl
    have fR2 := blkC (v := .slice none 0 0) KR_3.out 2 rfl
    have fR3 := blkC (v := .slice none 0 0) KR_3.out 3 rfl
    go_wp2_with fail
    refine (hasParts_any n x _ _ _ _ _ ((R0.out.below BB_3.out).mono (by have := BB_3.out.size; omega)) ((R2.out.below BB_3.out).mono (by have := BB_3.out.size; omega)) ((R3.out.below BB_3.out).mono (by have := BB_3.out.size; omega)) (by omega) (by omega) (by omega)).mono ?_
    rintro e X4 ⟨rfl, hb⟩
    clear fN0 fN1 fN2 fN3 fX0 fX1 fX2 fX3 fX4 fX5 fX6 fX7 fX8 fR0 fR1 fR2 fR3
    have KN_4 := Lib.hid (blkB KN_3.out hb (by omega))
    have KX_4 := Lib.hid (blkB KX_3.out hb (by omega))
    have KR_4 := Lib.hid (blkB KR_3.out hb (by omega))
    have BB_4 := Lib.hid (BB_3.out.trans (hb.mono (by omega)))
    have zz4 : X3.heap.size ≤ X4.heap.size := hb.size
    clear KN_3 KX_3 KR_3 BB_3 hb
    rw [hp]
    have fN0 := blkC (v := .slice A0 n.sites.length C0) KN_4.out 0 rfl
    have fN1 := blkC (v := .slice A1 n.sectors.length C1) KN_4.out 1 rfl
    have fN2 := blkC (v := .slice A2 n.antennas.length C2) KN_4.out 2 rfl
    have fN3 := blkC (v := .slice A3 n.radios.length C3) KN_4.out 3 rfl
    have fX0 := blkC (v := .string x.name) KX_4.out 0 rfl
    have fX1 := blkC (v := .string x.site) KX_4.out 1 rfl
    have fX2 := blkC (v := .string x.antenna) KX_4.out 2 rfl
    have fX3 := blkC (v := .string x.radio) KX_4.out 3 rfl
    have fX4 := blkC (v := .string x.band) KX_4.out 4 rfl
    have fX5 := blkC (v := .int .i64 x.azimuth) KX_4.out 5 rfl
    have fX6 := blkC (v := .int .i64 x.tilt) KX_4.out 6 rfl
    have fX7 := blkC (v := .int .i64 x.above) KX_4.out 7 rfl
    have fX8 := blkC (v := .int .i64 x.channel) KX_4.out 8 rfl
    have fR0 := blkC (v := .slice none 0 0) KR_4.out 0 rfl
    have fR1 := blkC (v := .slice none 0 0) KR_4.out 1 rfl
    have fR2 := blkC (v := .slice none 0 0) KR_4.out 2 rfl
    have fR3 := blkC (v := .slice none 0 0) KR_4.out 3 rfl
    have zR := blkF KR_4.out
    go_wp2
    have BF := Lib.hid (((((BB_4.out).setCell (p := ⟨w.heap.size + 2, 0, none⟩) (by show w.heap.size ≤ w.heap.size + 2; omega) (.slice none 0 0)).setCell (p := ⟨w.heap.size + 2, 1, none⟩) (by show w.heap.size ≤ w.heap.size + 2; omega) (.slice none 0 0)).setCell (p := ⟨w.heap.size + 2, 2, none⟩) (by show w.heap.size ≤ w.heap.size + 2; omega) (.slice none 0 0)).setCell (p := ⟨w.heap.size + 2, 3, none⟩) (by show w.heap.size ≤ w.heap.size + 2; omega) (.slice none 0 0))
    refine bodyPost_ret (v := .tuple #[.agg #[.slice none 0 0, .slice none 0 0, .slice none 0 0, .slice none 0 0], .int .i64 3]) (by simp [results, Tryz.results22, go_sem, *]) rfl ?_
    rw [HE.out]
    exact ⟨none, 0, none, 0, none, 0, none, 0, [], rfl, BF.out, ownV_zero _, In.nil⟩
  have HE := Lib.hid (chgR_ok hv hx hi hp)
  have HI : Hid (idxSector n.sectors x.name = (k : Int)) := hi
  clear hi
  have BB0_ : Below w.heap.size w (((w.alloc (.cells #[.slice A0 n.sites.length C0, .slice A1 n.sectors.length C1, .slice A2 n.antennas.length C2, .slice A3 n.radios.length C3] 35)).alloc (.cells #[.string x.name, .string x.site, .string x.antenna, .string x.radio, .string x.band, .int .i64 x.azimuth, .int .i64 x.tilt, .int .i64 x.above, .int .i64 x.channel] 49)).alloc (.cells #[.slice none 0 0, .slice none 0 0, .slice none 0 0, .slice none 0 0] 35)) := Below.alloc (Below.alloc (Below.alloc (Below.refl _ _) (by first | exact Nat.le_refl _ | (simp; done) | (simp; omega)) _) (by first | exact Nat.le_refl _ | (simp; done) | (simp; omega)) _) (by first | exact Nat.le_refl _ | (simp; done) | (simp; omega)) _
  have zz0 : w.heap.size + 3 ≤ (((w.alloc (.cells #[.slice A0 n.sites.length C0, .slice A1 n.sectors.length C1, .slice A2 n.antennas.length C2, .slice A3 n.radios.length C3] 35)).alloc (.cells #[.string x.name, .string x.site, .string x.antenna, .string x.radio, .string x.band, .int .i64 x.azimuth, .int .i64 x.tilt, .int .i64 x.above, .int .i64 x.channel] 49)).alloc (.cells #[.slice none 0 0, .slice none 0 0, .slice none 0 0, .slice none 0 0] 35)).heap.size := by simp
  have k_N : (((w.alloc (.cells #[.slice A0 n.sites.length C0, .slice A1 n.sectors.length C1, .slice A2 n.antennas.length C2, .slice A3 n.radios.length C3] 35)).alloc (.cells #[.string x.name, .string x.site, .string x.antenna, .string x.radio, .string x.band, .int .i64 x.azimuth, .int .i64 x.tilt, .int .i64 x.above, .int .i64 x.channel] 49)).alloc (.cells #[.slice none 0 0, .slice none 0 0, .slice none 0 0, .slice none 0 0] 35)).heap[w.heap.size]? = some (.cells #[.slice A0 n.sites.length C0, .slice A1 n.sectors.length C1, .slice A2 n.antennas.length C2, .slice A3 n.radios.length C3] 35 (0, 0)) := by
    have h := blkN w #[.slice A0 n.sites.length C0, .slice A1 n.sectors.length C1, .slice A2 n.antennas.length C2, .slice A3 n.radios.length C3] 35
    replace h := blkA h (by first | (simp; done) | (simp; omega)) (.cells #[.string x.name, .string x.site, .string x.antenna, .string x.radio, .string x.band, .int .i64 x.azimuth, .int .i64 x.tilt, .int .i64 x.above, .int .i64 x.channel] 49)
    replace h := blkA h (by first | (simp; done) | (simp; omega)) (.cells #[.slice none 0 0, .slice none 0 0, .slice none 0 0, .slice none 0 0] 35)
    exact h
  have KN_0 := Lib.hid k_N
  have k_X : (((w.alloc (.cells #[.slice A0 n.sites.length C0, .slice A1 n.sectors.length C1, .slice A2 n.antennas.length C2, .slice A3 n.radios.length C3] 35)).alloc (.cells #[.string x.name, .string x.site, .string x.antenna, .string x.radio, .string x.band, .int .i64 x.azimuth, .int .i64 x.tilt, .int .i64 x.above, .int .i64 x.channel] 49)).alloc (.cells #[.slice none 0 0, .slice none 0 0, .slice none 0 0, .slice none 0 0] 35)).heap[w.heap.size + 1]? = some (.cells #[.string x.name, .string x.site, .string x.antenna, .string x.radio, .string x.band, .int .i64 x.azimuth, .int .i64 x.tilt, .int .i64 x.above, .int .i64 x.channel] 49 (0, 0)) := by
    have h := blkN (w.alloc (.cells #[.slice A0 n.sites.length C0, .slice A1 n.sectors.length C1, .slice A2 n.antennas.length C2, .slice A3 n.radios.length C3] 35)) #[.string x.name, .string x.site, .string x.antenna, .string x.radio, .string x.band, .int .i64 x.azimuth, .int .i64 x.tilt, .int .i64 x.above, .int .i64 x.channel] 49
    rw [show (w.alloc (.cells #[.slice A0 n.sites.length C0, .slice A1 n.sectors.length C1, .slice A2 n.antennas.length C2, .slice A3 n.radios.length C3] 35)).heap.size = w.heap.size + 1 by simp] at h
    replace h := blkA h (by first | (simp; done) | (simp; omega)) (.cells #[.slice none 0 0, .slice none 0 0, .slice none 0 0, .slice none 0 0] 35)
    exact h
  have KX_0 := Lib.hid k_X
  have k_R : (((w.alloc (.cells #[.slice A0 n.sites.length C0, .slice A1 n.sectors.length C1, .slice A2 n.antennas.length C2, .slice A3 n.radios.length C3] 35)).alloc (.cells #[.string x.name, .string x.site, .string x.antenna, .string x.radio, .string x.band, .int .i64 x.azimuth, .int .i64 x.tilt, .int .i64 x.above, .int .i64 x.channel] 49)).alloc (.cells #[.slice none 0 0, .slice none 0 0, .slice none 0 0, .slice none 0 0] 35)).heap[w.heap.size + 2]? = some (.cells #[.slice none 0 0, .slice none 0 0, .slice none 0 0, .slice none 0 0] 35 (0, 0)) := by
    have h := blkN ((w.alloc (.cells #[.slice A0 n.sites.length C0, .slice A1 n.sectors.length C1, .slice A2 n.antennas.length C2, .slice A3 n.radios.length C3] 35)).alloc (.cells #[.string x.name, .string x.site, .string x.antenna, .string x.radio, .string x.band, .int .i64 x.azimuth, .int .i64 x.tilt, .int .i64 x.above, .int .i64 x.channel] 49)) #[.slice none 0 0, .slice none 0 0, .slice none 0 0, .slice none 0 0] 35
    rw [show ((w.alloc (.cells #[.slice A0 n.sites.length C0, .slice A1 n.sectors.length C1, .slice A2 n.antennas.length C2, .slice A3 n.radios.length C3] 35)).alloc (.cells #[.string x.name, .string x.site, .string x.antenna, .string x.radio, .string x.band, .int .i64 x.azimuth, .int .i64 x.tilt, .int .i64 x.above, .int .i64 x.channel] 49)).heap.size = w.heap.size + 2 by simp] at h
    exact h
  have KR_0 := Lib.hid k_R
  clear k_N k_X k_R
  have BB_0 := Lib.hid BB0_
  clear BB0_
  go_enter Tryz.func22, Tryz.ntmps22
  go_upto_region 1 with (fail)
  generalize (((w.alloc (.cells #[.slice A0 n.sites.length C0, .slice A1 n.sectors.length C1, .slice A2 n.antennas.length C2, .slice A3 n.radios.length C3] 35)).alloc (.cells #[.string x.name, .string x.site, .string x.antenna, .string x.radio, .string x.band, .int .i64 x.azimuth, .int .i64 x.tilt, .int .i64 x.above, .int .i64 x.channel] 49)).alloc (.cells #[.slice none 0 0, .slice none 0 0, .slice none 0 0, .slice none 0 0] 35)) = W0 at *
  have fN0 := blkC (v := .slice A0 n.sites.length C0) KN_0.out 0 rfl
  have fN1 := blkC (v := .slice A1 n.sectors.length C1) KN_0.out 1 rfl
  have fN2 := blkC (v := .slice A2 n.antennas.length C2) KN_0.out 2 rfl
  have fN3 := blkC (v := .slice A3 n.radios.length C3) KN_0.out 3 rfl
  have fX0 := blkC (v := .string x.name) KX_0.out 0 rfl
  have fX1 := blkC (v := .string x.site) KX_0.out 1 rfl
  have fX2 := blkC (v := .string x.antenna) KX_0.out 2 rfl
  have fX3 := blkC (v := .string x.radio) KX_0.out 3 rfl
  have fX4 := blkC (v := .string x.band) KX_0.out 4 rfl
  have fX5 := blkC (v := .int .i64 x.azimuth) KX_0.out 5 rfl
  have fX6 := blkC (v := .int .i64 x.tilt) KX_0.out 6 rfl
  have fX7 := blkC (v := .int .i64 x.above) KX_0.out 7 rfl
  have fX8 := blkC (v := .int .i64 x.channel) KX_0.out 8 rfl
  have fR0 := blkC (v := .slice none 0 0) KR_0.out 0 rfl
  have fR1 := blkC (v := .slice none 0 0) KR_0.out 1 rfl
  have fR2 := blkC (v := .slice none 0 0) KR_0.out 2 rfl
  have fR3 := blkC (v := .slice none 0 0) KR_0.out 3 rfl
  go_wp2_with fail
  refine (sectorNamed_any n.sectors x.name _ _ _ _ w.heap.size _ (R1.out.below BB_0.out) (by have := BB_0.out.size; omega) (by omega)).mono ?_
  rintro e X1 ⟨rfl, hb⟩
  clear fN0 fN1 fN2 fN3 fX0 fX1 fX2 fX3 fX4 fX5 fX6 fX7 fX8 fR0 fR1 fR2 fR3
  have KN_1 := Lib.hid (blkB KN_0.out hb (by omega))
  have KX_1 := Lib.hid (blkB KX_0.out hb (by omega))
  have KR_1 := Lib.hid (blkB KR_0.out hb (by omega))
  have BB_1 := Lib.hid (BB_0.out.trans (hb.mono (by omega)))
  have zz1 : W0.heap.size ≤ X1.heap.size := hb.size
  clear KN_0 KX_0 KR_0 BB_0 hb
  rw [HI.out]
  have fN0 := blkC (v := .slice A0 n.sites.length C0) KN_1.out 0 rfl
  have fN1 := blkC (v := .slice A1 n.sectors.length C1) KN_1.out 1 rfl
  have fN2 := blkC (v := .slice A2 n.antennas.length C2) KN_1.out 2 rfl
  have fN3 := blkC (v := .slice A3 n.radios.length C3) KN_1.out 3 rfl
  have fX0 := blkC (v := .string x.name) KX_1.out 0 rfl
  have fX1 := blkC (v := .string x.site) KX_1.out 1 rfl
  have fX2 := blkC (v := .string x.antenna) KX_1.out 2 rfl
  have fX3 := blkC (v := .string x.radio) KX_1.out 3 rfl
  have fX4 := blkC (v := .string x.band) KX_1.out 4 rfl
  have fX5 := blkC (v := .int .i64 x.azimuth) KX_1.out 5 rfl
  have fX6 := blkC (v := .int .i64 x.tilt) KX_1.out 6 rfl
  have fX7 := blkC (v := .int .i64 x.above) KX_1.out 7 rfl
  have fX8 := blkC (v := .int .i64 x.channel) KX_1.out 8 rfl
  have fR0 := blkC (v := .slice none 0 0) KR_1.out 0 rfl
  have fR1 := blkC (v := .slice none 0 0) KR_1.out 1 rfl
  have fR2 := blkC (v := .slice none 0 0) KR_1.out 2 rfl
  have fR3 := blkC (v := .slice none 0 0) KR_1.out 3 rfl
  go_wp2_with fail
  refine (validNetwork_any n _ _ _ _ _ ((R0.out.below BB_1.out).mono (by have := BB_1.out.size; omega)) ((R1.out.below BB_1.out).mono (by have := BB_1.out.size; omega)) ((R2.out.below BB_1.out).mono (by have := BB_1.out.size; omega)) ((R3.out.below BB_1.out).mono (by have := BB_1.out.size; omega)) (by omega) hk_n).mono ?_
  rintro e X2 ⟨rfl, hb⟩
  clear fN0 fN1 fN2 fN3 fX0 fX1 fX2 fX3 fX4 fX5 fX6 fX7 fX8 fR0 fR1 fR2 fR3
  have KN_2 := Lib.hid (blkB KN_1.out hb (by omega))
  have KX_2 := Lib.hid (blkB KX_1.out hb (by omega))
  have KR_2 := Lib.hid (blkB KR_1.out hb (by omega))
  have BB_2 := Lib.hid (BB_1.out.trans (hb.mono (by omega)))
  have zz2 : X1.heap.size ≤ X2.heap.size := hb.size
  clear KN_1 KX_1 KR_1 BB_1 hb
  rw [hv]
  have fN0 := blkC (v := .slice A0 n.sites.length C0) KN_2.out 0 rfl
  have fN1 := blkC (v := .slice A1 n.sectors.length C1) KN_2.out 1 rfl
  have fN2 := blkC (v := .slice A2 n.antennas.length C2) KN_2.out 2 rfl
  have fN3 := blkC (v := .slice A3 n.radios.length C3) KN_2.out 3 rfl
  have fX0 := blkC (v := .string x.name) KX_2.out 0 rfl
  have fX1 := blkC (v := .string x.site) KX_2.out 1 rfl
  have fX2 := blkC (v := .string x.antenna) KX_2.out 2 rfl
  have fX3 := blkC (v := .string x.radio) KX_2.out 3 rfl
  have fX4 := blkC (v := .string x.band) KX_2.out 4 rfl
  have fX5 := blkC (v := .int .i64 x.azimuth) KX_2.out 5 rfl
  have fX6 := blkC (v := .int .i64 x.tilt) KX_2.out 6 rfl
  have fX7 := blkC (v := .int .i64 x.above) KX_2.out 7 rfl
  have fX8 := blkC (v := .int .i64 x.channel) KX_2.out 8 rfl
  have fR0 := blkC (v := .slice none 0 0) KR_2.out 0 rfl
  have fR1 := blkC (v := .slice none 0 0) KR_2.out 1 rfl
  have fR2 := blkC (v := .slice none 0 0) KR_2.out 2 rfl
  have fR3 := blkC (v := .slice none 0 0) KR_2.out 3 rfl
  go_wp2_with fail
  refine (sectorValid_any x hko.name hko.site hko.antenna hko.radio hko.band _).mono ?_
  rintro e X3 ⟨rfl, hb⟩
  clear fN0 fN1 fN2 fN3 fX0 fX1 fX2 fX3 fX4 fX5 fX6 fX7 fX8 fR0 fR1 fR2 fR3
  have KN_3 := Lib.hid (blkB KN_2.out hb (by omega))
  have KX_3 := Lib.hid (blkB KX_2.out hb (by omega))
  have KR_3 := Lib.hid (blkB KR_2.out hb (by omega))
  have BB_3 := Lib.hid (BB_2.out.trans (hb.mono (by omega)))
  have zz3 : X2.heap.size ≤ X3.heap.size := hb.size
  clear KN_2 KX_2 KR_2 BB_2 hb
  rw [hx]
  have hneg : decide ((k : Int) < 0) = false := by simp
  have fN0 := blkC (v := .slice A0 n.sites.length C0) KN_3.out 0 rfl
  have fN1 := blkC (v := .slice A1 n.sectors.length C1) KN_3.out 1 rfl
  have fN2 := blkC (v := .slice A2 n.antennas.length C2) KN_3.out 2 rfl
  have fN3 := blkC (v := .slice A3 n.radios.length C3) KN_3.out 3 rfl
  have fX0 := blkC (v := .string x.name) KX_3.out 0 rfl
  have fX1 := blkC (v := .string x.site) KX_3.out 1 rfl
  have fX2 := blkC (v := .string x.antenna) KX_3.out 2 rfl
  have fX3 := blkC (v := .string x.radio) KX_3.out 3 rfl
  have fX4 := blkC (v := .string x.band) KX_3.out 4 rfl
  have fX5 := blkC (v := .int .i64 x.azimuth) KX_3.out 5 rfl
  have fX6 := blkC (v := .int .i64 x.tilt) KX_3.out 6 rfl
  have fX7 := blkC (v := .int .i64 x.above) KX_3.out 7 rfl
  have fX8 := blkC (v := .int .i64 x.channel) KX_3.out 8 rfl
  have fR0 := blkC (v := .slice none 0 0) KR_3.out 0 rfl
  have fR1 := blkC (v := .slice none 0 0) KR_3.out 1 rfl
  have fR2 := blkC (v := .slice none 0 0) KR_3.out 2 rfl
  have fR3 := blkC (v := .slice none 0 0) KR_3.out 3 rfl
  go_wp2_with fail
  refine (hasParts_any n x _ _ _ _ _ ((R0.out.below BB_3.out).mono (by have := BB_3.out.size; omega)) ((R2.out.below BB_3.out).mono (by have := BB_3.out.size; omega)) ((R3.out.below BB_3.out).mono (by have := BB_3.out.size; omega)) (by omega) (by omega) (by omega)).mono ?_
  rintro e X4 ⟨rfl, hb⟩
  clear fN0 fN1 fN2 fN3 fX0 fX1 fX2 fX3 fX4 fX5 fX6 fX7 fX8 fR0 fR1 fR2 fR3
  have KN_4 := Lib.hid (blkB KN_3.out hb (by omega))
  have KX_4 := Lib.hid (blkB KX_3.out hb (by omega))
  have KR_4 := Lib.hid (blkB KR_3.out hb (by omega))
  have BB_4 := Lib.hid (BB_3.out.trans (hb.mono (by omega)))
  have zz4 : X3.heap.size ≤ X4.heap.size := hb.size
  clear KN_3 KX_3 KR_3 BB_3 hb
  rw [hp]
  have fN0 := blkC (v := .slice A0 n.sites.length C0) KN_4.out 0 rfl
  have fN1 := blkC (v := .slice A1 n.sectors.length C1) KN_4.out 1 rfl
  have fN2 := blkC (v := .slice A2 n.antennas.length C2) KN_4.out 2 rfl
  have fN3 := blkC (v := .slice A3 n.radios.length C3) KN_4.out 3 rfl
  have fX0 := blkC (v := .string x.name) KX_4.out 0 rfl
  have fX1 := blkC (v := .string x.site) KX_4.out 1 rfl
  have fX2 := blkC (v := .string x.antenna) KX_4.out 2 rfl
  have fX3 := blkC (v := .string x.radio) KX_4.out 3 rfl
  have fX4 := blkC (v := .string x.band) KX_4.out 4 rfl
  have fX5 := blkC (v := .int .i64 x.azimuth) KX_4.out 5 rfl
  have fX6 := blkC (v := .int .i64 x.tilt) KX_4.out 6 rfl
  have fX7 := blkC (v := .int .i64 x.above) KX_4.out 7 rfl
  have fX8 := blkC (v := .int .i64 x.channel) KX_4.out 8 rfl
  have fR0 := blkC (v := .slice none 0 0) KR_4.out 0 rfl
  have fR1 := blkC (v := .slice none 0 0) KR_4.out 1 rfl
  have fR2 := blkC (v := .slice none 0 0) KR_4.out 2 rfl
  have fR3 := blkC (v := .slice none 0 0) KR_4.out 3 rfl
  go_wp2_with fail
  refine (netClone_any n _ _ _ _ _ ((R0.out.below BB_4.out).mono (by have := BB_4.out.size; omega)) ((R1.out.below BB_4.out).mono (by have := BB_4.out.size; omega)) ((R2.out.below BB_4.out).mono (by have := BB_4.out.size; omega)) ((R3.out.below BB_4.out).mono (by have := BB_4.out.size; omega)) hs_n).mono ?_
  rintro e X5 ⟨a0, c0, a1, c1, a2, c2, a3, c3, fp, rfl, hb, ov, iv_⟩
  clear fN0 fN1 fN2 fN3 fX0 fX1 fX2 fX3 fX4 fX5 fX6 fX7 fX8 fR0 fR1 fR2 fR3
  have KN_5 := Lib.hid (blkB KN_4.out hb (by omega))
  have KX_5 := Lib.hid (blkB KX_4.out hb (by omega))
  have KR_5 := Lib.hid (blkB KR_4.out hb (by omega))
  have BB_5 := Lib.hid (BB_4.out.trans (hb.mono (by omega)))
  have zz5 : X4.heap.size ≤ X5.heap.size := hb.size
  clear KN_4 KX_4 KR_4 BB_4 hb
  clear hneg
  obtain ⟨f0, f1, f2, f3, fpm, O0, O1, O2, O3, d0, d1, d2⟩ := netSplit ov
  have iv : In (w.heap.size + 3) X5.heap.size fp := iv_.mono (by omega) (Nat.le_refl _)
  clear ov iv_
  have fN0 := blkC (v := .slice A0 n.sites.length C0) KN_5.out 0 rfl
  have fN1 := blkC (v := .slice A1 n.sectors.length C1) KN_5.out 1 rfl
  have fN2 := blkC (v := .slice A2 n.antennas.length C2) KN_5.out 2 rfl
  have fN3 := blkC (v := .slice A3 n.radios.length C3) KN_5.out 3 rfl
  have fX0 := blkC (v := .string x.name) KX_5.out 0 rfl
  have fX1 := blkC (v := .string x.site) KX_5.out 1 rfl
  have fX2 := blkC (v := .string x.antenna) KX_5.out 2 rfl
  have fX3 := blkC (v := .string x.radio) KX_5.out 3 rfl
  have fX4 := blkC (v := .string x.band) KX_5.out 4 rfl
  have fX5 := blkC (v := .int .i64 x.azimuth) KX_5.out 5 rfl
  have fX6 := blkC (v := .int .i64 x.tilt) KX_5.out 6 rfl
  have fX7 := blkC (v := .int .i64 x.above) KX_5.out 7 rfl
  have fX8 := blkC (v := .int .i64 x.channel) KX_5.out 8 rfl
  have fR0 := blkC (v := .slice none 0 0) KR_5.out 0 rfl
  have fR1 := blkC (v := .slice none 0 0) KR_5.out 1 rfl
  have fR2 := blkC (v := .slice none 0 0) KR_5.out 2 rfl
  have fR3 := blkC (v := .slice none 0 0) KR_5.out 3 rfl
  go_upto_region 7 with (fail)
  clear fN0 fN1 fN2 fN3 fX0 fX1 fX2 fX3 fX4 fX5 fX6 fX7 fX8 fR0 fR1 fR2 fR3
  have hbA : Below X5.heap.size X5 (X5.alloc (.cells #[.slice a0 n.sites.length c0, .slice a1 n.sectors.length c1, .slice a2 n.antennas.length c2, .slice a3 n.radios.length c3] 35)) := (Below.refl _ _).alloc (Nat.le_refl _) _
  have kL := blkN X5 #[.slice a0 n.sites.length c0, .slice a1 n.sectors.length c1, .slice a2 n.antennas.length c2, .slice a3 n.radios.length c3] 35
  have zL : X5.heap.size + 1 ≤ (X5.alloc (.cells #[.slice a0 n.sites.length c0, .slice a1 n.sectors.length c1, .slice a2 n.antennas.length c2, .slice a3 n.radios.length c3] 35)).heap.size := by simp
  have P0 := Lib.hid (O0.below (lo := w.heap.size + 3) (hi := X5.heap.size) (fun y hy => iv y ((fpm y).2 (by simp [hy]))) (Nat.le_refl _) hbA)
  have P1 := Lib.hid (O1.below (lo := w.heap.size + 3) (hi := X5.heap.size) (fun y hy => iv y ((fpm y).2 (by simp [hy]))) (Nat.le_refl _) hbA)
  have P2 := Lib.hid (O2.below (lo := w.heap.size + 3) (hi := X5.heap.size) (fun y hy => iv y ((fpm y).2 (by simp [hy]))) (Nat.le_refl _) hbA)
  have P3 := Lib.hid (O3.below (lo := w.heap.size + 3) (hi := X5.heap.size) (fun y hy => iv y ((fpm y).2 (by simp [hy]))) (Nat.le_refl _) hbA)
  generalize (X5.alloc (.cells #[.slice a0 n.sites.length c0, .slice a1 n.sectors.length c1, .slice a2 n.antennas.length c2, .slice a3 n.radios.length c3] 35)) = Y at *
  have KL_6 := Lib.hid kL
  clear kL
  have KN_6 := Lib.hid (blkB KN_5.out hbA (by omega))
  have KX_6 := Lib.hid (blkB KX_5.out hbA (by omega))
  have KR_6 := Lib.hid (blkB KR_5.out hbA (by omega))
  have BB_6 := Lib.hid (BB_5.out.trans (hbA.mono (by omega)))
  have zz6 : X5.heap.size ≤ Y.heap.size := hbA.size
  clear KN_5 KX_5 KR_5 BB_5 hbA
  obtain ⟨b, off, ea, hbf, hcells⟩ := P1.out.elem9 (k := k) hk
  subst ea
  obtain ⟨s0, s1, s2, s3, s4, s5, s6, s7, s8, sz⟩ := hcells
  have hbi := iv b ((fpm b).2 (by simp [hbf]))
  have i1 : (0 : Int) ≤ (k : Int) := by omega
  have i2 : (k : Int) < (n.sectors.length : Int) := by omega
  have o1 := P1.out.set9 hk x
  have ch : Chg f1 Y (setRow Y b (off + k * 9) [.string x.name, .string x.site, .string x.antenna, .string x.radio, .string x.band, .int .i64 x.azimuth, .int .i64 x.tilt, .int .i64 x.above, .int .i64 x.channel]) := Chg.setRow (Chg.refl _ _) hbf _ _
  have o0 := P0.out.chg (lo := w.heap.size + 3) (hi := X5.heap.size) (fun y hy => iv y ((fpm y).2 (by simp [hy]))) (by omega) ch (fun y hy => (d0 y hy).1)
  have o2 := P2.out.chg (lo := w.heap.size + 3) (hi := X5.heap.size) (fun y hy => iv y ((fpm y).2 (by simp [hy]))) (by omega) ch (fun y hy h => (d1 y h).1 hy)
  have o3 := P3.out.chg (lo := w.heap.size + 3) (hi := X5.heap.size) (fun y hy => iv y ((fpm y).2 (by simp [hy]))) (by omega) ch (fun y hy h => (d1 y h).2 hy)
  have ov := netJoin (n := { n with sectors := n.sectors.set k x }) o0 o1 o2 o3 d0 d1 d2
  have bw : Below w.heap.size w (setRow Y b (off + k * 9) [.string x.name, .string x.site, .string x.antenna, .string x.radio, .string x.band, .int .i64 x.azimuth, .int .i64 x.tilt, .int .i64 x.above, .int .i64 x.channel]) := BB_6.out.trans (ch.below (by omega) (fun y hy => by have := (iv y ((fpm y).2 (by simp [hy]))).1; omega))
  have ivf : In (w.heap.size + 3) Y.heap.size (f0 ++ (f1 ++ (f2 ++ (f3 ++ [])))) := fun y hy => by
    have h := iv y ((fpm y).2 (by simpa using hy))
    omega
  have BF := Lib.hid (((((bw).setCell (p := ⟨w.heap.size + 2, 0, none⟩) (by show w.heap.size ≤ w.heap.size + 2; omega) (.slice a0 n.sites.length c0)).setCell (p := ⟨w.heap.size + 2, 1, none⟩) (by show w.heap.size ≤ w.heap.size + 2; omega) (.slice (some ⟨b, off, none⟩) n.sectors.length c1)).setCell (p := ⟨w.heap.size + 2, 2, none⟩) (by show w.heap.size ≤ w.heap.size + 2; omega) (.slice a2 n.antennas.length c2)).setCell (p := ⟨w.heap.size + 2, 3, none⟩) (by show w.heap.size ≤ w.heap.size + 2; omega) (.slice a3 n.radios.length c3))
  have OF := Lib.hid (((((ov).setFar (p := ⟨w.heap.size + 2, 0, none⟩) (fun e => by have := (ivf _ e).1; simp only at this; omega) (.slice a0 n.sites.length c0)).setFar (p := ⟨w.heap.size + 2, 1, none⟩) (fun e => by have := (ivf _ e).1; simp only at this; omega) (.slice (some ⟨b, off, none⟩) n.sectors.length c1)).setFar (p := ⟨w.heap.size + 2, 2, none⟩) (fun e => by have := (ivf _ e).1; simp only at this; omega) (.slice a2 n.antennas.length c2)).setFar (p := ⟨w.heap.size + 2, 3, none⟩) (fun e => by have := (ivf _ e).1; simp only at this; omega) (.slice a3 n.radios.length c3))
  have IVF := Lib.hid ivf
  have hne1 : b ≠ w.heap.size := by omega
  have hne2 : b ≠ w.heap.size + 1 := by omega
  have hne3 : b ≠ w.heap.size + 2 := by omega
  have hne4 : b ≠ X5.heap.size := by omega
  clear o0 o1 o2 o3 ch ov bw ivf d0 d1 d2 fpm iv P0 P1 P2 P3 hbf
  have fX0 := blkC (v := .string x.name) KX_6.out 0 rfl
  have fX1 := blkC (v := .string x.site) KX_6.out 1 rfl
  have fX2 := blkC (v := .string x.antenna) KX_6.out 2 rfl
  have fX3 := blkC (v := .string x.radio) KX_6.out 3 rfl
  have fX4 := blkC (v := .string x.band) KX_6.out 4 rfl
  have fX5 := blkC (v := .int .i64 x.azimuth) KX_6.out 5 rfl
  have fX6 := blkC (v := .int .i64 x.tilt) KX_6.out 6 rfl
  have fX7 := blkC (v := .int .i64 x.above) KX_6.out 7 rfl
  have fX8 := blkC (v := .int .i64 x.channel) KX_6.out 8 rfl
  have fR0 := blkC (v := .slice none 0 0) KR_6.out 0 rfl
  have fR1 := blkC (v := .slice none 0 0) KR_6.out 1 rfl
  have fR2 := blkC (v := .slice none 0 0) KR_6.out 2 rfl
  have fR3 := blkC (v := .slice none 0 0) KR_6.out 3 rfl
  have zR := blkF KR_6.out
  have fL0 := blkC (v := .slice a0 n.sites.length c0) KL_6.out 0 rfl
  have fL1 := blkC (v := .slice (some ⟨b, off, none⟩) n.sectors.length c1) KL_6.out 1 rfl
  have fL2 := blkC (v := .slice a2 n.antennas.length c2) KL_6.out 2 rfl
  have fL3 := blkC (v := .slice a3 n.radios.length c3) KL_6.out 3 rfl
  go_wp2
  refine bodyPost_ret (v := .tuple #[.agg #[.slice a0 n.sites.length c0, .slice (some ⟨b, off, none⟩) n.sectors.length c1, .slice a2 n.antennas.length c2, .slice a3 n.radios.length c3], .int .i64 0]) (by simp [results, Tryz.results22, go_sem, *]) rfl ?_
  rw [HE.out]
  simp only [List.length_set]
  refine ⟨a0, c0, some ⟨b, off, none⟩, c1, a2, c2, a3, c3, _, rfl, BF.out, OF.out, ?_⟩
  simp only [size_setCell]
  exact IVF.out.mono (by omega) (Nat.le_refl _)
set_option maxHeartbeats 8000000 in
set_option maxRecDepth 100000 in
theorem sChangeSector_std (n : DNetwork) (x : DSector) (vn0 vn1 vn2 vn3 : Value) (w : World) (rn0 : Rd w.heap.size w (DSite.sT n.sites) vn0) (rn1 : Rd w.heap.size w (DSector.sT n.sectors) vn1) (rn2 : Rd w.heap.size w (DAntenna.sT n.antennas) vn2) (rn3 : Rd w.heap.size w (DRadio.sT n.radios) vn3) (hs_n : sizL n.tr ≤ 1048576) (hk_n : n.ok) (hs_x : sizL x.tr ≤ 1048576) (hk_x : x.ok) :
    Calls Tryz.prog 20 #[.agg #[vn0, vn1, vn2, vn3], .agg #[.string x.name, .string x.site, .string x.antenna, .string x.radio, .string x.band, .int .i64 x.azimuth, .int .i64 x.tilt, .int .i64 x.above, .int .i64 x.channel]] w (fun e w' => ∃ a0_0 c0_0 a0_1 c0_1 a0_2 c0_2 a0_3 c0_3 fp0, e = .returned (.tuple #[.agg #[.slice a0_0 (chgR n x).1.sites.length c0_0, .slice a0_1 (chgR n x).1.sectors.length c0_1, .slice a0_2 (chgR n x).1.antennas.length c0_2, .slice a0_3 (chgR n x).1.radios.length c0_3], .int .i64 (chgR n x).2]) ∧ Below w.heap.size w w' ∧ OwnV w' (chgR n x).1.tr [.slice a0_0 (chgR n x).1.sites.length c0_0, .slice a0_1 (chgR n x).1.sectors.length c0_1, .slice a0_2 (chgR n x).1.antennas.length c0_2, .slice a0_3 (chgR n x).1.radios.length c0_3] fp0 ∧ In w.heap.size w'.heap.size fp0) := by
  have hq := DNetwork.siz_tr n
  rw [DSite.siz_s, DSector.siz_s, DAntenna.siz_s, DRadio.siz_s] at hq
  obtain ⟨A0, C0, e0, -, -, -⟩ := DSite.rd rn0
  obtain ⟨A1, C1, e1, -, -, -⟩ := DSector.rd rn1
  obtain ⟨A2, C2, e2, -, -, -⟩ := DAntenna.rd rn2
  obtain ⟨A3, C3, e3, -, -, -⟩ := DRadio.rd rn3
  subst e0 e1 e2 e3
  have R0 := Lib.hid rn0
  have R1 := Lib.hid rn1
  have R2 := Lib.hid rn2
  have R3 := Lib.hid rn3
  clear rn0 rn1 rn2 rn3
  have hko := hk_x
  by_cases hv : netB n = true
  case neg =>
    replace hv : netB n = false := Bool.eq_false_iff.2 hv
    have HE := Lib.hid (chgR_bad (x := x) hv)
    have BB0_ : Below w.heap.size w (((w.alloc (.cells #[.slice A0 n.sites.length C0, .slice A1 n.sectors.length C1, .slice A2 n.antennas.length C2, .slice A3 n.radios.length C3] 35)).alloc (.cells #[.string x.name, .string x.site, .string x.antenna, .string x.radio, .string x.band, .int .i64 x.azimuth, .int .i64 x.tilt, .int .i64 x.above, .int .i64 x.channel] 49)).alloc (.cells #[.slice none 0 0, .slice none 0 0, .slice none 0 0, .slice none 0 0] 35)) := Below.alloc (Below.alloc (Below.alloc (Below.refl _ _) (by first | exact Nat.le_refl _ | (simp; done) | (simp; omega)) _) (by first | exact Nat.le_refl _ | (simp; done) | (simp; omega)) _) (by first | exact Nat.le_refl _ | (simp; done) | (simp; omega)) _
    have zz0 : w.heap.size + 3 ≤ (((w.alloc (.cells #[.slice A0 n.sites.length C0, .slice A1 n.sectors.length C1, .slice A2 n.antennas.length C2, .slice A3 n.radios.length C3] 35)).alloc (.cells #[.string x.name, .string x.site, .string x.antenna, .string x.radio, .string x.band, .int .i64 x.azimuth, .int .i64 x.tilt, .int .i64 x.above, .int .i64 x.channel] 49)).alloc (.cells #[.slice none 0 0, .slice none 0 0, .slice none 0 0, .slice none 0 0] 35)).heap.size := by simp
    have k_N : (((w.alloc (.cells #[.slice A0 n.sites.length C0, .slice A1 n.sectors.length C1, .slice A2 n.antennas.length C2, .slice A3 n.radios.length C3] 35)).alloc (.cells #[.string x.name, .string x.site, .string x.antenna, .string x.radio, .string x.band, .int .i64 x.azimuth, .int .i64 x.tilt, .int .i64 x.above, .int .i64 x.channel] 49)).alloc (.cells #[.slice none 0 0, .slice none 0 0, .slice none 0 0, .slice none 0 0] 35)).heap[w.heap.size]? = some (.cells #[.slice A0 n.sites.length C0, .slice A1 n.sectors.length C1, .slice A2 n.antennas.length C2, .slice A3 n.radios.length C3] 35 (0, 0)) := by
      have h := blkN w #[.slice A0 n.sites.length C0, .slice A1 n.sectors.length C1, .slice A2 n.antennas.length C2, .slice A3 n.radios.length C3] 35
      replace h := blkA h (by first | (simp; done) | (simp; omega)) (.cells #[.string x.name, .string x.site, .string x.antenna, .string x.radio, .string x.band, .int .i64 x.azimuth, .int .i64 x.tilt, .int .i64 x.above, .int .i64 x.channel] 49)
      replace h := blkA h (by first | (simp; done) | (simp; omega)) (.cells #[.slice none 0 0, .slice none 0 0, .slice none 0 0, .slice none 0 0] 35)
      exact h
    have KN_0 := Lib.hid k_N
    have k_X : (((w.alloc (.cells #[.slice A0 n.sites.length C0, .slice A1 n.sectors.length C1, .slice A2 n.antennas.length C2, .slice A3 n.radios.length C3] 35)).alloc (.cells #[.string x.name, .string x.site, .string x.antenna, .string x.radio, .string x.band, .int .i64 x.azimuth, .int .i64 x.tilt, .int .i64 x.above, .int .i64 x.channel] 49)).alloc (.cells #[.slice none 0 0, .slice none 0 0, .slice none 0 0, .slice none 0 0] 35)).heap[w.heap.size + 1]? = some (.cells #[.string x.name, .string x.site, .string x.antenna, .string x.radio, .string x.band, .int .i64 x.azimuth, .int .i64 x.tilt, .int .i64 x.above, .int .i64 x.channel] 49 (0, 0)) := by
      have h := blkN (w.alloc (.cells #[.slice A0 n.sites.length C0, .slice A1 n.sectors.length C1, .slice A2 n.antennas.length C2, .slice A3 n.radios.length C3] 35)) #[.string x.name, .string x.site, .string x.antenna, .string x.radio, .string x.band, .int .i64 x.azimuth, .int .i64 x.tilt, .int .i64 x.above, .int .i64 x.channel] 49
      rw [show (w.alloc (.cells #[.slice A0 n.sites.length C0, .slice A1 n.sectors.length C1, .slice A2 n.antennas.length C2, .slice A3 n.radios.length C3] 35)).heap.size = w.heap.size + 1 by simp] at h
      replace h := blkA h (by first | (simp; done) | (simp; omega)) (.cells #[.slice none 0 0, .slice none 0 0, .slice none 0 0, .slice none 0 0] 35)
      exact h
    have KX_0 := Lib.hid k_X
    have k_R : (((w.alloc (.cells #[.slice A0 n.sites.length C0, .slice A1 n.sectors.length C1, .slice A2 n.antennas.length C2, .slice A3 n.radios.length C3] 35)).alloc (.cells #[.string x.name, .string x.site, .string x.antenna, .string x.radio, .string x.band, .int .i64 x.azimuth, .int .i64 x.tilt, .int .i64 x.above, .int .i64 x.channel] 49)).alloc (.cells #[.slice none 0 0, .slice none 0 0, .slice none 0 0, .slice none 0 0] 35)).heap[w.heap.size + 2]? = some (.cells #[.slice none 0 0, .slice none 0 0, .slice none 0 0, .slice none 0 0] 35 (0, 0)) := by
      have h := blkN ((w.alloc (.cells #[.slice A0 n.sites.length C0, .slice A1 n.sectors.length C1, .slice A2 n.antennas.length C2, .slice A3 n.radios.length C3] 35)).alloc (.cells #[.string x.name, .string x.site, .string x.antenna, .string x.radio, .string x.band, .int .i64 x.azimuth, .int .i64 x.tilt, .int .i64 x.above, .int .i64 x.channel] 49)) #[.slice none 0 0, .slice none 0 0, .slice none 0 0, .slice none 0 0] 35
      rw [show ((w.alloc (.cells #[.slice A0 n.sites.length C0, .slice A1 n.sectors.length C1, .slice A2 n.antennas.length C2, .slice A3 n.radios.length C3] 35)).alloc (.cells #[.string x.name, .string x.site, .string x.antenna, .string x.radio, .string x.band, .int .i64 x.azimuth, .int .i64 x.tilt, .int .i64 x.above, .int .i64 x.channel] 49)).heap.size = w.heap.size + 2 by simp] at h
      exact h
    have KR_0 := Lib.hid k_R
    clear k_N k_X k_R
    have BB_0 := Lib.hid BB0_
    clear BB0_
    go_enter Tryz.func20, Tryz.ntmps20
    go_upto_region 1 with (fail)
    generalize (((w.alloc (.cells #[.slice A0 n.sites.length C0, .slice A1 n.sectors.length C1, .slice A2 n.antennas.length C2, .slice A3 n.radios.length C3] 35)).alloc (.cells #[.string x.name, .string x.site, .string x.antenna, .string x.radio, .string x.band, .int .i64 x.azimuth, .int .i64 x.tilt, .int .i64 x.above, .int .i64 x.channel] 49)).alloc (.cells #[.slice none 0 0, .slice none 0 0, .slice none 0 0, .slice none 0 0] 35)) = W0 at *
    have fN0 := blkC (v := .slice A0 n.sites.length C0) KN_0.out 0 rfl
    have fN1 := blkC (v := .slice A1 n.sectors.length C1) KN_0.out 1 rfl
    have fN2 := blkC (v := .slice A2 n.antennas.length C2) KN_0.out 2 rfl
    have fN3 := blkC (v := .slice A3 n.radios.length C3) KN_0.out 3 rfl
    have fX0 := blkC (v := .string x.name) KX_0.out 0 rfl
    have fX1 := blkC (v := .string x.site) KX_0.out 1 rfl
    have fX2 := blkC (v := .string x.antenna) KX_0.out 2 rfl
    have fX3 := blkC (v := .string x.radio) KX_0.out 3 rfl
    have fX4 := blkC (v := .string x.band) KX_0.out 4 rfl
    have fX5 := blkC (v := .int .i64 x.azimuth) KX_0.out 5 rfl
    have fX6 := blkC (v := .int .i64 x.tilt) KX_0.out 6 rfl
    have fX7 := blkC (v := .int .i64 x.above) KX_0.out 7 rfl
    have fX8 := blkC (v := .int .i64 x.channel) KX_0.out 8 rfl
    have fR0 := blkC (v := .slice none 0 0) KR_0.out 0 rfl
    have fR1 := blkC (v := .slice none 0 0) KR_0.out 1 rfl
    have fR2 := blkC (v := .slice none 0 0) KR_0.out 2 rfl
    have fR3 := blkC (v := .slice none 0 0) KR_0.out 3 rfl
    go_wp2_with fail
    refine (l14Ok_any n _ _ _ _ w.heap.size _ ((R0.out.below BB_0.out).mono (by have := BB_0.out.size; omega)) ((R1.out.below BB_0.out).mono (by have := BB_0.out.size; omega)) ((R2.out.below BB_0.out).mono (by have := BB_0.out.size; omega)) ((R3.out.below BB_0.out).mono (by have := BB_0.out.size; omega)) (by omega) (blkC KN_0.out 0 rfl) (blkC KN_0.out 1 rfl) (blkC KN_0.out 2 rfl) (blkC KN_0.out 3 rfl) (by omega) hk_n).mono ?_
    rintro e X1 ⟨rfl, hb⟩
    clear fN0 fN1 fN2 fN3 fX0 fX1 fX2 fX3 fX4 fX5 fX6 fX7 fX8 fR0 fR1 fR2 fR3
    have KN_1 := Lib.hid (blkB KN_0.out hb (by omega))
    have KX_1 := Lib.hid (blkB KX_0.out hb (by omega))
    have KR_1 := Lib.hid (blkB KR_0.out hb (by omega))
    have BB_1 := Lib.hid (BB_0.out.trans (hb.mono (by omega)))
    have zz1 : W0.heap.size ≤ X1.heap.size := hb.size
    clear KN_0 KX_0 KR_0 BB_0 hb
    rw [hv]
    have fN0 := blkC (v := .slice A0 n.sites.length C0) KN_1.out 0 rfl
    have fN1 := blkC (v := .slice A1 n.sectors.length C1) KN_1.out 1 rfl
    have fN2 := blkC (v := .slice A2 n.antennas.length C2) KN_1.out 2 rfl
    have fN3 := blkC (v := .slice A3 n.radios.length C3) KN_1.out 3 rfl
    have fX0 := blkC (v := .string x.name) KX_1.out 0 rfl
    have fX1 := blkC (v := .string x.site) KX_1.out 1 rfl
    have fX2 := blkC (v := .string x.antenna) KX_1.out 2 rfl
    have fX3 := blkC (v := .string x.radio) KX_1.out 3 rfl
    have fX4 := blkC (v := .string x.band) KX_1.out 4 rfl
    have fX5 := blkC (v := .int .i64 x.azimuth) KX_1.out 5 rfl
    have fX6 := blkC (v := .int .i64 x.tilt) KX_1.out 6 rfl
    have fX7 := blkC (v := .int .i64 x.above) KX_1.out 7 rfl
    have fX8 := blkC (v := .int .i64 x.channel) KX_1.out 8 rfl
    have fR0 := blkC (v := .slice none 0 0) KR_1.out 0 rfl
    have fR1 := blkC (v := .slice none 0 0) KR_1.out 1 rfl
    have fR2 := blkC (v := .slice none 0 0) KR_1.out 2 rfl
    have fR3 := blkC (v := .slice none 0 0) KR_1.out 3 rfl
    have zR := blkF KR_1.out
    go_wp2
    have BF := Lib.hid (((((BB_1.out).setCell (p := ⟨w.heap.size + 2, 0, none⟩) (by show w.heap.size ≤ w.heap.size + 2; omega) (.slice none 0 0)).setCell (p := ⟨w.heap.size + 2, 1, none⟩) (by show w.heap.size ≤ w.heap.size + 2; omega) (.slice none 0 0)).setCell (p := ⟨w.heap.size + 2, 2, none⟩) (by show w.heap.size ≤ w.heap.size + 2; omega) (.slice none 0 0)).setCell (p := ⟨w.heap.size + 2, 3, none⟩) (by show w.heap.size ≤ w.heap.size + 2; omega) (.slice none 0 0))
    refine bodyPost_ret (v := .tuple #[.agg #[.slice none 0 0, .slice none 0 0, .slice none 0 0, .slice none 0 0], .int .i64 1]) (by simp [results, Tryz.results20, go_sem, *]) rfl ?_
    rw [HE.out]
    exact ⟨none, 0, none, 0, none, 0, none, 0, [], rfl, BF.out, ownV_zero _, In.nil⟩
  by_cases hx : sectorB x = true
  case neg =>
    replace hx : sectorB x = false := Bool.eq_false_iff.2 hx
    have HE := Lib.hid (chgR_bad2 hv hx)
    have BB0_ : Below w.heap.size w (((w.alloc (.cells #[.slice A0 n.sites.length C0, .slice A1 n.sectors.length C1, .slice A2 n.antennas.length C2, .slice A3 n.radios.length C3] 35)).alloc (.cells #[.string x.name, .string x.site, .string x.antenna, .string x.radio, .string x.band, .int .i64 x.azimuth, .int .i64 x.tilt, .int .i64 x.above, .int .i64 x.channel] 49)).alloc (.cells #[.slice none 0 0, .slice none 0 0, .slice none 0 0, .slice none 0 0] 35)) := Below.alloc (Below.alloc (Below.alloc (Below.refl _ _) (by first | exact Nat.le_refl _ | (simp; done) | (simp; omega)) _) (by first | exact Nat.le_refl _ | (simp; done) | (simp; omega)) _) (by first | exact Nat.le_refl _ | (simp; done) | (simp; omega)) _
    have zz0 : w.heap.size + 3 ≤ (((w.alloc (.cells #[.slice A0 n.sites.length C0, .slice A1 n.sectors.length C1, .slice A2 n.antennas.length C2, .slice A3 n.radios.length C3] 35)).alloc (.cells #[.string x.name, .string x.site, .string x.antenna, .string x.radio, .string x.band, .int .i64 x.azimuth, .int .i64 x.tilt, .int .i64 x.above, .int .i64 x.channel] 49)).alloc (.cells #[.slice none 0 0, .slice none 0 0, .slice none 0 0, .slice none 0 0] 35)).heap.size := by simp
    have k_N : (((w.alloc (.cells #[.slice A0 n.sites.length C0, .slice A1 n.sectors.length C1, .slice A2 n.antennas.length C2, .slice A3 n.radios.length C3] 35)).alloc (.cells #[.string x.name, .string x.site, .string x.antenna, .string x.radio, .string x.band, .int .i64 x.azimuth, .int .i64 x.tilt, .int .i64 x.above, .int .i64 x.channel] 49)).alloc (.cells #[.slice none 0 0, .slice none 0 0, .slice none 0 0, .slice none 0 0] 35)).heap[w.heap.size]? = some (.cells #[.slice A0 n.sites.length C0, .slice A1 n.sectors.length C1, .slice A2 n.antennas.length C2, .slice A3 n.radios.length C3] 35 (0, 0)) := by
      have h := blkN w #[.slice A0 n.sites.length C0, .slice A1 n.sectors.length C1, .slice A2 n.antennas.length C2, .slice A3 n.radios.length C3] 35
      replace h := blkA h (by first | (simp; done) | (simp; omega)) (.cells #[.string x.name, .string x.site, .string x.antenna, .string x.radio, .string x.band, .int .i64 x.azimuth, .int .i64 x.tilt, .int .i64 x.above, .int .i64 x.channel] 49)
      replace h := blkA h (by first | (simp; done) | (simp; omega)) (.cells #[.slice none 0 0, .slice none 0 0, .slice none 0 0, .slice none 0 0] 35)
      exact h
    have KN_0 := Lib.hid k_N
    have k_X : (((w.alloc (.cells #[.slice A0 n.sites.length C0, .slice A1 n.sectors.length C1, .slice A2 n.antennas.length C2, .slice A3 n.radios.length C3] 35)).alloc (.cells #[.string x.name, .string x.site, .string x.antenna, .string x.radio, .string x.band, .int .i64 x.azimuth, .int .i64 x.tilt, .int .i64 x.above, .int .i64 x.channel] 49)).alloc (.cells #[.slice none 0 0, .slice none 0 0, .slice none 0 0, .slice none 0 0] 35)).heap[w.heap.size + 1]? = some (.cells #[.string x.name, .string x.site, .string x.antenna, .string x.radio, .string x.band, .int .i64 x.azimuth, .int .i64 x.tilt, .int .i64 x.above, .int .i64 x.channel] 49 (0, 0)) := by
      have h := blkN (w.alloc (.cells #[.slice A0 n.sites.length C0, .slice A1 n.sectors.length C1, .slice A2 n.antennas.length C2, .slice A3 n.radios.length C3] 35)) #[.string x.name, .string x.site, .string x.antenna, .string x.radio, .string x.band, .int .i64 x.azimuth, .int .i64 x.tilt, .int .i64 x.above, .int .i64 x.channel] 49
      rw [show (w.alloc (.cells #[.slice A0 n.sites.length C0, .slice A1 n.sectors.length C1, .slice A2 n.antennas.length C2, .slice A3 n.radios.length C3] 35)).heap.size = w.heap.size + 1 by simp] at h
      replace h := blkA h (by first | (simp; done) | (simp; omega)) (.cells #[.slice none 0 0, .slice none 0 0, .slice none 0 0, .slice none 0 0] 35)
      exact h
    have KX_0 := Lib.hid k_X
    have k_R : (((w.alloc (.cells #[.slice A0 n.sites.length C0, .slice A1 n.sectors.length C1, .slice A2 n.antennas.length C2, .slice A3 n.radios.length C3] 35)).alloc (.cells #[.string x.name, .string x.site, .string x.antenna, .string x.radio, .string x.band, .int .i64 x.azimuth, .int .i64 x.tilt, .int .i64 x.above, .int .i64 x.channel] 49)).alloc (.cells #[.slice none 0 0, .slice none 0 0, .slice none 0 0, .slice none 0 0] 35)).heap[w.heap.size + 2]? = some (.cells #[.slice none 0 0, .slice none 0 0, .slice none 0 0, .slice none 0 0] 35 (0, 0)) := by
      have h := blkN ((w.alloc (.cells #[.slice A0 n.sites.length C0, .slice A1 n.sectors.length C1, .slice A2 n.antennas.length C2, .slice A3 n.radios.length C3] 35)).alloc (.cells #[.string x.name, .string x.site, .string x.antenna, .string x.radio, .string x.band, .int .i64 x.azimuth, .int .i64 x.tilt, .int .i64 x.above, .int .i64 x.channel] 49)) #[.slice none 0 0, .slice none 0 0, .slice none 0 0, .slice none 0 0] 35
      rw [show ((w.alloc (.cells #[.slice A0 n.sites.length C0, .slice A1 n.sectors.length C1, .slice A2 n.antennas.length C2, .slice A3 n.radios.length C3] 35)).alloc (.cells #[.string x.name, .string x.site, .string x.antenna, .string x.radio, .string x.band, .int .i64 x.azimuth, .int .i64 x.tilt, .int .i64 x.above, .int .i64 x.channel] 49)).heap.size = w.heap.size + 2 by simp] at h
      exact h
    have KR_0 := Lib.hid k_R
    clear k_N k_X k_R
    have BB_0 := Lib.hid BB0_
    clear BB0_
    go_enter Tryz.func20, Tryz.ntmps20
    go_upto_region 1 with (fail)
    generalize (((w.alloc (.cells #[.slice A0 n.sites.length C0, .slice A1 n.sectors.length C1, .slice A2 n.antennas.length C2, .slice A3 n.radios.length C3] 35)).alloc (.cells #[.string x.name, .string x.site, .string x.antenna, .string x.radio, .string x.band, .int .i64 x.azimuth, .int .i64 x.tilt, .int .i64 x.above, .int .i64 x.channel] 49)).alloc (.cells #[.slice none 0 0, .slice none 0 0, .slice none 0 0, .slice none 0 0] 35)) = W0 at *
    have fN0 := blkC (v := .slice A0 n.sites.length C0) KN_0.out 0 rfl
    have fN1 := blkC (v := .slice A1 n.sectors.length C1) KN_0.out 1 rfl
    have fN2 := blkC (v := .slice A2 n.antennas.length C2) KN_0.out 2 rfl
    have fN3 := blkC (v := .slice A3 n.radios.length C3) KN_0.out 3 rfl
    have fX0 := blkC (v := .string x.name) KX_0.out 0 rfl
    have fX1 := blkC (v := .string x.site) KX_0.out 1 rfl
    have fX2 := blkC (v := .string x.antenna) KX_0.out 2 rfl
    have fX3 := blkC (v := .string x.radio) KX_0.out 3 rfl
    have fX4 := blkC (v := .string x.band) KX_0.out 4 rfl
    have fX5 := blkC (v := .int .i64 x.azimuth) KX_0.out 5 rfl
    have fX6 := blkC (v := .int .i64 x.tilt) KX_0.out 6 rfl
    have fX7 := blkC (v := .int .i64 x.above) KX_0.out 7 rfl
    have fX8 := blkC (v := .int .i64 x.channel) KX_0.out 8 rfl
    have fR0 := blkC (v := .slice none 0 0) KR_0.out 0 rfl
    have fR1 := blkC (v := .slice none 0 0) KR_0.out 1 rfl
    have fR2 := blkC (v := .slice none 0 0) KR_0.out 2 rfl
    have fR3 := blkC (v := .slice none 0 0) KR_0.out 3 rfl
    go_wp2_with fail
    refine (l14Ok_any n _ _ _ _ w.heap.size _ ((R0.out.below BB_0.out).mono (by have := BB_0.out.size; omega)) ((R1.out.below BB_0.out).mono (by have := BB_0.out.size; omega)) ((R2.out.below BB_0.out).mono (by have := BB_0.out.size; omega)) ((R3.out.below BB_0.out).mono (by have := BB_0.out.size; omega)) (by omega) (blkC KN_0.out 0 rfl) (blkC KN_0.out 1 rfl) (blkC KN_0.out 2 rfl) (blkC KN_0.out 3 rfl) (by omega) hk_n).mono ?_
    rintro e X1 ⟨rfl, hb⟩
    clear fN0 fN1 fN2 fN3 fX0 fX1 fX2 fX3 fX4 fX5 fX6 fX7 fX8 fR0 fR1 fR2 fR3
    have KN_1 := Lib.hid (blkB KN_0.out hb (by omega))
    have KX_1 := Lib.hid (blkB KX_0.out hb (by omega))
    have KR_1 := Lib.hid (blkB KR_0.out hb (by omega))
    have BB_1 := Lib.hid (BB_0.out.trans (hb.mono (by omega)))
    have zz1 : W0.heap.size ≤ X1.heap.size := hb.size
    clear KN_0 KX_0 KR_0 BB_0 hb
    rw [hv]
    have fN0 := blkC (v := .slice A0 n.sites.length C0) KN_1.out 0 rfl
    have fN1 := blkC (v := .slice A1 n.sectors.length C1) KN_1.out 1 rfl
    have fN2 := blkC (v := .slice A2 n.antennas.length C2) KN_1.out 2 rfl
    have fN3 := blkC (v := .slice A3 n.radios.length C3) KN_1.out 3 rfl
    have fX0 := blkC (v := .string x.name) KX_1.out 0 rfl
    have fX1 := blkC (v := .string x.site) KX_1.out 1 rfl
    have fX2 := blkC (v := .string x.antenna) KX_1.out 2 rfl
    have fX3 := blkC (v := .string x.radio) KX_1.out 3 rfl
    have fX4 := blkC (v := .string x.band) KX_1.out 4 rfl
    have fX5 := blkC (v := .int .i64 x.azimuth) KX_1.out 5 rfl
    have fX6 := blkC (v := .int .i64 x.tilt) KX_1.out 6 rfl
    have fX7 := blkC (v := .int .i64 x.above) KX_1.out 7 rfl
    have fX8 := blkC (v := .int .i64 x.channel) KX_1.out 8 rfl
    have fR0 := blkC (v := .slice none 0 0) KR_1.out 0 rfl
    have fR1 := blkC (v := .slice none 0 0) KR_1.out 1 rfl
    have fR2 := blkC (v := .slice none 0 0) KR_1.out 2 rfl
    have fR3 := blkC (v := .slice none 0 0) KR_1.out 3 rfl
    go_wp2_with fail
    refine (l14Sector_any x (w.heap.size + 1) 0 _ (by have h := blkC (v := .string x.name) KX_1.out 0 rfl; simpa using h) (by have h := blkC (v := .string x.site) KX_1.out 1 rfl; simpa using h) (by have h := blkC (v := .string x.antenna) KX_1.out 2 rfl; simpa using h) (by have h := blkC (v := .string x.radio) KX_1.out 3 rfl; simpa using h) (by have h := blkC (v := .string x.band) KX_1.out 4 rfl; simpa using h) (by have h := blkC (v := .int .i64 x.azimuth) KX_1.out 5 rfl; simpa using h) (by have h := blkC (v := .int .i64 x.tilt) KX_1.out 6 rfl; simpa using h) (by have h := blkC (v := .int .i64 x.above) KX_1.out 7 rfl; simpa using h) (by have h := blkC (v := .int .i64 x.channel) KX_1.out 8 rfl; simpa using h) hko.name hko.site hko.antenna hko.radio hko.band).mono ?_
    rintro e X2 ⟨rfl, hb⟩
    clear fN0 fN1 fN2 fN3 fX0 fX1 fX2 fX3 fX4 fX5 fX6 fX7 fX8 fR0 fR1 fR2 fR3
    have KN_2 := Lib.hid (blkB KN_1.out hb (by omega))
    have KX_2 := Lib.hid (blkB KX_1.out hb (by omega))
    have KR_2 := Lib.hid (blkB KR_1.out hb (by omega))
    have BB_2 := Lib.hid (BB_1.out.trans (hb.mono (by omega)))
    have zz2 : X1.heap.size ≤ X2.heap.size := hb.size
    clear KN_1 KX_1 KR_1 BB_1 hb
    rw [hx]
    have fN0 := blkC (v := .slice A0 n.sites.length C0) KN_2.out 0 rfl
    have fN1 := blkC (v := .slice A1 n.sectors.length C1) KN_2.out 1 rfl
    have fN2 := blkC (v := .slice A2 n.antennas.length C2) KN_2.out 2 rfl
    have fN3 := blkC (v := .slice A3 n.radios.length C3) KN_2.out 3 rfl
    have fX0 := blkC (v := .string x.name) KX_2.out 0 rfl
    have fX1 := blkC (v := .string x.site) KX_2.out 1 rfl
    have fX2 := blkC (v := .string x.antenna) KX_2.out 2 rfl
    have fX3 := blkC (v := .string x.radio) KX_2.out 3 rfl
    have fX4 := blkC (v := .string x.band) KX_2.out 4 rfl
    have fX5 := blkC (v := .int .i64 x.azimuth) KX_2.out 5 rfl
    have fX6 := blkC (v := .int .i64 x.tilt) KX_2.out 6 rfl
    have fX7 := blkC (v := .int .i64 x.above) KX_2.out 7 rfl
    have fX8 := blkC (v := .int .i64 x.channel) KX_2.out 8 rfl
    have fR0 := blkC (v := .slice none 0 0) KR_2.out 0 rfl
    have fR1 := blkC (v := .slice none 0 0) KR_2.out 1 rfl
    have fR2 := blkC (v := .slice none 0 0) KR_2.out 2 rfl
    have fR3 := blkC (v := .slice none 0 0) KR_2.out 3 rfl
    have zR := blkF KR_2.out
    go_wp2
    have BF := Lib.hid (((((BB_2.out).setCell (p := ⟨w.heap.size + 2, 0, none⟩) (by show w.heap.size ≤ w.heap.size + 2; omega) (.slice none 0 0)).setCell (p := ⟨w.heap.size + 2, 1, none⟩) (by show w.heap.size ≤ w.heap.size + 2; omega) (.slice none 0 0)).setCell (p := ⟨w.heap.size + 2, 2, none⟩) (by show w.heap.size ≤ w.heap.size + 2; omega) (.slice none 0 0)).setCell (p := ⟨w.heap.size + 2, 3, none⟩) (by show w.heap.size ≤ w.heap.size + 2; omega) (.slice none 0 0))
    refine bodyPost_ret (v := .tuple #[.agg #[.slice none 0 0, .slice none 0 0, .slice none 0 0, .slice none 0 0], .int .i64 1]) (by simp [results, Tryz.results20, go_sem, *]) rfl ?_
    rw [HE.out]
    exact ⟨none, 0, none, 0, none, 0, none, 0, [], rfl, BF.out, ownV_zero _, In.nil⟩
  rcases firstIdx_cases' (fun y : DSector => eqS y.name x.name) n.sectors with ⟨hi, _⟩ | ⟨k, hk, hi, _, _⟩
  · have HE := Lib.hid (chgR_none hv hx hi)
    have HI : Hid (idxSector n.sectors x.name = -1) := hi
    clear hi
    have BB0_ : Below w.heap.size w (((w.alloc (.cells #[.slice A0 n.sites.length C0, .slice A1 n.sectors.length C1, .slice A2 n.antennas.length C2, .slice A3 n.radios.length C3] 35)).alloc (.cells #[.string x.name, .string x.site, .string x.antenna, .string x.radio, .string x.band, .int .i64 x.azimuth, .int .i64 x.tilt, .int .i64 x.above, .int .i64 x.channel] 49)).alloc (.cells #[.slice none 0 0, .slice none 0 0, .slice none 0 0, .slice none 0 0] 35)) := Below.alloc (Below.alloc (Below.alloc (Below.refl _ _) (by first | exact Nat.le_refl _ | (simp; done) | (simp; omega)) _) (by first | exact Nat.le_refl _ | (simp; done) | (simp; omega)) _) (by first | exact Nat.le_refl _ | (simp; done) | (simp; omega)) _
    have zz0 : w.heap.size + 3 ≤ (((w.alloc (.cells #[.slice A0 n.sites.length C0, .slice A1 n.sectors.length C1, .slice A2 n.antennas.length C2, .slice A3 n.radios.length C3] 35)).alloc (.cells #[.string x.name, .string x.site, .string x.antenna, .string x.radio, .string x.band, .int .i64 x.azimuth, .int .i64 x.tilt, .int .i64 x.above, .int .i64 x.channel] 49)).alloc (.cells #[.slice none 0 0, .slice none 0 0, .slice none 0 0, .slice none 0 0] 35)).heap.size := by simp
    have k_N : (((w.alloc (.cells #[.slice A0 n.sites.length C0, .slice A1 n.sectors.length C1, .slice A2 n.antennas.length C2, .slice A3 n.radios.length C3] 35)).alloc (.cells #[.string x.name, .string x.site, .string x.antenna, .string x.radio, .string x.band, .int .i64 x.azimuth, .int .i64 x.tilt, .int .i64 x.above, .int .i64 x.channel] 49)).alloc (.cells #[.slice none 0 0, .slice none 0 0, .slice none 0 0, .slice none 0 0] 35)).heap[w.heap.size]? = some (.cells #[.slice A0 n.sites.length C0, .slice A1 n.sectors.length C1, .slice A2 n.antennas.length C2, .slice A3 n.radios.length C3] 35 (0, 0)) := by
      have h := blkN w #[.slice A0 n.sites.length C0, .slice A1 n.sectors.length C1, .slice A2 n.antennas.length C2, .slice A3 n.radios.length C3] 35
      replace h := blkA h (by first | (simp; done) | (simp; omega)) (.cells #[.string x.name, .string x.site, .string x.antenna, .string x.radio, .string x.band, .int .i64 x.azimuth, .int .i64 x.tilt, .int .i64 x.above, .int .i64 x.channel] 49)
      replace h := blkA h (by first | (simp; done) | (simp; omega)) (.cells #[.slice none 0 0, .slice none 0 0, .slice none 0 0, .slice none 0 0] 35)
      exact h
    have KN_0 := Lib.hid k_N
    have k_X : (((w.alloc (.cells #[.slice A0 n.sites.length C0, .slice A1 n.sectors.length C1, .slice A2 n.antennas.length C2, .slice A3 n.radios.length C3] 35)).alloc (.cells #[.string x.name, .string x.site, .string x.antenna, .string x.radio, .string x.band, .int .i64 x.azimuth, .int .i64 x.tilt, .int .i64 x.above, .int .i64 x.channel] 49)).alloc (.cells #[.slice none 0 0, .slice none 0 0, .slice none 0 0, .slice none 0 0] 35)).heap[w.heap.size + 1]? = some (.cells #[.string x.name, .string x.site, .string x.antenna, .string x.radio, .string x.band, .int .i64 x.azimuth, .int .i64 x.tilt, .int .i64 x.above, .int .i64 x.channel] 49 (0, 0)) := by
      have h := blkN (w.alloc (.cells #[.slice A0 n.sites.length C0, .slice A1 n.sectors.length C1, .slice A2 n.antennas.length C2, .slice A3 n.radios.length C3] 35)) #[.string x.name, .string x.site, .string x.antenna, .string x.radio, .string x.band, .int .i64 x.azimuth, .int .i64 x.tilt, .int .i64 x.above, .int .i64 x.channel] 49
      rw [show (w.alloc (.cells #[.slice A0 n.sites.length C0, .slice A1 n.sectors.length C1, .slice A2 n.antennas.length C2, .slice A3 n.radios.length C3] 35)).heap.size = w.heap.size + 1 by simp] at h
      replace h := blkA h (by first | (simp; done) | (simp; omega)) (.cells #[.slice none 0 0, .slice none 0 0, .slice none 0 0, .slice none 0 0] 35)
      exact h
    have KX_0 := Lib.hid k_X
    have k_R : (((w.alloc (.cells #[.slice A0 n.sites.length C0, .slice A1 n.sectors.length C1, .slice A2 n.antennas.length C2, .slice A3 n.radios.length C3] 35)).alloc (.cells #[.string x.name, .string x.site, .string x.antenna, .string x.radio, .string x.band, .int .i64 x.azimuth, .int .i64 x.tilt, .int .i64 x.above, .int .i64 x.channel] 49)).alloc (.cells #[.slice none 0 0, .slice none 0 0, .slice none 0 0, .slice none 0 0] 35)).heap[w.heap.size + 2]? = some (.cells #[.slice none 0 0, .slice none 0 0, .slice none 0 0, .slice none 0 0] 35 (0, 0)) := by
      have h := blkN ((w.alloc (.cells #[.slice A0 n.sites.length C0, .slice A1 n.sectors.length C1, .slice A2 n.antennas.length C2, .slice A3 n.radios.length C3] 35)).alloc (.cells #[.string x.name, .string x.site, .string x.antenna, .string x.radio, .string x.band, .int .i64 x.azimuth, .int .i64 x.tilt, .int .i64 x.above, .int .i64 x.channel] 49)) #[.slice none 0 0, .slice none 0 0, .slice none 0 0, .slice none 0 0] 35
      rw [show ((w.alloc (.cells #[.slice A0 n.sites.length C0, .slice A1 n.sectors.length C1, .slice A2 n.antennas.length C2, .slice A3 n.radios.length C3] 35)).alloc (.cells #[.string x.name, .string x.site, .string x.antenna, .string x.radio, .string x.band, .int .i64 x.azimuth, .int .i64 x.tilt, .int .i64 x.above, .int .i64 x.channel] 49)).heap.size = w.heap.size + 2 by simp] at h
      exact h
    have KR_0 := Lib.hid k_R
    clear k_N k_X k_R
    have BB_0 := Lib.hid BB0_
    clear BB0_
    go_enter Tryz.func20, Tryz.ntmps20
    go_upto_region 1 with (fail)
    generalize (((w.alloc (.cells #[.slice A0 n.sites.length C0, .slice A1 n.sectors.length C1, .slice A2 n.antennas.length C2, .slice A3 n.radios.length C3] 35)).alloc (.cells #[.string x.name, .string x.site, .string x.antenna, .string x.radio, .string x.band, .int .i64 x.azimuth, .int .i64 x.tilt, .int .i64 x.above, .int .i64 x.channel] 49)).alloc (.cells #[.slice none 0 0, .slice none 0 0, .slice none 0 0, .slice none 0 0] 35)) = W0 at *
    have fN0 := blkC (v := .slice A0 n.sites.length C0) KN_0.out 0 rfl
    have fN1 := blkC (v := .slice A1 n.sectors.length C1) KN_0.out 1 rfl
    have fN2 := blkC (v := .slice A2 n.antennas.length C2) KN_0.out 2 rfl
    have fN3 := blkC (v := .slice A3 n.radios.length C3) KN_0.out 3 rfl
    have fX0 := blkC (v := .string x.name) KX_0.out 0 rfl
    have fX1 := blkC (v := .string x.site) KX_0.out 1 rfl
    have fX2 := blkC (v := .string x.antenna) KX_0.out 2 rfl
    have fX3 := blkC (v := .string x.radio) KX_0.out 3 rfl
    have fX4 := blkC (v := .string x.band) KX_0.out 4 rfl
    have fX5 := blkC (v := .int .i64 x.azimuth) KX_0.out 5 rfl
    have fX6 := blkC (v := .int .i64 x.tilt) KX_0.out 6 rfl
    have fX7 := blkC (v := .int .i64 x.above) KX_0.out 7 rfl
    have fX8 := blkC (v := .int .i64 x.channel) KX_0.out 8 rfl
    have fR0 := blkC (v := .slice none 0 0) KR_0.out 0 rfl
    have fR1 := blkC (v := .slice none 0 0) KR_0.out 1 rfl
    have fR2 := blkC (v := .slice none 0 0) KR_0.out 2 rfl
    have fR3 := blkC (v := .slice none 0 0) KR_0.out 3 rfl
    go_wp2_with fail
    refine (l14Ok_any n _ _ _ _ w.heap.size _ ((R0.out.below BB_0.out).mono (by have := BB_0.out.size; omega)) ((R1.out.below BB_0.out).mono (by have := BB_0.out.size; omega)) ((R2.out.below BB_0.out).mono (by have := BB_0.out.size; omega)) ((R3.out.below BB_0.out).mono (by have := BB_0.out.size; omega)) (by omega) (blkC KN_0.out 0 rfl) (blkC KN_0.out 1 rfl) (blkC KN_0.out 2 rfl) (blkC KN_0.out 3 rfl) (by omega) hk_n).mono ?_
    rintro e X1 ⟨rfl, hb⟩
    clear fN0 fN1 fN2 fN3 fX0 fX1 fX2 fX3 fX4 fX5 fX6 fX7 fX8 fR0 fR1 fR2 fR3
    have KN_1 := Lib.hid (blkB KN_0.out hb (by omega))
    have KX_1 := Lib.hid (blkB KX_0.out hb (by omega))
    have KR_1 := Lib.hid (blkB KR_0.out hb (by omega))
    have BB_1 := Lib.hid (BB_0.out.trans (hb.mono (by omega)))
    have zz1 : W0.heap.size ≤ X1.heap.size := hb.size
    clear KN_0 KX_0 KR_0 BB_0 hb
    rw [hv]
    have fN0 := blkC (v := .slice A0 n.sites.length C0) KN_1.out 0 rfl
    have fN1 := blkC (v := .slice A1 n.sectors.length C1) KN_1.out 1 rfl
    have fN2 := blkC (v := .slice A2 n.antennas.length C2) KN_1.out 2 rfl
    have fN3 := blkC (v := .slice A3 n.radios.length C3) KN_1.out 3 rfl
    have fX0 := blkC (v := .string x.name) KX_1.out 0 rfl
    have fX1 := blkC (v := .string x.site) KX_1.out 1 rfl
    have fX2 := blkC (v := .string x.antenna) KX_1.out 2 rfl
    have fX3 := blkC (v := .string x.radio) KX_1.out 3 rfl
    have fX4 := blkC (v := .string x.band) KX_1.out 4 rfl
    have fX5 := blkC (v := .int .i64 x.azimuth) KX_1.out 5 rfl
    have fX6 := blkC (v := .int .i64 x.tilt) KX_1.out 6 rfl
    have fX7 := blkC (v := .int .i64 x.above) KX_1.out 7 rfl
    have fX8 := blkC (v := .int .i64 x.channel) KX_1.out 8 rfl
    have fR0 := blkC (v := .slice none 0 0) KR_1.out 0 rfl
    have fR1 := blkC (v := .slice none 0 0) KR_1.out 1 rfl
    have fR2 := blkC (v := .slice none 0 0) KR_1.out 2 rfl
    have fR3 := blkC (v := .slice none 0 0) KR_1.out 3 rfl
    go_wp2_with fail
    refine (l14Sector_any x (w.heap.size + 1) 0 _ (by have h := blkC (v := .string x.name) KX_1.out 0 rfl; simpa using h) (by have h := blkC (v := .string x.site) KX_1.out 1 rfl; simpa using h) (by have h := blkC (v := .string x.antenna) KX_1.out 2 rfl; simpa using h) (by have h := blkC (v := .string x.radio) KX_1.out 3 rfl; simpa using h) (by have h := blkC (v := .string x.band) KX_1.out 4 rfl; simpa using h) (by have h := blkC (v := .int .i64 x.azimuth) KX_1.out 5 rfl; simpa using h) (by have h := blkC (v := .int .i64 x.tilt) KX_1.out 6 rfl; simpa using h) (by have h := blkC (v := .int .i64 x.above) KX_1.out 7 rfl; simpa using h) (by have h := blkC (v := .int .i64 x.channel) KX_1.out 8 rfl; simpa using h) hko.name hko.site hko.antenna hko.radio hko.band).mono ?_
    rintro e X2 ⟨rfl, hb⟩
    clear fN0 fN1 fN2 fN3 fX0 fX1 fX2 fX3 fX4 fX5 fX6 fX7 fX8 fR0 fR1 fR2 fR3
    have KN_2 := Lib.hid (blkB KN_1.out hb (by omega))
    have KX_2 := Lib.hid (blkB KX_1.out hb (by omega))
    have KR_2 := Lib.hid (blkB KR_1.out hb (by omega))
    have BB_2 := Lib.hid (BB_1.out.trans (hb.mono (by omega)))
    have zz2 : X1.heap.size ≤ X2.heap.size := hb.size
    clear KN_1 KX_1 KR_1 BB_1 hb
    rw [hx]
    have fN0 := blkC (v := .slice A0 n.sites.length C0) KN_2.out 0 rfl
    have fN1 := blkC (v := .slice A1 n.sectors.length C1) KN_2.out 1 rfl
    have fN2 := blkC (v := .slice A2 n.antennas.length C2) KN_2.out 2 rfl
    have fN3 := blkC (v := .slice A3 n.radios.length C3) KN_2.out 3 rfl
    have fX0 := blkC (v := .string x.name) KX_2.out 0 rfl
    have fX1 := blkC (v := .string x.site) KX_2.out 1 rfl
    have fX2 := blkC (v := .string x.antenna) KX_2.out 2 rfl
    have fX3 := blkC (v := .string x.radio) KX_2.out 3 rfl
    have fX4 := blkC (v := .string x.band) KX_2.out 4 rfl
    have fX5 := blkC (v := .int .i64 x.azimuth) KX_2.out 5 rfl
    have fX6 := blkC (v := .int .i64 x.tilt) KX_2.out 6 rfl
    have fX7 := blkC (v := .int .i64 x.above) KX_2.out 7 rfl
    have fX8 := blkC (v := .int .i64 x.channel) KX_2.out 8 rfl
    have fR0 := blkC (v := .slice none 0 0) KR_2.out 0 rfl
    have fR1 := blkC (v := .slice none 0 0) KR_2.out 1 rfl
    have fR2 := blkC (v := .slice none 0 0) KR_2.out 2 rfl
    have fR3 := blkC (v := .slice none 0 0) KR_2.out 3 rfl
    go_wp2_with fail
    refine (l14Find_any n.sectors x.name _ w.heap.size w.heap.size _ (R1.out.below BB_2.out) (by have := BB_2.out.size; omega) (blkC KN_2.out 1 rfl) (by omega)).mono ?_
    rintro e _ ⟨rfl, rfl⟩
    clear fN0 fN1 fN2 fN3 fX0 fX1 fX2 fX3 fX4 fX5 fX6 fX7 fX8 fR0 fR1 fR2 fR3
    rw [HI.out]
    have fN0 := blkC (v := .slice A0 n.sites.length C0) KN_2.out 0 rfl
    have fN1 := blkC (v := .slice A1 n.sectors.length C1) KN_2.out 1 rfl
    have fN2 := blkC (v := .slice A2 n.antennas.length C2) KN_2.out 2 rfl
    have fN3 := blkC (v := .slice A3 n.radios.length C3) KN_2.out 3 rfl
    have fX0 := blkC (v := .string x.name) KX_2.out 0 rfl
    have fX1 := blkC (v := .string x.site) KX_2.out 1 rfl
    have fX2 := blkC (v := .string x.antenna) KX_2.out 2 rfl
    have fX3 := blkC (v := .string x.radio) KX_2.out 3 rfl
    have fX4 := blkC (v := .string x.band) KX_2.out 4 rfl
    have fX5 := blkC (v := .int .i64 x.azimuth) KX_2.out 5 rfl
    have fX6 := blkC (v := .int .i64 x.tilt) KX_2.out 6 rfl
    have fX7 := blkC (v := .int .i64 x.above) KX_2.out 7 rfl
    have fX8 := blkC (v := .int .i64 x.channel) KX_2.out 8 rfl
    have fR0 := blkC (v := .slice none 0 0) KR_2.out 0 rfl
    have fR1 := blkC (v := .slice none 0 0) KR_2.out 1 rfl
    have fR2 := blkC (v := .slice none 0 0) KR_2.out 2 rfl
    have fR3 := blkC (v := .slice none 0 0) KR_2.out 3 rfl
    have zR := blkF KR_2.out
    go_wp2
    have BF := Lib.hid (((((BB_2.out).setCell (p := ⟨w.heap.size + 2, 0, none⟩) (by show w.heap.size ≤ w.heap.size + 2; omega) (.slice none 0 0)).setCell (p := ⟨w.heap.size + 2, 1, none⟩) (by show w.heap.size ≤ w.heap.size + 2; omega) (.slice none 0 0)).setCell (p := ⟨w.heap.size + 2, 2, none⟩) (by show w.heap.size ≤ w.heap.size + 2; omega) (.slice none 0 0)).setCell (p := ⟨w.heap.size + 2, 3, none⟩) (by show w.heap.size ≤ w.heap.size + 2; omega) (.slice none 0 0))
    refine bodyPost_ret (v := .tuple #[.agg #[.slice none 0 0, .slice none 0 0, .slice none 0 0, .slice none 0 0], .int .i64 3]) (by simp [results, Tryz.results20, go_sem, *]) rfl ?_
    rw [HE.out]
    exact ⟨none, 0, none, 0, none, 0, none, 0, [], rfl, BF.out, ownV_zero _, In.nil⟩
  by_cases hp : refersB n x = true
  case neg =>
    replace hp : refersB n x = false := Bool.eq_false_iff.2 hp
    have HE := Lib.hid (chgR_parts hv hx hi hp)
    have HI : Hid (idxSector n.sectors x.name = (k : Int)) := hi
    clear hi
    have BB0_ : Below w.heap.size w (((w.alloc (.cells #[.slice A0 n.sites.length C0, .slice A1 n.sectors.length C1, .slice A2 n.antennas.length C2, .slice A3 n.radios.length C3] 35)).alloc (.cells #[.string x.name, .string x.site, .string x.antenna, .string x.radio, .string x.band, .int .i64 x.azimuth, .int .i64 x.tilt, .int .i64 x.above, .int .i64 x.channel] 49)).alloc (.cells #[.slice none 0 0, .slice none 0 0, .slice none 0 0, .slice none 0 0] 35)) := Below.alloc (Below.alloc (Below.alloc (Below.refl _ _) (by first | exact Nat.le_refl _ | (simp; done) | (simp; omega)) _) (by first | exact Nat.le_refl _ | (simp; done) | (simp; omega)) _) (by first | exact Nat.le_refl _ | (simp; done) | (simp; omega)) _
    have zz0 : w.heap.size + 3 ≤ (((w.alloc (.cells #[.slice A0 n.sites.length C0, .slice A1 n.sectors.length C1, .slice A2 n.antennas.length C2, .slice A3 n.radios.length C3] 35)).alloc (.cells #[.string x.name, .string x.site, .string x.antenna, .string x.radio, .string x.band, .int .i64 x.azimuth, .int .i64 x.tilt, .int .i64 x.above, .int .i64 x.channel] 49)).alloc (.cells #[.slice none 0 0, .slice none 0 0, .slice none 0 0, .slice none 0 0] 35)).heap.size := by simp
    have k_N : (((w.alloc (.cells #[.slice A0 n.sites.length C0, .slice A1 n.sectors.length C1, .slice A2 n.antennas.length C2, .slice A3 n.radios.length C3] 35)).alloc (.cells #[.string x.name, .string x.site, .string x.antenna, .string x.radio, .string x.band, .int .i64 x.azimuth, .int .i64 x.tilt, .int .i64 x.above, .int .i64 x.channel] 49)).alloc (.cells #[.slice none 0 0, .slice none 0 0, .slice none 0 0, .slice none 0 0] 35)).heap[w.heap.size]? = some (.cells #[.slice A0 n.sites.length C0, .slice A1 n.sectors.length C1, .slice A2 n.antennas.length C2, .slice A3 n.radios.length C3] 35 (0, 0)) := by
      have h := blkN w #[.slice A0 n.sites.length C0, .slice A1 n.sectors.length C1, .slice A2 n.antennas.length C2, .slice A3 n.radios.length C3] 35
      replace h := blkA h (by first | (simp; done) | (simp; omega)) (.cells #[.string x.name, .string x.site, .string x.antenna, .string x.radio, .string x.band, .int .i64 x.azimuth, .int .i64 x.tilt, .int .i64 x.above, .int .i64 x.channel] 49)
      replace h := blkA h (by first | (simp; done) | (simp; omega)) (.cells #[.slice none 0 0, .slice none 0 0, .slice none 0 0, .slice none 0 0] 35)
      exact h
    have KN_0 := Lib.hid k_N
    have k_X : (((w.alloc (.cells #[.slice A0 n.sites.length C0, .slice A1 n.sectors.length C1, .slice A2 n.antennas.length C2, .slice A3 n.radios.length C3] 35)).alloc (.cells #[.string x.name, .string x.site, .string x.antenna, .string x.radio, .string x.band, .int .i64 x.azimuth, .int .i64 x.tilt, .int .i64 x.above, .int .i64 x.channel] 49)).alloc (.cells #[.slice none 0 0, .slice none 0 0, .slice none 0 0, .slice none 0 0] 35)).heap[w.heap.size + 1]? = some (.cells #[.string x.name, .string x.site, .string x.antenna, .string x.radio, .string x.band, .int .i64 x.azimuth, .int .i64 x.tilt, .int .i64 x.above, .int .i64 x.channel] 49 (0, 0)) := by
      have h := blkN (w.alloc (.cells #[.slice A0 n.sites.length C0, .slice A1 n.sectors.length C1, .slice A2 n.antennas.length C2, .slice A3 n.radios.length C3] 35)) #[.string x.name, .string x.site, .string x.antenna, .string x.radio, .string x.band, .int .i64 x.azimuth, .int .i64 x.tilt, .int .i64 x.above, .int .i64 x.channel] 49
      rw [show (w.alloc (.cells #[.slice A0 n.sites.length C0, .slice A1 n.sectors.length C1, .slice A2 n.antennas.length C2, .slice A3 n.radios.length C3] 35)).heap.size = w.heap.size + 1 by simp] at h
      replace h := blkA h (by first | (simp; done) | (simp; omega)) (.cells #[.slice none 0 0, .slice none 0 0, .slice none 0 0, .slice none 0 0] 35)
      exact h
    have KX_0 := Lib.hid k_X
    have k_R : (((w.alloc (.cells #[.slice A0 n.sites.length C0, .slice A1 n.sectors.length C1, .slice A2 n.antennas.length C2, .slice A3 n.radios.length C3] 35)).alloc (.cells #[.string x.name, .string x.site, .string x.antenna, .string x.radio, .string x.band, .int .i64 x.azimuth, .int .i64 x.tilt, .int .i64 x.above, .int .i64 x.channel] 49)).alloc (.cells #[.slice none 0 0, .slice none 0 0, .slice none 0 0, .slice none 0 0] 35)).heap[w.heap.size + 2]? = some (.cells #[.slice none 0 0, .slice none 0 0, .slice none 0 0, .slice none 0 0] 35 (0, 0)) := by
      have h := blkN ((w.alloc (.cells #[.slice A0 n.sites.length C0, .slice A1 n.sectors.length C1, .slice A2 n.antennas.length C2, .slice A3 n.radios.length C3] 35)).alloc (.cells #[.string x.name, .string x.site, .string x.antenna, .string x.radio, .string x.band, .int .i64 x.azimuth, .int .i64 x.tilt, .int .i64 x.above, .int .i64 x.channel] 49)) #[.slice none 0 0, .slice none 0 0, .slice none 0 0, .slice none 0 0] 35
      rw [show ((w.alloc (.cells #[.slice A0 n.sites.length C0, .slice A1 n.sectors.length C1, .slice A2 n.antennas.length C2, .slice A3 n.radios.length C3] 35)).alloc (.cells #[.string x.name, .string x.site, .string x.antenna, .string x.radio, .string x.band, .int .i64 x.azimuth, .int .i64 x.tilt, .int .i64 x.above, .int .i64 x.channel] 49)).heap.size = w.heap.size + 2 by simp] at h
      exact h
    have KR_0 := Lib.hid k_R
    clear k_N k_X k_R
    have BB_0 := Lib.hid BB0_
    clear BB0_
    go_enter Tryz.func20, Tryz.ntmps20
    go_upto_region 1 with (fail)
    generalize (((w.alloc (.cells #[.slice A0 n.sites.length C0, .slice A1 n.sectors.length C1, .slice A2 n.antennas.length C2, .slice A3 n.radios.length C3] 35)).alloc (.cells #[.string x.name, .string x.site, .string x.antenna, .string x.radio, .string x.band, .int .i64 x.azimuth, .int .i64 x.tilt, .int .i64 x.above, .int .i64 x.channel] 49)).alloc (.cells #[.slice none 0 0, .slice none 0 0, .slice none 0 0, .slice none 0 0] 35)) = W0 at *
    have fN0 := blkC (v := .slice A0 n.sites.length C0) KN_0.out 0 rfl
    have fN1 := blkC (v := .slice A1 n.sectors.length C1) KN_0.out 1 rfl
    have fN2 := blkC (v := .slice A2 n.antennas.length C2) KN_0.out 2 rfl
    have fN3 := blkC (v := .slice A3 n.radios.length C3) KN_0.out 3 rfl
    have fX0 := blkC (v := .string x.name) KX_0.out 0 rfl
    have fX1 := blkC (v := .string x.site) KX_0.out 1 rfl
    have fX2 := blkC (v := .string x.antenna) KX_0.out 2 rfl
    have fX3 := blkC (v := .string x.radio) KX_0.out 3 rfl
    have fX4 := blkC (v := .string x.band) KX_0.out 4 rfl
    have fX5 := blkC (v := .int .i64 x.azimuth) KX_0.out 5 rfl
    have fX6 := blkC (v := .int .i64 x.tilt) KX_0.out 6 rfl
    have fX7 := blkC (v := .int .i64 x.above) KX_0.out 7 rfl
    have fX8 := blkC (v := .int .i64 x.channel) KX_0.out 8 rfl
    have fR0 := blkC (v := .slice none 0 0) KR_0.out 0 rfl
    have fR1 := blkC (v := .slice none 0 0) KR_0.out 1 rfl
    have fR2 := blkC (v := .slice none 0 0) KR_0.out 2 rfl
    have fR3 := blkC (v := .slice none 0 0) KR_0.out 3 rfl
    go_wp2_with fail
    refine (l14Ok_any n _ _ _ _ w.heap.size _ ((R0.out.below BB_0.out).mono (by have := BB_0.out.size; omega)) ((R1.out.below BB_0.out).mono (by have := BB_0.out.size; omega)) ((R2.out.below BB_0.out).mono (by have := BB_0.out.size; omega)) ((R3.out.below BB_0.out).mono (by have := BB_0.out.size; omega)) (by omega) (blkC KN_0.out 0 rfl) (blkC KN_0.out 1 rfl) (blkC KN_0.out 2 rfl) (blkC KN_0.out 3 rfl) (by omega) hk_n).mono ?_
    rintro e X1 ⟨rfl, hb⟩
    clear fN0 fN1 fN2 fN3 fX0 fX1 fX2 fX3 fX4 fX5 fX6 fX7 fX8 fR0 fR1 fR2 fR3
    have KN_1 := Lib.hid (blkB KN_0.out hb (by omega))
    have KX_1 := Lib.hid (blkB KX_0.out hb (by omega))
    have KR_1 := Lib.hid (blkB KR_0.out hb (by omega))
    have BB_1 := Lib.hid (BB_0.out.trans (hb.mono (by omega)))
    have zz1 : W0.heap.size ≤ X1.heap.size := hb.size
    clear KN_0 KX_0 KR_0 BB_0 hb
    rw [hv]
    have fN0 := blkC (v := .slice A0 n.sites.length C0) KN_1.out 0 rfl
    have fN1 := blkC (v := .slice A1 n.sectors.length C1) KN_1.out 1 rfl
    have fN2 := blkC (v := .slice A2 n.antennas.length C2) KN_1.out 2 rfl
    have fN3 := blkC (v := .slice A3 n.radios.length C3) KN_1.out 3 rfl
    have fX0 := blkC (v := .string x.name) KX_1.out 0 rfl
    have fX1 := blkC (v := .string x.site) KX_1.out 1 rfl
    have fX2 := blkC (v := .string x.antenna) KX_1.out 2 rfl
    have fX3 := blkC (v := .string x.radio) KX_1.out 3 rfl
    have fX4 := blkC (v := .string x.band) KX_1.out 4 rfl
    have fX5 := blkC (v := .int .i64 x.azimuth) KX_1.out 5 rfl
    have fX6 := blkC (v := .int .i64 x.tilt) KX_1.out 6 rfl
    have fX7 := blkC (v := .int .i64 x.above) KX_1.out 7 rfl
    have fX8 := blkC (v := .int .i64 x.channel) KX_1.out 8 rfl
    have fR0 := blkC (v := .slice none 0 0) KR_1.out 0 rfl
    have fR1 := blkC (v := .slice none 0 0) KR_1.out 1 rfl
    have fR2 := blkC (v := .slice none 0 0) KR_1.out 2 rfl
    have fR3 := blkC (v := .slice none 0 0) KR_1.out 3 rfl
    go_wp2_with fail
    refine (l14Sector_any x (w.heap.size + 1) 0 _ (by have h := blkC (v := .string x.name) KX_1.out 0 rfl; simpa using h) (by have h := blkC (v := .string x.site) KX_1.out 1 rfl; simpa using h) (by have h := blkC (v := .string x.antenna) KX_1.out 2 rfl; simpa using h) (by have h := blkC (v := .string x.radio) KX_1.out 3 rfl; simpa using h) (by have h := blkC (v := .string x.band) KX_1.out 4 rfl; simpa using h) (by have h := blkC (v := .int .i64 x.azimuth) KX_1.out 5 rfl; simpa using h) (by have h := blkC (v := .int .i64 x.tilt) KX_1.out 6 rfl; simpa using h) (by have h := blkC (v := .int .i64 x.above) KX_1.out 7 rfl; simpa using h) (by have h := blkC (v := .int .i64 x.channel) KX_1.out 8 rfl; simpa using h) hko.name hko.site hko.antenna hko.radio hko.band).mono ?_
    rintro e X2 ⟨rfl, hb⟩
    clear fN0 fN1 fN2 fN3 fX0 fX1 fX2 fX3 fX4 fX5 fX6 fX7 fX8 fR0 fR1 fR2 fR3
    have KN_2 := Lib.hid (blkB KN_1.out hb (by omega))
    have KX_2 := Lib.hid (blkB KX_1.out hb (by omega))
    have KR_2 := Lib.hid (blkB KR_1.out hb (by omega))
    have BB_2 := Lib.hid (BB_1.out.trans (hb.mono (by omega)))
    have zz2 : X1.heap.size ≤ X2.heap.size := hb.size
    clear KN_1 KX_1 KR_1 BB_1 hb
    rw [hx]
    have fN0 := blkC (v := .slice A0 n.sites.length C0) KN_2.out 0 rfl
    have fN1 := blkC (v := .slice A1 n.sectors.length C1) KN_2.out 1 rfl
    have fN2 := blkC (v := .slice A2 n.antennas.length C2) KN_2.out 2 rfl
    have fN3 := blkC (v := .slice A3 n.radios.length C3) KN_2.out 3 rfl
    have fX0 := blkC (v := .string x.name) KX_2.out 0 rfl
    have fX1 := blkC (v := .string x.site) KX_2.out 1 rfl
    have fX2 := blkC (v := .string x.antenna) KX_2.out 2 rfl
    have fX3 := blkC (v := .string x.radio) KX_2.out 3 rfl
    have fX4 := blkC (v := .string x.band) KX_2.out 4 rfl
    have fX5 := blkC (v := .int .i64 x.azimuth) KX_2.out 5 rfl
    have fX6 := blkC (v := .int .i64 x.tilt) KX_2.out 6 rfl
    have fX7 := blkC (v := .int .i64 x.above) KX_2.out 7 rfl
    have fX8 := blkC (v := .int .i64 x.channel) KX_2.out 8 rfl
    have fR0 := blkC (v := .slice none 0 0) KR_2.out 0 rfl
    have fR1 := blkC (v := .slice none 0 0) KR_2.out 1 rfl
    have fR2 := blkC (v := .slice none 0 0) KR_2.out 2 rfl
    have fR3 := blkC (v := .slice none 0 0) KR_2.out 3 rfl
    go_wp2_with fail
    refine (l14Find_any n.sectors x.name _ w.heap.size w.heap.size _ (R1.out.below BB_2.out) (by have := BB_2.out.size; omega) (blkC KN_2.out 1 rfl) (by omega)).mono ?_
    rintro e _ ⟨rfl, rfl⟩
    clear fN0 fN1 fN2 fN3 fX0 fX1 fX2 fX3 fX4 fX5 fX6 fX7 fX8 fR0 fR1 fR2 fR3
    rw [HI.out]
    have hneg : decide ((k : Int) < 0) = false := by simp
    have fN0 := blkC (v := .slice A0 n.sites.length C0) KN_2.out 0 rfl
    have fN1 := blkC (v := .slice A1 n.sectors.length C1) KN_2.out 1 rfl
    have fN2 := blkC (v := .slice A2 n.antennas.length C2) KN_2.out 2 rfl
    have fN3 := blkC (v := .slice A3 n.radios.length C3) KN_2.out 3 rfl
    have fX0 := blkC (v := .string x.name) KX_2.out 0 rfl
    have fX1 := blkC (v := .string x.site) KX_2.out 1 rfl
    have fX2 := blkC (v := .string x.antenna) KX_2.out 2 rfl
    have fX3 := blkC (v := .string x.radio) KX_2.out 3 rfl
    have fX4 := blkC (v := .string x.band) KX_2.out 4 rfl
    have fX5 := blkC (v := .int .i64 x.azimuth) KX_2.out 5 rfl
    have fX6 := blkC (v := .int .i64 x.tilt) KX_2.out 6 rfl
    have fX7 := blkC (v := .int .i64 x.above) KX_2.out 7 rfl
    have fX8 := blkC (v := .int .i64 x.channel) KX_2.out 8 rfl
    have fR0 := blkC (v := .slice none 0 0) KR_2.out 0 rfl
    have fR1 := blkC (v := .slice none 0 0) KR_2.out 1 rfl
    have fR2 := blkC (v := .slice none 0 0) KR_2.out 2 rfl
    have fR3 := blkC (v := .slice none 0 0) KR_2.out 3 rfl
    go_wp2_with fail
    refine (l14Refers_any n x _ _ _ w.heap.size (w.heap.size + 1) 0 w.heap.size _ (R0.out.below BB_2.out) (R2.out.below BB_2.out) (R3.out.below BB_2.out) (by have := BB_2.out.size; omega) (blkC KN_2.out 0 rfl) (blkC KN_2.out 2 rfl) (blkC KN_2.out 3 rfl) (by have h := blkC (v := .string x.site) KX_2.out 1 rfl; simpa using h) (by have h := blkC (v := .string x.antenna) KX_2.out 2 rfl; simpa using h) (by have h := blkC (v := .string x.radio) KX_2.out 3 rfl; simpa using h) (by omega) (by omega) (by omega)).mono ?_
    rintro e _ ⟨rfl, rfl⟩
    clear fN0 fN1 fN2 fN3 fX0 fX1 fX2 fX3 fX4 fX5 fX6 fX7 fX8 fR0 fR1 fR2 fR3
    rw [hp]
    have fN0 := blkC (v := .slice A0 n.sites.length C0) KN_2.out 0 rfl
    have fN1 := blkC (v := .slice A1 n.sectors.length C1) KN_2.out 1 rfl
    have fN2 := blkC (v := .slice A2 n.antennas.length C2) KN_2.out 2 rfl
    have fN3 := blkC (v := .slice A3 n.radios.length C3) KN_2.out 3 rfl
    have fX0 := blkC (v := .string x.name) KX_2.out 0 rfl
    have fX1 := blkC (v := .string x.site) KX_2.out 1 rfl
    have fX2 := blkC (v := .string x.antenna) KX_2.out 2 rfl
    have fX3 := blkC (v := .string x.radio) KX_2.out 3 rfl
    have fX4 := blkC (v := .string x.band) KX_2.out 4 rfl
    have fX5 := blkC (v := .int .i64 x.azimuth) KX_2.out 5 rfl
    have fX6 := blkC (v := .int .i64 x.tilt) KX_2.out 6 rfl
    have fX7 := blkC (v := .int .i64 x.above) KX_2.out 7 rfl
    have fX8 := blkC (v := .int .i64 x.channel) KX_2.out 8 rfl
    have fR0 := blkC (v := .slice none 0 0) KR_2.out 0 rfl
    have fR1 := blkC (v := .slice none 0 0) KR_2.out 1 rfl
    have fR2 := blkC (v := .slice none 0 0) KR_2.out 2 rfl
    have fR3 := blkC (v := .slice none 0 0) KR_2.out 3 rfl
    have zR := blkF KR_2.out
    go_wp2
    have BF := Lib.hid (((((BB_2.out).setCell (p := ⟨w.heap.size + 2, 0, none⟩) (by show w.heap.size ≤ w.heap.size + 2; omega) (.slice none 0 0)).setCell (p := ⟨w.heap.size + 2, 1, none⟩) (by show w.heap.size ≤ w.heap.size + 2; omega) (.slice none 0 0)).setCell (p := ⟨w.heap.size + 2, 2, none⟩) (by show w.heap.size ≤ w.heap.size + 2; omega) (.slice none 0 0)).setCell (p := ⟨w.heap.size + 2, 3, none⟩) (by show w.heap.size ≤ w.heap.size + 2; omega) (.slice none 0 0))
    refine bodyPost_ret (v := .tuple #[.agg #[.slice none 0 0, .slice none 0 0, .slice none 0 0, .slice none 0 0], .int .i64 3]) (by simp [results, Tryz.results20, go_sem, *]) rfl ?_
    rw [HE.out]
    exact ⟨none, 0, none, 0, none, 0, none, 0, [], rfl, BF.out, ownV_zero _, In.nil⟩
  have HE := Lib.hid (chgR_ok hv hx hi hp)
  have HI : Hid (idxSector n.sectors x.name = (k : Int)) := hi
  clear hi
  have BB0_ : Below w.heap.size w (((w.alloc (.cells #[.slice A0 n.sites.length C0, .slice A1 n.sectors.length C1, .slice A2 n.antennas.length C2, .slice A3 n.radios.length C3] 35)).alloc (.cells #[.string x.name, .string x.site, .string x.antenna, .string x.radio, .string x.band, .int .i64 x.azimuth, .int .i64 x.tilt, .int .i64 x.above, .int .i64 x.channel] 49)).alloc (.cells #[.slice none 0 0, .slice none 0 0, .slice none 0 0, .slice none 0 0] 35)) := Below.alloc (Below.alloc (Below.alloc (Below.refl _ _) (by first | exact Nat.le_refl _ | (simp; done) | (simp; omega)) _) (by first | exact Nat.le_refl _ | (simp; done) | (simp; omega)) _) (by first | exact Nat.le_refl _ | (simp; done) | (simp; omega)) _
  have zz0 : w.heap.size + 3 ≤ (((w.alloc (.cells #[.slice A0 n.sites.length C0, .slice A1 n.sectors.length C1, .slice A2 n.antennas.length C2, .slice A3 n.radios.length C3] 35)).alloc (.cells #[.string x.name, .string x.site, .string x.antenna, .string x.radio, .string x.band, .int .i64 x.azimuth, .int .i64 x.tilt, .int .i64 x.above, .int .i64 x.channel] 49)).alloc (.cells #[.slice none 0 0, .slice none 0 0, .slice none 0 0, .slice none 0 0] 35)).heap.size := by simp
  have k_N : (((w.alloc (.cells #[.slice A0 n.sites.length C0, .slice A1 n.sectors.length C1, .slice A2 n.antennas.length C2, .slice A3 n.radios.length C3] 35)).alloc (.cells #[.string x.name, .string x.site, .string x.antenna, .string x.radio, .string x.band, .int .i64 x.azimuth, .int .i64 x.tilt, .int .i64 x.above, .int .i64 x.channel] 49)).alloc (.cells #[.slice none 0 0, .slice none 0 0, .slice none 0 0, .slice none 0 0] 35)).heap[w.heap.size]? = some (.cells #[.slice A0 n.sites.length C0, .slice A1 n.sectors.length C1, .slice A2 n.antennas.length C2, .slice A3 n.radios.length C3] 35 (0, 0)) := by
    have h := blkN w #[.slice A0 n.sites.length C0, .slice A1 n.sectors.length C1, .slice A2 n.antennas.length C2, .slice A3 n.radios.length C3] 35
    replace h := blkA h (by first | (simp; done) | (simp; omega)) (.cells #[.string x.name, .string x.site, .string x.antenna, .string x.radio, .string x.band, .int .i64 x.azimuth, .int .i64 x.tilt, .int .i64 x.above, .int .i64 x.channel] 49)
    replace h := blkA h (by first | (simp; done) | (simp; omega)) (.cells #[.slice none 0 0, .slice none 0 0, .slice none 0 0, .slice none 0 0] 35)
    exact h
  have KN_0 := Lib.hid k_N
  have k_X : (((w.alloc (.cells #[.slice A0 n.sites.length C0, .slice A1 n.sectors.length C1, .slice A2 n.antennas.length C2, .slice A3 n.radios.length C3] 35)).alloc (.cells #[.string x.name, .string x.site, .string x.antenna, .string x.radio, .string x.band, .int .i64 x.azimuth, .int .i64 x.tilt, .int .i64 x.above, .int .i64 x.channel] 49)).alloc (.cells #[.slice none 0 0, .slice none 0 0, .slice none 0 0, .slice none 0 0] 35)).heap[w.heap.size + 1]? = some (.cells #[.string x.name, .string x.site, .string x.antenna, .string x.radio, .string x.band, .int .i64 x.azimuth, .int .i64 x.tilt, .int .i64 x.above, .int .i64 x.channel] 49 (0, 0)) := by
    have h := blkN (w.alloc (.cells #[.slice A0 n.sites.length C0, .slice A1 n.sectors.length C1, .slice A2 n.antennas.length C2, .slice A3 n.radios.length C3] 35)) #[.string x.name, .string x.site, .string x.antenna, .string x.radio, .string x.band, .int .i64 x.azimuth, .int .i64 x.tilt, .int .i64 x.above, .int .i64 x.channel] 49
    rw [show (w.alloc (.cells #[.slice A0 n.sites.length C0, .slice A1 n.sectors.length C1, .slice A2 n.antennas.length C2, .slice A3 n.radios.length C3] 35)).heap.size = w.heap.size + 1 by simp] at h
    replace h := blkA h (by first | (simp; done) | (simp; omega)) (.cells #[.slice none 0 0, .slice none 0 0, .slice none 0 0, .slice none 0 0] 35)
    exact h
  have KX_0 := Lib.hid k_X
  have k_R : (((w.alloc (.cells #[.slice A0 n.sites.length C0, .slice A1 n.sectors.length C1, .slice A2 n.antennas.length C2, .slice A3 n.radios.length C3] 35)).alloc (.cells #[.string x.name, .string x.site, .string x.antenna, .string x.radio, .string x.band, .int .i64 x.azimuth, .int .i64 x.tilt, .int .i64 x.above, .int .i64 x.channel] 49)).alloc (.cells #[.slice none 0 0, .slice none 0 0, .slice none 0 0, .slice none 0 0] 35)).heap[w.heap.size + 2]? = some (.cells #[.slice none 0 0, .slice none 0 0, .slice none 0 0, .slice none 0 0] 35 (0, 0)) := by
    have h := blkN ((w.alloc (.cells #[.slice A0 n.sites.length C0, .slice A1 n.sectors.length C1, .slice A2 n.antennas.length C2, .slice A3 n.radios.length C3] 35)).alloc (.cells #[.string x.name, .string x.site, .string x.antenna, .string x.radio, .string x.band, .int .i64 x.azimuth, .int .i64 x.tilt, .int .i64 x.above, .int .i64 x.channel] 49)) #[.slice none 0 0, .slice none 0 0, .slice none 0 0, .slice none 0 0] 35
    rw [show ((w.alloc (.cells #[.slice A0 n.sites.length C0, .slice A1 n.sectors.length C1, .slice A2 n.antennas.length C2, .slice A3 n.radios.length C3] 35)).alloc (.cells #[.string x.name, .string x.site, .string x.antenna, .string x.radio, .string x.band, .int .i64 x.azimuth, .int .i64 x.tilt, .int .i64 x.above, .int .i64 x.channel] 49)).heap.size = w.heap.size + 2 by simp] at h
    exact h
  have KR_0 := Lib.hid k_R
  clear k_N k_X k_R
  have BB_0 := Lib.hid BB0_
  clear BB0_
  go_enter Tryz.func20, Tryz.ntmps20
  go_upto_region 1 with (fail)
  generalize (((w.alloc (.cells #[.slice A0 n.sites.length C0, .slice A1 n.sectors.length C1, .slice A2 n.antennas.length C2, .slice A3 n.radios.length C3] 35)).alloc (.cells #[.string x.name, .string x.site, .string x.antenna, .string x.radio, .string x.band, .int .i64 x.azimuth, .int .i64 x.tilt, .int .i64 x.above, .int .i64 x.channel] 49)).alloc (.cells #[.slice none 0 0, .slice none 0 0, .slice none 0 0, .slice none 0 0] 35)) = W0 at *
  have fN0 := blkC (v := .slice A0 n.sites.length C0) KN_0.out 0 rfl
  have fN1 := blkC (v := .slice A1 n.sectors.length C1) KN_0.out 1 rfl
  have fN2 := blkC (v := .slice A2 n.antennas.length C2) KN_0.out 2 rfl
  have fN3 := blkC (v := .slice A3 n.radios.length C3) KN_0.out 3 rfl
  have fX0 := blkC (v := .string x.name) KX_0.out 0 rfl
  have fX1 := blkC (v := .string x.site) KX_0.out 1 rfl
  have fX2 := blkC (v := .string x.antenna) KX_0.out 2 rfl
  have fX3 := blkC (v := .string x.radio) KX_0.out 3 rfl
  have fX4 := blkC (v := .string x.band) KX_0.out 4 rfl
  have fX5 := blkC (v := .int .i64 x.azimuth) KX_0.out 5 rfl
  have fX6 := blkC (v := .int .i64 x.tilt) KX_0.out 6 rfl
  have fX7 := blkC (v := .int .i64 x.above) KX_0.out 7 rfl
  have fX8 := blkC (v := .int .i64 x.channel) KX_0.out 8 rfl
  have fR0 := blkC (v := .slice none 0 0) KR_0.out 0 rfl
  have fR1 := blkC (v := .slice none 0 0) KR_0.out 1 rfl
  have fR2 := blkC (v := .slice none 0 0) KR_0.out 2 rfl
  have fR3 := blkC (v := .slice none 0 0) KR_0.out 3 rfl
  go_wp2_with fail
  refine (l14Ok_any n _ _ _ _ w.heap.size _ ((R0.out.below BB_0.out).mono (by have := BB_0.out.size; omega)) ((R1.out.below BB_0.out).mono (by have := BB_0.out.size; omega)) ((R2.out.below BB_0.out).mono (by have := BB_0.out.size; omega)) ((R3.out.below BB_0.out).mono (by have := BB_0.out.size; omega)) (by omega) (blkC KN_0.out 0 rfl) (blkC KN_0.out 1 rfl) (blkC KN_0.out 2 rfl) (blkC KN_0.out 3 rfl) (by omega) hk_n).mono ?_
  rintro e X1 ⟨rfl, hb⟩
  clear fN0 fN1 fN2 fN3 fX0 fX1 fX2 fX3 fX4 fX5 fX6 fX7 fX8 fR0 fR1 fR2 fR3
  have KN_1 := Lib.hid (blkB KN_0.out hb (by omega))
  have KX_1 := Lib.hid (blkB KX_0.out hb (by omega))
  have KR_1 := Lib.hid (blkB KR_0.out hb (by omega))
  have BB_1 := Lib.hid (BB_0.out.trans (hb.mono (by omega)))
  have zz1 : W0.heap.size ≤ X1.heap.size := hb.size
  clear KN_0 KX_0 KR_0 BB_0 hb
  rw [hv]
  have fN0 := blkC (v := .slice A0 n.sites.length C0) KN_1.out 0 rfl
  have fN1 := blkC (v := .slice A1 n.sectors.length C1) KN_1.out 1 rfl
  have fN2 := blkC (v := .slice A2 n.antennas.length C2) KN_1.out 2 rfl
  have fN3 := blkC (v := .slice A3 n.radios.length C3) KN_1.out 3 rfl
  have fX0 := blkC (v := .string x.name) KX_1.out 0 rfl
  have fX1 := blkC (v := .string x.site) KX_1.out 1 rfl
  have fX2 := blkC (v := .string x.antenna) KX_1.out 2 rfl
  have fX3 := blkC (v := .string x.radio) KX_1.out 3 rfl
  have fX4 := blkC (v := .string x.band) KX_1.out 4 rfl
  have fX5 := blkC (v := .int .i64 x.azimuth) KX_1.out 5 rfl
  have fX6 := blkC (v := .int .i64 x.tilt) KX_1.out 6 rfl
  have fX7 := blkC (v := .int .i64 x.above) KX_1.out 7 rfl
  have fX8 := blkC (v := .int .i64 x.channel) KX_1.out 8 rfl
  have fR0 := blkC (v := .slice none 0 0) KR_1.out 0 rfl
  have fR1 := blkC (v := .slice none 0 0) KR_1.out 1 rfl
  have fR2 := blkC (v := .slice none 0 0) KR_1.out 2 rfl
  have fR3 := blkC (v := .slice none 0 0) KR_1.out 3 rfl
  go_wp2_with fail
  refine (l14Sector_any x (w.heap.size + 1) 0 _ (by have h := blkC (v := .string x.name) KX_1.out 0 rfl; simpa using h) (by have h := blkC (v := .string x.site) KX_1.out 1 rfl; simpa using h) (by have h := blkC (v := .string x.antenna) KX_1.out 2 rfl; simpa using h) (by have h := blkC (v := .string x.radio) KX_1.out 3 rfl; simpa using h) (by have h := blkC (v := .string x.band) KX_1.out 4 rfl; simpa using h) (by have h := blkC (v := .int .i64 x.azimuth) KX_1.out 5 rfl; simpa using h) (by have h := blkC (v := .int .i64 x.tilt) KX_1.out 6 rfl; simpa using h) (by have h := blkC (v := .int .i64 x.above) KX_1.out 7 rfl; simpa using h) (by have h := blkC (v := .int .i64 x.channel) KX_1.out 8 rfl; simpa using h) hko.name hko.site hko.antenna hko.radio hko.band).mono ?_
  rintro e X2 ⟨rfl, hb⟩
  clear fN0 fN1 fN2 fN3 fX0 fX1 fX2 fX3 fX4 fX5 fX6 fX7 fX8 fR0 fR1 fR2 fR3
  have KN_2 := Lib.hid (blkB KN_1.out hb (by omega))
  have KX_2 := Lib.hid (blkB KX_1.out hb (by omega))
  have KR_2 := Lib.hid (blkB KR_1.out hb (by omega))
  have BB_2 := Lib.hid (BB_1.out.trans (hb.mono (by omega)))
  have zz2 : X1.heap.size ≤ X2.heap.size := hb.size
  clear KN_1 KX_1 KR_1 BB_1 hb
  rw [hx]
  have fN0 := blkC (v := .slice A0 n.sites.length C0) KN_2.out 0 rfl
  have fN1 := blkC (v := .slice A1 n.sectors.length C1) KN_2.out 1 rfl
  have fN2 := blkC (v := .slice A2 n.antennas.length C2) KN_2.out 2 rfl
  have fN3 := blkC (v := .slice A3 n.radios.length C3) KN_2.out 3 rfl
  have fX0 := blkC (v := .string x.name) KX_2.out 0 rfl
  have fX1 := blkC (v := .string x.site) KX_2.out 1 rfl
  have fX2 := blkC (v := .string x.antenna) KX_2.out 2 rfl
  have fX3 := blkC (v := .string x.radio) KX_2.out 3 rfl
  have fX4 := blkC (v := .string x.band) KX_2.out 4 rfl
  have fX5 := blkC (v := .int .i64 x.azimuth) KX_2.out 5 rfl
  have fX6 := blkC (v := .int .i64 x.tilt) KX_2.out 6 rfl
  have fX7 := blkC (v := .int .i64 x.above) KX_2.out 7 rfl
  have fX8 := blkC (v := .int .i64 x.channel) KX_2.out 8 rfl
  have fR0 := blkC (v := .slice none 0 0) KR_2.out 0 rfl
  have fR1 := blkC (v := .slice none 0 0) KR_2.out 1 rfl
  have fR2 := blkC (v := .slice none 0 0) KR_2.out 2 rfl
  have fR3 := blkC (v := .slice none 0 0) KR_2.out 3 rfl
  go_wp2_with fail
  refine (l14Find_any n.sectors x.name _ w.heap.size w.heap.size _ (R1.out.below BB_2.out) (by have := BB_2.out.size; omega) (blkC KN_2.out 1 rfl) (by omega)).mono ?_
  rintro e _ ⟨rfl, rfl⟩
  clear fN0 fN1 fN2 fN3 fX0 fX1 fX2 fX3 fX4 fX5 fX6 fX7 fX8 fR0 fR1 fR2 fR3
  rw [HI.out]
  have hneg : decide ((k : Int) < 0) = false := by simp
  have fN0 := blkC (v := .slice A0 n.sites.length C0) KN_2.out 0 rfl
  have fN1 := blkC (v := .slice A1 n.sectors.length C1) KN_2.out 1 rfl
  have fN2 := blkC (v := .slice A2 n.antennas.length C2) KN_2.out 2 rfl
  have fN3 := blkC (v := .slice A3 n.radios.length C3) KN_2.out 3 rfl
  have fX0 := blkC (v := .string x.name) KX_2.out 0 rfl
  have fX1 := blkC (v := .string x.site) KX_2.out 1 rfl
  have fX2 := blkC (v := .string x.antenna) KX_2.out 2 rfl
  have fX3 := blkC (v := .string x.radio) KX_2.out 3 rfl
  have fX4 := blkC (v := .string x.band) KX_2.out 4 rfl
  have fX5 := blkC (v := .int .i64 x.azimuth) KX_2.out 5 rfl
  have fX6 := blkC (v := .int .i64 x.tilt) KX_2.out 6 rfl
  have fX7 := blkC (v := .int .i64 x.above) KX_2.out 7 rfl
  have fX8 := blkC (v := .int .i64 x.channel) KX_2.out 8 rfl
  have fR0 := blkC (v := .slice none 0 0) KR_2.out 0 rfl
  have fR1 := blkC (v := .slice none 0 0) KR_2.out 1 rfl
  have fR2 := blkC (v := .slice none 0 0) KR_2.out 2 rfl
  have fR3 := blkC (v := .slice none 0 0) KR_2.out 3 rfl
  go_wp2_with fail
  refine (l14Refers_any n x _ _ _ w.heap.size (w.heap.size + 1) 0 w.heap.size _ (R0.out.below BB_2.out) (R2.out.below BB_2.out) (R3.out.below BB_2.out) (by have := BB_2.out.size; omega) (blkC KN_2.out 0 rfl) (blkC KN_2.out 2 rfl) (blkC KN_2.out 3 rfl) (by have h := blkC (v := .string x.site) KX_2.out 1 rfl; simpa using h) (by have h := blkC (v := .string x.antenna) KX_2.out 2 rfl; simpa using h) (by have h := blkC (v := .string x.radio) KX_2.out 3 rfl; simpa using h) (by omega) (by omega) (by omega)).mono ?_
  rintro e _ ⟨rfl, rfl⟩
  clear fN0 fN1 fN2 fN3 fX0 fX1 fX2 fX3 fX4 fX5 fX6 fX7 fX8 fR0 fR1 fR2 fR3
  rw [hp]
  have fN0 := blkC (v := .slice A0 n.sites.length C0) KN_2.out 0 rfl
  have fN1 := blkC (v := .slice A1 n.sectors.length C1) KN_2.out 1 rfl
  have fN2 := blkC (v := .slice A2 n.antennas.length C2) KN_2.out 2 rfl
  have fN3 := blkC (v := .slice A3 n.radios.length C3) KN_2.out 3 rfl
  have fX0 := blkC (v := .string x.name) KX_2.out 0 rfl
  have fX1 := blkC (v := .string x.site) KX_2.out 1 rfl
  have fX2 := blkC (v := .string x.antenna) KX_2.out 2 rfl
  have fX3 := blkC (v := .string x.radio) KX_2.out 3 rfl
  have fX4 := blkC (v := .string x.band) KX_2.out 4 rfl
  have fX5 := blkC (v := .int .i64 x.azimuth) KX_2.out 5 rfl
  have fX6 := blkC (v := .int .i64 x.tilt) KX_2.out 6 rfl
  have fX7 := blkC (v := .int .i64 x.above) KX_2.out 7 rfl
  have fX8 := blkC (v := .int .i64 x.channel) KX_2.out 8 rfl
  have fR0 := blkC (v := .slice none 0 0) KR_2.out 0 rfl
  have fR1 := blkC (v := .slice none 0 0) KR_2.out 1 rfl
  have fR2 := blkC (v := .slice none 0 0) KR_2.out 2 rfl
  have fR3 := blkC (v := .slice none 0 0) KR_2.out 3 rfl
  go_wp2_with fail
  refine (l14Own_any n _ _ _ _ w.heap.size _ ((R0.out.below BB_2.out).mono (by have := BB_2.out.size; omega)) ((R1.out.below BB_2.out).mono (by have := BB_2.out.size; omega)) ((R2.out.below BB_2.out).mono (by have := BB_2.out.size; omega)) ((R3.out.below BB_2.out).mono (by have := BB_2.out.size; omega)) (by omega) (blkC KN_2.out 0 rfl) (blkC KN_2.out 1 rfl) (blkC KN_2.out 2 rfl) (blkC KN_2.out 3 rfl) hs_n).mono ?_
  rintro e X3 ⟨a0, c0, a1, c1, a2, c2, a3, c3, fp, rfl, hb, ov, iv_⟩
  clear fN0 fN1 fN2 fN3 fX0 fX1 fX2 fX3 fX4 fX5 fX6 fX7 fX8 fR0 fR1 fR2 fR3
  have KN_3 := Lib.hid (blkB KN_2.out hb (by omega))
  have KX_3 := Lib.hid (blkB KX_2.out hb (by omega))
  have KR_3 := Lib.hid (blkB KR_2.out hb (by omega))
  have BB_3 := Lib.hid (BB_2.out.trans (hb.mono (by omega)))
  have zz3 : X2.heap.size ≤ X3.heap.size := hb.size
  clear KN_2 KX_2 KR_2 BB_2 hb
  clear hneg
  obtain ⟨f0, f1, f2, f3, fpm, O0, O1, O2, O3, d0, d1, d2⟩ := netSplit ov
  have iv : In (w.heap.size + 3) X3.heap.size fp := iv_.mono (by omega) (Nat.le_refl _)
  clear ov iv_
  have fN0 := blkC (v := .slice A0 n.sites.length C0) KN_3.out 0 rfl
  have fN1 := blkC (v := .slice A1 n.sectors.length C1) KN_3.out 1 rfl
  have fN2 := blkC (v := .slice A2 n.antennas.length C2) KN_3.out 2 rfl
  have fN3 := blkC (v := .slice A3 n.radios.length C3) KN_3.out 3 rfl
  have fX0 := blkC (v := .string x.name) KX_3.out 0 rfl
  have fX1 := blkC (v := .string x.site) KX_3.out 1 rfl
  have fX2 := blkC (v := .string x.antenna) KX_3.out 2 rfl
  have fX3 := blkC (v := .string x.radio) KX_3.out 3 rfl
  have fX4 := blkC (v := .string x.band) KX_3.out 4 rfl
  have fX5 := blkC (v := .int .i64 x.azimuth) KX_3.out 5 rfl
  have fX6 := blkC (v := .int .i64 x.tilt) KX_3.out 6 rfl
  have fX7 := blkC (v := .int .i64 x.above) KX_3.out 7 rfl
  have fX8 := blkC (v := .int .i64 x.channel) KX_3.out 8 rfl
  have fR0 := blkC (v := .slice none 0 0) KR_3.out 0 rfl
  have fR1 := blkC (v := .slice none 0 0) KR_3.out 1 rfl
  have fR2 := blkC (v := .slice none 0 0) KR_3.out 2 rfl
  have fR3 := blkC (v := .slice none 0 0) KR_3.out 3 rfl
  go_upto_region 7 with (fail)
  clear fN0 fN1 fN2 fN3 fX0 fX1 fX2 fX3 fX4 fX5 fX6 fX7 fX8 fR0 fR1 fR2 fR3
  have hbA : Below X3.heap.size X3 (X3.alloc (.cells #[.slice a0 n.sites.length c0, .slice a1 n.sectors.length c1, .slice a2 n.antennas.length c2, .slice a3 n.radios.length c3] 35)) := (Below.refl _ _).alloc (Nat.le_refl _) _
  have kL := blkN X3 #[.slice a0 n.sites.length c0, .slice a1 n.sectors.length c1, .slice a2 n.antennas.length c2, .slice a3 n.radios.length c3] 35
  have zL : X3.heap.size + 1 ≤ (X3.alloc (.cells #[.slice a0 n.sites.length c0, .slice a1 n.sectors.length c1, .slice a2 n.antennas.length c2, .slice a3 n.radios.length c3] 35)).heap.size := by simp
  have P0 := Lib.hid (O0.below (lo := w.heap.size + 3) (hi := X3.heap.size) (fun y hy => iv y ((fpm y).2 (by simp [hy]))) (Nat.le_refl _) hbA)
  have P1 := Lib.hid (O1.below (lo := w.heap.size + 3) (hi := X3.heap.size) (fun y hy => iv y ((fpm y).2 (by simp [hy]))) (Nat.le_refl _) hbA)
  have P2 := Lib.hid (O2.below (lo := w.heap.size + 3) (hi := X3.heap.size) (fun y hy => iv y ((fpm y).2 (by simp [hy]))) (Nat.le_refl _) hbA)
  have P3 := Lib.hid (O3.below (lo := w.heap.size + 3) (hi := X3.heap.size) (fun y hy => iv y ((fpm y).2 (by simp [hy]))) (Nat.le_refl _) hbA)
  generalize (X3.alloc (.cells #[.slice a0 n.sites.length c0, .slice a1 n.sectors.length c1, .slice a2 n.antennas.length c2, .slice a3 n.radios.length c3] 35)) = Y at *
  have KL_4 := Lib.hid kL
  clear kL
  have KN_4 := Lib.hid (blkB KN_3.out hbA (by omega))
  have KX_4 := Lib.hid (blkB KX_3.out hbA (by omega))
  have KR_4 := Lib.hid (blkB KR_3.out hbA (by omega))
  have BB_4 := Lib.hid (BB_3.out.trans (hbA.mono (by omega)))
  have zz4 : X3.heap.size ≤ Y.heap.size := hbA.size
  clear KN_3 KX_3 KR_3 BB_3 hbA
  obtain ⟨b, off, ea, hbf, hcells⟩ := P1.out.elem9 (k := k) hk
  subst ea
  obtain ⟨s0, s1, s2, s3, s4, s5, s6, s7, s8, sz⟩ := hcells
  have hbi := iv b ((fpm b).2 (by simp [hbf]))
  have i1 : (0 : Int) ≤ (k : Int) := by omega
  have i2 : (k : Int) < (n.sectors.length : Int) := by omega
  have o1 := P1.out.set9 hk x
  have ch : Chg f1 Y (setRow Y b (off + k * 9) [.string x.name, .string x.site, .string x.antenna, .string x.radio, .string x.band, .int .i64 x.azimuth, .int .i64 x.tilt, .int .i64 x.above, .int .i64 x.channel]) := Chg.setRow (Chg.refl _ _) hbf _ _
  have o0 := P0.out.chg (lo := w.heap.size + 3) (hi := X3.heap.size) (fun y hy => iv y ((fpm y).2 (by simp [hy]))) (by omega) ch (fun y hy => (d0 y hy).1)
  have o2 := P2.out.chg (lo := w.heap.size + 3) (hi := X3.heap.size) (fun y hy => iv y ((fpm y).2 (by simp [hy]))) (by omega) ch (fun y hy h => (d1 y h).1 hy)
  have o3 := P3.out.chg (lo := w.heap.size + 3) (hi := X3.heap.size) (fun y hy => iv y ((fpm y).2 (by simp [hy]))) (by omega) ch (fun y hy h => (d1 y h).2 hy)
  have ov := netJoin (n := { n with sectors := n.sectors.set k x }) o0 o1 o2 o3 d0 d1 d2
  have bw : Below w.heap.size w (setRow Y b (off + k * 9) [.string x.name, .string x.site, .string x.antenna, .string x.radio, .string x.band, .int .i64 x.azimuth, .int .i64 x.tilt, .int .i64 x.above, .int .i64 x.channel]) := BB_4.out.trans (ch.below (by omega) (fun y hy => by have := (iv y ((fpm y).2 (by simp [hy]))).1; omega))
  have ivf : In (w.heap.size + 3) Y.heap.size (f0 ++ (f1 ++ (f2 ++ (f3 ++ [])))) := fun y hy => by
    have h := iv y ((fpm y).2 (by simpa using hy))
    omega
  have BF := Lib.hid (((((bw).setCell (p := ⟨w.heap.size + 2, 0, none⟩) (by show w.heap.size ≤ w.heap.size + 2; omega) (.slice a0 n.sites.length c0)).setCell (p := ⟨w.heap.size + 2, 1, none⟩) (by show w.heap.size ≤ w.heap.size + 2; omega) (.slice (some ⟨b, off, none⟩) n.sectors.length c1)).setCell (p := ⟨w.heap.size + 2, 2, none⟩) (by show w.heap.size ≤ w.heap.size + 2; omega) (.slice a2 n.antennas.length c2)).setCell (p := ⟨w.heap.size + 2, 3, none⟩) (by show w.heap.size ≤ w.heap.size + 2; omega) (.slice a3 n.radios.length c3))
  have OF := Lib.hid (((((ov).setFar (p := ⟨w.heap.size + 2, 0, none⟩) (fun e => by have := (ivf _ e).1; simp only at this; omega) (.slice a0 n.sites.length c0)).setFar (p := ⟨w.heap.size + 2, 1, none⟩) (fun e => by have := (ivf _ e).1; simp only at this; omega) (.slice (some ⟨b, off, none⟩) n.sectors.length c1)).setFar (p := ⟨w.heap.size + 2, 2, none⟩) (fun e => by have := (ivf _ e).1; simp only at this; omega) (.slice a2 n.antennas.length c2)).setFar (p := ⟨w.heap.size + 2, 3, none⟩) (fun e => by have := (ivf _ e).1; simp only at this; omega) (.slice a3 n.radios.length c3))
  have IVF := Lib.hid ivf
  have hne1 : b ≠ w.heap.size := by omega
  have hne2 : b ≠ w.heap.size + 1 := by omega
  have hne3 : b ≠ w.heap.size + 2 := by omega
  have hne4 : b ≠ X3.heap.size := by omega
  clear o0 o1 o2 o3 ch ov bw ivf d0 d1 d2 fpm iv P0 P1 P2 P3 hbf
  have fX0 := blkC (v := .string x.name) KX_4.out 0 rfl
  have fX1 := blkC (v := .string x.site) KX_4.out 1 rfl
  have fX2 := blkC (v := .string x.antenna) KX_4.out 2 rfl
  have fX3 := blkC (v := .string x.radio) KX_4.out 3 rfl
  have fX4 := blkC (v := .string x.band) KX_4.out 4 rfl
  have fX5 := blkC (v := .int .i64 x.azimuth) KX_4.out 5 rfl
  have fX6 := blkC (v := .int .i64 x.tilt) KX_4.out 6 rfl
  have fX7 := blkC (v := .int .i64 x.above) KX_4.out 7 rfl
  have fX8 := blkC (v := .int .i64 x.channel) KX_4.out 8 rfl
  have fR0 := blkC (v := .slice none 0 0) KR_4.out 0 rfl
  have fR1 := blkC (v := .slice none 0 0) KR_4.out 1 rfl
  have fR2 := blkC (v := .slice none 0 0) KR_4.out 2 rfl
  have fR3 := blkC (v := .slice none 0 0) KR_4.out 3 rfl
  have zR := blkF KR_4.out
  have fL0 := blkC (v := .slice a0 n.sites.length c0) KL_4.out 0 rfl
  have fL1 := blkC (v := .slice (some ⟨b, off, none⟩) n.sectors.length c1) KL_4.out 1 rfl
  have fL2 := blkC (v := .slice a2 n.antennas.length c2) KL_4.out 2 rfl
  have fL3 := blkC (v := .slice a3 n.radios.length c3) KL_4.out 3 rfl
  go_wp2
  refine bodyPost_ret (v := .tuple #[.agg #[.slice a0 n.sites.length c0, .slice (some ⟨b, off, none⟩) n.sectors.length c1, .slice a2 n.antennas.length c2, .slice a3 n.radios.length c3], .int .i64 0]) (by simp [results, Tryz.results20, go_sem, *]) rfl ?_
  rw [HE.out]
  simp only [List.length_set]
  refine ⟨a0, c0, some ⟨b, off, none⟩, c1, a2, c2, a3, c3, _, rfl, BF.out, OF.out, ?_⟩
  simp only [size_setCell]
  exact IVF.out.mono (by omega) (Nat.le_refl _)
end Go.Proofs.YtppgcgopnchbcaaGreat
