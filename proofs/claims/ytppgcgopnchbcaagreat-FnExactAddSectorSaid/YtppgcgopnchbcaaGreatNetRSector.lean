/- Contract: AddSector of the program. Conditions: bounded lengths. -/
import Derived.Test.YtppgcgopnchbcaaGreatNet9Q
import Derived.Test.YtppgcgopnchbcaaGreatPos
import Derived.Test.YtppgcgopnchbcaaGreatInsSector
import Derived.Test.YtppgcgopnchbcaaGreatBinSector
import Derived.Deep.DeepCutAuto
namespace Go.Proofs.YtppgcgopnchbcaaGreat
open Go.RowKit
set_option linter.unusedVariables false

theorem ownsRow_ownB {w : World} {base E k n lo : Nat} {v : Value} {xs : List Value} (h : w.ownsRow base E k v n xs) (hk : 0 < k) (hlo : lo ≤ base) : ∃ fp, Own w (.sl k (xs.map .lit)) v fp ∧ In lo w.heap.size fp ∧ ∀ x ∈ fp, v.ownBlock = some x := by
  obtain ⟨fp, h1, h2, h3⟩ := Grow.toOwnB (f := []) ⟨⟨xs, h, RepV_lits w xs⟩, List.nodup_nil, fun b h => by simp at h, fun g _ => by simp⟩ hk In.nil hlo
  exact ⟨fp, h1, h2, fun x hx => by rcases h3 x hx with e | e; exact e; simp at e⟩
/-- AddSector -/
def addSecR (n : DNetwork) (x : DSector) : DNetwork × Int := if netB n = true then (if sectorB x = true then (if refersB n x = true then (if idxSector n.sectors x.name = -1 then (if n.sectors.length = 24 then (⟨[], [], [], []⟩, 5) else ({ n with sectors := insAt n.sectors x (posOf DSector.name n.sectors x.name) }, 0)) else (⟨[], [], [], []⟩, 4)) else (⟨[], [], [], []⟩, 3)) else (⟨[], [], [], []⟩, 1)) else (⟨[], [], [], []⟩, 1)
section
variable {n : DNetwork} {x : DSector}
theorem addSecR_bad (h : netB n = false) : addSecR n x = (⟨[], [], [], []⟩, 1) := by unfold addSecR; rw [if_neg (by simp [h])]
theorem addSecR_bad2 (h : netB n = true) (h2 : sectorB x = false) : addSecR n x = (⟨[], [], [], []⟩, 1) := by unfold addSecR; rw [if_pos h, if_neg (by simp [h2])]
theorem addSecR_parts (h : netB n = true) (h2 : sectorB x = true) (hr : refersB n x = false) : addSecR n x = (⟨[], [], [], []⟩, 3) := by unfold addSecR; rw [if_pos h, if_pos h2, if_neg (by simp [hr])]
theorem addSecR_there (h : netB n = true) (h2 : sectorB x = true) (hr : refersB n x = true) {k : Nat} (hi : idxSector n.sectors x.name = (k : Int)) : addSecR n x = (⟨[], [], [], []⟩, 4) := by unfold addSecR; rw [if_pos h, if_pos h2, if_pos hr, if_neg (by omega)]
theorem addSecR_full (h : netB n = true) (h2 : sectorB x = true) (hr : refersB n x = true) (hi : idxSector n.sectors x.name = -1) (hl : n.sectors.length = 24) : addSecR n x = (⟨[], [], [], []⟩, 5) := by unfold addSecR; rw [if_pos h, if_pos h2, if_pos hr, if_pos hi, if_pos hl]
theorem addSecR_ok (h : netB n = true) (h2 : sectorB x = true) (hr : refersB n x = true) (hi : idxSector n.sectors x.name = -1) (hl : ¬ n.sectors.length = 24) : addSecR n x = ({ n with sectors := insAt n.sectors x (posOf DSector.name n.sectors x.name) }, 0) := by unfold addSecR; rw [if_pos h, if_pos h2, if_pos hr, if_pos hi, if_neg hl]
end
set_option maxHeartbeats 8000000 in
set_option maxRecDepth 100000 in
theorem iAddSector_std (n : DNetwork) (x : DSector) (vn0 vn1 vn2 vn3 : Value) (w : World) (rn0 : Rd w.heap.size w (DSite.sT n.sites) vn0) (rn1 : Rd w.heap.size w (DSector.sT n.sectors) vn1) (rn2 : Rd w.heap.size w (DAntenna.sT n.antennas) vn2) (rn3 : Rd w.heap.size w (DRadio.sT n.radios) vn3) (hs_n : sizL n.tr ≤ 1048576) (hk_n : n.ok) (hs_x : sizL x.tr ≤ 1048576) (hk_x : x.ok) :
    Calls Tryz.prog 32 #[.agg #[vn0, vn1, vn2, vn3], .agg #[.string x.name, .string x.site, .string x.antenna, .string x.radio, .string x.band, .int .i64 x.azimuth, .int .i64 x.tilt, .int .i64 x.above, .int .i64 x.channel]] w (fun e w' => ∃ a0_0 c0_0 a0_1 c0_1 a0_2 c0_2 a0_3 c0_3 fp0, e = .returned (.tuple #[.agg #[.slice a0_0 (addSecR n x).1.sites.length c0_0, .slice a0_1 (addSecR n x).1.sectors.length c0_1, .slice a0_2 (addSecR n x).1.antennas.length c0_2, .slice a0_3 (addSecR n x).1.radios.length c0_3], .int .i64 (addSecR n x).2]) ∧ Below w.heap.size w w' ∧ OwnV w' (addSecR n x).1.tr [.slice a0_0 (addSecR n x).1.sites.length c0_0, .slice a0_1 (addSecR n x).1.sectors.length c0_1, .slice a0_2 (addSecR n x).1.antennas.length c0_2, .slice a0_3 (addSecR n x).1.radios.length c0_3] fp0 ∧ In w.heap.size w'.heap.size fp0) := by
  have hq := DNetwork.siz_tr n
  rw [DSite.siz_s, DSector.siz_s, DAntenna.siz_s, DRadio.siz_s] at hq
  obtain ⟨A0, C0, e0, -, -, -⟩ := DSite.rd rn0
  obtain ⟨A1, C1, e1, -, -, -⟩ := DSector.rd rn1
  obtain ⟨A2, C2, e2, -, -, -⟩ := DAntenna.rd rn2
  obtain ⟨A3, C3, e3, -, -, -⟩ := DRadio.rd rn3
  subst e0 e1 e2 e3
  have R0 := Lib.hid rn0
  have R1 := Lib.hid rn1
  have R2 := Lib.hid rn2
  have R3 := Lib.hid rn3
  clear rn0 rn1 rn2 rn3
  have hko := hk_x
  by_cases hv : netB n = true
  case neg =>
    replace hv : netB n = false := Bool.eq_false_iff.2 hv
    have HE := Lib.hid (addSecR_bad (x := x) hv)
    have BB0_ : Below w.heap.size w (((w.alloc (.cells #[.slice A0 n.sites.length C0, .slice A1 n.sectors.length C1, .slice A2 n.antennas.length C2, .slice A3 n.radios.length C3] 35)).alloc (.cells #[.string x.name, .string x.site, .string x.antenna, .string x.radio, .string x.band, .int .i64 x.azimuth, .int .i64 x.tilt, .int .i64 x.above, .int .i64 x.channel] 49)).alloc (.cells #[.slice none 0 0, .slice none 0 0, .slice none 0 0, .slice none 0 0] 35)) := Below.alloc (Below.alloc (Below.alloc (Below.refl _ _) (by first | exact Nat.le_refl _ | (simp; done) | (simp; omega)) _) (by first | exact Nat.le_refl _ | (simp; done) | (simp; omega)) _) (by first | exact Nat.le_refl _ | (simp; done) | (simp; omega)) _
    have zz0 : w.heap.size + 3 ≤ (((w.alloc (.cells #[.slice A0 n.sites.length C0, .slice A1 n.sectors.length C1, .slice A2 n.antennas.length C2, .slice A3 n.radios.length C3] 35)).alloc (.cells #[.string x.name, .string x.site, .string x.antenna, .string x.radio, .string x.band, .int .i64 x.azimuth, .int .i64 x.tilt, .int .i64 x.above, .int .i64 x.channel] 49)).alloc (.cells #[.slice none 0 0, .slice none 0 0, .slice none 0 0, .slice none 0 0] 35)).heap.size := by simp
    have k_N : (((w.alloc (.cells #[.slice A0 n.sites.length C0, .slice A1 n.sectors.length C1, .slice A2 n.antennas.length C2, .slice A3 n.radios.length C3] 35)).alloc (.cells #[.string x.name, .string x.site, .string x.antenna, .string x.radio, .string x.band, .int .i64 x.azimuth, .int .i64 x.tilt, .int .i64 x.above, .int .i64 x.channel] 49)).alloc (.cells #[.slice none 0 0, .slice none 0 0, .slice none 0 0, .slice none 0 0] 35)).heap[w.heap.size]? = some (.cells #[.slice A0 n.sites.length C0, .slice A1 n.sectors.length C1, .slice A2 n.antennas.length C2, .slice A3 n.radios.length C3] 35 (0, 0)) := by
      have h := blkN w #[.slice A0 n.sites.length C0, .slice A1 n.sectors.length C1, .slice A2 n.antennas.length C2, .slice A3 n.radios.length C3] 35
      replace h := blkA h (by first | (simp; done) | (simp; omega)) (.cells #[.string x.name, .string x.site, .string x.antenna, .string x.radio, .string x.band, .int .i64 x.azimuth, .int .i64 x.tilt, .int .i64 x.above, .int .i64 x.channel] 49)
      replace h := blkA h (by first | (simp; done) | (simp; omega)) (.cells #[.slice none 0 0, .slice none 0 0, .slice none 0 0, .slice none 0 0] 35)
      exact h
    have KN_0 := Lib.hid k_N
    have k_X : (((w.alloc (.cells #[.slice A0 n.sites.length C0, .slice A1 n.sectors.length C1, .slice A2 n.antennas.length C2, .slice A3 n.radios.length C3] 35)).alloc (.cells #[.string x.name, .string x.site, .string x.antenna, .string x.radio, .string x.band, .int .i64 x.azimuth, .int .i64 x.tilt, .int .i64 x.above, .int .i64 x.channel] 49)).alloc (.cells #[.slice none 0 0, .slice none 0 0, .slice none 0 0, .slice none 0 0] 35)).heap[w.heap.size + 1]? = some (.cells #[.string x.name, .string x.site, .string x.antenna, .string x.radio, .string x.band, .int .i64 x.azimuth, .int .i64 x.tilt, .int .i64 x.above, .int .i64 x.channel] 49 (0, 0)) := by
      have h := blkN (w.alloc (.cells #[.slice A0 n.sites.length C0, .slice A1 n.sectors.length C1, .slice A2 n.antennas.length C2, .slice A3 n.radios.length C3] 35)) #[.string x.name, .string x.site, .string x.antenna, .string x.radio, .string x.band, .int .i64 x.azimuth, .int .i64 x.tilt, .int .i64 x.above, .int .i64 x.channel] 49
      rw [show (w.alloc (.cells #[.slice A0 n.sites.length C0, .slice A1 n.sectors.length C1, .slice A2 n.antennas.length C2, .slice A3 n.radios.length C3] 35)).heap.size = w.heap.size + 1 by simp] at h
      replace h := blkA h (by first | (simp; done) | (simp; omega)) (.cells #[.slice none 0 0, .slice none 0 0, .slice none 0 0, .slice none 0 0] 35)
      exact h
    have KX_0 := Lib.hid k_X
    have k_R : (((w.alloc (.cells #[.slice A0 n.sites.length C0, .slice A1 n.sectors.length C1, .slice A2 n.antennas.length C2, .slice A3 n.radios.length C3] 35)).alloc (.cells #[.string x.name, .string x.site, .string x.antenna, .string x.radio, .string x.band, .int .i64 x.azimuth, .int .i64 x.tilt, .int .i64 x.above, .int .i64 x.channel] 49)).alloc (.cells #[.slice none 0 0, .slice none 0 0, .slice none 0 0, .slice none 0 0] 35)).heap[w.heap.size + 2]? = some (.cells #[.slice none 0 0, .slice none 0 0, .slice none 0 0, .slice none 0 0] 35 (0, 0)) := by
      have h := blkN ((w.alloc (.cells #[.slice A0 n.sites.length C0, .slice A1 n.sectors.length C1, .slice A2 n.antennas.length C2, .slice A3 n.radios.length C3] 35)).alloc (.cells #[.string x.name, .string x.site, .string x.antenna, .string x.radio, .string x.band, .int .i64 x.azimuth, .int .i64 x.tilt, .int .i64 x.above, .int .i64 x.channel] 49)) #[.slice none 0 0, .slice none 0 0, .slice none 0 0, .slice none 0 0] 35
      rw [show ((w.alloc (.cells #[.slice A0 n.sites.length C0, .slice A1 n.sectors.length C1, .slice A2 n.antennas.length C2, .slice A3 n.radios.length C3] 35)).alloc (.cells #[.string x.name, .string x.site, .string x.antenna, .string x.radio, .string x.band, .int .i64 x.azimuth, .int .i64 x.tilt, .int .i64 x.above, .int .i64 x.channel] 49)).heap.size = w.heap.size + 2 by simp] at h
      exact h
    have KR_0 := Lib.hid k_R
    clear k_N k_X k_R
    have BB_0 := Lib.hid BB0_
    clear BB0_
    go_enter Tryz.func32, Tryz.ntmps32
    go_upto_region 1 with (fail)
    generalize (((w.alloc (.cells #[.slice A0 n.sites.length C0, .slice A1 n.sectors.length C1, .slice A2 n.antennas.length C2, .slice A3 n.radios.length C3] 35)).alloc (.cells #[.string x.name, .string x.site, .string x.antenna, .string x.radio, .string x.band, .int .i64 x.azimuth, .int .i64 x.tilt, .int .i64 x.above, .int .i64 x.channel] 49)).alloc (.cells #[.slice none 0 0, .slice none 0 0, .slice none 0 0, .slice none 0 0] 35)) = W0 at *
    have fN0 := blkC (v := .slice A0 n.sites.length C0) KN_0.out 0 rfl
    have fN1 := blkC (v := .slice A1 n.sectors.length C1) KN_0.out 1 rfl
    have fN2 := blkC (v := .slice A2 n.antennas.length C2) KN_0.out 2 rfl
    have fN3 := blkC (v := .slice A3 n.radios.length C3) KN_0.out 3 rfl
    have fX0 := blkC (v := .string x.name) KX_0.out 0 rfl
    have fX1 := blkC (v := .string x.site) KX_0.out 1 rfl
    have fX2 := blkC (v := .string x.antenna) KX_0.out 2 rfl
    have fX3 := blkC (v := .string x.radio) KX_0.out 3 rfl
    have fX4 := blkC (v := .string x.band) KX_0.out 4 rfl
    have fX5 := blkC (v := .int .i64 x.azimuth) KX_0.out 5 rfl
    have fX6 := blkC (v := .int .i64 x.tilt) KX_0.out 6 rfl
    have fX7 := blkC (v := .int .i64 x.above) KX_0.out 7 rfl
    have fX8 := blkC (v := .int .i64 x.channel) KX_0.out 8 rfl
    have fR0 := blkC (v := .slice none 0 0) KR_0.out 0 rfl
    have fR1 := blkC (v := .slice none 0 0) KR_0.out 1 rfl
    have fR2 := blkC (v := .slice none 0 0) KR_0.out 2 rfl
    have fR3 := blkC (v := .slice none 0 0) KR_0.out 3 rfl
    go_wp2_with fail
    refine (validNetwork_any n _ _ _ _ _ ((R0.out.below BB_0.out).mono (by have := BB_0.out.size; omega)) ((R1.out.below BB_0.out).mono (by have := BB_0.out.size; omega)) ((R2.out.below BB_0.out).mono (by have := BB_0.out.size; omega)) ((R3.out.below BB_0.out).mono (by have := BB_0.out.size; omega)) (by omega) hk_n).mono ?_
    rintro e X1 ⟨rfl, hb⟩
    clear fN0 fN1 fN2 fN3 fX0 fX1 fX2 fX3 fX4 fX5 fX6 fX7 fX8 fR0 fR1 fR2 fR3
    have KN_1 := Lib.hid (blkB KN_0.out hb (by omega))
    have KX_1 := Lib.hid (blkB KX_0.out hb (by omega))
    have KR_1 := Lib.hid (blkB KR_0.out hb (by omega))
    have BB_1 := Lib.hid (BB_0.out.trans (hb.mono (by omega)))
    have zz1 : W0.heap.size ≤ X1.heap.size := hb.size
    clear KN_0 KX_0 KR_0 BB_0 hb
    rw [hv]
    have fN0 := blkC (v := .slice A0 n.sites.length C0) KN_1.out 0 rfl
    have fN1 := blkC (v := .slice A1 n.sectors.length C1) KN_1.out 1 rfl
    have fN2 := blkC (v := .slice A2 n.antennas.length C2) KN_1.out 2 rfl
    have fN3 := blkC (v := .slice A3 n.radios.length C3) KN_1.out 3 rfl
    have fX0 := blkC (v := .string x.name) KX_1.out 0 rfl
    have fX1 := blkC (v := .string x.site) KX_1.out 1 rfl
    have fX2 := blkC (v := .string x.antenna) KX_1.out 2 rfl
    have fX3 := blkC (v := .string x.radio) KX_1.out 3 rfl
    have fX4 := blkC (v := .string x.band) KX_1.out 4 rfl
    have fX5 := blkC (v := .int .i64 x.azimuth) KX_1.out 5 rfl
    have fX6 := blkC (v := .int .i64 x.tilt) KX_1.out 6 rfl
    have fX7 := blkC (v := .int .i64 x.above) KX_1.out 7 rfl
    have fX8 := blkC (v := .int .i64 x.channel) KX_1.out 8 rfl
    have fR0 := blkC (v := .slice none 0 0) KR_1.out 0 rfl
    have fR1 := blkC (v := .slice none 0 0) KR_1.out 1 rfl
    have fR2 := blkC (v := .slice none 0 0) KR_1.out 2 rfl
    have fR3 := blkC (v := .slice none 0 0) KR_1.out 3 rfl
    have zR := blkF KR_1.out
    go_wp2
    have BF := Lib.hid (((((BB_1.out).setCell (p := ⟨w.heap.size + 2, 0, none⟩) (by show w.heap.size ≤ w.heap.size + 2; omega) (.slice none 0 0)).setCell (p := ⟨w.heap.size + 2, 1, none⟩) (by show w.heap.size ≤ w.heap.size + 2; omega) (.slice none 0 0)).setCell (p := ⟨w.heap.size + 2, 2, none⟩) (by show w.heap.size ≤ w.heap.size + 2; omega) (.slice none 0 0)).setCell (p := ⟨w.heap.size + 2, 3, none⟩) (by show w.heap.size ≤ w.heap.size + 2; omega) (.slice none 0 0))
    refine bodyPost_ret (v := .tuple #[.agg #[.slice none 0 0, .slice none 0 0, .slice none 0 0, .slice none 0 0], .int .i64 1]) (by simp [results, Tryz.results32, go_sem, *]) rfl ?_
    rw [HE.out]
    first | exact ⟨none, 0, none, 0, none, 0, none, 0, [], rfl, BF.out, ownV_zero _, In.nil⟩ | exact ⟨none, 0, none, 0, none, 0, none, 0, rfl, BF.out, [], ownV_zero _, In.nil⟩
  by_cases hx : sectorB x = true
  case neg =>
    replace hx : sectorB x = false := Bool.eq_false_iff.2 hx
    have HE := Lib.hid (addSecR_bad2 hv hx)
    have BB0_ : Below w.heap.size w (((w.alloc (.cells #[.slice A0 n.sites.length C0, .slice A1 n.sectors.length C1, .slice A2 n.antennas.length C2, .slice A3 n.radios.length C3] 35)).alloc (.cells #[.string x.name, .string x.site, .string x.antenna, .string x.radio, .string x.band, .int .i64 x.azimuth, .int .i64 x.tilt, .int .i64 x.above, .int .i64 x.channel] 49)).alloc (.cells #[.slice none 0 0, .slice none 0 0, .slice none 0 0, .slice none 0 0] 35)) := Below.alloc (Below.alloc (Below.alloc (Below.refl _ _) (by first | exact Nat.le_refl _ | (simp; done) | (simp; omega)) _) (by first | exact Nat.le_refl _ | (simp; done) | (simp; omega)) _) (by first | exact Nat.le_refl _ | (simp; done) | (simp; omega)) _
    have zz0 : w.heap.size + 3 ≤ (((w.alloc (.cells #[.slice A0 n.sites.length C0, .slice A1 n.sectors.length C1, .slice A2 n.antennas.length C2, .slice A3 n.radios.length C3] 35)).alloc (.cells #[.string x.name, .string x.site, .string x.antenna, .string x.radio, .string x.band, .int .i64 x.azimuth, .int .i64 x.tilt, .int .i64 x.above, .int .i64 x.channel] 49)).alloc (.cells #[.slice none 0 0, .slice none 0 0, .slice none 0 0, .slice none 0 0] 35)).heap.size := by simp
    have k_N : (((w.alloc (.cells #[.slice A0 n.sites.length C0, .slice A1 n.sectors.length C1, .slice A2 n.antennas.length C2, .slice A3 n.radios.length C3] 35)).alloc (.cells #[.string x.name, .string x.site, .string x.antenna, .string x.radio, .string x.band, .int .i64 x.azimuth, .int .i64 x.tilt, .int .i64 x.above, .int .i64 x.channel] 49)).alloc (.cells #[.slice none 0 0, .slice none 0 0, .slice none 0 0, .slice none 0 0] 35)).heap[w.heap.size]? = some (.cells #[.slice A0 n.sites.length C0, .slice A1 n.sectors.length C1, .slice A2 n.antennas.length C2, .slice A3 n.radios.length C3] 35 (0, 0)) := by
      have h := blkN w #[.slice A0 n.sites.length C0, .slice A1 n.sectors.length C1, .slice A2 n.antennas.length C2, .slice A3 n.radios.length C3] 35
      replace h := blkA h (by first | (simp; done) | (simp; omega)) (.cells #[.string x.name, .string x.site, .string x.antenna, .string x.radio, .string x.band, .int .i64 x.azimuth, .int .i64 x.tilt, .int .i64 x.above, .int .i64 x.channel] 49)
      replace h := blkA h (by first | (simp; done) | (simp; omega)) (.cells #[.slice none 0 0, .slice none 0 0, .slice none 0 0, .slice none 0 0] 35)
      exact h
    have KN_0 := Lib.hid k_N
    have k_X : (((w.alloc (.cells #[.slice A0 n.sites.length C0, .slice A1 n.sectors.length C1, .slice A2 n.antennas.length C2, .slice A3 n.radios.length C3] 35)).alloc (.cells #[.string x.name, .string x.site, .string x.antenna, .string x.radio, .string x.band, .int .i64 x.azimuth, .int .i64 x.tilt, .int .i64 x.above, .int .i64 x.channel] 49)).alloc (.cells #[.slice none 0 0, .slice none 0 0, .slice none 0 0, .slice none 0 0] 35)).heap[w.heap.size + 1]? = some (.cells #[.string x.name, .string x.site, .string x.antenna, .string x.radio, .string x.band, .int .i64 x.azimuth, .int .i64 x.tilt, .int .i64 x.above, .int .i64 x.channel] 49 (0, 0)) := by
      have h := blkN (w.alloc (.cells #[.slice A0 n.sites.length C0, .slice A1 n.sectors.length C1, .slice A2 n.antennas.length C2, .slice A3 n.radios.length C3] 35)) #[.string x.name, .string x.site, .string x.antenna, .string x.radio, .string x.band, .int .i64 x.azimuth, .int .i64 x.tilt, .int .i64 x.above, .int .i64 x.channel] 49
      rw [show (w.alloc (.cells #[.slice A0 n.sites.length C0, .slice A1 n.sectors.length C1, .slice A2 n.antennas.length C2, .slice A3 n.radios.length C3] 35)).heap.size = w.heap.size + 1 by simp] at h
      replace h := blkA h (by first | (simp; done) | (simp; omega)) (.cells #[.slice none 0 0, .slice none 0 0, .slice none 0 0, .slice none 0 0] 35)
      exact h
    have KX_0 := Lib.hid k_X
    have k_R : (((w.alloc (.cells #[.slice A0 n.sites.length C0, .slice A1 n.sectors.length C1, .slice A2 n.antennas.length C2, .slice A3 n.radios.length C3] 35)).alloc (.cells #[.string x.name, .string x.site, .string x.antenna, .string x.radio, .string x.band, .int .i64 x.azimuth, .int .i64 x.tilt, .int .i64 x.above, .int .i64 x.channel] 49)).alloc (.cells #[.slice none 0 0, .slice none 0 0, .slice none 0 0, .slice none 0 0] 35)).heap[w.heap.size + 2]? = some (.cells #[.slice none 0 0, .slice none 0 0, .slice none 0 0, .slice none 0 0] 35 (0, 0)) := by
      have h := blkN ((w.alloc (.cells #[.slice A0 n.sites.length C0, .slice A1 n.sectors.length C1, .slice A2 n.antennas.length C2, .slice A3 n.radios.length C3] 35)).alloc (.cells #[.string x.name, .string x.site, .string x.antenna, .string x.radio, .string x.band, .int .i64 x.azimuth, .int .i64 x.tilt, .int .i64 x.above, .int .i64 x.channel] 49)) #[.slice none 0 0, .slice none 0 0, .slice none 0 0, .slice none 0 0] 35
      rw [show ((w.alloc (.cells #[.slice A0 n.sites.length C0, .slice A1 n.sectors.length C1, .slice A2 n.antennas.length C2, .slice A3 n.radios.length C3] 35)).alloc (.cells #[.string x.name, .string x.site, .string x.antenna, .string x.radio, .string x.band, .int .i64 x.azimuth, .int .i64 x.tilt, .int .i64 x.above, .int .i64 x.channel] 49)).heap.size = w.heap.size + 2 by simp] at h
      exact h
    have KR_0 := Lib.hid k_R
    clear k_N k_X k_R
    have BB_0 := Lib.hid BB0_
    clear BB0_
    go_enter Tryz.func32, Tryz.ntmps32
    go_upto_region 1 with (fail)
    generalize (((w.alloc (.cells #[.slice A0 n.sites.length C0, .slice A1 n.sectors.length C1, .slice A2 n.antennas.length C2, .slice A3 n.radios.length C3] 35)).alloc (.cells #[.string x.name, .string x.site, .string x.antenna, .string x.radio, .string x.band, .int .i64 x.azimuth, .int .i64 x.tilt, .int .i64 x.above, .int .i64 x.channel] 49)).alloc (.cells #[.slice none 0 0, .slice none 0 0, .slice none 0 0, .slice none 0 0] 35)) = W0 at *
    have fN0 := blkC (v := .slice A0 n.sites.length C0) KN_0.out 0 rfl
    have fN1 := blkC (v := .slice A1 n.sectors.length C1) KN_0.out 1 rfl
    have fN2 := blkC (v := .slice A2 n.antennas.length C2) KN_0.out 2 rfl
    have fN3 := blkC (v := .slice A3 n.radios.length C3) KN_0.out 3 rfl
    have fX0 := blkC (v := .string x.name) KX_0.out 0 rfl
    have fX1 := blkC (v := .string x.site) KX_0.out 1 rfl
    have fX2 := blkC (v := .string x.antenna) KX_0.out 2 rfl
    have fX3 := blkC (v := .string x.radio) KX_0.out 3 rfl
    have fX4 := blkC (v := .string x.band) KX_0.out 4 rfl
    have fX5 := blkC (v := .int .i64 x.azimuth) KX_0.out 5 rfl
    have fX6 := blkC (v := .int .i64 x.tilt) KX_0.out 6 rfl
    have fX7 := blkC (v := .int .i64 x.above) KX_0.out 7 rfl
    have fX8 := blkC (v := .int .i64 x.channel) KX_0.out 8 rfl
    have fR0 := blkC (v := .slice none 0 0) KR_0.out 0 rfl
    have fR1 := blkC (v := .slice none 0 0) KR_0.out 1 rfl
    have fR2 := blkC (v := .slice none 0 0) KR_0.out 2 rfl
    have fR3 := blkC (v := .slice none 0 0) KR_0.out 3 rfl
    go_wp2_with fail
    refine (validNetwork_any n _ _ _ _ _ ((R0.out.below BB_0.out).mono (by have := BB_0.out.size; omega)) ((R1.out.below BB_0.out).mono (by have := BB_0.out.size; omega)) ((R2.out.below BB_0.out).mono (by have := BB_0.out.size; omega)) ((R3.out.below BB_0.out).mono (by have := BB_0.out.size; omega)) (by omega) hk_n).mono ?_
    rintro e X1 ⟨rfl, hb⟩
    clear fN0 fN1 fN2 fN3 fX0 fX1 fX2 fX3 fX4 fX5 fX6 fX7 fX8 fR0 fR1 fR2 fR3
    have KN_1 := Lib.hid (blkB KN_0.out hb (by omega))
    have KX_1 := Lib.hid (blkB KX_0.out hb (by omega))
    have KR_1 := Lib.hid (blkB KR_0.out hb (by omega))
    have BB_1 := Lib.hid (BB_0.out.trans (hb.mono (by omega)))
    have zz1 : W0.heap.size ≤ X1.heap.size := hb.size
    clear KN_0 KX_0 KR_0 BB_0 hb
    rw [hv]
    have fN0 := blkC (v := .slice A0 n.sites.length C0) KN_1.out 0 rfl
    have fN1 := blkC (v := .slice A1 n.sectors.length C1) KN_1.out 1 rfl
    have fN2 := blkC (v := .slice A2 n.antennas.length C2) KN_1.out 2 rfl
    have fN3 := blkC (v := .slice A3 n.radios.length C3) KN_1.out 3 rfl
    have fX0 := blkC (v := .string x.name) KX_1.out 0 rfl
    have fX1 := blkC (v := .string x.site) KX_1.out 1 rfl
    have fX2 := blkC (v := .string x.antenna) KX_1.out 2 rfl
    have fX3 := blkC (v := .string x.radio) KX_1.out 3 rfl
    have fX4 := blkC (v := .string x.band) KX_1.out 4 rfl
    have fX5 := blkC (v := .int .i64 x.azimuth) KX_1.out 5 rfl
    have fX6 := blkC (v := .int .i64 x.tilt) KX_1.out 6 rfl
    have fX7 := blkC (v := .int .i64 x.above) KX_1.out 7 rfl
    have fX8 := blkC (v := .int .i64 x.channel) KX_1.out 8 rfl
    have fR0 := blkC (v := .slice none 0 0) KR_1.out 0 rfl
    have fR1 := blkC (v := .slice none 0 0) KR_1.out 1 rfl
    have fR2 := blkC (v := .slice none 0 0) KR_1.out 2 rfl
    have fR3 := blkC (v := .slice none 0 0) KR_1.out 3 rfl
    go_wp2_with fail
    refine (sectorValid_any x hko.name hko.site hko.antenna hko.radio hko.band _).mono ?_
    rintro e X2 ⟨rfl, hb⟩
    clear fN0 fN1 fN2 fN3 fX0 fX1 fX2 fX3 fX4 fX5 fX6 fX7 fX8 fR0 fR1 fR2 fR3
    have KN_2 := Lib.hid (blkB KN_1.out hb (by omega))
    have KX_2 := Lib.hid (blkB KX_1.out hb (by omega))
    have KR_2 := Lib.hid (blkB KR_1.out hb (by omega))
    have BB_2 := Lib.hid (BB_1.out.trans (hb.mono (by omega)))
    have zz2 : X1.heap.size ≤ X2.heap.size := hb.size
    clear KN_1 KX_1 KR_1 BB_1 hb
    rw [hx]
    have fN0 := blkC (v := .slice A0 n.sites.length C0) KN_2.out 0 rfl
    have fN1 := blkC (v := .slice A1 n.sectors.length C1) KN_2.out 1 rfl
    have fN2 := blkC (v := .slice A2 n.antennas.length C2) KN_2.out 2 rfl
    have fN3 := blkC (v := .slice A3 n.radios.length C3) KN_2.out 3 rfl
    have fX0 := blkC (v := .string x.name) KX_2.out 0 rfl
    have fX1 := blkC (v := .string x.site) KX_2.out 1 rfl
    have fX2 := blkC (v := .string x.antenna) KX_2.out 2 rfl
    have fX3 := blkC (v := .string x.radio) KX_2.out 3 rfl
    have fX4 := blkC (v := .string x.band) KX_2.out 4 rfl
    have fX5 := blkC (v := .int .i64 x.azimuth) KX_2.out 5 rfl
    have fX6 := blkC (v := .int .i64 x.tilt) KX_2.out 6 rfl
    have fX7 := blkC (v := .int .i64 x.above) KX_2.out 7 rfl
    have fX8 := blkC (v := .int .i64 x.channel) KX_2.out 8 rfl
    have fR0 := blkC (v := .slice none 0 0) KR_2.out 0 rfl
    have fR1 := blkC (v := .slice none 0 0) KR_2.out 1 rfl
    have fR2 := blkC (v := .slice none 0 0) KR_2.out 2 rfl
    have fR3 := blkC (v := .slice none 0 0) KR_2.out 3 rfl
    have zR := blkF KR_2.out
    go_wp2
    have BF := Lib.hid (((((BB_2.out).setCell (p := ⟨w.heap.size + 2, 0, none⟩) (by show w.heap.size ≤ w.heap.size + 2; omega) (.slice none 0 0)).setCell (p := ⟨w.heap.size + 2, 1, none⟩) (by show w.heap.size ≤ w.heap.size + 2; omega) (.slice none 0 0)).setCell (p := ⟨w.heap.size + 2, 2, none⟩) (by show w.heap.size ≤ w.heap.size + 2; omega) (.slice none 0 0)).setCell (p := ⟨w.heap.size + 2, 3, none⟩) (by show w.heap.size ≤ w.heap.size + 2; omega) (.slice none 0 0))
    refine bodyPost_ret (v := .tuple #[.agg #[.slice none 0 0, .slice none 0 0, .slice none 0 0, .slice none 0 0], .int .i64 1]) (by simp [results, Tryz.results32, go_sem, *]) rfl ?_
    rw [HE.out]
    first | exact ⟨none, 0, none, 0, none, 0, none, 0, [], rfl, BF.out, ownV_zero _, In.nil⟩ | exact ⟨none, 0, none, 0, none, 0, none, 0, rfl, BF.out, [], ownV_zero _, In.nil⟩
  by_cases hp : refersB n x = true
  case neg =>
    replace hp : refersB n x = false := Bool.eq_false_iff.2 hp
    have HE := Lib.hid (addSecR_parts hv hx hp)
    have BB0_ : Below w.heap.size w (((w.alloc (.cells #[.slice A0 n.sites.length C0, .slice A1 n.sectors.length C1, .slice A2 n.antennas.length C2, .slice A3 n.radios.length C3] 35)).alloc (.cells #[.string x.name, .string x.site, .string x.antenna, .string x.radio, .string x.band, .int .i64 x.azimuth, .int .i64 x.tilt, .int .i64 x.above, .int .i64 x.channel] 49)).alloc (.cells #[.slice none 0 0, .slice none 0 0, .slice none 0 0, .slice none 0 0] 35)) := Below.alloc (Below.alloc (Below.alloc (Below.refl _ _) (by first | exact Nat.le_refl _ | (simp; done) | (simp; omega)) _) (by first | exact Nat.le_refl _ | (simp; done) | (simp; omega)) _) (by first | exact Nat.le_refl _ | (simp; done) | (simp; omega)) _
    have zz0 : w.heap.size + 3 ≤ (((w.alloc (.cells #[.slice A0 n.sites.length C0, .slice A1 n.sectors.length C1, .slice A2 n.antennas.length C2, .slice A3 n.radios.length C3] 35)).alloc (.cells #[.string x.name, .string x.site, .string x.antenna, .string x.radio, .string x.band, .int .i64 x.azimuth, .int .i64 x.tilt, .int .i64 x.above, .int .i64 x.channel] 49)).alloc (.cells #[.slice none 0 0, .slice none 0 0, .slice none 0 0, .slice none 0 0] 35)).heap.size := by simp
    have k_N : (((w.alloc (.cells #[.slice A0 n.sites.length C0, .slice A1 n.sectors.length C1, .slice A2 n.antennas.length C2, .slice A3 n.radios.length C3] 35)).alloc (.cells #[.string x.name, .string x.site, .string x.antenna, .string x.radio, .string x.band, .int .i64 x.azimuth, .int .i64 x.tilt, .int .i64 x.above, .int .i64 x.channel] 49)).alloc (.cells #[.slice none 0 0, .slice none 0 0, .slice none 0 0, .slice none 0 0] 35)).heap[w.heap.size]? = some (.cells #[.slice A0 n.sites.length C0, .slice A1 n.sectors.length C1, .slice A2 n.antennas.length C2, .slice A3 n.radios.length C3] 35 (0, 0)) := by
      have h := blkN w #[.slice A0 n.sites.length C0, .slice A1 n.sectors.length C1, .slice A2 n.antennas.length C2, .slice A3 n.radios.length C3] 35
      replace h := blkA h (by first | (simp; done) | (simp; omega)) (.cells #[.string x.name, .string x.site, .string x.antenna, .string x.radio, .string x.band, .int .i64 x.azimuth, .int .i64 x.tilt, .int .i64 x.above, .int .i64 x.channel] 49)
      replace h := blkA h (by first | (simp; done) | (simp; omega)) (.cells #[.slice none 0 0, .slice none 0 0, .slice none 0 0, .slice none 0 0] 35)
      exact h
    have KN_0 := Lib.hid k_N
    have k_X : (((w.alloc (.cells #[.slice A0 n.sites.length C0, .slice A1 n.sectors.length C1, .slice A2 n.antennas.length C2, .slice A3 n.radios.length C3] 35)).alloc (.cells #[.string x.name, .string x.site, .string x.antenna, .string x.radio, .string x.band, .int .i64 x.azimuth, .int .i64 x.tilt, .int .i64 x.above, .int .i64 x.channel] 49)).alloc (.cells #[.slice none 0 0, .slice none 0 0, .slice none 0 0, .slice none 0 0] 35)).heap[w.heap.size + 1]? = some (.cells #[.string x.name, .string x.site, .string x.antenna, .string x.radio, .string x.band, .int .i64 x.azimuth, .int .i64 x.tilt, .int .i64 x.above, .int .i64 x.channel] 49 (0, 0)) := by
      have h := blkN (w.alloc (.cells #[.slice A0 n.sites.length C0, .slice A1 n.sectors.length C1, .slice A2 n.antennas.length C2, .slice A3 n.radios.length C3] 35)) #[.string x.name, .string x.site, .string x.antenna, .string x.radio, .string x.band, .int .i64 x.azimuth, .int .i64 x.tilt, .int .i64 x.above, .int .i64 x.channel] 49
      rw [show (w.alloc (.cells #[.slice A0 n.sites.length C0, .slice A1 n.sectors.length C1, .slice A2 n.antennas.length C2, .slice A3 n.radios.length C3] 35)).heap.size = w.heap.size + 1 by simp] at h
      replace h := blkA h (by first | (simp; done) | (simp; omega)) (.cells #[.slice none 0 0, .slice none 0 0, .slice none 0 0, .slice none 0 0] 35)
      exact h
    have KX_0 := Lib.hid k_X
    have k_R : (((w.alloc (.cells #[.slice A0 n.sites.length C0, .slice A1 n.sectors.length C1, .slice A2 n.antennas.length C2, .slice A3 n.radios.length C3] 35)).alloc (.cells #[.string x.name, .string x.site, .string x.antenna, .string x.radio, .string x.band, .int .i64 x.azimuth, .int .i64 x.tilt, .int .i64 x.above, .int .i64 x.channel] 49)).alloc (.cells #[.slice none 0 0, .slice none 0 0, .slice none 0 0, .slice none 0 0] 35)).heap[w.heap.size + 2]? = some (.cells #[.slice none 0 0, .slice none 0 0, .slice none 0 0, .slice none 0 0] 35 (0, 0)) := by
      have h := blkN ((w.alloc (.cells #[.slice A0 n.sites.length C0, .slice A1 n.sectors.length C1, .slice A2 n.antennas.length C2, .slice A3 n.radios.length C3] 35)).alloc (.cells #[.string x.name, .string x.site, .string x.antenna, .string x.radio, .string x.band, .int .i64 x.azimuth, .int .i64 x.tilt, .int .i64 x.above, .int .i64 x.channel] 49)) #[.slice none 0 0, .slice none 0 0, .slice none 0 0, .slice none 0 0] 35
      rw [show ((w.alloc (.cells #[.slice A0 n.sites.length C0, .slice A1 n.sectors.length C1, .slice A2 n.antennas.length C2, .slice A3 n.radios.length C3] 35)).alloc (.cells #[.string x.name, .string x.site, .string x.antenna, .string x.radio, .string x.band, .int .i64 x.azimuth, .int .i64 x.tilt, .int .i64 x.above, .int .i64 x.channel] 49)).heap.size = w.heap.size + 2 by simp] at h
      exact h
    have KR_0 := Lib.hid k_R
    clear k_N k_X k_R
    have BB_0 := Lib.hid BB0_
    clear BB0_
    go_enter Tryz.func32, Tryz.ntmps32
    go_upto_region 1 with (fail)
    generalize (((w.alloc (.cells #[.slice A0 n.sites.length C0, .slice A1 n.sectors.length C1, .slice A2 n.antennas.length C2, .slice A3 n.radios.length C3] 35)).alloc (.cells #[.string x.name, .string x.site, .string x.antenna, .string x.radio, .string x.band, .int .i64 x.azimuth, .int .i64 x.tilt, .int .i64 x.above, .int .i64 x.channel] 49)).alloc (.cells #[.slice none 0 0, .slice none 0 0, .slice none 0 0, .slice none 0 0] 35)) = W0 at *
    have fN0 := blkC (v := .slice A0 n.sites.length C0) KN_0.out 0 rfl
    have fN1 := blkC (v := .slice A1 n.sectors.length C1) KN_0.out 1 rfl
    have fN2 := blkC (v := .slice A2 n.antennas.length C2) KN_0.out 2 rfl
    have fN3 := blkC (v := .slice A3 n.radios.length C3) KN_0.out 3 rfl
    have fX0 := blkC (v := .string x.name) KX_0.out 0 rfl
    have fX1 := blkC (v := .string x.site) KX_0.out 1 rfl
    have fX2 := blkC (v := .string x.antenna) KX_0.out 2 rfl
    have fX3 := blkC (v := .string x.radio) KX_0.out 3 rfl
    have fX4 := blkC (v := .string x.band) KX_0.out 4 rfl
    have fX5 := blkC (v := .int .i64 x.azimuth) KX_0.out 5 rfl
    have fX6 := blkC (v := .int .i64 x.tilt) KX_0.out 6 rfl
    have fX7 := blkC (v := .int .i64 x.above) KX_0.out 7 rfl
    have fX8 := blkC (v := .int .i64 x.channel) KX_0.out 8 rfl
    have fR0 := blkC (v := .slice none 0 0) KR_0.out 0 rfl
    have fR1 := blkC (v := .slice none 0 0) KR_0.out 1 rfl
    have fR2 := blkC (v := .slice none 0 0) KR_0.out 2 rfl
    have fR3 := blkC (v := .slice none 0 0) KR_0.out 3 rfl
    go_wp2_with fail
    refine (validNetwork_any n _ _ _ _ _ ((R0.out.below BB_0.out).mono (by have := BB_0.out.size; omega)) ((R1.out.below BB_0.out).mono (by have := BB_0.out.size; omega)) ((R2.out.below BB_0.out).mono (by have := BB_0.out.size; omega)) ((R3.out.below BB_0.out).mono (by have := BB_0.out.size; omega)) (by omega) hk_n).mono ?_
    rintro e X1 ⟨rfl, hb⟩
    clear fN0 fN1 fN2 fN3 fX0 fX1 fX2 fX3 fX4 fX5 fX6 fX7 fX8 fR0 fR1 fR2 fR3
    have KN_1 := Lib.hid (blkB KN_0.out hb (by omega))
    have KX_1 := Lib.hid (blkB KX_0.out hb (by omega))
    have KR_1 := Lib.hid (blkB KR_0.out hb (by omega))
    have BB_1 := Lib.hid (BB_0.out.trans (hb.mono (by omega)))
    have zz1 : W0.heap.size ≤ X1.heap.size := hb.size
    clear KN_0 KX_0 KR_0 BB_0 hb
    rw [hv]
    have fN0 := blkC (v := .slice A0 n.sites.length C0) KN_1.out 0 rfl
    have fN1 := blkC (v := .slice A1 n.sectors.length C1) KN_1.out 1 rfl
    have fN2 := blkC (v := .slice A2 n.antennas.length C2) KN_1.out 2 rfl
    have fN3 := blkC (v := .slice A3 n.radios.length C3) KN_1.out 3 rfl
    have fX0 := blkC (v := .string x.name) KX_1.out 0 rfl
    have fX1 := blkC (v := .string x.site) KX_1.out 1 rfl
    have fX2 := blkC (v := .string x.antenna) KX_1.out 2 rfl
    have fX3 := blkC (v := .string x.radio) KX_1.out 3 rfl
    have fX4 := blkC (v := .string x.band) KX_1.out 4 rfl
    have fX5 := blkC (v := .int .i64 x.azimuth) KX_1.out 5 rfl
    have fX6 := blkC (v := .int .i64 x.tilt) KX_1.out 6 rfl
    have fX7 := blkC (v := .int .i64 x.above) KX_1.out 7 rfl
    have fX8 := blkC (v := .int .i64 x.channel) KX_1.out 8 rfl
    have fR0 := blkC (v := .slice none 0 0) KR_1.out 0 rfl
    have fR1 := blkC (v := .slice none 0 0) KR_1.out 1 rfl
    have fR2 := blkC (v := .slice none 0 0) KR_1.out 2 rfl
    have fR3 := blkC (v := .slice none 0 0) KR_1.out 3 rfl
    go_wp2_with fail
    refine (sectorValid_any x hko.name hko.site hko.antenna hko.radio hko.band _).mono ?_
    rintro e X2 ⟨rfl, hb⟩
    clear fN0 fN1 fN2 fN3 fX0 fX1 fX2 fX3 fX4 fX5 fX6 fX7 fX8 fR0 fR1 fR2 fR3
    have KN_2 := Lib.hid (blkB KN_1.out hb (by omega))
    have KX_2 := Lib.hid (blkB KX_1.out hb (by omega))
    have KR_2 := Lib.hid (blkB KR_1.out hb (by omega))
    have BB_2 := Lib.hid (BB_1.out.trans (hb.mono (by omega)))
    have zz2 : X1.heap.size ≤ X2.heap.size := hb.size
    clear KN_1 KX_1 KR_1 BB_1 hb
    rw [hx]
    have fN0 := blkC (v := .slice A0 n.sites.length C0) KN_2.out 0 rfl
    have fN1 := blkC (v := .slice A1 n.sectors.length C1) KN_2.out 1 rfl
    have fN2 := blkC (v := .slice A2 n.antennas.length C2) KN_2.out 2 rfl
    have fN3 := blkC (v := .slice A3 n.radios.length C3) KN_2.out 3 rfl
    have fX0 := blkC (v := .string x.name) KX_2.out 0 rfl
    have fX1 := blkC (v := .string x.site) KX_2.out 1 rfl
    have fX2 := blkC (v := .string x.antenna) KX_2.out 2 rfl
    have fX3 := blkC (v := .string x.radio) KX_2.out 3 rfl
    have fX4 := blkC (v := .string x.band) KX_2.out 4 rfl
    have fX5 := blkC (v := .int .i64 x.azimuth) KX_2.out 5 rfl
    have fX6 := blkC (v := .int .i64 x.tilt) KX_2.out 6 rfl
    have fX7 := blkC (v := .int .i64 x.above) KX_2.out 7 rfl
    have fX8 := blkC (v := .int .i64 x.channel) KX_2.out 8 rfl
    have fR0 := blkC (v := .slice none 0 0) KR_2.out 0 rfl
    have fR1 := blkC (v := .slice none 0 0) KR_2.out 1 rfl
    have fR2 := blkC (v := .slice none 0 0) KR_2.out 2 rfl
    have fR3 := blkC (v := .slice none 0 0) KR_2.out 3 rfl
    go_wp2_with fail
    refine (hasParts_any n x _ _ _ _ _ ((R0.out.below BB_2.out).mono (by have := BB_2.out.size; omega)) ((R2.out.below BB_2.out).mono (by have := BB_2.out.size; omega)) ((R3.out.below BB_2.out).mono (by have := BB_2.out.size; omega)) (by omega) (by omega) (by omega)).mono ?_
    rintro e X3 ⟨rfl, hb⟩
    clear fN0 fN1 fN2 fN3 fX0 fX1 fX2 fX3 fX4 fX5 fX6 fX7 fX8 fR0 fR1 fR2 fR3
    have KN_3 := Lib.hid (blkB KN_2.out hb (by omega))
    have KX_3 := Lib.hid (blkB KX_2.out hb (by omega))
    have KR_3 := Lib.hid (blkB KR_2.out hb (by omega))
    have BB_3 := Lib.hid (BB_2.out.trans (hb.mono (by omega)))
    have zz3 : X2.heap.size ≤ X3.heap.size := hb.size
    clear KN_2 KX_2 KR_2 BB_2 hb
    rw [hp]
    have fN0 := blkC (v := .slice A0 n.sites.length C0) KN_3.out 0 rfl
    have fN1 := blkC (v := .slice A1 n.sectors.length C1) KN_3.out 1 rfl
    have fN2 := blkC (v := .slice A2 n.antennas.length C2) KN_3.out 2 rfl
    have fN3 := blkC (v := .slice A3 n.radios.length C3) KN_3.out 3 rfl
    have fX0 := blkC (v := .string x.name) KX_3.out 0 rfl
    have fX1 := blkC (v := .string x.site) KX_3.out 1 rfl
    have fX2 := blkC (v := .string x.antenna) KX_3.out 2 rfl
    have fX3 := blkC (v := .string x.radio) KX_3.out 3 rfl
    have fX4 := blkC (v := .string x.band) KX_3.out 4 rfl
    have fX5 := blkC (v := .int .i64 x.azimuth) KX_3.out 5 rfl
    have fX6 := blkC (v := .int .i64 x.tilt) KX_3.out 6 rfl
    have fX7 := blkC (v := .int .i64 x.above) KX_3.out 7 rfl
    have fX8 := blkC (v := .int .i64 x.channel) KX_3.out 8 rfl
    have fR0 := blkC (v := .slice none 0 0) KR_3.out 0 rfl
    have fR1 := blkC (v := .slice none 0 0) KR_3.out 1 rfl
    have fR2 := blkC (v := .slice none 0 0) KR_3.out 2 rfl
    have fR3 := blkC (v := .slice none 0 0) KR_3.out 3 rfl
    have zR := blkF KR_3.out
    go_wp2
    have BF := Lib.hid (((((BB_3.out).setCell (p := ⟨w.heap.size + 2, 0, none⟩) (by show w.heap.size ≤ w.heap.size + 2; omega) (.slice none 0 0)).setCell (p := ⟨w.heap.size + 2, 1, none⟩) (by show w.heap.size ≤ w.heap.size + 2; omega) (.slice none 0 0)).setCell (p := ⟨w.heap.size + 2, 2, none⟩) (by show w.heap.size ≤ w.heap.size + 2; omega) (.slice none 0 0)).setCell (p := ⟨w.heap.size + 2, 3, none⟩) (by show w.heap.size ≤ w.heap.size + 2; omega) (.slice none 0 0))
    refine bodyPost_ret (v := .tuple #[.agg #[.slice none 0 0, .slice none 0 0, .slice none 0 0, .slice none 0 0], .int .i64 3]) (by simp [results, Tryz.results32, go_sem, *]) rfl ?_
    rw [HE.out]
    first | exact ⟨none, 0, none, 0, none, 0, none, 0, [], rfl, BF.out, ownV_zero _, In.nil⟩ | exact ⟨none, 0, none, 0, none, 0, none, 0, rfl, BF.out, [], ownV_zero _, In.nil⟩
  rcases firstIdx_cases' (fun y : DSector => eqS y.name x.name) n.sectors with ⟨hi, hno⟩ | ⟨k, hk, hi, _, _⟩
  case inr =>
    have HE := Lib.hid (addSecR_there hv hx hp hi)
    have HI : Hid (idxSector n.sectors x.name = (k : Int)) := hi
    clear hi
    have BB0_ : Below w.heap.size w (((w.alloc (.cells #[.slice A0 n.sites.length C0, .slice A1 n.sectors.length C1, .slice A2 n.antennas.length C2, .slice A3 n.radios.length C3] 35)).alloc (.cells #[.string x.name, .string x.site, .string x.antenna, .string x.radio, .string x.band, .int .i64 x.azimuth, .int .i64 x.tilt, .int .i64 x.above, .int .i64 x.channel] 49)).alloc (.cells #[.slice none 0 0, .slice none 0 0, .slice none 0 0, .slice none 0 0] 35)) := Below.alloc (Below.alloc (Below.alloc (Below.refl _ _) (by first | exact Nat.le_refl _ | (simp; done) | (simp; omega)) _) (by first | exact Nat.le_refl _ | (simp; done) | (simp; omega)) _) (by first | exact Nat.le_refl _ | (simp; done) | (simp; omega)) _
    have zz0 : w.heap.size + 3 ≤ (((w.alloc (.cells #[.slice A0 n.sites.length C0, .slice A1 n.sectors.length C1, .slice A2 n.antennas.length C2, .slice A3 n.radios.length C3] 35)).alloc (.cells #[.string x.name, .string x.site, .string x.antenna, .string x.radio, .string x.band, .int .i64 x.azimuth, .int .i64 x.tilt, .int .i64 x.above, .int .i64 x.channel] 49)).alloc (.cells #[.slice none 0 0, .slice none 0 0, .slice none 0 0, .slice none 0 0] 35)).heap.size := by simp
    have k_N : (((w.alloc (.cells #[.slice A0 n.sites.length C0, .slice A1 n.sectors.length C1, .slice A2 n.antennas.length C2, .slice A3 n.radios.length C3] 35)).alloc (.cells #[.string x.name, .string x.site, .string x.antenna, .string x.radio, .string x.band, .int .i64 x.azimuth, .int .i64 x.tilt, .int .i64 x.above, .int .i64 x.channel] 49)).alloc (.cells #[.slice none 0 0, .slice none 0 0, .slice none 0 0, .slice none 0 0] 35)).heap[w.heap.size]? = some (.cells #[.slice A0 n.sites.length C0, .slice A1 n.sectors.length C1, .slice A2 n.antennas.length C2, .slice A3 n.radios.length C3] 35 (0, 0)) := by
      have h := blkN w #[.slice A0 n.sites.length C0, .slice A1 n.sectors.length C1, .slice A2 n.antennas.length C2, .slice A3 n.radios.length C3] 35
      replace h := blkA h (by first | (simp; done) | (simp; omega)) (.cells #[.string x.name, .string x.site, .string x.antenna, .string x.radio, .string x.band, .int .i64 x.azimuth, .int .i64 x.tilt, .int .i64 x.above, .int .i64 x.channel] 49)
      replace h := blkA h (by first | (simp; done) | (simp; omega)) (.cells #[.slice none 0 0, .slice none 0 0, .slice none 0 0, .slice none 0 0] 35)
      exact h
    have KN_0 := Lib.hid k_N
    have k_X : (((w.alloc (.cells #[.slice A0 n.sites.length C0, .slice A1 n.sectors.length C1, .slice A2 n.antennas.length C2, .slice A3 n.radios.length C3] 35)).alloc (.cells #[.string x.name, .string x.site, .string x.antenna, .string x.radio, .string x.band, .int .i64 x.azimuth, .int .i64 x.tilt, .int .i64 x.above, .int .i64 x.channel] 49)).alloc (.cells #[.slice none 0 0, .slice none 0 0, .slice none 0 0, .slice none 0 0] 35)).heap[w.heap.size + 1]? = some (.cells #[.string x.name, .string x.site, .string x.antenna, .string x.radio, .string x.band, .int .i64 x.azimuth, .int .i64 x.tilt, .int .i64 x.above, .int .i64 x.channel] 49 (0, 0)) := by
      have h := blkN (w.alloc (.cells #[.slice A0 n.sites.length C0, .slice A1 n.sectors.length C1, .slice A2 n.antennas.length C2, .slice A3 n.radios.length C3] 35)) #[.string x.name, .string x.site, .string x.antenna, .string x.radio, .string x.band, .int .i64 x.azimuth, .int .i64 x.tilt, .int .i64 x.above, .int .i64 x.channel] 49
      rw [show (w.alloc (.cells #[.slice A0 n.sites.length C0, .slice A1 n.sectors.length C1, .slice A2 n.antennas.length C2, .slice A3 n.radios.length C3] 35)).heap.size = w.heap.size + 1 by simp] at h
      replace h := blkA h (by first | (simp; done) | (simp; omega)) (.cells #[.slice none 0 0, .slice none 0 0, .slice none 0 0, .slice none 0 0] 35)
      exact h
    have KX_0 := Lib.hid k_X
    have k_R : (((w.alloc (.cells #[.slice A0 n.sites.length C0, .slice A1 n.sectors.length C1, .slice A2 n.antennas.length C2, .slice A3 n.radios.length C3] 35)).alloc (.cells #[.string x.name, .string x.site, .string x.antenna, .string x.radio, .string x.band, .int .i64 x.azimuth, .int .i64 x.tilt, .int .i64 x.above, .int .i64 x.channel] 49)).alloc (.cells #[.slice none 0 0, .slice none 0 0, .slice none 0 0, .slice none 0 0] 35)).heap[w.heap.size + 2]? = some (.cells #[.slice none 0 0, .slice none 0 0, .slice none 0 0, .slice none 0 0] 35 (0, 0)) := by
      have h := blkN ((w.alloc (.cells #[.slice A0 n.sites.length C0, .slice A1 n.sectors.length C1, .slice A2 n.antennas.length C2, .slice A3 n.radios.length C3] 35)).alloc (.cells #[.string x.name, .string x.site, .string x.antenna, .string x.radio, .string x.band, .int .i64 x.azimuth, .int .i64 x.tilt, .int .i64 x.above, .int .i64 x.channel] 49)) #[.slice none 0 0, .slice none 0 0, .slice none 0 0, .slice none 0 0] 35
      rw [show ((w.alloc (.cells #[.slice A0 n.sites.length C0, .slice A1 n.sectors.length C1, .slice A2 n.antennas.length C2, .slice A3 n.radios.length C3] 35)).alloc (.cells #[.string x.name, .string x.site, .string x.antenna, .string x.radio, .string x.band, .int .i64 x.azimuth, .int .i64 x.tilt, .int .i64 x.above, .int .i64 x.channel] 49)).heap.size = w.heap.size + 2 by simp] at h
      exact h
    have KR_0 := Lib.hid k_R
    clear k_N k_X k_R
    have BB_0 := Lib.hid BB0_
    clear BB0_
    go_enter Tryz.func32, Tryz.ntmps32
    go_upto_region 1 with (fail)
    generalize (((w.alloc (.cells #[.slice A0 n.sites.length C0, .slice A1 n.sectors.length C1, .slice A2 n.antennas.length C2, .slice A3 n.radios.length C3] 35)).alloc (.cells #[.string x.name, .string x.site, .string x.antenna, .string x.radio, .string x.band, .int .i64 x.azimuth, .int .i64 x.tilt, .int .i64 x.above, .int .i64 x.channel] 49)).alloc (.cells #[.slice none 0 0, .slice none 0 0, .slice none 0 0, .slice none 0 0] 35)) = W0 at *
    have fN0 := blkC (v := .slice A0 n.sites.length C0) KN_0.out 0 rfl
    have fN1 := blkC (v := .slice A1 n.sectors.length C1) KN_0.out 1 rfl
    have fN2 := blkC (v := .slice A2 n.antennas.length C2) KN_0.out 2 rfl
    have fN3 := blkC (v := .slice A3 n.radios.length C3) KN_0.out 3 rfl
    have fX0 := blkC (v := .string x.name) KX_0.out 0 rfl
    have fX1 := blkC (v := .string x.site) KX_0.out 1 rfl
    have fX2 := blkC (v := .string x.antenna) KX_0.out 2 rfl
    have fX3 := blkC (v := .string x.radio) KX_0.out 3 rfl
    have fX4 := blkC (v := .string x.band) KX_0.out 4 rfl
    have fX5 := blkC (v := .int .i64 x.azimuth) KX_0.out 5 rfl
    have fX6 := blkC (v := .int .i64 x.tilt) KX_0.out 6 rfl
    have fX7 := blkC (v := .int .i64 x.above) KX_0.out 7 rfl
    have fX8 := blkC (v := .int .i64 x.channel) KX_0.out 8 rfl
    have fR0 := blkC (v := .slice none 0 0) KR_0.out 0 rfl
    have fR1 := blkC (v := .slice none 0 0) KR_0.out 1 rfl
    have fR2 := blkC (v := .slice none 0 0) KR_0.out 2 rfl
    have fR3 := blkC (v := .slice none 0 0) KR_0.out 3 rfl
    go_wp2_with fail
    refine (validNetwork_any n _ _ _ _ _ ((R0.out.below BB_0.out).mono (by have := BB_0.out.size; omega)) ((R1.out.below BB_0.out).mono (by have := BB_0.out.size; omega)) ((R2.out.below BB_0.out).mono (by have := BB_0.out.size; omega)) ((R3.out.below BB_0.out).mono (by have := BB_0.out.size; omega)) (by omega) hk_n).mono ?_
    rintro e X1 ⟨rfl, hb⟩
    clear fN0 fN1 fN2 fN3 fX0 fX1 fX2 fX3 fX4 fX5 fX6 fX7 fX8 fR0 fR1 fR2 fR3
    have KN_1 := Lib.hid (blkB KN_0.out hb (by omega))
    have KX_1 := Lib.hid (blkB KX_0.out hb (by omega))
    have KR_1 := Lib.hid (blkB KR_0.out hb (by omega))
    have BB_1 := Lib.hid (BB_0.out.trans (hb.mono (by omega)))
    have zz1 : W0.heap.size ≤ X1.heap.size := hb.size
    clear KN_0 KX_0 KR_0 BB_0 hb
    rw [hv]
    have fN0 := blkC (v := .slice A0 n.sites.length C0) KN_1.out 0 rfl
    have fN1 := blkC (v := .slice A1 n.sectors.length C1) KN_1.out 1 rfl
    have fN2 := blkC (v := .slice A2 n.antennas.length C2) KN_1.out 2 rfl
    have fN3 := blkC (v := .slice A3 n.radios.length C3) KN_1.out 3 rfl
    have fX0 := blkC (v := .string x.name) KX_1.out 0 rfl
    have fX1 := blkC (v := .string x.site) KX_1.out 1 rfl
    have fX2 := blkC (v := .string x.antenna) KX_1.out 2 rfl
    have fX3 := blkC (v := .string x.radio) KX_1.out 3 rfl
    have fX4 := blkC (v := .string x.band) KX_1.out 4 rfl
    have fX5 := blkC (v := .int .i64 x.azimuth) KX_1.out 5 rfl
    have fX6 := blkC (v := .int .i64 x.tilt) KX_1.out 6 rfl
    have fX7 := blkC (v := .int .i64 x.above) KX_1.out 7 rfl
    have fX8 := blkC (v := .int .i64 x.channel) KX_1.out 8 rfl
    have fR0 := blkC (v := .slice none 0 0) KR_1.out 0 rfl
    have fR1 := blkC (v := .slice none 0 0) KR_1.out 1 rfl
    have fR2 := blkC (v := .slice none 0 0) KR_1.out 2 rfl
    have fR3 := blkC (v := .slice none 0 0) KR_1.out 3 rfl
    go_wp2_with fail
    refine (sectorValid_any x hko.name hko.site hko.antenna hko.radio hko.band _).mono ?_
    rintro e X2 ⟨rfl, hb⟩
    clear fN0 fN1 fN2 fN3 fX0 fX1 fX2 fX3 fX4 fX5 fX6 fX7 fX8 fR0 fR1 fR2 fR3
    have KN_2 := Lib.hid (blkB KN_1.out hb (by omega))
    have KX_2 := Lib.hid (blkB KX_1.out hb (by omega))
    have KR_2 := Lib.hid (blkB KR_1.out hb (by omega))
    have BB_2 := Lib.hid (BB_1.out.trans (hb.mono (by omega)))
    have zz2 : X1.heap.size ≤ X2.heap.size := hb.size
    clear KN_1 KX_1 KR_1 BB_1 hb
    rw [hx]
    have fN0 := blkC (v := .slice A0 n.sites.length C0) KN_2.out 0 rfl
    have fN1 := blkC (v := .slice A1 n.sectors.length C1) KN_2.out 1 rfl
    have fN2 := blkC (v := .slice A2 n.antennas.length C2) KN_2.out 2 rfl
    have fN3 := blkC (v := .slice A3 n.radios.length C3) KN_2.out 3 rfl
    have fX0 := blkC (v := .string x.name) KX_2.out 0 rfl
    have fX1 := blkC (v := .string x.site) KX_2.out 1 rfl
    have fX2 := blkC (v := .string x.antenna) KX_2.out 2 rfl
    have fX3 := blkC (v := .string x.radio) KX_2.out 3 rfl
    have fX4 := blkC (v := .string x.band) KX_2.out 4 rfl
    have fX5 := blkC (v := .int .i64 x.azimuth) KX_2.out 5 rfl
    have fX6 := blkC (v := .int .i64 x.tilt) KX_2.out 6 rfl
    have fX7 := blkC (v := .int .i64 x.above) KX_2.out 7 rfl
    have fX8 := blkC (v := .int .i64 x.channel) KX_2.out 8 rfl
    have fR0 := blkC (v := .slice none 0 0) KR_2.out 0 rfl
    have fR1 := blkC (v := .slice none 0 0) KR_2.out 1 rfl
    have fR2 := blkC (v := .slice none 0 0) KR_2.out 2 rfl
    have fR3 := blkC (v := .slice none 0 0) KR_2.out 3 rfl
    go_wp2_with fail
    refine (hasParts_any n x _ _ _ _ _ ((R0.out.below BB_2.out).mono (by have := BB_2.out.size; omega)) ((R2.out.below BB_2.out).mono (by have := BB_2.out.size; omega)) ((R3.out.below BB_2.out).mono (by have := BB_2.out.size; omega)) (by omega) (by omega) (by omega)).mono ?_
    rintro e X3 ⟨rfl, hb⟩
    clear fN0 fN1 fN2 fN3 fX0 fX1 fX2 fX3 fX4 fX5 fX6 fX7 fX8 fR0 fR1 fR2 fR3
    have KN_3 := Lib.hid (blkB KN_2.out hb (by omega))
    have KX_3 := Lib.hid (blkB KX_2.out hb (by omega))
    have KR_3 := Lib.hid (blkB KR_2.out hb (by omega))
    have BB_3 := Lib.hid (BB_2.out.trans (hb.mono (by omega)))
    have zz3 : X2.heap.size ≤ X3.heap.size := hb.size
    clear KN_2 KX_2 KR_2 BB_2 hb
    rw [hp]
    have fN0 := blkC (v := .slice A0 n.sites.length C0) KN_3.out 0 rfl
    have fN1 := blkC (v := .slice A1 n.sectors.length C1) KN_3.out 1 rfl
    have fN2 := blkC (v := .slice A2 n.antennas.length C2) KN_3.out 2 rfl
    have fN3 := blkC (v := .slice A3 n.radios.length C3) KN_3.out 3 rfl
    have fX0 := blkC (v := .string x.name) KX_3.out 0 rfl
    have fX1 := blkC (v := .string x.site) KX_3.out 1 rfl
    have fX2 := blkC (v := .string x.antenna) KX_3.out 2 rfl
    have fX3 := blkC (v := .string x.radio) KX_3.out 3 rfl
    have fX4 := blkC (v := .string x.band) KX_3.out 4 rfl
    have fX5 := blkC (v := .int .i64 x.azimuth) KX_3.out 5 rfl
    have fX6 := blkC (v := .int .i64 x.tilt) KX_3.out 6 rfl
    have fX7 := blkC (v := .int .i64 x.above) KX_3.out 7 rfl
    have fX8 := blkC (v := .int .i64 x.channel) KX_3.out 8 rfl
    have fR0 := blkC (v := .slice none 0 0) KR_3.out 0 rfl
    have fR1 := blkC (v := .slice none 0 0) KR_3.out 1 rfl
    have fR2 := blkC (v := .slice none 0 0) KR_3.out 2 rfl
    have fR3 := blkC (v := .slice none 0 0) KR_3.out 3 rfl
    go_wp2_with fail
    refine (sectorNamed_any n.sectors x.name _ _ _ _ w.heap.size _ (R1.out.below BB_3.out) (by have := BB_3.out.size; omega) (by omega)).mono ?_
    rintro e X4 ⟨rfl, hb⟩
    clear fN0 fN1 fN2 fN3 fX0 fX1 fX2 fX3 fX4 fX5 fX6 fX7 fX8 fR0 fR1 fR2 fR3
    have KN_4 := Lib.hid (blkB KN_3.out hb (by omega))
    have KX_4 := Lib.hid (blkB KX_3.out hb (by omega))
    have KR_4 := Lib.hid (blkB KR_3.out hb (by omega))
    have BB_4 := Lib.hid (BB_3.out.trans (hb.mono (by omega)))
    have zz4 : X3.heap.size ≤ X4.heap.size := hb.size
    clear KN_3 KX_3 KR_3 BB_3 hb
    rw [HI.out]
    have fN0 := blkC (v := .slice A0 n.sites.length C0) KN_4.out 0 rfl
    have fN1 := blkC (v := .slice A1 n.sectors.length C1) KN_4.out 1 rfl
    have fN2 := blkC (v := .slice A2 n.antennas.length C2) KN_4.out 2 rfl
    have fN3 := blkC (v := .slice A3 n.radios.length C3) KN_4.out 3 rfl
    have fX0 := blkC (v := .string x.name) KX_4.out 0 rfl
    have fX1 := blkC (v := .string x.site) KX_4.out 1 rfl
    have fX2 := blkC (v := .string x.antenna) KX_4.out 2 rfl
    have fX3 := blkC (v := .string x.radio) KX_4.out 3 rfl
    have fX4 := blkC (v := .string x.band) KX_4.out 4 rfl
    have fX5 := blkC (v := .int .i64 x.azimuth) KX_4.out 5 rfl
    have fX6 := blkC (v := .int .i64 x.tilt) KX_4.out 6 rfl
    have fX7 := blkC (v := .int .i64 x.above) KX_4.out 7 rfl
    have fX8 := blkC (v := .int .i64 x.channel) KX_4.out 8 rfl
    have fR0 := blkC (v := .slice none 0 0) KR_4.out 0 rfl
    have fR1 := blkC (v := .slice none 0 0) KR_4.out 1 rfl
    have fR2 := blkC (v := .slice none 0 0) KR_4.out 2 rfl
    have fR3 := blkC (v := .slice none 0 0) KR_4.out 3 rfl
    have zR := blkF KR_4.out
    go_wp2
    have BF := Lib.hid (((((BB_4.out).setCell (p := ⟨w.heap.size + 2, 0, none⟩) (by show w.heap.size ≤ w.heap.size + 2; omega) (.slice none 0 0)).setCell (p := ⟨w.heap.size + 2, 1, none⟩) (by show w.heap.size ≤ w.heap.size + 2; omega) (.slice none 0 0)).setCell (p := ⟨w.heap.size + 2, 2, none⟩) (by show w.heap.size ≤ w.heap.size + 2; omega) (.slice none 0 0)).setCell (p := ⟨w.heap.size + 2, 3, none⟩) (by show w.heap.size ≤ w.heap.size + 2; omega) (.slice none 0 0))
    refine bodyPost_ret (v := .tuple #[.agg #[.slice none 0 0, .slice none 0 0, .slice none 0 0, .slice none 0 0], .int .i64 4]) (by simp [results, Tryz.results32, go_sem, *]) rfl ?_
    rw [HE.out]
    first | exact ⟨none, 0, none, 0, none, 0, none, 0, [], rfl, BF.out, ownV_zero _, In.nil⟩ | exact ⟨none, 0, none, 0, none, 0, none, 0, rfl, BF.out, [], ownV_zero _, In.nil⟩
  have HNO := Lib.hid (none_eqS (f := DSector.name) hno)
  clear hno
  by_cases hlen : n.sectors.length = 24
  · have HE := Lib.hid (addSecR_full hv hx hp hi hlen)
    have HI : Hid (idxSector n.sectors x.name = -1) := hi
    have hl2 : ((n.sectors.length : Int) == 24) = true := by simp; omega
    have HLN := Lib.hid hlen
    clear hi hlen
    have BB0_ : Below w.heap.size w (((w.alloc (.cells #[.slice A0 n.sites.length C0, .slice A1 n.sectors.length C1, .slice A2 n.antennas.length C2, .slice A3 n.radios.length C3] 35)).alloc (.cells #[.string x.name, .string x.site, .string x.antenna, .string x.radio, .string x.band, .int .i64 x.azimuth, .int .i64 x.tilt, .int .i64 x.above, .int .i64 x.channel] 49)).alloc (.cells #[.slice none 0 0, .slice none 0 0, .slice none 0 0, .slice none 0 0] 35)) := Below.alloc (Below.alloc (Below.alloc (Below.refl _ _) (by first | exact Nat.le_refl _ | (simp; done) | (simp; omega)) _) (by first | exact Nat.le_refl _ | (simp; done) | (simp; omega)) _) (by first | exact Nat.le_refl _ | (simp; done) | (simp; omega)) _
    have zz0 : w.heap.size + 3 ≤ (((w.alloc (.cells #[.slice A0 n.sites.length C0, .slice A1 n.sectors.length C1, .slice A2 n.antennas.length C2, .slice A3 n.radios.length C3] 35)).alloc (.cells #[.string x.name, .string x.site, .string x.antenna, .string x.radio, .string x.band, .int .i64 x.azimuth, .int .i64 x.tilt, .int .i64 x.above, .int .i64 x.channel] 49)).alloc (.cells #[.slice none 0 0, .slice none 0 0, .slice none 0 0, .slice none 0 0] 35)).heap.size := by simp
    have k_N : (((w.alloc (.cells #[.slice A0 n.sites.length C0, .slice A1 n.sectors.length C1, .slice A2 n.antennas.length C2, .slice A3 n.radios.length C3] 35)).alloc (.cells #[.string x.name, .string x.site, .string x.antenna, .string x.radio, .string x.band, .int .i64 x.azimuth, .int .i64 x.tilt, .int .i64 x.above, .int .i64 x.channel] 49)).alloc (.cells #[.slice none 0 0, .slice none 0 0, .slice none 0 0, .slice none 0 0] 35)).heap[w.heap.size]? = some (.cells #[.slice A0 n.sites.length C0, .slice A1 n.sectors.length C1, .slice A2 n.antennas.length C2, .slice A3 n.radios.length C3] 35 (0, 0)) := by
      have h := blkN w #[.slice A0 n.sites.length C0, .slice A1 n.sectors.length C1, .slice A2 n.antennas.length C2, .slice A3 n.radios.length C3] 35
      replace h := blkA h (by first | (simp; done) | (simp; omega)) (.cells #[.string x.name, .string x.site, .string x.antenna, .string x.radio, .string x.band, .int .i64 x.azimuth, .int .i64 x.tilt, .int .i64 x.above, .int .i64 x.channel] 49)
      replace h := blkA h (by first | (simp; done) | (simp; omega)) (.cells #[.slice none 0 0, .slice none 0 0, .slice none 0 0, .slice none 0 0] 35)
      exact h
    have KN_0 := Lib.hid k_N
    have k_X : (((w.alloc (.cells #[.slice A0 n.sites.length C0, .slice A1 n.sectors.length C1, .slice A2 n.antennas.length C2, .slice A3 n.radios.length C3] 35)).alloc (.cells #[.string x.name, .string x.site, .string x.antenna, .string x.radio, .string x.band, .int .i64 x.azimuth, .int .i64 x.tilt, .int .i64 x.above, .int .i64 x.channel] 49)).alloc (.cells #[.slice none 0 0, .slice none 0 0, .slice none 0 0, .slice none 0 0] 35)).heap[w.heap.size + 1]? = some (.cells #[.string x.name, .string x.site, .string x.antenna, .string x.radio, .string x.band, .int .i64 x.azimuth, .int .i64 x.tilt, .int .i64 x.above, .int .i64 x.channel] 49 (0, 0)) := by
      have h := blkN (w.alloc (.cells #[.slice A0 n.sites.length C0, .slice A1 n.sectors.length C1, .slice A2 n.antennas.length C2, .slice A3 n.radios.length C3] 35)) #[.string x.name, .string x.site, .string x.antenna, .string x.radio, .string x.band, .int .i64 x.azimuth, .int .i64 x.tilt, .int .i64 x.above, .int .i64 x.channel] 49
      rw [show (w.alloc (.cells #[.slice A0 n.sites.length C0, .slice A1 n.sectors.length C1, .slice A2 n.antennas.length C2, .slice A3 n.radios.length C3] 35)).heap.size = w.heap.size + 1 by simp] at h
      replace h := blkA h (by first | (simp; done) | (simp; omega)) (.cells #[.slice none 0 0, .slice none 0 0, .slice none 0 0, .slice none 0 0] 35)
      exact h
    have KX_0 := Lib.hid k_X
    have k_R : (((w.alloc (.cells #[.slice A0 n.sites.length C0, .slice A1 n.sectors.length C1, .slice A2 n.antennas.length C2, .slice A3 n.radios.length C3] 35)).alloc (.cells #[.string x.name, .string x.site, .string x.antenna, .string x.radio, .string x.band, .int .i64 x.azimuth, .int .i64 x.tilt, .int .i64 x.above, .int .i64 x.channel] 49)).alloc (.cells #[.slice none 0 0, .slice none 0 0, .slice none 0 0, .slice none 0 0] 35)).heap[w.heap.size + 2]? = some (.cells #[.slice none 0 0, .slice none 0 0, .slice none 0 0, .slice none 0 0] 35 (0, 0)) := by
      have h := blkN ((w.alloc (.cells #[.slice A0 n.sites.length C0, .slice A1 n.sectors.length C1, .slice A2 n.antennas.length C2, .slice A3 n.radios.length C3] 35)).alloc (.cells #[.string x.name, .string x.site, .string x.antenna, .string x.radio, .string x.band, .int .i64 x.azimuth, .int .i64 x.tilt, .int .i64 x.above, .int .i64 x.channel] 49)) #[.slice none 0 0, .slice none 0 0, .slice none 0 0, .slice none 0 0] 35
      rw [show ((w.alloc (.cells #[.slice A0 n.sites.length C0, .slice A1 n.sectors.length C1, .slice A2 n.antennas.length C2, .slice A3 n.radios.length C3] 35)).alloc (.cells #[.string x.name, .string x.site, .string x.antenna, .string x.radio, .string x.band, .int .i64 x.azimuth, .int .i64 x.tilt, .int .i64 x.above, .int .i64 x.channel] 49)).heap.size = w.heap.size + 2 by simp] at h
      exact h
    have KR_0 := Lib.hid k_R
    clear k_N k_X k_R
    have BB_0 := Lib.hid BB0_
    clear BB0_
    go_enter Tryz.func32, Tryz.ntmps32
    go_upto_region 1 with (fail)
    generalize (((w.alloc (.cells #[.slice A0 n.sites.length C0, .slice A1 n.sectors.length C1, .slice A2 n.antennas.length C2, .slice A3 n.radios.length C3] 35)).alloc (.cells #[.string x.name, .string x.site, .string x.antenna, .string x.radio, .string x.band, .int .i64 x.azimuth, .int .i64 x.tilt, .int .i64 x.above, .int .i64 x.channel] 49)).alloc (.cells #[.slice none 0 0, .slice none 0 0, .slice none 0 0, .slice none 0 0] 35)) = W0 at *
    have fN0 := blkC (v := .slice A0 n.sites.length C0) KN_0.out 0 rfl
    have fN1 := blkC (v := .slice A1 n.sectors.length C1) KN_0.out 1 rfl
    have fN2 := blkC (v := .slice A2 n.antennas.length C2) KN_0.out 2 rfl
    have fN3 := blkC (v := .slice A3 n.radios.length C3) KN_0.out 3 rfl
    have fX0 := blkC (v := .string x.name) KX_0.out 0 rfl
    have fX1 := blkC (v := .string x.site) KX_0.out 1 rfl
    have fX2 := blkC (v := .string x.antenna) KX_0.out 2 rfl
    have fX3 := blkC (v := .string x.radio) KX_0.out 3 rfl
    have fX4 := blkC (v := .string x.band) KX_0.out 4 rfl
    have fX5 := blkC (v := .int .i64 x.azimuth) KX_0.out 5 rfl
    have fX6 := blkC (v := .int .i64 x.tilt) KX_0.out 6 rfl
    have fX7 := blkC (v := .int .i64 x.above) KX_0.out 7 rfl
    have fX8 := blkC (v := .int .i64 x.channel) KX_0.out 8 rfl
    have fR0 := blkC (v := .slice none 0 0) KR_0.out 0 rfl
    have fR1 := blkC (v := .slice none 0 0) KR_0.out 1 rfl
    have fR2 := blkC (v := .slice none 0 0) KR_0.out 2 rfl
    have fR3 := blkC (v := .slice none 0 0) KR_0.out 3 rfl
    go_wp2_with fail
    refine (validNetwork_any n _ _ _ _ _ ((R0.out.below BB_0.out).mono (by have := BB_0.out.size; omega)) ((R1.out.below BB_0.out).mono (by have := BB_0.out.size; omega)) ((R2.out.below BB_0.out).mono (by have := BB_0.out.size; omega)) ((R3.out.below BB_0.out).mono (by have := BB_0.out.size; omega)) (by omega) hk_n).mono ?_
    rintro e X1 ⟨rfl, hb⟩
    clear fN0 fN1 fN2 fN3 fX0 fX1 fX2 fX3 fX4 fX5 fX6 fX7 fX8 fR0 fR1 fR2 fR3
    have KN_1 := Lib.hid (blkB KN_0.out hb (by omega))
    have KX_1 := Lib.hid (blkB KX_0.out hb (by omega))
    have KR_1 := Lib.hid (blkB KR_0.out hb (by omega))
    have BB_1 := Lib.hid (BB_0.out.trans (hb.mono (by omega)))
    have zz1 : W0.heap.size ≤ X1.heap.size := hb.size
    clear KN_0 KX_0 KR_0 BB_0 hb
    rw [hv]
    have fN0 := blkC (v := .slice A0 n.sites.length C0) KN_1.out 0 rfl
    have fN1 := blkC (v := .slice A1 n.sectors.length C1) KN_1.out 1 rfl
    have fN2 := blkC (v := .slice A2 n.antennas.length C2) KN_1.out 2 rfl
    have fN3 := blkC (v := .slice A3 n.radios.length C3) KN_1.out 3 rfl
    have fX0 := blkC (v := .string x.name) KX_1.out 0 rfl
    have fX1 := blkC (v := .string x.site) KX_1.out 1 rfl
    have fX2 := blkC (v := .string x.antenna) KX_1.out 2 rfl
    have fX3 := blkC (v := .string x.radio) KX_1.out 3 rfl
    have fX4 := blkC (v := .string x.band) KX_1.out 4 rfl
    have fX5 := blkC (v := .int .i64 x.azimuth) KX_1.out 5 rfl
    have fX6 := blkC (v := .int .i64 x.tilt) KX_1.out 6 rfl
    have fX7 := blkC (v := .int .i64 x.above) KX_1.out 7 rfl
    have fX8 := blkC (v := .int .i64 x.channel) KX_1.out 8 rfl
    have fR0 := blkC (v := .slice none 0 0) KR_1.out 0 rfl
    have fR1 := blkC (v := .slice none 0 0) KR_1.out 1 rfl
    have fR2 := blkC (v := .slice none 0 0) KR_1.out 2 rfl
    have fR3 := blkC (v := .slice none 0 0) KR_1.out 3 rfl
    go_wp2_with fail
    refine (sectorValid_any x hko.name hko.site hko.antenna hko.radio hko.band _).mono ?_
    rintro e X2 ⟨rfl, hb⟩
    clear fN0 fN1 fN2 fN3 fX0 fX1 fX2 fX3 fX4 fX5 fX6 fX7 fX8 fR0 fR1 fR2 fR3
    have KN_2 := Lib.hid (blkB KN_1.out hb (by omega))
    have KX_2 := Lib.hid (blkB KX_1.out hb (by omega))
    have KR_2 := Lib.hid (blkB KR_1.out hb (by omega))
    have BB_2 := Lib.hid (BB_1.out.trans (hb.mono (by omega)))
    have zz2 : X1.heap.size ≤ X2.heap.size := hb.size
    clear KN_1 KX_1 KR_1 BB_1 hb
    rw [hx]
    have fN0 := blkC (v := .slice A0 n.sites.length C0) KN_2.out 0 rfl
    have fN1 := blkC (v := .slice A1 n.sectors.length C1) KN_2.out 1 rfl
    have fN2 := blkC (v := .slice A2 n.antennas.length C2) KN_2.out 2 rfl
    have fN3 := blkC (v := .slice A3 n.radios.length C3) KN_2.out 3 rfl
    have fX0 := blkC (v := .string x.name) KX_2.out 0 rfl
    have fX1 := blkC (v := .string x.site) KX_2.out 1 rfl
    have fX2 := blkC (v := .string x.antenna) KX_2.out 2 rfl
    have fX3 := blkC (v := .string x.radio) KX_2.out 3 rfl
    have fX4 := blkC (v := .string x.band) KX_2.out 4 rfl
    have fX5 := blkC (v := .int .i64 x.azimuth) KX_2.out 5 rfl
    have fX6 := blkC (v := .int .i64 x.tilt) KX_2.out 6 rfl
    have fX7 := blkC (v := .int .i64 x.above) KX_2.out 7 rfl
    have fX8 := blkC (v := .int .i64 x.channel) KX_2.out 8 rfl
    have fR0 := blkC (v := .slice none 0 0) KR_2.out 0 rfl
    have fR1 := blkC (v := .slice none 0 0) KR_2.out 1 rfl
    have fR2 := blkC (v := .slice none 0 0) KR_2.out 2 rfl
    have fR3 := blkC (v := .slice none 0 0) KR_2.out 3 rfl
    go_wp2_with fail
    refine (hasParts_any n x _ _ _ _ _ ((R0.out.below BB_2.out).mono (by have := BB_2.out.size; omega)) ((R2.out.below BB_2.out).mono (by have := BB_2.out.size; omega)) ((R3.out.below BB_2.out).mono (by have := BB_2.out.size; omega)) (by omega) (by omega) (by omega)).mono ?_
    rintro e X3 ⟨rfl, hb⟩
    clear fN0 fN1 fN2 fN3 fX0 fX1 fX2 fX3 fX4 fX5 fX6 fX7 fX8 fR0 fR1 fR2 fR3
    have KN_3 := Lib.hid (blkB KN_2.out hb (by omega))
    have KX_3 := Lib.hid (blkB KX_2.out hb (by omega))
    have KR_3 := Lib.hid (blkB KR_2.out hb (by omega))
    have BB_3 := Lib.hid (BB_2.out.trans (hb.mono (by omega)))
    have zz3 : X2.heap.size ≤ X3.heap.size := hb.size
    clear KN_2 KX_2 KR_2 BB_2 hb
    rw [hp]
    have fN0 := blkC (v := .slice A0 n.sites.length C0) KN_3.out 0 rfl
    have fN1 := blkC (v := .slice A1 n.sectors.length C1) KN_3.out 1 rfl
    have fN2 := blkC (v := .slice A2 n.antennas.length C2) KN_3.out 2 rfl
    have fN3 := blkC (v := .slice A3 n.radios.length C3) KN_3.out 3 rfl
    have fX0 := blkC (v := .string x.name) KX_3.out 0 rfl
    have fX1 := blkC (v := .string x.site) KX_3.out 1 rfl
    have fX2 := blkC (v := .string x.antenna) KX_3.out 2 rfl
    have fX3 := blkC (v := .string x.radio) KX_3.out 3 rfl
    have fX4 := blkC (v := .string x.band) KX_3.out 4 rfl
    have fX5 := blkC (v := .int .i64 x.azimuth) KX_3.out 5 rfl
    have fX6 := blkC (v := .int .i64 x.tilt) KX_3.out 6 rfl
    have fX7 := blkC (v := .int .i64 x.above) KX_3.out 7 rfl
    have fX8 := blkC (v := .int .i64 x.channel) KX_3.out 8 rfl
    have fR0 := blkC (v := .slice none 0 0) KR_3.out 0 rfl
    have fR1 := blkC (v := .slice none 0 0) KR_3.out 1 rfl
    have fR2 := blkC (v := .slice none 0 0) KR_3.out 2 rfl
    have fR3 := blkC (v := .slice none 0 0) KR_3.out 3 rfl
    go_wp2_with fail
    refine (sectorNamed_any n.sectors x.name _ _ _ _ w.heap.size _ (R1.out.below BB_3.out) (by have := BB_3.out.size; omega) (by omega)).mono ?_
    rintro e X4 ⟨rfl, hb⟩
    clear fN0 fN1 fN2 fN3 fX0 fX1 fX2 fX3 fX4 fX5 fX6 fX7 fX8 fR0 fR1 fR2 fR3
    have KN_4 := Lib.hid (blkB KN_3.out hb (by omega))
    have KX_4 := Lib.hid (blkB KX_3.out hb (by omega))
    have KR_4 := Lib.hid (blkB KR_3.out hb (by omega))
    have BB_4 := Lib.hid (BB_3.out.trans (hb.mono (by omega)))
    have zz4 : X3.heap.size ≤ X4.heap.size := hb.size
    clear KN_3 KX_3 KR_3 BB_3 hb
    rw [HI.out]
    have fN0 := blkC (v := .slice A0 n.sites.length C0) KN_4.out 0 rfl
    have fN1 := blkC (v := .slice A1 n.sectors.length C1) KN_4.out 1 rfl
    have fN2 := blkC (v := .slice A2 n.antennas.length C2) KN_4.out 2 rfl
    have fN3 := blkC (v := .slice A3 n.radios.length C3) KN_4.out 3 rfl
    have fX0 := blkC (v := .string x.name) KX_4.out 0 rfl
    have fX1 := blkC (v := .string x.site) KX_4.out 1 rfl
    have fX2 := blkC (v := .string x.antenna) KX_4.out 2 rfl
    have fX3 := blkC (v := .string x.radio) KX_4.out 3 rfl
    have fX4 := blkC (v := .string x.band) KX_4.out 4 rfl
    have fX5 := blkC (v := .int .i64 x.azimuth) KX_4.out 5 rfl
    have fX6 := blkC (v := .int .i64 x.tilt) KX_4.out 6 rfl
    have fX7 := blkC (v := .int .i64 x.above) KX_4.out 7 rfl
    have fX8 := blkC (v := .int .i64 x.channel) KX_4.out 8 rfl
    have fR0 := blkC (v := .slice none 0 0) KR_4.out 0 rfl
    have fR1 := blkC (v := .slice none 0 0) KR_4.out 1 rfl
    have fR2 := blkC (v := .slice none 0 0) KR_4.out 2 rfl
    have fR3 := blkC (v := .slice none 0 0) KR_4.out 3 rfl
    have zR := blkF KR_4.out
    go_wp2
    have BF := Lib.hid (((((BB_4.out).setCell (p := ⟨w.heap.size + 2, 0, none⟩) (by show w.heap.size ≤ w.heap.size + 2; omega) (.slice none 0 0)).setCell (p := ⟨w.heap.size + 2, 1, none⟩) (by show w.heap.size ≤ w.heap.size + 2; omega) (.slice none 0 0)).setCell (p := ⟨w.heap.size + 2, 2, none⟩) (by show w.heap.size ≤ w.heap.size + 2; omega) (.slice none 0 0)).setCell (p := ⟨w.heap.size + 2, 3, none⟩) (by show w.heap.size ≤ w.heap.size + 2; omega) (.slice none 0 0))
    refine bodyPost_ret (v := .tuple #[.agg #[.slice none 0 0, .slice none 0 0, .slice none 0 0, .slice none 0 0], .int .i64 5]) (by simp [results, Tryz.results32, go_sem, *]) rfl ?_
    rw [HE.out]
    first | exact ⟨none, 0, none, 0, none, 0, none, 0, [], rfl, BF.out, ownV_zero _, In.nil⟩ | exact ⟨none, 0, none, 0, none, 0, none, 0, rfl, BF.out, [], ownV_zero _, In.nil⟩
  have HE := Lib.hid (addSecR_ok hv hx hp hi hlen)
  have HI : Hid (idxSector n.sectors x.name = -1) := hi
  have hl2 : ((n.sectors.length : Int) == 24) = false := by simp; omega
  have hl3 : ¬ ((n.sectors.length : Int) = 24) := by omega
  clear hi
  have hsl : n.sectors.length ≤ 1048576 := by omega
  have RISE := Lib.hid (sectorRise hv)
  have BB0_ : Below w.heap.size w (((w.alloc (.cells #[.slice A0 n.sites.length C0, .slice A1 n.sectors.length C1, .slice A2 n.antennas.length C2, .slice A3 n.radios.length C3] 35)).alloc (.cells #[.string x.name, .string x.site, .string x.antenna, .string x.radio, .string x.band, .int .i64 x.azimuth, .int .i64 x.tilt, .int .i64 x.above, .int .i64 x.channel] 49)).alloc (.cells #[.slice none 0 0, .slice none 0 0, .slice none 0 0, .slice none 0 0] 35)) := Below.alloc (Below.alloc (Below.alloc (Below.refl _ _) (by first | exact Nat.le_refl _ | (simp; done) | (simp; omega)) _) (by first | exact Nat.le_refl _ | (simp; done) | (simp; omega)) _) (by first | exact Nat.le_refl _ | (simp; done) | (simp; omega)) _
  have zz0 : w.heap.size + 3 ≤ (((w.alloc (.cells #[.slice A0 n.sites.length C0, .slice A1 n.sectors.length C1, .slice A2 n.antennas.length C2, .slice A3 n.radios.length C3] 35)).alloc (.cells #[.string x.name, .string x.site, .string x.antenna, .string x.radio, .string x.band, .int .i64 x.azimuth, .int .i64 x.tilt, .int .i64 x.above, .int .i64 x.channel] 49)).alloc (.cells #[.slice none 0 0, .slice none 0 0, .slice none 0 0, .slice none 0 0] 35)).heap.size := by simp
  have k_N : (((w.alloc (.cells #[.slice A0 n.sites.length C0, .slice A1 n.sectors.length C1, .slice A2 n.antennas.length C2, .slice A3 n.radios.length C3] 35)).alloc (.cells #[.string x.name, .string x.site, .string x.antenna, .string x.radio, .string x.band, .int .i64 x.azimuth, .int .i64 x.tilt, .int .i64 x.above, .int .i64 x.channel] 49)).alloc (.cells #[.slice none 0 0, .slice none 0 0, .slice none 0 0, .slice none 0 0] 35)).heap[w.heap.size]? = some (.cells #[.slice A0 n.sites.length C0, .slice A1 n.sectors.length C1, .slice A2 n.antennas.length C2, .slice A3 n.radios.length C3] 35 (0, 0)) := by
    have h := blkN w #[.slice A0 n.sites.length C0, .slice A1 n.sectors.length C1, .slice A2 n.antennas.length C2, .slice A3 n.radios.length C3] 35
    replace h := blkA h (by first | (simp; done) | (simp; omega)) (.cells #[.string x.name, .string x.site, .string x.antenna, .string x.radio, .string x.band, .int .i64 x.azimuth, .int .i64 x.tilt, .int .i64 x.above, .int .i64 x.channel] 49)
    replace h := blkA h (by first | (simp; done) | (simp; omega)) (.cells #[.slice none 0 0, .slice none 0 0, .slice none 0 0, .slice none 0 0] 35)
    exact h
  have KN_0 := Lib.hid k_N
  have k_X : (((w.alloc (.cells #[.slice A0 n.sites.length C0, .slice A1 n.sectors.length C1, .slice A2 n.antennas.length C2, .slice A3 n.radios.length C3] 35)).alloc (.cells #[.string x.name, .string x.site, .string x.antenna, .string x.radio, .string x.band, .int .i64 x.azimuth, .int .i64 x.tilt, .int .i64 x.above, .int .i64 x.channel] 49)).alloc (.cells #[.slice none 0 0, .slice none 0 0, .slice none 0 0, .slice none 0 0] 35)).heap[w.heap.size + 1]? = some (.cells #[.string x.name, .string x.site, .string x.antenna, .string x.radio, .string x.band, .int .i64 x.azimuth, .int .i64 x.tilt, .int .i64 x.above, .int .i64 x.channel] 49 (0, 0)) := by
    have h := blkN (w.alloc (.cells #[.slice A0 n.sites.length C0, .slice A1 n.sectors.length C1, .slice A2 n.antennas.length C2, .slice A3 n.radios.length C3] 35)) #[.string x.name, .string x.site, .string x.antenna, .string x.radio, .string x.band, .int .i64 x.azimuth, .int .i64 x.tilt, .int .i64 x.above, .int .i64 x.channel] 49
    rw [show (w.alloc (.cells #[.slice A0 n.sites.length C0, .slice A1 n.sectors.length C1, .slice A2 n.antennas.length C2, .slice A3 n.radios.length C3] 35)).heap.size = w.heap.size + 1 by simp] at h
    replace h := blkA h (by first | (simp; done) | (simp; omega)) (.cells #[.slice none 0 0, .slice none 0 0, .slice none 0 0, .slice none 0 0] 35)
    exact h
  have KX_0 := Lib.hid k_X
  have k_R : (((w.alloc (.cells #[.slice A0 n.sites.length C0, .slice A1 n.sectors.length C1, .slice A2 n.antennas.length C2, .slice A3 n.radios.length C3] 35)).alloc (.cells #[.string x.name, .string x.site, .string x.antenna, .string x.radio, .string x.band, .int .i64 x.azimuth, .int .i64 x.tilt, .int .i64 x.above, .int .i64 x.channel] 49)).alloc (.cells #[.slice none 0 0, .slice none 0 0, .slice none 0 0, .slice none 0 0] 35)).heap[w.heap.size + 2]? = some (.cells #[.slice none 0 0, .slice none 0 0, .slice none 0 0, .slice none 0 0] 35 (0, 0)) := by
    have h := blkN ((w.alloc (.cells #[.slice A0 n.sites.length C0, .slice A1 n.sectors.length C1, .slice A2 n.antennas.length C2, .slice A3 n.radios.length C3] 35)).alloc (.cells #[.string x.name, .string x.site, .string x.antenna, .string x.radio, .string x.band, .int .i64 x.azimuth, .int .i64 x.tilt, .int .i64 x.above, .int .i64 x.channel] 49)) #[.slice none 0 0, .slice none 0 0, .slice none 0 0, .slice none 0 0] 35
    rw [show ((w.alloc (.cells #[.slice A0 n.sites.length C0, .slice A1 n.sectors.length C1, .slice A2 n.antennas.length C2, .slice A3 n.radios.length C3] 35)).alloc (.cells #[.string x.name, .string x.site, .string x.antenna, .string x.radio, .string x.band, .int .i64 x.azimuth, .int .i64 x.tilt, .int .i64 x.above, .int .i64 x.channel] 49)).heap.size = w.heap.size + 2 by simp] at h
    exact h
  have KR_0 := Lib.hid k_R
  clear k_N k_X k_R
  have BB_0 := Lib.hid BB0_
  clear BB0_
  go_enter Tryz.func32, Tryz.ntmps32
  go_upto_region 1 with (fail)
  generalize (((w.alloc (.cells #[.slice A0 n.sites.length C0, .slice A1 n.sectors.length C1, .slice A2 n.antennas.length C2, .slice A3 n.radios.length C3] 35)).alloc (.cells #[.string x.name, .string x.site, .string x.antenna, .string x.radio, .string x.band, .int .i64 x.azimuth, .int .i64 x.tilt, .int .i64 x.above, .int .i64 x.channel] 49)).alloc (.cells #[.slice none 0 0, .slice none 0 0, .slice none 0 0, .slice none 0 0] 35)) = W0 at *
  have fN0 := blkC (v := .slice A0 n.sites.length C0) KN_0.out 0 rfl
  have fN1 := blkC (v := .slice A1 n.sectors.length C1) KN_0.out 1 rfl
  have fN2 := blkC (v := .slice A2 n.antennas.length C2) KN_0.out 2 rfl
  have fN3 := blkC (v := .slice A3 n.radios.length C3) KN_0.out 3 rfl
  have fX0 := blkC (v := .string x.name) KX_0.out 0 rfl
  have fX1 := blkC (v := .string x.site) KX_0.out 1 rfl
  have fX2 := blkC (v := .string x.antenna) KX_0.out 2 rfl
  have fX3 := blkC (v := .string x.radio) KX_0.out 3 rfl
  have fX4 := blkC (v := .string x.band) KX_0.out 4 rfl
  have fX5 := blkC (v := .int .i64 x.azimuth) KX_0.out 5 rfl
  have fX6 := blkC (v := .int .i64 x.tilt) KX_0.out 6 rfl
  have fX7 := blkC (v := .int .i64 x.above) KX_0.out 7 rfl
  have fX8 := blkC (v := .int .i64 x.channel) KX_0.out 8 rfl
  have fR0 := blkC (v := .slice none 0 0) KR_0.out 0 rfl
  have fR1 := blkC (v := .slice none 0 0) KR_0.out 1 rfl
  have fR2 := blkC (v := .slice none 0 0) KR_0.out 2 rfl
  have fR3 := blkC (v := .slice none 0 0) KR_0.out 3 rfl
  go_wp2_with fail
  refine (validNetwork_any n _ _ _ _ _ ((R0.out.below BB_0.out).mono (by have := BB_0.out.size; omega)) ((R1.out.below BB_0.out).mono (by have := BB_0.out.size; omega)) ((R2.out.below BB_0.out).mono (by have := BB_0.out.size; omega)) ((R3.out.below BB_0.out).mono (by have := BB_0.out.size; omega)) (by omega) hk_n).mono ?_
  rintro e X1 ⟨rfl, hb⟩
  clear fN0 fN1 fN2 fN3 fX0 fX1 fX2 fX3 fX4 fX5 fX6 fX7 fX8 fR0 fR1 fR2 fR3
  have KN_1 := Lib.hid (blkB KN_0.out hb (by omega))
  have KX_1 := Lib.hid (blkB KX_0.out hb (by omega))
  have KR_1 := Lib.hid (blkB KR_0.out hb (by omega))
  have BB_1 := Lib.hid (BB_0.out.trans (hb.mono (by omega)))
  have zz1 : W0.heap.size ≤ X1.heap.size := hb.size
  clear KN_0 KX_0 KR_0 BB_0 hb
  rw [hv]
  have fN0 := blkC (v := .slice A0 n.sites.length C0) KN_1.out 0 rfl
  have fN1 := blkC (v := .slice A1 n.sectors.length C1) KN_1.out 1 rfl
  have fN2 := blkC (v := .slice A2 n.antennas.length C2) KN_1.out 2 rfl
  have fN3 := blkC (v := .slice A3 n.radios.length C3) KN_1.out 3 rfl
  have fX0 := blkC (v := .string x.name) KX_1.out 0 rfl
  have fX1 := blkC (v := .string x.site) KX_1.out 1 rfl
  have fX2 := blkC (v := .string x.antenna) KX_1.out 2 rfl
  have fX3 := blkC (v := .string x.radio) KX_1.out 3 rfl
  have fX4 := blkC (v := .string x.band) KX_1.out 4 rfl
  have fX5 := blkC (v := .int .i64 x.azimuth) KX_1.out 5 rfl
  have fX6 := blkC (v := .int .i64 x.tilt) KX_1.out 6 rfl
  have fX7 := blkC (v := .int .i64 x.above) KX_1.out 7 rfl
  have fX8 := blkC (v := .int .i64 x.channel) KX_1.out 8 rfl
  have fR0 := blkC (v := .slice none 0 0) KR_1.out 0 rfl
  have fR1 := blkC (v := .slice none 0 0) KR_1.out 1 rfl
  have fR2 := blkC (v := .slice none 0 0) KR_1.out 2 rfl
  have fR3 := blkC (v := .slice none 0 0) KR_1.out 3 rfl
  go_wp2_with fail
  refine (sectorValid_any x hko.name hko.site hko.antenna hko.radio hko.band _).mono ?_
  rintro e X2 ⟨rfl, hb⟩
  clear fN0 fN1 fN2 fN3 fX0 fX1 fX2 fX3 fX4 fX5 fX6 fX7 fX8 fR0 fR1 fR2 fR3
  have KN_2 := Lib.hid (blkB KN_1.out hb (by omega))
  have KX_2 := Lib.hid (blkB KX_1.out hb (by omega))
  have KR_2 := Lib.hid (blkB KR_1.out hb (by omega))
  have BB_2 := Lib.hid (BB_1.out.trans (hb.mono (by omega)))
  have zz2 : X1.heap.size ≤ X2.heap.size := hb.size
  clear KN_1 KX_1 KR_1 BB_1 hb
  rw [hx]
  have fN0 := blkC (v := .slice A0 n.sites.length C0) KN_2.out 0 rfl
  have fN1 := blkC (v := .slice A1 n.sectors.length C1) KN_2.out 1 rfl
  have fN2 := blkC (v := .slice A2 n.antennas.length C2) KN_2.out 2 rfl
  have fN3 := blkC (v := .slice A3 n.radios.length C3) KN_2.out 3 rfl
  have fX0 := blkC (v := .string x.name) KX_2.out 0 rfl
  have fX1 := blkC (v := .string x.site) KX_2.out 1 rfl
  have fX2 := blkC (v := .string x.antenna) KX_2.out 2 rfl
  have fX3 := blkC (v := .string x.radio) KX_2.out 3 rfl
  have fX4 := blkC (v := .string x.band) KX_2.out 4 rfl
  have fX5 := blkC (v := .int .i64 x.azimuth) KX_2.out 5 rfl
  have fX6 := blkC (v := .int .i64 x.tilt) KX_2.out 6 rfl
  have fX7 := blkC (v := .int .i64 x.above) KX_2.out 7 rfl
  have fX8 := blkC (v := .int .i64 x.channel) KX_2.out 8 rfl
  have fR0 := blkC (v := .slice none 0 0) KR_2.out 0 rfl
  have fR1 := blkC (v := .slice none 0 0) KR_2.out 1 rfl
  have fR2 := blkC (v := .slice none 0 0) KR_2.out 2 rfl
  have fR3 := blkC (v := .slice none 0 0) KR_2.out 3 rfl
  go_wp2_with fail
  refine (hasParts_any n x _ _ _ _ _ ((R0.out.below BB_2.out).mono (by have := BB_2.out.size; omega)) ((R2.out.below BB_2.out).mono (by have := BB_2.out.size; omega)) ((R3.out.below BB_2.out).mono (by have := BB_2.out.size; omega)) (by omega) (by omega) (by omega)).mono ?_
  rintro e X3 ⟨rfl, hb⟩
  clear fN0 fN1 fN2 fN3 fX0 fX1 fX2 fX3 fX4 fX5 fX6 fX7 fX8 fR0 fR1 fR2 fR3
  have KN_3 := Lib.hid (blkB KN_2.out hb (by omega))
  have KX_3 := Lib.hid (blkB KX_2.out hb (by omega))
  have KR_3 := Lib.hid (blkB KR_2.out hb (by omega))
  have BB_3 := Lib.hid (BB_2.out.trans (hb.mono (by omega)))
  have zz3 : X2.heap.size ≤ X3.heap.size := hb.size
  clear KN_2 KX_2 KR_2 BB_2 hb
  rw [hp]
  have fN0 := blkC (v := .slice A0 n.sites.length C0) KN_3.out 0 rfl
  have fN1 := blkC (v := .slice A1 n.sectors.length C1) KN_3.out 1 rfl
  have fN2 := blkC (v := .slice A2 n.antennas.length C2) KN_3.out 2 rfl
  have fN3 := blkC (v := .slice A3 n.radios.length C3) KN_3.out 3 rfl
  have fX0 := blkC (v := .string x.name) KX_3.out 0 rfl
  have fX1 := blkC (v := .string x.site) KX_3.out 1 rfl
  have fX2 := blkC (v := .string x.antenna) KX_3.out 2 rfl
  have fX3 := blkC (v := .string x.radio) KX_3.out 3 rfl
  have fX4 := blkC (v := .string x.band) KX_3.out 4 rfl
  have fX5 := blkC (v := .int .i64 x.azimuth) KX_3.out 5 rfl
  have fX6 := blkC (v := .int .i64 x.tilt) KX_3.out 6 rfl
  have fX7 := blkC (v := .int .i64 x.above) KX_3.out 7 rfl
  have fX8 := blkC (v := .int .i64 x.channel) KX_3.out 8 rfl
  have fR0 := blkC (v := .slice none 0 0) KR_3.out 0 rfl
  have fR1 := blkC (v := .slice none 0 0) KR_3.out 1 rfl
  have fR2 := blkC (v := .slice none 0 0) KR_3.out 2 rfl
  have fR3 := blkC (v := .slice none 0 0) KR_3.out 3 rfl
  go_wp2_with fail
  refine (sectorNamed_any n.sectors x.name _ _ _ _ w.heap.size _ (R1.out.below BB_3.out) (by have := BB_3.out.size; omega) (by omega)).mono ?_
  rintro e X4 ⟨rfl, hb⟩
  clear fN0 fN1 fN2 fN3 fX0 fX1 fX2 fX3 fX4 fX5 fX6 fX7 fX8 fR0 fR1 fR2 fR3
  have KN_4 := Lib.hid (blkB KN_3.out hb (by omega))
  have KX_4 := Lib.hid (blkB KX_3.out hb (by omega))
  have KR_4 := Lib.hid (blkB KR_3.out hb (by omega))
  have BB_4 := Lib.hid (BB_3.out.trans (hb.mono (by omega)))
  have zz4 : X3.heap.size ≤ X4.heap.size := hb.size
  clear KN_3 KX_3 KR_3 BB_3 hb
  rw [HI.out]
  have fN0 := blkC (v := .slice A0 n.sites.length C0) KN_4.out 0 rfl
  have fN1 := blkC (v := .slice A1 n.sectors.length C1) KN_4.out 1 rfl
  have fN2 := blkC (v := .slice A2 n.antennas.length C2) KN_4.out 2 rfl
  have fN3 := blkC (v := .slice A3 n.radios.length C3) KN_4.out 3 rfl
  have fX0 := blkC (v := .string x.name) KX_4.out 0 rfl
  have fX1 := blkC (v := .string x.site) KX_4.out 1 rfl
  have fX2 := blkC (v := .string x.antenna) KX_4.out 2 rfl
  have fX3 := blkC (v := .string x.radio) KX_4.out 3 rfl
  have fX4 := blkC (v := .string x.band) KX_4.out 4 rfl
  have fX5 := blkC (v := .int .i64 x.azimuth) KX_4.out 5 rfl
  have fX6 := blkC (v := .int .i64 x.tilt) KX_4.out 6 rfl
  have fX7 := blkC (v := .int .i64 x.above) KX_4.out 7 rfl
  have fX8 := blkC (v := .int .i64 x.channel) KX_4.out 8 rfl
  have fR0 := blkC (v := .slice none 0 0) KR_4.out 0 rfl
  have fR1 := blkC (v := .slice none 0 0) KR_4.out 1 rfl
  have fR2 := blkC (v := .slice none 0 0) KR_4.out 2 rfl
  have fR3 := blkC (v := .slice none 0 0) KR_4.out 3 rfl
  go_wp2_with fail
  refine (netCloneQ_any n _ _ _ _ _ ((R0.out.below BB_4.out).mono (by have := BB_4.out.size; omega)) ((R1.out.below BB_4.out).mono (by have := BB_4.out.size; omega)) ((R2.out.below BB_4.out).mono (by have := BB_4.out.size; omega)) ((R3.out.below BB_4.out).mono (by have := BB_4.out.size; omega)) hs_n).mono ?_
  rintro e X5 ⟨a0, c0, a1, c1, a2, c2, a3, c3, p0, p1, f2, f3, rfl, hb, q0, q1, o2, o3, i0, i1, i2, i3, d0, d1, d2⟩
  clear fN0 fN1 fN2 fN3 fX0 fX1 fX2 fX3 fX4 fX5 fX6 fX7 fX8 fR0 fR1 fR2 fR3
  have KN_5 := Lib.hid (blkB KN_4.out hb (by omega))
  have KX_5 := Lib.hid (blkB KX_4.out hb (by omega))
  have KR_5 := Lib.hid (blkB KR_4.out hb (by omega))
  have BB_5 := Lib.hid (BB_4.out.trans (hb.mono (by omega)))
  have zz5 : X4.heap.size ≤ X5.heap.size := hb.size
  clear KN_4 KX_4 KR_4 BB_4 hb
  have I0 : Hid (In (w.heap.size + 3) X5.heap.size p0) := i0.mono (by omega) (Nat.le_refl _)
  have I1 : Hid (In (w.heap.size + 3) X5.heap.size p1) := i1.mono (by omega) (Nat.le_refl _)
  have I2 : Hid (In (w.heap.size + 3) X5.heap.size f2) := i2.mono (by omega) (Nat.le_refl _)
  have I3 : Hid (In (w.heap.size + 3) X5.heap.size f3) := i3.mono (by omega) (Nat.le_refl _)
  clear i0 i1 i2 i3
  have fN0 := blkC (v := .slice A0 n.sites.length C0) KN_5.out 0 rfl
  have fN1 := blkC (v := .slice A1 n.sectors.length C1) KN_5.out 1 rfl
  have fN2 := blkC (v := .slice A2 n.antennas.length C2) KN_5.out 2 rfl
  have fN3 := blkC (v := .slice A3 n.radios.length C3) KN_5.out 3 rfl
  have fX0 := blkC (v := .string x.name) KX_5.out 0 rfl
  have fX1 := blkC (v := .string x.site) KX_5.out 1 rfl
  have fX2 := blkC (v := .string x.antenna) KX_5.out 2 rfl
  have fX3 := blkC (v := .string x.radio) KX_5.out 3 rfl
  have fX4 := blkC (v := .string x.band) KX_5.out 4 rfl
  have fX5 := blkC (v := .int .i64 x.azimuth) KX_5.out 5 rfl
  have fX6 := blkC (v := .int .i64 x.tilt) KX_5.out 6 rfl
  have fX7 := blkC (v := .int .i64 x.above) KX_5.out 7 rfl
  have fX8 := blkC (v := .int .i64 x.channel) KX_5.out 8 rfl
  have fR0 := blkC (v := .slice none 0 0) KR_5.out 0 rfl
  have fR1 := blkC (v := .slice none 0 0) KR_5.out 1 rfl
  have fR2 := blkC (v := .slice none 0 0) KR_5.out 2 rfl
  have fR3 := blkC (v := .slice none 0 0) KR_5.out 3 rfl
  go_upto_region 10 with (fail)
  clear fN0 fN1 fN2 fN3 fX0 fX1 fX2 fX3 fX4 fX5 fX6 fX7 fX8 fR0 fR1 fR2 fR3
  have hbA : Below X5.heap.size X5 (X5.alloc (.cells #[.slice a0 n.sites.length c0, .slice a1 n.sectors.length c1, .slice a2 n.antennas.length c2, .slice a3 n.radios.length c3] 35)) := (Below.refl _ _).alloc (Nat.le_refl _) _
  have kL := blkN X5 #[.slice a0 n.sites.length c0, .slice a1 n.sectors.length c1, .slice a2 n.antennas.length c2, .slice a3 n.radios.length c3] 35
  have zL : X5.heap.size + 1 ≤ (X5.alloc (.cells #[.slice a0 n.sites.length c0, .slice a1 n.sectors.length c1, .slice a2 n.antennas.length c2, .slice a3 n.radios.length c3] 35)).heap.size := by simp
  have S0_0 := Lib.hid (q0.below I0.out (Nat.le_refl _) hbA)
  have S1_0 := Lib.hid (q1.below I1.out (Nat.le_refl _) hbA)
  have S2_0 := Lib.hid (o2.below I2.out (Nat.le_refl _) hbA)
  have S3_0 := Lib.hid (o3.below I3.out (Nat.le_refl _) hbA)
  clear q0 q1 o2 o3
  generalize (X5.alloc (.cells #[.slice a0 n.sites.length c0, .slice a1 n.sectors.length c1, .slice a2 n.antennas.length c2, .slice a3 n.radios.length c3] 35)) = Y at *
  have KL_6 := Lib.hid kL
  clear kL
  have KN_6 := Lib.hid (blkB KN_5.out hbA (by omega))
  have KX_6 := Lib.hid (blkB KX_5.out hbA (by omega))
  have KR_6 := Lib.hid (blkB KR_5.out hbA (by omega))
  have BB_6 := Lib.hid (BB_5.out.trans (hbA.mono (by omega)))
  have zz6 : X5.heap.size ≤ Y.heap.size := hbA.size
  clear KN_5 KX_5 KR_5 BB_5 hbA
  obtain ⟨ax_, cx_, fx_, ex_, ox_, ix_⟩ := ownsRow_own (lo := w.heap.size) S1_0.out.row (by omega) (by omega)
  injection ex_ with ex1_ _ ex3_
  subst ex1_ ex3_
  have RDB : Hid (Rd Y.heap.size Y (DSector.sT n.sectors) (.slice a1 n.sectors.length c1)) := by rw [DSector.sT_vs]; exact ox_.rd ix_
  clear ox_ ix_
  have fX0 := blkC (v := .string x.name) KX_6.out 0 rfl
  have fX1 := blkC (v := .string x.site) KX_6.out 1 rfl
  have fX2 := blkC (v := .string x.antenna) KX_6.out 2 rfl
  have fX3 := blkC (v := .string x.radio) KX_6.out 3 rfl
  have fX4 := blkC (v := .string x.band) KX_6.out 4 rfl
  have fX5 := blkC (v := .int .i64 x.azimuth) KX_6.out 5 rfl
  have fX6 := blkC (v := .int .i64 x.tilt) KX_6.out 6 rfl
  have fX7 := blkC (v := .int .i64 x.above) KX_6.out 7 rfl
  have fX8 := blkC (v := .int .i64 x.channel) KX_6.out 8 rfl
  have fL0 := blkC (v := .slice a0 n.sites.length c0) KL_6.out 0 rfl
  have fL1 := blkC (v := .slice a1 n.sectors.length c1) KL_6.out 1 rfl
  have fL2 := blkC (v := .slice a2 n.antennas.length c2) KL_6.out 2 rfl
  have fL3 := blkC (v := .slice a3 n.radios.length c3) KL_6.out 3 rfl
  go_wp2_with fail
  refine (binSector_any n.sectors x _ _ RDB.out (by omega)).mono ?_
  rintro e X9 ⟨k, fd, hk, rfl, hb, hlo, hhi⟩
  clear fX0 fX1 fX2 fX3 fX4 fX5 fX6 fX7 fX8 fL0 fL1 fL2 fL3
  have S0_1 := Lib.hid (S0_0.out.below I0.out (by omega) hb)
  have S1_1 := Lib.hid (S1_0.out.below I1.out (by omega) hb)
  have S2_1 := Lib.hid (S2_0.out.below I2.out (by omega) hb)
  have S3_1 := Lib.hid (S3_0.out.below I3.out (by omega) hb)
  clear S0_0 S1_0 S2_0 S3_0 RDB
  have KN_7 := Lib.hid (blkB KN_6.out hb (by omega))
  have KX_7 := Lib.hid (blkB KX_6.out hb (by omega))
  have KR_7 := Lib.hid (blkB KR_6.out hb (by omega))
  have KL_7 := Lib.hid (blkB KL_6.out hb (by omega))
  have BB_7 := Lib.hid (BB_6.out.trans (hb.mono (by omega)))
  have zz7 : Y.heap.size ≤ X9.heap.size := hb.size
  clear KN_6 KX_6 KR_6 KL_6 BB_6 hb
  have HPOS : Hid (posOf DSector.name n.sectors x.name = k) := pos_of RISE.out hk (fun h => by have := hlo h; rw [belSector_at (by omega), cmpS_lt] at this; exact this) (fun h => by have := hhi h; rw [belSector_at h, cmpS_lt] at this; exact this)
  clear hlo hhi RISE
  rw [HPOS.out] at HE
  have HL := Lib.hid (insAt_length n.sectors x hk)
  have bx : Below X9.heap.size X9 (X9.alloc (.cells #[.string x.name, .string x.site, .string x.antenna, .string x.radio, .string x.band, .int .i64 x.azimuth, .int .i64 x.tilt, .int .i64 x.above, .int .i64 x.channel] 49)) := (Below.refl _ _).alloc (Nat.le_refl _) _
  have kx : (X9.alloc (.cells #[.string x.name, .string x.site, .string x.antenna, .string x.radio, .string x.band, .int .i64 x.azimuth, .int .i64 x.tilt, .int .i64 x.above, .int .i64 x.channel] 49)).heap[X9.heap.size]? = some (.cells #[.string x.name, .string x.site, .string x.antenna, .string x.radio, .string x.band, .int .i64 x.azimuth, .int .i64 x.tilt, .int .i64 x.above, .int .i64 x.channel] 49 (0, 0)) := blkN X9 _ _
  have zx : (X9.alloc (.cells #[.string x.name, .string x.site, .string x.antenna, .string x.radio, .string x.band, .int .i64 x.azimuth, .int .i64 x.tilt, .int .i64 x.above, .int .i64 x.channel] 49)).heap.size = X9.heap.size + 1 := by simp
  have HIN := Lib.hid (insertSector_any n.sectors x k hk a1 c1 X4.heap.size X9.heap.size (X9.alloc (.cells #[.string x.name, .string x.site, .string x.antenna, .string x.radio, .string x.band, .int .i64 x.azimuth, .int .i64 x.tilt, .int .i64 x.above, .int .i64 x.channel] 49)) (S1_1.out.below I1.out (by omega) bx).row (by omega) kx (fun e => by have := (I1.out _ (S1_1.out.mem e)).2; omega) (by omega))
  have BX := Lib.hid bx
  have ZX := Lib.hid zx
  clear bx kx zx
  have fX0 := blkC (v := .string x.name) KX_7.out 0 rfl
  have fX1 := blkC (v := .string x.site) KX_7.out 1 rfl
  have fX2 := blkC (v := .string x.antenna) KX_7.out 2 rfl
  have fX3 := blkC (v := .string x.radio) KX_7.out 3 rfl
  have fX4 := blkC (v := .string x.band) KX_7.out 4 rfl
  have fX5 := blkC (v := .int .i64 x.azimuth) KX_7.out 5 rfl
  have fX6 := blkC (v := .int .i64 x.tilt) KX_7.out 6 rfl
  have fX7 := blkC (v := .int .i64 x.above) KX_7.out 7 rfl
  have fX8 := blkC (v := .int .i64 x.channel) KX_7.out 8 rfl
  have fL0 := blkC (v := .slice a0 n.sites.length c0) KL_7.out 0 rfl
  have fL1 := blkC (v := .slice a1 n.sectors.length c1) KL_7.out 1 rfl
  have fL2 := blkC (v := .slice a2 n.antennas.length c2) KL_7.out 2 rfl
  have fL3 := blkC (v := .slice a3 n.radios.length c3) KL_7.out 3 rfl
  go_wp2_with fail
  refine HIN.out.mono ?_
  rintro e Z ⟨a6, c6, rfl, ins⟩
  clear fX0 fX1 fX2 fX3 fX4 fX5 fX6 fX7 fX8 fL0 fL1 fL2 fL3
  clear HIN
  have zX1 := ZX.out
  have zZ : X9.heap.size + 1 ≤ Z.heap.size := by have := ins.grown.size; omega
  have far : ∀ b, b < X9.heap.size → b ∉ p1 → Z.heap[b]? = X9.heap[b]? := fun b hb hn => (ins.grown.block b (by omega) (fun e => hn (S1_1.out.mem e.symm))).trans (BX.out.block b hb)
  have KLr := Lib.hid ((far (X5.heap.size) (by omega) (fun e => by have := (I1.out _ e).2; omega)).trans KL_7.out)
  have KRr := Lib.hid ((far (w.heap.size + 2) (by omega) (fun e => by have := (I1.out _ e).1; omega)).trans KR_7.out)
  have bZ : Below w.heap.size w Z := BB_7.out.trans ((BX.out.mono (by omega)).trans ⟨ins.grown.os, ins.grown.tape, ins.grown.output, ins.grown.size, fun b hb => ins.grown.block b (by omega) (fun e => by have := (I1.out b (S1_1.out.mem e.symm)).1; omega)⟩)
  obtain ⟨fq, oq, iq, mq⟩ := ownsRow_ownB (lo := w.heap.size) ins.own (by omega) (by omega)
  have fqm : ∀ y ∈ fq, y ∈ p1 ∨ X9.heap.size ≤ y := fun y hy => by
    rcases ins.row with e | ⟨g, e, hg⟩
    · rw [mq y hy] at e; exact Or.inl (S1_1.out.mem e.symm)
    · rw [mq y hy] at e; injection e with e; right; omega
  have oq2 : Own Z (DSector.sT (insAt n.sectors x k)) (.slice a6 (n.sectors.length + 1) c6) fq := by rw [DSector.sT_vs]; exact oq
  obtain ⟨e0_, m0_, g0, h0_, w0_, u0_⟩ : ∃ aa cc g_, (Value.slice a0 n.sites.length c0 = .slice aa n.sites.length cc) ∧ Own Z (DSite.sT n.sites) (.slice a0 n.sites.length c0) g_ ∧ ∀ y ∈ g_, y ∈ p0 := by
    obtain ⟨g_, o_, _, m_⟩ := ownsRow_ownB (lo := w.heap.size) (S0_1.out.frame (w' := Z) (fun b hb => far b (by have := (I0.out b hb).2; omega) (d0 b hb).1)).row (by omega) (by omega)
    exact ⟨a0, c0, g_, rfl, by rw [DSite.sT_vs]; exact o_, fun y hy => (S0_1.out.frame (w' := Z) (fun b hb => far b (by have := (I0.out b hb).2; omega) (d0 b hb).1)).mem (m_ y hy)⟩
  have o0 := w0_
  have o2 := S2_1.out.frame (w' := Z) (fun b hb => far b (by have := (I2.out b hb).2; omega) (fun h => (d1 b h).1 hb))
  have o3 := S3_1.out.frame (w' := Z) (fun b hb => far b (by have := (I3.out b hb).2; omega) (fun h => (d1 b h).2 hb))
  have D01 : ∀ y ∈ g0, y ∉ fq := fun y hy h => by
      rcases fqm y h with e | e
      · exact (d0 y (u0_ y hy)).1 e
      · have := (I0.out y (u0_ y hy)).2; omega
  have D02 : ∀ y ∈ g0, y ∉ f2 := fun y hy h => (d0 y (u0_ y hy)).2.1 h
  have D03 : ∀ y ∈ g0, y ∉ f3 := fun y hy h => (d0 y (u0_ y hy)).2.2 h
  have D12 : ∀ y ∈ fq, y ∉ f2 := fun y hy h => by
      rcases fqm y hy with e | e
      · exact (d1 y e).1 h
      · have := (I2.out y h).2; omega
  have D13 : ∀ y ∈ fq, y ∉ f3 := fun y hy h => by
      rcases fqm y hy with e | e
      · exact (d1 y e).2 h
      · have := (I3.out y h).2; omega
  have D23 : ∀ y ∈ f2, y ∉ f3 := fun y hy h => (d2 y hy) h
  have ov := netJoin (n := { n with sectors := insAt n.sectors x k }) o0 oq2 o2 o3 (fun y hy => ⟨D01 y hy, D02 y hy, D03 y hy⟩) (fun y hy => ⟨D12 y hy, D13 y hy⟩) D23
  have ivn : ∀ y ∈ (g0 ++ (fq ++ (f2 ++ (f3 ++ [])))), (w.heap.size + 3 ≤ y ∧ y < Z.heap.size) ∧ y ≠ X5.heap.size ∧ y ≠ w.heap.size + 2 := fun y hy => by
    simp only [List.mem_append, List.not_mem_nil, or_false] at hy
    rcases hy with h | h | h | h
    · have := I0.out y (u0_ y h); omega
    · have h3 := (iq y h).2; rcases fqm y h with e | e
      · have := I1.out y e; omega
      · omega
    · have := I2.out y h; omega
    · have := I3.out y h; omega
  have BF := Lib.hid ((((((bZ).setCell (p := ⟨X5.heap.size, 1, none⟩) (by show w.heap.size ≤ X5.heap.size; omega) (.slice a6 (n.sectors.length + 1) c6)).setCell (p := ⟨w.heap.size + 2, 0, none⟩) (by show w.heap.size ≤ w.heap.size + 2; omega) (.slice a0 n.sites.length c0)).setCell (p := ⟨w.heap.size + 2, 1, none⟩) (by show w.heap.size ≤ w.heap.size + 2; omega) (.slice a6 (n.sectors.length + 1) c6)).setCell (p := ⟨w.heap.size + 2, 2, none⟩) (by show w.heap.size ≤ w.heap.size + 2; omega) (.slice a2 n.antennas.length c2)).setCell (p := ⟨w.heap.size + 2, 3, none⟩) (by show w.heap.size ≤ w.heap.size + 2; omega) (.slice a3 n.radios.length c3))
  have OF := Lib.hid ((((((ov).setFar (p := ⟨X5.heap.size, 1, none⟩) (fun e => (ivn _ e).2.1 rfl) (.slice a6 (n.sectors.length + 1) c6)).setFar (p := ⟨w.heap.size + 2, 0, none⟩) (fun e => (ivn _ e).2.2 rfl) (.slice a0 n.sites.length c0)).setFar (p := ⟨w.heap.size + 2, 1, none⟩) (fun e => (ivn _ e).2.2 rfl) (.slice a6 (n.sectors.length + 1) c6)).setFar (p := ⟨w.heap.size + 2, 2, none⟩) (fun e => (ivn _ e).2.2 rfl) (.slice a2 n.antennas.length c2)).setFar (p := ⟨w.heap.size + 2, 3, none⟩) (fun e => (ivn _ e).2.2 rfl) (.slice a3 n.radios.length c3))
  have IVF : Hid (In w.heap.size Z.heap.size (g0 ++ (fq ++ (f2 ++ (f3 ++ []))))) := fun y hy => by have := (ivn y hy).1; omega
  clear ivn ov d0 d1 d2 oq oq2 iq mq fqm far ins bZ D01 D02 D03 D12 D13 D23 S0_1 S1_1 S2_1 S3_1 BX ZX zX1 h0_
  have fL0 := blkC (v := .slice a0 n.sites.length c0) KLr.out 0 rfl
  have fL1 := blkC (v := .slice a1 n.sectors.length c1) KLr.out 1 rfl
  have fL2 := blkC (v := .slice a2 n.antennas.length c2) KLr.out 2 rfl
  have fL3 := blkC (v := .slice a3 n.radios.length c3) KLr.out 3 rfl
  have zLz := blkF KLr.out
  have fR0 := blkC (v := .slice none 0 0) KRr.out 0 rfl
  have fR1 := blkC (v := .slice none 0 0) KRr.out 1 rfl
  have fR2 := blkC (v := .slice none 0 0) KRr.out 2 rfl
  have fR3 := blkC (v := .slice none 0 0) KRr.out 3 rfl
  have zR := blkF KRr.out
  have hneR : X5.heap.size ≠ (w.heap.size + 2) := by omega
  go_wp2
  refine bodyPost_ret (v := .tuple #[.agg #[.slice a0 n.sites.length c0, .slice a6 (n.sectors.length + 1) c6, .slice a2 n.antennas.length c2, .slice a3 n.radios.length c3], .int .i64 0]) (by simp [results, Tryz.results32, go_sem, *]) rfl ?_
  rw [HE.out]
  simp only [HL.out]
  first | refine ⟨a0, c0, a6, c6, a2, c2, a3, c3, _, rfl, BF.out, OF.out, ?_⟩ | refine ⟨a0, c0, a6, c6, a2, c2, a3, c3, rfl, BF.out, _, OF.out, ?_⟩
  simp only [size_setCell]
  exact IVF.out
end Go.Proofs.YtppgcgopnchbcaaGreat
