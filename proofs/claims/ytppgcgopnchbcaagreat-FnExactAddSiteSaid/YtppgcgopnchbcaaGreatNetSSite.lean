/- Contracts: AddSite of the reference. Conditions: bounded lengths. -/
import Derived.Test.YtppgcgopnchbcaaGreatNetRSite
import Derived.Deep.DeepCutAuto
import Derived.IntWalk
namespace Go.Proofs.YtppgcgopnchbcaaGreat
open Go.RowKit
set_option linter.unusedVariables false

set_option maxHeartbeats 8000000 in
set_option maxRecDepth 100000 in
theorem sAddSite_std (n : DNetwork) (x : DSite) (vn0 vn1 vn2 vn3 : Value) (w : World) (rn0 : Rd w.heap.size w (DSite.sT n.sites) vn0) (rn1 : Rd w.heap.size w (DSector.sT n.sectors) vn1) (rn2 : Rd w.heap.size w (DAntenna.sT n.antennas) vn2) (rn3 : Rd w.heap.size w (DRadio.sT n.radios) vn3) (hs_n : sizL n.tr ≤ 1048576) (hk_n : n.ok) (hs_x : sizL x.tr ≤ 1048576) (hk_x : x.ok) :
    Calls Tryz.prog 28 #[.agg #[vn0, vn1, vn2, vn3], .agg #[.string x.name, .string x.holder, .int .i64 x.place.x, .int .i64 x.place.y]] w (fun e w' => ∃ a0_0 c0_0 a0_1 c0_1 a0_2 c0_2 a0_3 c0_3 fp0, e = .returned (.tuple #[.agg #[.slice a0_0 (addSiteR n x).1.sites.length c0_0, .slice a0_1 (addSiteR n x).1.sectors.length c0_1, .slice a0_2 (addSiteR n x).1.antennas.length c0_2, .slice a0_3 (addSiteR n x).1.radios.length c0_3], .int .i64 (addSiteR n x).2]) ∧ Below w.heap.size w w' ∧ OwnV w' (addSiteR n x).1.tr [.slice a0_0 (addSiteR n x).1.sites.length c0_0, .slice a0_1 (addSiteR n x).1.sectors.length c0_1, .slice a0_2 (addSiteR n x).1.antennas.length c0_2, .slice a0_3 (addSiteR n x).1.radios.length c0_3] fp0 ∧ In w.heap.size w'.heap.size fp0) := by
  have hq := DNetwork.siz_tr n
  rw [DSite.siz_s, DSector.siz_s, DAntenna.siz_s, DRadio.siz_s] at hq
  obtain ⟨A0, C0, e0, -, -, -⟩ := DSite.rd rn0
  obtain ⟨A1, C1, e1, -, -, -⟩ := DSector.rd rn1
  obtain ⟨A2, C2, e2, -, -, -⟩ := DAntenna.rd rn2
  obtain ⟨A3, C3, e3, -, -, -⟩ := DRadio.rd rn3
  subst e0 e1 e2 e3
  have R0 := Lib.hid rn0
  have R1 := Lib.hid rn1
  have R2 := Lib.hid rn2
  have R3 := Lib.hid rn3
  clear rn0 rn1 rn2 rn3
  have hko := hk_x
  by_cases hv : netB n = true
  case neg =>
    replace hv : netB n = false := Bool.eq_false_iff.2 hv
    have HE := Lib.hid (addSiteR_bad (x := x) hv)
    have BB0_ : Below w.heap.size w (((w.alloc (.cells #[.slice A0 n.sites.length C0, .slice A1 n.sectors.length C1, .slice A2 n.antennas.length C2, .slice A3 n.radios.length C3] 35)).alloc (.cells #[.string x.name, .string x.holder, .int .i64 x.place.x, .int .i64 x.place.y] 62)).alloc (.cells #[.slice none 0 0, .slice none 0 0, .slice none 0 0, .slice none 0 0] 35)) := Below.alloc (Below.alloc (Below.alloc (Below.refl _ _) (by first | exact Nat.le_refl _ | (simp; done) | (simp; omega)) _) (by first | exact Nat.le_refl _ | (simp; done) | (simp; omega)) _) (by first | exact Nat.le_refl _ | (simp; done) | (simp; omega)) _
    have zz0 : w.heap.size + 3 ≤ (((w.alloc (.cells #[.slice A0 n.sites.length C0, .slice A1 n.sectors.length C1, .slice A2 n.antennas.length C2, .slice A3 n.radios.length C3] 35)).alloc (.cells #[.string x.name, .string x.holder, .int .i64 x.place.x, .int .i64 x.place.y] 62)).alloc (.cells #[.slice none 0 0, .slice none 0 0, .slice none 0 0, .slice none 0 0] 35)).heap.size := by simp
    have k_N : (((w.alloc (.cells #[.slice A0 n.sites.length C0, .slice A1 n.sectors.length C1, .slice A2 n.antennas.length C2, .slice A3 n.radios.length C3] 35)).alloc (.cells #[.string x.name, .string x.holder, .int .i64 x.place.x, .int .i64 x.place.y] 62)).alloc (.cells #[.slice none 0 0, .slice none 0 0, .slice none 0 0, .slice none 0 0] 35)).heap[w.heap.size]? = some (.cells #[.slice A0 n.sites.length C0, .slice A1 n.sectors.length C1, .slice A2 n.antennas.length C2, .slice A3 n.radios.length C3] 35 (0, 0)) := by
      have h := blkN w #[.slice A0 n.sites.length C0, .slice A1 n.sectors.length C1, .slice A2 n.antennas.length C2, .slice A3 n.radios.length C3] 35
      replace h := blkA h (by first | (simp; done) | (simp; omega)) (.cells #[.string x.name, .string x.holder, .int .i64 x.place.x, .int .i64 x.place.y] 62)
      replace h := blkA h (by first | (simp; done) | (simp; omega)) (.cells #[.slice none 0 0, .slice none 0 0, .slice none 0 0, .slice none 0 0] 35)
      exact h
    have KN_0 := Lib.hid k_N
    have k_X : (((w.alloc (.cells #[.slice A0 n.sites.length C0, .slice A1 n.sectors.length C1, .slice A2 n.antennas.length C2, .slice A3 n.radios.length C3] 35)).alloc (.cells #[.string x.name, .string x.holder, .int .i64 x.place.x, .int .i64 x.place.y] 62)).alloc (.cells #[.slice none 0 0, .slice none 0 0, .slice none 0 0, .slice none 0 0] 35)).heap[w.heap.size + 1]? = some (.cells #[.string x.name, .string x.holder, .int .i64 x.place.x, .int .i64 x.place.y] 62 (0, 0)) := by
      have h := blkN (w.alloc (.cells #[.slice A0 n.sites.length C0, .slice A1 n.sectors.length C1, .slice A2 n.antennas.length C2, .slice A3 n.radios.length C3] 35)) #[.string x.name, .string x.holder, .int .i64 x.place.x, .int .i64 x.place.y] 62
      rw [show (w.alloc (.cells #[.slice A0 n.sites.length C0, .slice A1 n.sectors.length C1, .slice A2 n.antennas.length C2, .slice A3 n.radios.length C3] 35)).heap.size = w.heap.size + 1 by simp] at h
      replace h := blkA h (by first | (simp; done) | (simp; omega)) (.cells #[.slice none 0 0, .slice none 0 0, .slice none 0 0, .slice none 0 0] 35)
      exact h
    have KX_0 := Lib.hid k_X
    have k_R : (((w.alloc (.cells #[.slice A0 n.sites.length C0, .slice A1 n.sectors.length C1, .slice A2 n.antennas.length C2, .slice A3 n.radios.length C3] 35)).alloc (.cells #[.string x.name, .string x.holder, .int .i64 x.place.x, .int .i64 x.place.y] 62)).alloc (.cells #[.slice none 0 0, .slice none 0 0, .slice none 0 0, .slice none 0 0] 35)).heap[w.heap.size + 2]? = some (.cells #[.slice none 0 0, .slice none 0 0, .slice none 0 0, .slice none 0 0] 35 (0, 0)) := by
      have h := blkN ((w.alloc (.cells #[.slice A0 n.sites.length C0, .slice A1 n.sectors.length C1, .slice A2 n.antennas.length C2, .slice A3 n.radios.length C3] 35)).alloc (.cells #[.string x.name, .string x.holder, .int .i64 x.place.x, .int .i64 x.place.y] 62)) #[.slice none 0 0, .slice none 0 0, .slice none 0 0, .slice none 0 0] 35
      rw [show ((w.alloc (.cells #[.slice A0 n.sites.length C0, .slice A1 n.sectors.length C1, .slice A2 n.antennas.length C2, .slice A3 n.radios.length C3] 35)).alloc (.cells #[.string x.name, .string x.holder, .int .i64 x.place.x, .int .i64 x.place.y] 62)).heap.size = w.heap.size + 2 by simp] at h
      exact h
    have KR_0 := Lib.hid k_R
    clear k_N k_X k_R
    have BB_0 := Lib.hid BB0_
    clear BB0_
    go_enter Tryz.func28, Tryz.ntmps28
    go_upto_region 1 with (fail)
    generalize (((w.alloc (.cells #[.slice A0 n.sites.length C0, .slice A1 n.sectors.length C1, .slice A2 n.antennas.length C2, .slice A3 n.radios.length C3] 35)).alloc (.cells #[.string x.name, .string x.holder, .int .i64 x.place.x, .int .i64 x.place.y] 62)).alloc (.cells #[.slice none 0 0, .slice none 0 0, .slice none 0 0, .slice none 0 0] 35)) = W0 at *
    have fN0 := blkC (v := .slice A0 n.sites.length C0) KN_0.out 0 rfl
    have fN1 := blkC (v := .slice A1 n.sectors.length C1) KN_0.out 1 rfl
    have fN2 := blkC (v := .slice A2 n.antennas.length C2) KN_0.out 2 rfl
    have fN3 := blkC (v := .slice A3 n.radios.length C3) KN_0.out 3 rfl
    have fX0 := blkC (v := .string x.name) KX_0.out 0 rfl
    have fX1 := blkC (v := .string x.holder) KX_0.out 1 rfl
    have fX2 := blkC (v := .int .i64 x.place.x) KX_0.out 2 rfl
    have fX3 := blkC (v := .int .i64 x.place.y) KX_0.out 3 rfl
    have fR0 := blkC (v := .slice none 0 0) KR_0.out 0 rfl
    have fR1 := blkC (v := .slice none 0 0) KR_0.out 1 rfl
    have fR2 := blkC (v := .slice none 0 0) KR_0.out 2 rfl
    have fR3 := blkC (v := .slice none 0 0) KR_0.out 3 rfl
    go_wp2_with fail
    refine (l14Ok_any n _ _ _ _ w.heap.size _ ((R0.out.below BB_0.out).mono (by have := BB_0.out.size; omega)) ((R1.out.below BB_0.out).mono (by have := BB_0.out.size; omega)) ((R2.out.below BB_0.out).mono (by have := BB_0.out.size; omega)) ((R3.out.below BB_0.out).mono (by have := BB_0.out.size; omega)) (by omega) (blkC KN_0.out 0 rfl) (blkC KN_0.out 1 rfl) (blkC KN_0.out 2 rfl) (blkC KN_0.out 3 rfl) (by omega) hk_n).mono ?_
    rintro e X1 ⟨rfl, hb⟩
    clear fN0 fN1 fN2 fN3 fX0 fX1 fX2 fX3 fR0 fR1 fR2 fR3
    have KN_1 := Lib.hid (blkB KN_0.out hb (by omega))
    have KX_1 := Lib.hid (blkB KX_0.out hb (by omega))
    have KR_1 := Lib.hid (blkB KR_0.out hb (by omega))
    have BB_1 := Lib.hid (BB_0.out.trans (hb.mono (by omega)))
    have zz1 : W0.heap.size ≤ X1.heap.size := hb.size
    clear KN_0 KX_0 KR_0 BB_0 hb
    rw [hv]
    have fN0 := blkC (v := .slice A0 n.sites.length C0) KN_1.out 0 rfl
    have fN1 := blkC (v := .slice A1 n.sectors.length C1) KN_1.out 1 rfl
    have fN2 := blkC (v := .slice A2 n.antennas.length C2) KN_1.out 2 rfl
    have fN3 := blkC (v := .slice A3 n.radios.length C3) KN_1.out 3 rfl
    have fX0 := blkC (v := .string x.name) KX_1.out 0 rfl
    have fX1 := blkC (v := .string x.holder) KX_1.out 1 rfl
    have fX2 := blkC (v := .int .i64 x.place.x) KX_1.out 2 rfl
    have fX3 := blkC (v := .int .i64 x.place.y) KX_1.out 3 rfl
    have fR0 := blkC (v := .slice none 0 0) KR_1.out 0 rfl
    have fR1 := blkC (v := .slice none 0 0) KR_1.out 1 rfl
    have fR2 := blkC (v := .slice none 0 0) KR_1.out 2 rfl
    have fR3 := blkC (v := .slice none 0 0) KR_1.out 3 rfl
    have zR := blkF KR_1.out
    go_wp2
    have BF := Lib.hid (((((BB_1.out).setCell (p := ⟨w.heap.size + 2, 0, none⟩) (by show w.heap.size ≤ w.heap.size + 2; omega) (.slice none 0 0)).setCell (p := ⟨w.heap.size + 2, 1, none⟩) (by show w.heap.size ≤ w.heap.size + 2; omega) (.slice none 0 0)).setCell (p := ⟨w.heap.size + 2, 2, none⟩) (by show w.heap.size ≤ w.heap.size + 2; omega) (.slice none 0 0)).setCell (p := ⟨w.heap.size + 2, 3, none⟩) (by show w.heap.size ≤ w.heap.size + 2; omega) (.slice none 0 0))
    refine bodyPost_ret (v := .tuple #[.agg #[.slice none 0 0, .slice none 0 0, .slice none 0 0, .slice none 0 0], .int .i64 1]) (by simp [results, Tryz.results28, go_sem, *]) rfl ?_
    rw [HE.out]
    first | exact ⟨none, 0, none, 0, none, 0, none, 0, [], rfl, BF.out, ownV_zero _, In.nil⟩ | exact ⟨none, 0, none, 0, none, 0, none, 0, rfl, BF.out, [], ownV_zero _, In.nil⟩
  by_cases hx : siteB x = true
  case neg =>
    replace hx : siteB x = false := Bool.eq_false_iff.2 hx
    have HE := Lib.hid (addSiteR_bad2 hv hx)
    have BB0_ : Below w.heap.size w (((w.alloc (.cells #[.slice A0 n.sites.length C0, .slice A1 n.sectors.length C1, .slice A2 n.antennas.length C2, .slice A3 n.radios.length C3] 35)).alloc (.cells #[.string x.name, .string x.holder, .int .i64 x.place.x, .int .i64 x.place.y] 62)).alloc (.cells #[.slice none 0 0, .slice none 0 0, .slice none 0 0, .slice none 0 0] 35)) := Below.alloc (Below.alloc (Below.alloc (Below.refl _ _) (by first | exact Nat.le_refl _ | (simp; done) | (simp; omega)) _) (by first | exact Nat.le_refl _ | (simp; done) | (simp; omega)) _) (by first | exact Nat.le_refl _ | (simp; done) | (simp; omega)) _
    have zz0 : w.heap.size + 3 ≤ (((w.alloc (.cells #[.slice A0 n.sites.length C0, .slice A1 n.sectors.length C1, .slice A2 n.antennas.length C2, .slice A3 n.radios.length C3] 35)).alloc (.cells #[.string x.name, .string x.holder, .int .i64 x.place.x, .int .i64 x.place.y] 62)).alloc (.cells #[.slice none 0 0, .slice none 0 0, .slice none 0 0, .slice none 0 0] 35)).heap.size := by simp
    have k_N : (((w.alloc (.cells #[.slice A0 n.sites.length C0, .slice A1 n.sectors.length C1, .slice A2 n.antennas.length C2, .slice A3 n.radios.length C3] 35)).alloc (.cells #[.string x.name, .string x.holder, .int .i64 x.place.x, .int .i64 x.place.y] 62)).alloc (.cells #[.slice none 0 0, .slice none 0 0, .slice none 0 0, .slice none 0 0] 35)).heap[w.heap.size]? = some (.cells #[.slice A0 n.sites.length C0, .slice A1 n.sectors.length C1, .slice A2 n.antennas.length C2, .slice A3 n.radios.length C3] 35 (0, 0)) := by
      have h := blkN w #[.slice A0 n.sites.length C0, .slice A1 n.sectors.length C1, .slice A2 n.antennas.length C2, .slice A3 n.radios.length C3] 35
      replace h := blkA h (by first | (simp; done) | (simp; omega)) (.cells #[.string x.name, .string x.holder, .int .i64 x.place.x, .int .i64 x.place.y] 62)
      replace h := blkA h (by first | (simp; done) | (simp; omega)) (.cells #[.slice none 0 0, .slice none 0 0, .slice none 0 0, .slice none 0 0] 35)
      exact h
    have KN_0 := Lib.hid k_N
    have k_X : (((w.alloc (.cells #[.slice A0 n.sites.length C0, .slice A1 n.sectors.length C1, .slice A2 n.antennas.length C2, .slice A3 n.radios.length C3] 35)).alloc (.cells #[.string x.name, .string x.holder, .int .i64 x.place.x, .int .i64 x.place.y] 62)).alloc (.cells #[.slice none 0 0, .slice none 0 0, .slice none 0 0, .slice none 0 0] 35)).heap[w.heap.size + 1]? = some (.cells #[.string x.name, .string x.holder, .int .i64 x.place.x, .int .i64 x.place.y] 62 (0, 0)) := by
      have h := blkN (w.alloc (.cells #[.slice A0 n.sites.length C0, .slice A1 n.sectors.length C1, .slice A2 n.antennas.length C2, .slice A3 n.radios.length C3] 35)) #[.string x.name, .string x.holder, .int .i64 x.place.x, .int .i64 x.place.y] 62
      rw [show (w.alloc (.cells #[.slice A0 n.sites.length C0, .slice A1 n.sectors.length C1, .slice A2 n.antennas.length C2, .slice A3 n.radios.length C3] 35)).heap.size = w.heap.size + 1 by simp] at h
      replace h := blkA h (by first | (simp; done) | (simp; omega)) (.cells #[.slice none 0 0, .slice none 0 0, .slice none 0 0, .slice none 0 0] 35)
      exact h
    have KX_0 := Lib.hid k_X
    have k_R : (((w.alloc (.cells #[.slice A0 n.sites.length C0, .slice A1 n.sectors.length C1, .slice A2 n.antennas.length C2, .slice A3 n.radios.length C3] 35)).alloc (.cells #[.string x.name, .string x.holder, .int .i64 x.place.x, .int .i64 x.place.y] 62)).alloc (.cells #[.slice none 0 0, .slice none 0 0, .slice none 0 0, .slice none 0 0] 35)).heap[w.heap.size + 2]? = some (.cells #[.slice none 0 0, .slice none 0 0, .slice none 0 0, .slice none 0 0] 35 (0, 0)) := by
      have h := blkN ((w.alloc (.cells #[.slice A0 n.sites.length C0, .slice A1 n.sectors.length C1, .slice A2 n.antennas.length C2, .slice A3 n.radios.length C3] 35)).alloc (.cells #[.string x.name, .string x.holder, .int .i64 x.place.x, .int .i64 x.place.y] 62)) #[.slice none 0 0, .slice none 0 0, .slice none 0 0, .slice none 0 0] 35
      rw [show ((w.alloc (.cells #[.slice A0 n.sites.length C0, .slice A1 n.sectors.length C1, .slice A2 n.antennas.length C2, .slice A3 n.radios.length C3] 35)).alloc (.cells #[.string x.name, .string x.holder, .int .i64 x.place.x, .int .i64 x.place.y] 62)).heap.size = w.heap.size + 2 by simp] at h
      exact h
    have KR_0 := Lib.hid k_R
    clear k_N k_X k_R
    have BB_0 := Lib.hid BB0_
    clear BB0_
    go_enter Tryz.func28, Tryz.ntmps28
    go_upto_region 1 with (fail)
    generalize (((w.alloc (.cells #[.slice A0 n.sites.length C0, .slice A1 n.sectors.length C1, .slice A2 n.antennas.length C2, .slice A3 n.radios.length C3] 35)).alloc (.cells #[.string x.name, .string x.holder, .int .i64 x.place.x, .int .i64 x.place.y] 62)).alloc (.cells #[.slice none 0 0, .slice none 0 0, .slice none 0 0, .slice none 0 0] 35)) = W0 at *
    have fN0 := blkC (v := .slice A0 n.sites.length C0) KN_0.out 0 rfl
    have fN1 := blkC (v := .slice A1 n.sectors.length C1) KN_0.out 1 rfl
    have fN2 := blkC (v := .slice A2 n.antennas.length C2) KN_0.out 2 rfl
    have fN3 := blkC (v := .slice A3 n.radios.length C3) KN_0.out 3 rfl
    have fX0 := blkC (v := .string x.name) KX_0.out 0 rfl
    have fX1 := blkC (v := .string x.holder) KX_0.out 1 rfl
    have fX2 := blkC (v := .int .i64 x.place.x) KX_0.out 2 rfl
    have fX3 := blkC (v := .int .i64 x.place.y) KX_0.out 3 rfl
    have fR0 := blkC (v := .slice none 0 0) KR_0.out 0 rfl
    have fR1 := blkC (v := .slice none 0 0) KR_0.out 1 rfl
    have fR2 := blkC (v := .slice none 0 0) KR_0.out 2 rfl
    have fR3 := blkC (v := .slice none 0 0) KR_0.out 3 rfl
    go_wp2_with fail
    refine (l14Ok_any n _ _ _ _ w.heap.size _ ((R0.out.below BB_0.out).mono (by have := BB_0.out.size; omega)) ((R1.out.below BB_0.out).mono (by have := BB_0.out.size; omega)) ((R2.out.below BB_0.out).mono (by have := BB_0.out.size; omega)) ((R3.out.below BB_0.out).mono (by have := BB_0.out.size; omega)) (by omega) (blkC KN_0.out 0 rfl) (blkC KN_0.out 1 rfl) (blkC KN_0.out 2 rfl) (blkC KN_0.out 3 rfl) (by omega) hk_n).mono ?_
    rintro e X1 ⟨rfl, hb⟩
    clear fN0 fN1 fN2 fN3 fX0 fX1 fX2 fX3 fR0 fR1 fR2 fR3
    have KN_1 := Lib.hid (blkB KN_0.out hb (by omega))
    have KX_1 := Lib.hid (blkB KX_0.out hb (by omega))
    have KR_1 := Lib.hid (blkB KR_0.out hb (by omega))
    have BB_1 := Lib.hid (BB_0.out.trans (hb.mono (by omega)))
    have zz1 : W0.heap.size ≤ X1.heap.size := hb.size
    clear KN_0 KX_0 KR_0 BB_0 hb
    rw [hv]
    have fN0 := blkC (v := .slice A0 n.sites.length C0) KN_1.out 0 rfl
    have fN1 := blkC (v := .slice A1 n.sectors.length C1) KN_1.out 1 rfl
    have fN2 := blkC (v := .slice A2 n.antennas.length C2) KN_1.out 2 rfl
    have fN3 := blkC (v := .slice A3 n.radios.length C3) KN_1.out 3 rfl
    have fX0 := blkC (v := .string x.name) KX_1.out 0 rfl
    have fX1 := blkC (v := .string x.holder) KX_1.out 1 rfl
    have fX2 := blkC (v := .int .i64 x.place.x) KX_1.out 2 rfl
    have fX3 := blkC (v := .int .i64 x.place.y) KX_1.out 3 rfl
    have fR0 := blkC (v := .slice none 0 0) KR_1.out 0 rfl
    have fR1 := blkC (v := .slice none 0 0) KR_1.out 1 rfl
    have fR2 := blkC (v := .slice none 0 0) KR_1.out 2 rfl
    have fR3 := blkC (v := .slice none 0 0) KR_1.out 3 rfl
    go_wp2_with fail
    refine (l14Site_any x (w.heap.size + 1) 0 _ (by have h := blkC (v := .string x.name) KX_1.out 0 rfl; simpa using h) (by have h := blkC (v := .string x.holder) KX_1.out 1 rfl; simpa using h) (by have h := blkC (v := .int .i64 x.place.x) KX_1.out 2 rfl; simpa using h) (by have h := blkC (v := .int .i64 x.place.y) KX_1.out 3 rfl; simpa using h) hko.name hko.holder).mono ?_
    rintro e X2 ⟨rfl, hb⟩
    clear fN0 fN1 fN2 fN3 fX0 fX1 fX2 fX3 fR0 fR1 fR2 fR3
    have KN_2 := Lib.hid (blkB KN_1.out hb (by omega))
    have KX_2 := Lib.hid (blkB KX_1.out hb (by omega))
    have KR_2 := Lib.hid (blkB KR_1.out hb (by omega))
    have BB_2 := Lib.hid (BB_1.out.trans (hb.mono (by omega)))
    have zz2 : X1.heap.size ≤ X2.heap.size := hb.size
    clear KN_1 KX_1 KR_1 BB_1 hb
    rw [hx]
    have fN0 := blkC (v := .slice A0 n.sites.length C0) KN_2.out 0 rfl
    have fN1 := blkC (v := .slice A1 n.sectors.length C1) KN_2.out 1 rfl
    have fN2 := blkC (v := .slice A2 n.antennas.length C2) KN_2.out 2 rfl
    have fN3 := blkC (v := .slice A3 n.radios.length C3) KN_2.out 3 rfl
    have fX0 := blkC (v := .string x.name) KX_2.out 0 rfl
    have fX1 := blkC (v := .string x.holder) KX_2.out 1 rfl
    have fX2 := blkC (v := .int .i64 x.place.x) KX_2.out 2 rfl
    have fX3 := blkC (v := .int .i64 x.place.y) KX_2.out 3 rfl
    have fR0 := blkC (v := .slice none 0 0) KR_2.out 0 rfl
    have fR1 := blkC (v := .slice none 0 0) KR_2.out 1 rfl
    have fR2 := blkC (v := .slice none 0 0) KR_2.out 2 rfl
    have fR3 := blkC (v := .slice none 0 0) KR_2.out 3 rfl
    have zR := blkF KR_2.out
    go_wp2
    have BF := Lib.hid (((((BB_2.out).setCell (p := ⟨w.heap.size + 2, 0, none⟩) (by show w.heap.size ≤ w.heap.size + 2; omega) (.slice none 0 0)).setCell (p := ⟨w.heap.size + 2, 1, none⟩) (by show w.heap.size ≤ w.heap.size + 2; omega) (.slice none 0 0)).setCell (p := ⟨w.heap.size + 2, 2, none⟩) (by show w.heap.size ≤ w.heap.size + 2; omega) (.slice none 0 0)).setCell (p := ⟨w.heap.size + 2, 3, none⟩) (by show w.heap.size ≤ w.heap.size + 2; omega) (.slice none 0 0))
    refine bodyPost_ret (v := .tuple #[.agg #[.slice none 0 0, .slice none 0 0, .slice none 0 0, .slice none 0 0], .int .i64 1]) (by simp [results, Tryz.results28, go_sem, *]) rfl ?_
    rw [HE.out]
    first | exact ⟨none, 0, none, 0, none, 0, none, 0, [], rfl, BF.out, ownV_zero _, In.nil⟩ | exact ⟨none, 0, none, 0, none, 0, none, 0, rfl, BF.out, [], ownV_zero _, In.nil⟩
  rcases firstIdx_cases' (fun y : DSite => eqS y.name x.name) n.sites with ⟨hi, hno⟩ | ⟨k, hk, hi, _, _⟩
  case inr =>
    have HE := Lib.hid (addSiteR_there hv hx hi)
    have HI : Hid (idxSite n.sites x.name = (k : Int)) := hi
    clear hi
    have BB0_ : Below w.heap.size w (((w.alloc (.cells #[.slice A0 n.sites.length C0, .slice A1 n.sectors.length C1, .slice A2 n.antennas.length C2, .slice A3 n.radios.length C3] 35)).alloc (.cells #[.string x.name, .string x.holder, .int .i64 x.place.x, .int .i64 x.place.y] 62)).alloc (.cells #[.slice none 0 0, .slice none 0 0, .slice none 0 0, .slice none 0 0] 35)) := Below.alloc (Below.alloc (Below.alloc (Below.refl _ _) (by first | exact Nat.le_refl _ | (simp; done) | (simp; omega)) _) (by first | exact Nat.le_refl _ | (simp; done) | (simp; omega)) _) (by first | exact Nat.le_refl _ | (simp; done) | (simp; omega)) _
    have zz0 : w.heap.size + 3 ≤ (((w.alloc (.cells #[.slice A0 n.sites.length C0, .slice A1 n.sectors.length C1, .slice A2 n.antennas.length C2, .slice A3 n.radios.length C3] 35)).alloc (.cells #[.string x.name, .string x.holder, .int .i64 x.place.x, .int .i64 x.place.y] 62)).alloc (.cells #[.slice none 0 0, .slice none 0 0, .slice none 0 0, .slice none 0 0] 35)).heap.size := by simp
    have k_N : (((w.alloc (.cells #[.slice A0 n.sites.length C0, .slice A1 n.sectors.length C1, .slice A2 n.antennas.length C2, .slice A3 n.radios.length C3] 35)).alloc (.cells #[.string x.name, .string x.holder, .int .i64 x.place.x, .int .i64 x.place.y] 62)).alloc (.cells #[.slice none 0 0, .slice none 0 0, .slice none 0 0, .slice none 0 0] 35)).heap[w.heap.size]? = some (.cells #[.slice A0 n.sites.length C0, .slice A1 n.sectors.length C1, .slice A2 n.antennas.length C2, .slice A3 n.radios.length C3] 35 (0, 0)) := by
      have h := blkN w #[.slice A0 n.sites.length C0, .slice A1 n.sectors.length C1, .slice A2 n.antennas.length C2, .slice A3 n.radios.length C3] 35
      replace h := blkA h (by first | (simp; done) | (simp; omega)) (.cells #[.string x.name, .string x.holder, .int .i64 x.place.x, .int .i64 x.place.y] 62)
      replace h := blkA h (by first | (simp; done) | (simp; omega)) (.cells #[.slice none 0 0, .slice none 0 0, .slice none 0 0, .slice none 0 0] 35)
      exact h
    have KN_0 := Lib.hid k_N
    have k_X : (((w.alloc (.cells #[.slice A0 n.sites.length C0, .slice A1 n.sectors.length C1, .slice A2 n.antennas.length C2, .slice A3 n.radios.length C3] 35)).alloc (.cells #[.string x.name, .string x.holder, .int .i64 x.place.x, .int .i64 x.place.y] 62)).alloc (.cells #[.slice none 0 0, .slice none 0 0, .slice none 0 0, .slice none 0 0] 35)).heap[w.heap.size + 1]? = some (.cells #[.string x.name, .string x.holder, .int .i64 x.place.x, .int .i64 x.place.y] 62 (0, 0)) := by
      have h := blkN (w.alloc (.cells #[.slice A0 n.sites.length C0, .slice A1 n.sectors.length C1, .slice A2 n.antennas.length C2, .slice A3 n.radios.length C3] 35)) #[.string x.name, .string x.holder, .int .i64 x.place.x, .int .i64 x.place.y] 62
      rw [show (w.alloc (.cells #[.slice A0 n.sites.length C0, .slice A1 n.sectors.length C1, .slice A2 n.antennas.length C2, .slice A3 n.radios.length C3] 35)).heap.size = w.heap.size + 1 by simp] at h
      replace h := blkA h (by first | (simp; done) | (simp; omega)) (.cells #[.slice none 0 0, .slice none 0 0, .slice none 0 0, .slice none 0 0] 35)
      exact h
    have KX_0 := Lib.hid k_X
    have k_R : (((w.alloc (.cells #[.slice A0 n.sites.length C0, .slice A1 n.sectors.length C1, .slice A2 n.antennas.length C2, .slice A3 n.radios.length C3] 35)).alloc (.cells #[.string x.name, .string x.holder, .int .i64 x.place.x, .int .i64 x.place.y] 62)).alloc (.cells #[.slice none 0 0, .slice none 0 0, .slice none 0 0, .slice none 0 0] 35)).heap[w.heap.size + 2]? = some (.cells #[.slice none 0 0, .slice none 0 0, .slice none 0 0, .slice none 0 0] 35 (0, 0)) := by
      have h := blkN ((w.alloc (.cells #[.slice A0 n.sites.length C0, .slice A1 n.sectors.length C1, .slice A2 n.antennas.length C2, .slice A3 n.radios.length C3] 35)).alloc (.cells #[.string x.name, .string x.holder, .int .i64 x.place.x, .int .i64 x.place.y] 62)) #[.slice none 0 0, .slice none 0 0, .slice none 0 0, .slice none 0 0] 35
      rw [show ((w.alloc (.cells #[.slice A0 n.sites.length C0, .slice A1 n.sectors.length C1, .slice A2 n.antennas.length C2, .slice A3 n.radios.length C3] 35)).alloc (.cells #[.string x.name, .string x.holder, .int .i64 x.place.x, .int .i64 x.place.y] 62)).heap.size = w.heap.size + 2 by simp] at h
      exact h
    have KR_0 := Lib.hid k_R
    clear k_N k_X k_R
    have BB_0 := Lib.hid BB0_
    clear BB0_
    go_enter Tryz.func28, Tryz.ntmps28
    go_upto_region 1 with (fail)
    generalize (((w.alloc (.cells #[.slice A0 n.sites.length C0, .slice A1 n.sectors.length C1, .slice A2 n.antennas.length C2, .slice A3 n.radios.length C3] 35)).alloc (.cells #[.string x.name, .string x.holder, .int .i64 x.place.x, .int .i64 x.place.y] 62)).alloc (.cells #[.slice none 0 0, .slice none 0 0, .slice none 0 0, .slice none 0 0] 35)) = W0 at *
    have fN0 := blkC (v := .slice A0 n.sites.length C0) KN_0.out 0 rfl
    have fN1 := blkC (v := .slice A1 n.sectors.length C1) KN_0.out 1 rfl
    have fN2 := blkC (v := .slice A2 n.antennas.length C2) KN_0.out 2 rfl
    have fN3 := blkC (v := .slice A3 n.radios.length C3) KN_0.out 3 rfl
    have fX0 := blkC (v := .string x.name) KX_0.out 0 rfl
    have fX1 := blkC (v := .string x.holder) KX_0.out 1 rfl
    have fX2 := blkC (v := .int .i64 x.place.x) KX_0.out 2 rfl
    have fX3 := blkC (v := .int .i64 x.place.y) KX_0.out 3 rfl
    have fR0 := blkC (v := .slice none 0 0) KR_0.out 0 rfl
    have fR1 := blkC (v := .slice none 0 0) KR_0.out 1 rfl
    have fR2 := blkC (v := .slice none 0 0) KR_0.out 2 rfl
    have fR3 := blkC (v := .slice none 0 0) KR_0.out 3 rfl
    go_wp2_with fail
    refine (l14Ok_any n _ _ _ _ w.heap.size _ ((R0.out.below BB_0.out).mono (by have := BB_0.out.size; omega)) ((R1.out.below BB_0.out).mono (by have := BB_0.out.size; omega)) ((R2.out.below BB_0.out).mono (by have := BB_0.out.size; omega)) ((R3.out.below BB_0.out).mono (by have := BB_0.out.size; omega)) (by omega) (blkC KN_0.out 0 rfl) (blkC KN_0.out 1 rfl) (blkC KN_0.out 2 rfl) (blkC KN_0.out 3 rfl) (by omega) hk_n).mono ?_
    rintro e X1 ⟨rfl, hb⟩
    clear fN0 fN1 fN2 fN3 fX0 fX1 fX2 fX3 fR0 fR1 fR2 fR3
    have KN_1 := Lib.hid (blkB KN_0.out hb (by omega))
    have KX_1 := Lib.hid (blkB KX_0.out hb (by omega))
    have KR_1 := Lib.hid (blkB KR_0.out hb (by omega))
    have BB_1 := Lib.hid (BB_0.out.trans (hb.mono (by omega)))
    have zz1 : W0.heap.size ≤ X1.heap.size := hb.size
    clear KN_0 KX_0 KR_0 BB_0 hb
    rw [hv]
    have fN0 := blkC (v := .slice A0 n.sites.length C0) KN_1.out 0 rfl
    have fN1 := blkC (v := .slice A1 n.sectors.length C1) KN_1.out 1 rfl
    have fN2 := blkC (v := .slice A2 n.antennas.length C2) KN_1.out 2 rfl
    have fN3 := blkC (v := .slice A3 n.radios.length C3) KN_1.out 3 rfl
    have fX0 := blkC (v := .string x.name) KX_1.out 0 rfl
    have fX1 := blkC (v := .string x.holder) KX_1.out 1 rfl
    have fX2 := blkC (v := .int .i64 x.place.x) KX_1.out 2 rfl
    have fX3 := blkC (v := .int .i64 x.place.y) KX_1.out 3 rfl
    have fR0 := blkC (v := .slice none 0 0) KR_1.out 0 rfl
    have fR1 := blkC (v := .slice none 0 0) KR_1.out 1 rfl
    have fR2 := blkC (v := .slice none 0 0) KR_1.out 2 rfl
    have fR3 := blkC (v := .slice none 0 0) KR_1.out 3 rfl
    go_wp2_with fail
    refine (l14Site_any x (w.heap.size + 1) 0 _ (by have h := blkC (v := .string x.name) KX_1.out 0 rfl; simpa using h) (by have h := blkC (v := .string x.holder) KX_1.out 1 rfl; simpa using h) (by have h := blkC (v := .int .i64 x.place.x) KX_1.out 2 rfl; simpa using h) (by have h := blkC (v := .int .i64 x.place.y) KX_1.out 3 rfl; simpa using h) hko.name hko.holder).mono ?_
    rintro e X2 ⟨rfl, hb⟩
    clear fN0 fN1 fN2 fN3 fX0 fX1 fX2 fX3 fR0 fR1 fR2 fR3
    have KN_2 := Lib.hid (blkB KN_1.out hb (by omega))
    have KX_2 := Lib.hid (blkB KX_1.out hb (by omega))
    have KR_2 := Lib.hid (blkB KR_1.out hb (by omega))
    have BB_2 := Lib.hid (BB_1.out.trans (hb.mono (by omega)))
    have zz2 : X1.heap.size ≤ X2.heap.size := hb.size
    clear KN_1 KX_1 KR_1 BB_1 hb
    rw [hx]
    have fN0 := blkC (v := .slice A0 n.sites.length C0) KN_2.out 0 rfl
    have fN1 := blkC (v := .slice A1 n.sectors.length C1) KN_2.out 1 rfl
    have fN2 := blkC (v := .slice A2 n.antennas.length C2) KN_2.out 2 rfl
    have fN3 := blkC (v := .slice A3 n.radios.length C3) KN_2.out 3 rfl
    have fX0 := blkC (v := .string x.name) KX_2.out 0 rfl
    have fX1 := blkC (v := .string x.holder) KX_2.out 1 rfl
    have fX2 := blkC (v := .int .i64 x.place.x) KX_2.out 2 rfl
    have fX3 := blkC (v := .int .i64 x.place.y) KX_2.out 3 rfl
    have fR0 := blkC (v := .slice none 0 0) KR_2.out 0 rfl
    have fR1 := blkC (v := .slice none 0 0) KR_2.out 1 rfl
    have fR2 := blkC (v := .slice none 0 0) KR_2.out 2 rfl
    have fR3 := blkC (v := .slice none 0 0) KR_2.out 3 rfl
    go_wp2_with fail
    refine (l14FindSite_any n.sites x.name _ w.heap.size w.heap.size _ (R0.out.below BB_2.out) (by have := BB_2.out.size; omega) (blkC KN_2.out 0 rfl) (by omega)).mono ?_
    rintro e _ ⟨rfl, rfl⟩
    clear fN0 fN1 fN2 fN3 fX0 fX1 fX2 fX3 fR0 fR1 fR2 fR3
    rw [HI.out]
    have fN0 := blkC (v := .slice A0 n.sites.length C0) KN_2.out 0 rfl
    have fN1 := blkC (v := .slice A1 n.sectors.length C1) KN_2.out 1 rfl
    have fN2 := blkC (v := .slice A2 n.antennas.length C2) KN_2.out 2 rfl
    have fN3 := blkC (v := .slice A3 n.radios.length C3) KN_2.out 3 rfl
    have fX0 := blkC (v := .string x.name) KX_2.out 0 rfl
    have fX1 := blkC (v := .string x.holder) KX_2.out 1 rfl
    have fX2 := blkC (v := .int .i64 x.place.x) KX_2.out 2 rfl
    have fX3 := blkC (v := .int .i64 x.place.y) KX_2.out 3 rfl
    have fR0 := blkC (v := .slice none 0 0) KR_2.out 0 rfl
    have fR1 := blkC (v := .slice none 0 0) KR_2.out 1 rfl
    have fR2 := blkC (v := .slice none 0 0) KR_2.out 2 rfl
    have fR3 := blkC (v := .slice none 0 0) KR_2.out 3 rfl
    have zR := blkF KR_2.out
    go_wp2
    have BF := Lib.hid (((((BB_2.out).setCell (p := ⟨w.heap.size + 2, 0, none⟩) (by show w.heap.size ≤ w.heap.size + 2; omega) (.slice none 0 0)).setCell (p := ⟨w.heap.size + 2, 1, none⟩) (by show w.heap.size ≤ w.heap.size + 2; omega) (.slice none 0 0)).setCell (p := ⟨w.heap.size + 2, 2, none⟩) (by show w.heap.size ≤ w.heap.size + 2; omega) (.slice none 0 0)).setCell (p := ⟨w.heap.size + 2, 3, none⟩) (by show w.heap.size ≤ w.heap.size + 2; omega) (.slice none 0 0))
    refine bodyPost_ret (v := .tuple #[.agg #[.slice none 0 0, .slice none 0 0, .slice none 0 0, .slice none 0 0], .int .i64 4]) (by simp [results, Tryz.results28, go_sem, *]) rfl ?_
    rw [HE.out]
    first | exact ⟨none, 0, none, 0, none, 0, none, 0, [], rfl, BF.out, ownV_zero _, In.nil⟩ | exact ⟨none, 0, none, 0, none, 0, none, 0, rfl, BF.out, [], ownV_zero _, In.nil⟩
  have HNO := Lib.hid (none_eqS (f := DSite.name) hno)
  clear hno
  by_cases hlen : n.sites.length = 12
  · have HE := Lib.hid (addSiteR_full hv hx hi hlen)
    have HI : Hid (idxSite n.sites x.name = -1) := hi
    have hl2 : ((n.sites.length : Int) == 12) = true := by simp; omega
    have HLN := Lib.hid hlen
    clear hi hlen
    have BB0_ : Below w.heap.size w (((w.alloc (.cells #[.slice A0 n.sites.length C0, .slice A1 n.sectors.length C1, .slice A2 n.antennas.length C2, .slice A3 n.radios.length C3] 35)).alloc (.cells #[.string x.name, .string x.holder, .int .i64 x.place.x, .int .i64 x.place.y] 62)).alloc (.cells #[.slice none 0 0, .slice none 0 0, .slice none 0 0, .slice none 0 0] 35)) := Below.alloc (Below.alloc (Below.alloc (Below.refl _ _) (by first | exact Nat.le_refl _ | (simp; done) | (simp; omega)) _) (by first | exact Nat.le_refl _ | (simp; done) | (simp; omega)) _) (by first | exact Nat.le_refl _ | (simp; done) | (simp; omega)) _
    have zz0 : w.heap.size + 3 ≤ (((w.alloc (.cells #[.slice A0 n.sites.length C0, .slice A1 n.sectors.length C1, .slice A2 n.antennas.length C2, .slice A3 n.radios.length C3] 35)).alloc (.cells #[.string x.name, .string x.holder, .int .i64 x.place.x, .int .i64 x.place.y] 62)).alloc (.cells #[.slice none 0 0, .slice none 0 0, .slice none 0 0, .slice none 0 0] 35)).heap.size := by simp
    have k_N : (((w.alloc (.cells #[.slice A0 n.sites.length C0, .slice A1 n.sectors.length C1, .slice A2 n.antennas.length C2, .slice A3 n.radios.length C3] 35)).alloc (.cells #[.string x.name, .string x.holder, .int .i64 x.place.x, .int .i64 x.place.y] 62)).alloc (.cells #[.slice none 0 0, .slice none 0 0, .slice none 0 0, .slice none 0 0] 35)).heap[w.heap.size]? = some (.cells #[.slice A0 n.sites.length C0, .slice A1 n.sectors.length C1, .slice A2 n.antennas.length C2, .slice A3 n.radios.length C3] 35 (0, 0)) := by
      have h := blkN w #[.slice A0 n.sites.length C0, .slice A1 n.sectors.length C1, .slice A2 n.antennas.length C2, .slice A3 n.radios.length C3] 35
      replace h := blkA h (by first | (simp; done) | (simp; omega)) (.cells #[.string x.name, .string x.holder, .int .i64 x.place.x, .int .i64 x.place.y] 62)
      replace h := blkA h (by first | (simp; done) | (simp; omega)) (.cells #[.slice none 0 0, .slice none 0 0, .slice none 0 0, .slice none 0 0] 35)
      exact h
    have KN_0 := Lib.hid k_N
    have k_X : (((w.alloc (.cells #[.slice A0 n.sites.length C0, .slice A1 n.sectors.length C1, .slice A2 n.antennas.length C2, .slice A3 n.radios.length C3] 35)).alloc (.cells #[.string x.name, .string x.holder, .int .i64 x.place.x, .int .i64 x.place.y] 62)).alloc (.cells #[.slice none 0 0, .slice none 0 0, .slice none 0 0, .slice none 0 0] 35)).heap[w.heap.size + 1]? = some (.cells #[.string x.name, .string x.holder, .int .i64 x.place.x, .int .i64 x.place.y] 62 (0, 0)) := by
      have h := blkN (w.alloc (.cells #[.slice A0 n.sites.length C0, .slice A1 n.sectors.length C1, .slice A2 n.antennas.length C2, .slice A3 n.radios.length C3] 35)) #[.string x.name, .string x.holder, .int .i64 x.place.x, .int .i64 x.place.y] 62
      rw [show (w.alloc (.cells #[.slice A0 n.sites.length C0, .slice A1 n.sectors.length C1, .slice A2 n.antennas.length C2, .slice A3 n.radios.length C3] 35)).heap.size = w.heap.size + 1 by simp] at h
      replace h := blkA h (by first | (simp; done) | (simp; omega)) (.cells #[.slice none 0 0, .slice none 0 0, .slice none 0 0, .slice none 0 0] 35)
      exact h
    have KX_0 := Lib.hid k_X
    have k_R : (((w.alloc (.cells #[.slice A0 n.sites.length C0, .slice A1 n.sectors.length C1, .slice A2 n.antennas.length C2, .slice A3 n.radios.length C3] 35)).alloc (.cells #[.string x.name, .string x.holder, .int .i64 x.place.x, .int .i64 x.place.y] 62)).alloc (.cells #[.slice none 0 0, .slice none 0 0, .slice none 0 0, .slice none 0 0] 35)).heap[w.heap.size + 2]? = some (.cells #[.slice none 0 0, .slice none 0 0, .slice none 0 0, .slice none 0 0] 35 (0, 0)) := by
      have h := blkN ((w.alloc (.cells #[.slice A0 n.sites.length C0, .slice A1 n.sectors.length C1, .slice A2 n.antennas.length C2, .slice A3 n.radios.length C3] 35)).alloc (.cells #[.string x.name, .string x.holder, .int .i64 x.place.x, .int .i64 x.place.y] 62)) #[.slice none 0 0, .slice none 0 0, .slice none 0 0, .slice none 0 0] 35
      rw [show ((w.alloc (.cells #[.slice A0 n.sites.length C0, .slice A1 n.sectors.length C1, .slice A2 n.antennas.length C2, .slice A3 n.radios.length C3] 35)).alloc (.cells #[.string x.name, .string x.holder, .int .i64 x.place.x, .int .i64 x.place.y] 62)).heap.size = w.heap.size + 2 by simp] at h
      exact h
    have KR_0 := Lib.hid k_R
    clear k_N k_X k_R
    have BB_0 := Lib.hid BB0_
    clear BB0_
    go_enter Tryz.func28, Tryz.ntmps28
    go_upto_region 1 with (fail)
    generalize (((w.alloc (.cells #[.slice A0 n.sites.length C0, .slice A1 n.sectors.length C1, .slice A2 n.antennas.length C2, .slice A3 n.radios.length C3] 35)).alloc (.cells #[.string x.name, .string x.holder, .int .i64 x.place.x, .int .i64 x.place.y] 62)).alloc (.cells #[.slice none 0 0, .slice none 0 0, .slice none 0 0, .slice none 0 0] 35)) = W0 at *
    have fN0 := blkC (v := .slice A0 n.sites.length C0) KN_0.out 0 rfl
    have fN1 := blkC (v := .slice A1 n.sectors.length C1) KN_0.out 1 rfl
    have fN2 := blkC (v := .slice A2 n.antennas.length C2) KN_0.out 2 rfl
    have fN3 := blkC (v := .slice A3 n.radios.length C3) KN_0.out 3 rfl
    have fX0 := blkC (v := .string x.name) KX_0.out 0 rfl
    have fX1 := blkC (v := .string x.holder) KX_0.out 1 rfl
    have fX2 := blkC (v := .int .i64 x.place.x) KX_0.out 2 rfl
    have fX3 := blkC (v := .int .i64 x.place.y) KX_0.out 3 rfl
    have fR0 := blkC (v := .slice none 0 0) KR_0.out 0 rfl
    have fR1 := blkC (v := .slice none 0 0) KR_0.out 1 rfl
    have fR2 := blkC (v := .slice none 0 0) KR_0.out 2 rfl
    have fR3 := blkC (v := .slice none 0 0) KR_0.out 3 rfl
    go_wp2_with fail
    refine (l14Ok_any n _ _ _ _ w.heap.size _ ((R0.out.below BB_0.out).mono (by have := BB_0.out.size; omega)) ((R1.out.below BB_0.out).mono (by have := BB_0.out.size; omega)) ((R2.out.below BB_0.out).mono (by have := BB_0.out.size; omega)) ((R3.out.below BB_0.out).mono (by have := BB_0.out.size; omega)) (by omega) (blkC KN_0.out 0 rfl) (blkC KN_0.out 1 rfl) (blkC KN_0.out 2 rfl) (blkC KN_0.out 3 rfl) (by omega) hk_n).mono ?_
    rintro e X1 ⟨rfl, hb⟩
    clear fN0 fN1 fN2 fN3 fX0 fX1 fX2 fX3 fR0 fR1 fR2 fR3
    have KN_1 := Lib.hid (blkB KN_0.out hb (by omega))
    have KX_1 := Lib.hid (blkB KX_0.out hb (by omega))
    have KR_1 := Lib.hid (blkB KR_0.out hb (by omega))
    have BB_1 := Lib.hid (BB_0.out.trans (hb.mono (by omega)))
    have zz1 : W0.heap.size ≤ X1.heap.size := hb.size
    clear KN_0 KX_0 KR_0 BB_0 hb
    rw [hv]
    have fN0 := blkC (v := .slice A0 n.sites.length C0) KN_1.out 0 rfl
    have fN1 := blkC (v := .slice A1 n.sectors.length C1) KN_1.out 1 rfl
    have fN2 := blkC (v := .slice A2 n.antennas.length C2) KN_1.out 2 rfl
    have fN3 := blkC (v := .slice A3 n.radios.length C3) KN_1.out 3 rfl
    have fX0 := blkC (v := .string x.name) KX_1.out 0 rfl
    have fX1 := blkC (v := .string x.holder) KX_1.out 1 rfl
    have fX2 := blkC (v := .int .i64 x.place.x) KX_1.out 2 rfl
    have fX3 := blkC (v := .int .i64 x.place.y) KX_1.out 3 rfl
    have fR0 := blkC (v := .slice none 0 0) KR_1.out 0 rfl
    have fR1 := blkC (v := .slice none 0 0) KR_1.out 1 rfl
    have fR2 := blkC (v := .slice none 0 0) KR_1.out 2 rfl
    have fR3 := blkC (v := .slice none 0 0) KR_1.out 3 rfl
    go_wp2_with fail
    refine (l14Site_any x (w.heap.size + 1) 0 _ (by have h := blkC (v := .string x.name) KX_1.out 0 rfl; simpa using h) (by have h := blkC (v := .string x.holder) KX_1.out 1 rfl; simpa using h) (by have h := blkC (v := .int .i64 x.place.x) KX_1.out 2 rfl; simpa using h) (by have h := blkC (v := .int .i64 x.place.y) KX_1.out 3 rfl; simpa using h) hko.name hko.holder).mono ?_
    rintro e X2 ⟨rfl, hb⟩
    clear fN0 fN1 fN2 fN3 fX0 fX1 fX2 fX3 fR0 fR1 fR2 fR3
    have KN_2 := Lib.hid (blkB KN_1.out hb (by omega))
    have KX_2 := Lib.hid (blkB KX_1.out hb (by omega))
    have KR_2 := Lib.hid (blkB KR_1.out hb (by omega))
    have BB_2 := Lib.hid (BB_1.out.trans (hb.mono (by omega)))
    have zz2 : X1.heap.size ≤ X2.heap.size := hb.size
    clear KN_1 KX_1 KR_1 BB_1 hb
    rw [hx]
    have fN0 := blkC (v := .slice A0 n.sites.length C0) KN_2.out 0 rfl
    have fN1 := blkC (v := .slice A1 n.sectors.length C1) KN_2.out 1 rfl
    have fN2 := blkC (v := .slice A2 n.antennas.length C2) KN_2.out 2 rfl
    have fN3 := blkC (v := .slice A3 n.radios.length C3) KN_2.out 3 rfl
    have fX0 := blkC (v := .string x.name) KX_2.out 0 rfl
    have fX1 := blkC (v := .string x.holder) KX_2.out 1 rfl
    have fX2 := blkC (v := .int .i64 x.place.x) KX_2.out 2 rfl
    have fX3 := blkC (v := .int .i64 x.place.y) KX_2.out 3 rfl
    have fR0 := blkC (v := .slice none 0 0) KR_2.out 0 rfl
    have fR1 := blkC (v := .slice none 0 0) KR_2.out 1 rfl
    have fR2 := blkC (v := .slice none 0 0) KR_2.out 2 rfl
    have fR3 := blkC (v := .slice none 0 0) KR_2.out 3 rfl
    go_wp2_with fail
    refine (l14FindSite_any n.sites x.name _ w.heap.size w.heap.size _ (R0.out.below BB_2.out) (by have := BB_2.out.size; omega) (blkC KN_2.out 0 rfl) (by omega)).mono ?_
    rintro e _ ⟨rfl, rfl⟩
    clear fN0 fN1 fN2 fN3 fX0 fX1 fX2 fX3 fR0 fR1 fR2 fR3
    rw [HI.out]
    have fN0 := blkC (v := .slice A0 n.sites.length C0) KN_2.out 0 rfl
    have fN1 := blkC (v := .slice A1 n.sectors.length C1) KN_2.out 1 rfl
    have fN2 := blkC (v := .slice A2 n.antennas.length C2) KN_2.out 2 rfl
    have fN3 := blkC (v := .slice A3 n.radios.length C3) KN_2.out 3 rfl
    have fX0 := blkC (v := .string x.name) KX_2.out 0 rfl
    have fX1 := blkC (v := .string x.holder) KX_2.out 1 rfl
    have fX2 := blkC (v := .int .i64 x.place.x) KX_2.out 2 rfl
    have fX3 := blkC (v := .int .i64 x.place.y) KX_2.out 3 rfl
    have fR0 := blkC (v := .slice none 0 0) KR_2.out 0 rfl
    have fR1 := blkC (v := .slice none 0 0) KR_2.out 1 rfl
    have fR2 := blkC (v := .slice none 0 0) KR_2.out 2 rfl
    have fR3 := blkC (v := .slice none 0 0) KR_2.out 3 rfl
    have zR := blkF KR_2.out
    go_wp2
    have BF := Lib.hid (((((BB_2.out).setCell (p := ⟨w.heap.size + 2, 0, none⟩) (by show w.heap.size ≤ w.heap.size + 2; omega) (.slice none 0 0)).setCell (p := ⟨w.heap.size + 2, 1, none⟩) (by show w.heap.size ≤ w.heap.size + 2; omega) (.slice none 0 0)).setCell (p := ⟨w.heap.size + 2, 2, none⟩) (by show w.heap.size ≤ w.heap.size + 2; omega) (.slice none 0 0)).setCell (p := ⟨w.heap.size + 2, 3, none⟩) (by show w.heap.size ≤ w.heap.size + 2; omega) (.slice none 0 0))
    refine bodyPost_ret (v := .tuple #[.agg #[.slice none 0 0, .slice none 0 0, .slice none 0 0, .slice none 0 0], .int .i64 5]) (by simp [results, Tryz.results28, go_sem, *]) rfl ?_
    rw [HE.out]
    first | exact ⟨none, 0, none, 0, none, 0, none, 0, [], rfl, BF.out, ownV_zero _, In.nil⟩ | exact ⟨none, 0, none, 0, none, 0, none, 0, rfl, BF.out, [], ownV_zero _, In.nil⟩
  have HE := Lib.hid (addSiteR_ok hv hx hi hlen)
  have HI : Hid (idxSite n.sites x.name = -1) := hi
  have hl2 : ((n.sites.length : Int) == 12) = false := by simp; omega
  have hl3 : ¬ ((n.sites.length : Int) = 12) := by omega
  clear hi
  have hsl : n.sites.length ≤ 1048576 := by omega
  have RISE := Lib.hid (siteRise hv)
  have rs_ := R0.out
  rw [DSite.sT_vs] at rs_
  have RS := Lib.hid (rs_.readsV (by omega))
  obtain ⟨_, _, ee_, hlc, hcm_, -⟩ := DSite.rd R0.out
  injection ee_ with ee1_ _ ee3_
  subst ee1_ ee3_
  unfold maxLen at hcm_
  have ON := Lib.hid (DSite.vs_one n.sites)
  clear rs_
  have ONX : Hid (∀ u ∈ x.vs, u.oneCell' = true) := fun u hu => DSite.vs_one [x] u (by simpa using hu)
  have BB0_ : Below w.heap.size w (((w.alloc (.cells #[.slice A0 n.sites.length C0, .slice A1 n.sectors.length C1, .slice A2 n.antennas.length C2, .slice A3 n.radios.length C3] 35)).alloc (.cells #[.string x.name, .string x.holder, .int .i64 x.place.x, .int .i64 x.place.y] 62)).alloc (.cells #[.slice none 0 0, .slice none 0 0, .slice none 0 0, .slice none 0 0] 35)) := Below.alloc (Below.alloc (Below.alloc (Below.refl _ _) (by first | exact Nat.le_refl _ | (simp; done) | (simp; omega)) _) (by first | exact Nat.le_refl _ | (simp; done) | (simp; omega)) _) (by first | exact Nat.le_refl _ | (simp; done) | (simp; omega)) _
  have zz0 : w.heap.size + 3 ≤ (((w.alloc (.cells #[.slice A0 n.sites.length C0, .slice A1 n.sectors.length C1, .slice A2 n.antennas.length C2, .slice A3 n.radios.length C3] 35)).alloc (.cells #[.string x.name, .string x.holder, .int .i64 x.place.x, .int .i64 x.place.y] 62)).alloc (.cells #[.slice none 0 0, .slice none 0 0, .slice none 0 0, .slice none 0 0] 35)).heap.size := by simp
  have k_N : (((w.alloc (.cells #[.slice A0 n.sites.length C0, .slice A1 n.sectors.length C1, .slice A2 n.antennas.length C2, .slice A3 n.radios.length C3] 35)).alloc (.cells #[.string x.name, .string x.holder, .int .i64 x.place.x, .int .i64 x.place.y] 62)).alloc (.cells #[.slice none 0 0, .slice none 0 0, .slice none 0 0, .slice none 0 0] 35)).heap[w.heap.size]? = some (.cells #[.slice A0 n.sites.length C0, .slice A1 n.sectors.length C1, .slice A2 n.antennas.length C2, .slice A3 n.radios.length C3] 35 (0, 0)) := by
    have h := blkN w #[.slice A0 n.sites.length C0, .slice A1 n.sectors.length C1, .slice A2 n.antennas.length C2, .slice A3 n.radios.length C3] 35
    replace h := blkA h (by first | (simp; done) | (simp; omega)) (.cells #[.string x.name, .string x.holder, .int .i64 x.place.x, .int .i64 x.place.y] 62)
    replace h := blkA h (by first | (simp; done) | (simp; omega)) (.cells #[.slice none 0 0, .slice none 0 0, .slice none 0 0, .slice none 0 0] 35)
    exact h
  have KN_0 := Lib.hid k_N
  have k_X : (((w.alloc (.cells #[.slice A0 n.sites.length C0, .slice A1 n.sectors.length C1, .slice A2 n.antennas.length C2, .slice A3 n.radios.length C3] 35)).alloc (.cells #[.string x.name, .string x.holder, .int .i64 x.place.x, .int .i64 x.place.y] 62)).alloc (.cells #[.slice none 0 0, .slice none 0 0, .slice none 0 0, .slice none 0 0] 35)).heap[w.heap.size + 1]? = some (.cells #[.string x.name, .string x.holder, .int .i64 x.place.x, .int .i64 x.place.y] 62 (0, 0)) := by
    have h := blkN (w.alloc (.cells #[.slice A0 n.sites.length C0, .slice A1 n.sectors.length C1, .slice A2 n.antennas.length C2, .slice A3 n.radios.length C3] 35)) #[.string x.name, .string x.holder, .int .i64 x.place.x, .int .i64 x.place.y] 62
    rw [show (w.alloc (.cells #[.slice A0 n.sites.length C0, .slice A1 n.sectors.length C1, .slice A2 n.antennas.length C2, .slice A3 n.radios.length C3] 35)).heap.size = w.heap.size + 1 by simp] at h
    replace h := blkA h (by first | (simp; done) | (simp; omega)) (.cells #[.slice none 0 0, .slice none 0 0, .slice none 0 0, .slice none 0 0] 35)
    exact h
  have KX_0 := Lib.hid k_X
  have k_R : (((w.alloc (.cells #[.slice A0 n.sites.length C0, .slice A1 n.sectors.length C1, .slice A2 n.antennas.length C2, .slice A3 n.radios.length C3] 35)).alloc (.cells #[.string x.name, .string x.holder, .int .i64 x.place.x, .int .i64 x.place.y] 62)).alloc (.cells #[.slice none 0 0, .slice none 0 0, .slice none 0 0, .slice none 0 0] 35)).heap[w.heap.size + 2]? = some (.cells #[.slice none 0 0, .slice none 0 0, .slice none 0 0, .slice none 0 0] 35 (0, 0)) := by
    have h := blkN ((w.alloc (.cells #[.slice A0 n.sites.length C0, .slice A1 n.sectors.length C1, .slice A2 n.antennas.length C2, .slice A3 n.radios.length C3] 35)).alloc (.cells #[.string x.name, .string x.holder, .int .i64 x.place.x, .int .i64 x.place.y] 62)) #[.slice none 0 0, .slice none 0 0, .slice none 0 0, .slice none 0 0] 35
    rw [show ((w.alloc (.cells #[.slice A0 n.sites.length C0, .slice A1 n.sectors.length C1, .slice A2 n.antennas.length C2, .slice A3 n.radios.length C3] 35)).alloc (.cells #[.string x.name, .string x.holder, .int .i64 x.place.x, .int .i64 x.place.y] 62)).heap.size = w.heap.size + 2 by simp] at h
    exact h
  have KR_0 := Lib.hid k_R
  clear k_N k_X k_R
  have BB_0 := Lib.hid BB0_
  clear BB0_
  go_enter Tryz.func28, Tryz.ntmps28
  go_upto_region 1 with (fail)
  generalize (((w.alloc (.cells #[.slice A0 n.sites.length C0, .slice A1 n.sectors.length C1, .slice A2 n.antennas.length C2, .slice A3 n.radios.length C3] 35)).alloc (.cells #[.string x.name, .string x.holder, .int .i64 x.place.x, .int .i64 x.place.y] 62)).alloc (.cells #[.slice none 0 0, .slice none 0 0, .slice none 0 0, .slice none 0 0] 35)) = W0 at *
  have fN0 := blkC (v := .slice A0 n.sites.length C0) KN_0.out 0 rfl
  have fN1 := blkC (v := .slice A1 n.sectors.length C1) KN_0.out 1 rfl
  have fN2 := blkC (v := .slice A2 n.antennas.length C2) KN_0.out 2 rfl
  have fN3 := blkC (v := .slice A3 n.radios.length C3) KN_0.out 3 rfl
  have fX0 := blkC (v := .string x.name) KX_0.out 0 rfl
  have fX1 := blkC (v := .string x.holder) KX_0.out 1 rfl
  have fX2 := blkC (v := .int .i64 x.place.x) KX_0.out 2 rfl
  have fX3 := blkC (v := .int .i64 x.place.y) KX_0.out 3 rfl
  have fR0 := blkC (v := .slice none 0 0) KR_0.out 0 rfl
  have fR1 := blkC (v := .slice none 0 0) KR_0.out 1 rfl
  have fR2 := blkC (v := .slice none 0 0) KR_0.out 2 rfl
  have fR3 := blkC (v := .slice none 0 0) KR_0.out 3 rfl
  go_wp2_with fail
  refine (l14Ok_any n _ _ _ _ w.heap.size _ ((R0.out.below BB_0.out).mono (by have := BB_0.out.size; omega)) ((R1.out.below BB_0.out).mono (by have := BB_0.out.size; omega)) ((R2.out.below BB_0.out).mono (by have := BB_0.out.size; omega)) ((R3.out.below BB_0.out).mono (by have := BB_0.out.size; omega)) (by omega) (blkC KN_0.out 0 rfl) (blkC KN_0.out 1 rfl) (blkC KN_0.out 2 rfl) (blkC KN_0.out 3 rfl) (by omega) hk_n).mono ?_
  rintro e X1 ⟨rfl, hb⟩
  clear fN0 fN1 fN2 fN3 fX0 fX1 fX2 fX3 fR0 fR1 fR2 fR3
  have KN_1 := Lib.hid (blkB KN_0.out hb (by omega))
  have KX_1 := Lib.hid (blkB KX_0.out hb (by omega))
  have KR_1 := Lib.hid (blkB KR_0.out hb (by omega))
  have BB_1 := Lib.hid (BB_0.out.trans (hb.mono (by omega)))
  have zz1 : W0.heap.size ≤ X1.heap.size := hb.size
  clear KN_0 KX_0 KR_0 BB_0 hb
  rw [hv]
  have fN0 := blkC (v := .slice A0 n.sites.length C0) KN_1.out 0 rfl
  have fN1 := blkC (v := .slice A1 n.sectors.length C1) KN_1.out 1 rfl
  have fN2 := blkC (v := .slice A2 n.antennas.length C2) KN_1.out 2 rfl
  have fN3 := blkC (v := .slice A3 n.radios.length C3) KN_1.out 3 rfl
  have fX0 := blkC (v := .string x.name) KX_1.out 0 rfl
  have fX1 := blkC (v := .string x.holder) KX_1.out 1 rfl
  have fX2 := blkC (v := .int .i64 x.place.x) KX_1.out 2 rfl
  have fX3 := blkC (v := .int .i64 x.place.y) KX_1.out 3 rfl
  have fR0 := blkC (v := .slice none 0 0) KR_1.out 0 rfl
  have fR1 := blkC (v := .slice none 0 0) KR_1.out 1 rfl
  have fR2 := blkC (v := .slice none 0 0) KR_1.out 2 rfl
  have fR3 := blkC (v := .slice none 0 0) KR_1.out 3 rfl
  go_wp2_with fail
  refine (l14Site_any x (w.heap.size + 1) 0 _ (by have h := blkC (v := .string x.name) KX_1.out 0 rfl; simpa using h) (by have h := blkC (v := .string x.holder) KX_1.out 1 rfl; simpa using h) (by have h := blkC (v := .int .i64 x.place.x) KX_1.out 2 rfl; simpa using h) (by have h := blkC (v := .int .i64 x.place.y) KX_1.out 3 rfl; simpa using h) hko.name hko.holder).mono ?_
  rintro e X2 ⟨rfl, hb⟩
  clear fN0 fN1 fN2 fN3 fX0 fX1 fX2 fX3 fR0 fR1 fR2 fR3
  have KN_2 := Lib.hid (blkB KN_1.out hb (by omega))
  have KX_2 := Lib.hid (blkB KX_1.out hb (by omega))
  have KR_2 := Lib.hid (blkB KR_1.out hb (by omega))
  have BB_2 := Lib.hid (BB_1.out.trans (hb.mono (by omega)))
  have zz2 : X1.heap.size ≤ X2.heap.size := hb.size
  clear KN_1 KX_1 KR_1 BB_1 hb
  rw [hx]
  have fN0 := blkC (v := .slice A0 n.sites.length C0) KN_2.out 0 rfl
  have fN1 := blkC (v := .slice A1 n.sectors.length C1) KN_2.out 1 rfl
  have fN2 := blkC (v := .slice A2 n.antennas.length C2) KN_2.out 2 rfl
  have fN3 := blkC (v := .slice A3 n.radios.length C3) KN_2.out 3 rfl
  have fX0 := blkC (v := .string x.name) KX_2.out 0 rfl
  have fX1 := blkC (v := .string x.holder) KX_2.out 1 rfl
  have fX2 := blkC (v := .int .i64 x.place.x) KX_2.out 2 rfl
  have fX3 := blkC (v := .int .i64 x.place.y) KX_2.out 3 rfl
  have fR0 := blkC (v := .slice none 0 0) KR_2.out 0 rfl
  have fR1 := blkC (v := .slice none 0 0) KR_2.out 1 rfl
  have fR2 := blkC (v := .slice none 0 0) KR_2.out 2 rfl
  have fR3 := blkC (v := .slice none 0 0) KR_2.out 3 rfl
  go_wp2_with fail
  refine (l14FindSite_any n.sites x.name _ w.heap.size w.heap.size _ (R0.out.below BB_2.out) (by have := BB_2.out.size; omega) (blkC KN_2.out 0 rfl) (by omega)).mono ?_
  rintro e _ ⟨rfl, rfl⟩
  clear fN0 fN1 fN2 fN3 fX0 fX1 fX2 fX3 fR0 fR1 fR2 fR3
  rw [HI.out]
  have fN0 := blkC (v := .slice A0 n.sites.length C0) KN_2.out 0 rfl
  have fN1 := blkC (v := .slice A1 n.sectors.length C1) KN_2.out 1 rfl
  have fN2 := blkC (v := .slice A2 n.antennas.length C2) KN_2.out 2 rfl
  have fN3 := blkC (v := .slice A3 n.radios.length C3) KN_2.out 3 rfl
  have fX0 := blkC (v := .string x.name) KX_2.out 0 rfl
  have fX1 := blkC (v := .string x.holder) KX_2.out 1 rfl
  have fX2 := blkC (v := .int .i64 x.place.x) KX_2.out 2 rfl
  have fX3 := blkC (v := .int .i64 x.place.y) KX_2.out 3 rfl
  have fR0 := blkC (v := .slice none 0 0) KR_2.out 0 rfl
  have fR1 := blkC (v := .slice none 0 0) KR_2.out 1 rfl
  have fR2 := blkC (v := .slice none 0 0) KR_2.out 2 rfl
  have fR3 := blkC (v := .slice none 0 0) KR_2.out 3 rfl
  go_wp2_with fail
  refine (l14Own_any n _ _ _ _ w.heap.size _ ((R0.out.below BB_2.out).mono (by have := BB_2.out.size; omega)) ((R1.out.below BB_2.out).mono (by have := BB_2.out.size; omega)) ((R2.out.below BB_2.out).mono (by have := BB_2.out.size; omega)) ((R3.out.below BB_2.out).mono (by have := BB_2.out.size; omega)) (by omega) (blkC KN_2.out 0 rfl) (blkC KN_2.out 1 rfl) (blkC KN_2.out 2 rfl) (blkC KN_2.out 3 rfl) hs_n).mono ?_
  rintro e X3 ⟨a0, c0, a1, c1, a2, c2, a3, c3, fp, rfl, hb, ov, iv_⟩
  clear fN0 fN1 fN2 fN3 fX0 fX1 fX2 fX3 fR0 fR1 fR2 fR3
  have KN_3 := Lib.hid (blkB KN_2.out hb (by omega))
  have KX_3 := Lib.hid (blkB KX_2.out hb (by omega))
  have KR_3 := Lib.hid (blkB KR_2.out hb (by omega))
  have BB_3 := Lib.hid (BB_2.out.trans (hb.mono (by omega)))
  have zz3 : X2.heap.size ≤ X3.heap.size := hb.size
  clear KN_2 KX_2 KR_2 BB_2 hb
  clear hl2 hl3
  obtain ⟨f0, f1, f2, f3, fpm, O0, O1, O2, O3, d0, d1, d2⟩ := netSplit ov
  have iv : In (w.heap.size + 3) X3.heap.size fp := iv_.mono (by omega) (Nat.le_refl _)
  clear ov iv_
  have fN0 := blkC (v := .slice A0 n.sites.length C0) KN_3.out 0 rfl
  have fN1 := blkC (v := .slice A1 n.sectors.length C1) KN_3.out 1 rfl
  have fN2 := blkC (v := .slice A2 n.antennas.length C2) KN_3.out 2 rfl
  have fN3 := blkC (v := .slice A3 n.radios.length C3) KN_3.out 3 rfl
  have fX0 := blkC (v := .string x.name) KX_3.out 0 rfl
  have fX1 := blkC (v := .string x.holder) KX_3.out 1 rfl
  have fX2 := blkC (v := .int .i64 x.place.x) KX_3.out 2 rfl
  have fX3 := blkC (v := .int .i64 x.place.y) KX_3.out 3 rfl
  have fR0 := blkC (v := .slice none 0 0) KR_3.out 0 rfl
  have fR1 := blkC (v := .slice none 0 0) KR_3.out 1 rfl
  have fR2 := blkC (v := .slice none 0 0) KR_3.out 2 rfl
  have fR3 := blkC (v := .slice none 0 0) KR_3.out 3 rfl
  go_upto_region 8 with (fail)
  clear fN0 fN1 fN2 fN3 fX0 fX1 fX2 fX3 fR0 fR1 fR2 fR3
  have hbA : Below X3.heap.size X3 (X3.alloc (.cells #[.slice a0 n.sites.length c0, .slice a1 n.sectors.length c1, .slice a2 n.antennas.length c2, .slice a3 n.radios.length c3] 35)) := (Below.refl _ _).alloc (Nat.le_refl _) _
  have kL := blkN X3 #[.slice a0 n.sites.length c0, .slice a1 n.sectors.length c1, .slice a2 n.antennas.length c2, .slice a3 n.radios.length c3] 35
  have zL : X3.heap.size + 1 ≤ (X3.alloc (.cells #[.slice a0 n.sites.length c0, .slice a1 n.sectors.length c1, .slice a2 n.antennas.length c2, .slice a3 n.radios.length c3] 35)).heap.size := by simp
  have P0 := Lib.hid (O0.below (lo := w.heap.size + 3) (hi := X3.heap.size) (fun y hy => iv y ((fpm y).2 (by simp [hy]))) (Nat.le_refl _) hbA)
  have P1 := Lib.hid (O1.below (lo := w.heap.size + 3) (hi := X3.heap.size) (fun y hy => iv y ((fpm y).2 (by simp [hy]))) (Nat.le_refl _) hbA)
  have P2 := Lib.hid (O2.below (lo := w.heap.size + 3) (hi := X3.heap.size) (fun y hy => iv y ((fpm y).2 (by simp [hy]))) (Nat.le_refl _) hbA)
  have P3 := Lib.hid (O3.below (lo := w.heap.size + 3) (hi := X3.heap.size) (fun y hy => iv y ((fpm y).2 (by simp [hy]))) (Nat.le_refl _) hbA)
  clear O0 O1 O2 O3
  generalize (X3.alloc (.cells #[.slice a0 n.sites.length c0, .slice a1 n.sectors.length c1, .slice a2 n.antennas.length c2, .slice a3 n.radios.length c3] 35)) = Y at *
  have KL_4 := Lib.hid kL
  clear kL
  have KN_4 := Lib.hid (blkB KN_3.out hbA (by omega))
  have KX_4 := Lib.hid (blkB KX_3.out hbA (by omega))
  have KR_4 := Lib.hid (blkB KR_3.out hbA (by omega))
  have BB_4 := Lib.hid (BB_3.out.trans (hbA.mono (by omega)))
  have zz4 : X3.heap.size ≤ Y.heap.size := hbA.size
  clear KN_3 KX_3 KR_3 BB_3 hbA
  have IN1 : Hid (In (w.heap.size + 3) X3.heap.size f1) := fun y hy => iv y ((fpm y).2 (by simp [hy]))
  have IN2 : Hid (In (w.heap.size + 3) X3.heap.size f2) := fun y hy => iv y ((fpm y).2 (by simp [hy]))
  have IN3 : Hid (In (w.heap.size + 3) X3.heap.size f3) := fun y hy => iv y ((fpm y).2 (by simp [hy]))
  have BWY := Lib.hid BB_4.out
  have fN_ : Y.cell? ⟨w.heap.size, 0, none⟩ = some (.slice A0 n.sites.length C0) := (blkC (v := .slice A0 n.sites.length C0) KN_4.out 0 rfl)
  go_wp2
  clear fN_
  go_loopw [7] (fun i wr => ∃ m : Nat, m ≤ n.sites.length ∧ i = .int .i64 m ∧ (∀ j (h : j < n.sites.length), m ≤ j → ltS x.name n.sites[j].name = true) ∧ Below Y.heap.size Y wr) (fun i wr => (intOf i).toNat)
  case atStart => exact ⟨n.sites.length, Nat.le_refl _, rfl, fun j h h2 => absurd h (by omega), Below.refl _ _⟩
  case round =>
    obtain ⟨m, hm, rfl, hgt, hb⟩ := hrel
    have HGT := Lib.hid hgt
    have HB := Lib.hid hb
    have zr : Y.heap.size ≤ wr.heap.size := hb.size
    clear hgt hb
    have yN : w.heap.size < wr.heap.size := by have := BWY.out.size; omega
    have fN : wr.cell? ⟨w.heap.size, 0, none⟩ = some (.slice A0 n.sites.length C0) := (bat HB.out w.heap.size 0 (by have := BWY.out.size; omega)).trans ((blkC (v := .slice A0 n.sites.length C0) KN_4.out 0 rfl))
    have oN := overC (w0 := wr) yN
    by_cases h0 : 0 < m
    case' pos =>
      have hml : m - 1 < n.sites.length := by omega
      obtain ⟨_, _, e_, _, _, hcl⟩ := DSite.rd R0.out
      injection e_ with e1_ _ e3_
      subst e1_ e3_
      obtain ⟨b, off, ea, hbl, hat⟩ := hcl (by omega)
      rw [ea] at fN
      have EA := Lib.hid ea
      clear ea
      have s0 := (hat (m - 1) hml).1
      have bW := BWY.out.trans (HB.out.mono (by have := BWY.out.size; omega))
      rw [← bW.cell (p := ⟨b, _, none⟩) hbl] at s0
      have yB : b < wr.heap.size := by have := bW.size; omega
      have yX : w.heap.size + 1 < wr.heap.size := by omega
      have fX : wr.cell? ⟨w.heap.size + 1, 0, none⟩ = some (.string x.name) := (bat HB.out (w.heap.size + 1) 0 (by omega)).trans (blkC (v := .string x.name) KX_4.out 0 rfl)
      have oB := overC (w0 := wr) yB
      have oX := overC (w0 := wr) yX
      clear hcl hat
      have g1 : decide ((0 : Int) < (m : Int)) = true := by simp; omega
      have g2 : decide (0 < m) = true := by simpa using h0
      have i1 : (1 : Int) ≤ (m : Int) := by omega
      have i2 : (0 : Int) ≤ (m : Int) - 1 := by omega
      have i3 : (m : Int) - 1 < (n.sites.length : Int) := by omega
      have i4 : IntKind.i64.wrap ((m : Int) - 1) = (m : Int) - 1 := IntWalk.i64_in _ (by omega)
      have i5 : ((m : Int) - 1).toNat = m - 1 := by omega
      have i6 : 1 ≤ m := h0
      by_cases hp : ltS x.name n.sites[m - 1].name = true
      · have hq := geS_of_lt hp
        have HP := Lib.hid hp
        clear hp
        go_wp2
        refine wp_region_over wr.heap.size wr (Below.refl _ _) (by kernel_rfl) (by kernel_rfl) ?_
        repeat (go_big_quiet_step (fail))
        refine wpQuiet_nil ?_
        rintro _ ⟨X, rfl⟩
        have hX := over_below wr.heap.size wr X
        clear oB oX oN hq g1 g2 i4 i5 s0 fX fN bW
        generalize over wr.heap.size wr X = w2 at *
        go_wp2
        go_roundw
        case rel => exact ⟨m - 1, by omega, by congr 1; omega, fun j h h2 => by
            by_cases e : j = m - 1
            · subst e; exact HP.out
            · exact HGT.out j h (by omega), HB.out.trans (hX.mono (by omega))⟩
        case measure => simp [intOf]; omega
      replace hp : ltS x.name n.sites[m - 1].name = false := Bool.eq_false_iff.2 hp
      have hq := geS_of_not hp
      have HP := Lib.hid hp
      clear hp
      go_wp2
      refine wp_region_over wr.heap.size wr (Below.refl _ _) (by kernel_rfl) (by kernel_rfl) ?_
      repeat (go_big_quiet_step (fail))
      refine wpQuiet_nil ?_
      rintro _ ⟨X, rfl⟩
      have hX := over_below wr.heap.size wr X
      clear oB oX oN hq g1 g2 i4 i5 i2 s0 fX fN bW
      have HPOS : Hid (posOf DSite.name n.sites x.name = m) := pos_of_end RISE.out HNO.out hm (fun _ => HP.out) (fun h => HGT.out m h (Nat.le_refl _))
      generalize over wr.heap.size wr X = V at *
      have hbV : Below Y.heap.size Y V := HB.out.trans (hX.mono (by omega))
      have zV : Y.heap.size ≤ V.heap.size := hbV.size
      clear HGT HB hX
      clear HP EA i1 i3 i6 hbl yB yX
    case' neg =>
      have g1 : decide ((0 : Int) < (m : Int)) = false := by simp; omega
      have g2 : decide (0 < m) = false := by simp; omega
      go_wp2
      refine wp_region_over wr.heap.size wr (Below.refl _ _) (by kernel_rfl) (by kernel_rfl) ?_
      repeat (go_big_quiet_step (fail))
      refine wpQuiet_nil ?_
      rintro _ ⟨X, rfl⟩
      have hX := over_below wr.heap.size wr X
      clear oN g1 g2 fN
      have HPOS : Hid (posOf DSite.name n.sites x.name = m) := pos_of_end RISE.out HNO.out hm (fun h => absurd h h0) (fun h => HGT.out m h (Nat.le_refl _))
      generalize over wr.heap.size wr X = V at *
      have hbV : Below Y.heap.size Y V := HB.out.trans (hX.mono (by omega))
      have zV : Y.heap.size ≤ V.heap.size := hbV.size
      clear HGT HB hX
    all_goals
      clear h0 yN
      have kc1 : (m : Int) ≤ (C0 : Int) := by omega
      have kc2 : m ≤ C0 := by omega
      have hkn : m ≤ n.sites.length := hm
      have KN_5 := Lib.hid ((hbV.block (w.heap.size) (by omega)).trans KN_4.out)
      have KX_5 := Lib.hid ((hbV.block (w.heap.size + 1) (by omega)).trans KX_4.out)
      have KR_5 := Lib.hid ((hbV.block (w.heap.size + 2) (by omega)).trans KR_4.out)
      have KL_5 := Lib.hid ((hbV.block (X3.heap.size) (by omega)).trans KL_4.out)
      have BW_5 := Lib.hid (BWY.out.trans (hbV.mono (by omega)))
      have P1_5 := Lib.hid (P1.out.below IN1.out (by omega) hbV)
      have P2_5 := Lib.hid (P2.out.below IN2.out (by omega) hbV)
      have P3_5 := Lib.hid (P3.out.below IN3.out (by omega) hbV)
      clear hbV
      obtain ⟨ti, hi0, hi1, hi2, hi3⟩ := info_parts infoSite
      have hYb : X3.heap.size < V.heap.size := by omega
      have zY_5 : V.heap.size ≤ V.heap.size := Nat.le_refl _
      have fL0 := blkC (v := .slice a0 n.sites.length c0) KL_5.out 0 rfl
      have fL1 := blkC (v := .slice a1 n.sectors.length c1) KL_5.out 1 rfl
      have fL2 := blkC (v := .slice a2 n.antennas.length c2) KL_5.out 2 rfl
      have fL3 := blkC (v := .slice a3 n.radios.length c3) KL_5.out 3 rfl
      have zLz := blkF KL_5.out
      have hnc := (blkC (v := .slice A0 n.sites.length C0) KN_5.out 0 rfl)
      have hby : w.heap.size < V.heap.size := by have := BW_5.out.size; omega
      go_upto_region 12 with (at_builtin; refine wpList_append_first rfl (.tmp 45) (.tmp 49) _ rfl 62 ti _ 4 48 Tryz.underlying30 hi0 hi1 hi2 hi3 rfl (by omega) rfl w.heap.size A0 m C0 ((n.sites.flatMap DSite.vs).take (m * 4)) rfl ((RS.out.below BW_5.out).head hkn) (by omega) (fun u hu => ON.out u (List.mem_of_mem_take hu)) (by simp only [maxLen]; omega) (by omega) ?_; intro a5 c5 Z1 hown1 hb1 hz1; have HO_6 := Lib.hid hown1; have HB1 := Lib.hid hb1; have kl1 := ((hb1.block X3.heap.size (by omega)).trans KL_5.out); have g0 := blkC (v := .slice a0 n.sites.length c0) kl1 0 rfl; have gz := blkF kl1; clear hown1 hb1 kl1)
      have hb1 := HB1.out
      clear HB1 hnc hby gz g0 fL0 fL1 fL2 fL3 zLz
      have KN_6 := Lib.hid ((hb1.block (w.heap.size) (by omega)).trans KN_5.out)
      have KX_6 := Lib.hid ((hb1.block (w.heap.size + 1) (by omega)).trans KX_5.out)
      have KR_6 := Lib.hid ((hb1.block (w.heap.size + 2) (by omega)).trans KR_5.out)
      have KL_6 := Lib.hid ((hb1.block (X3.heap.size) (by omega)).trans KL_5.out)
      have BW_6 := Lib.hid (BW_5.out.trans (hb1.mono (by omega)))
      have P1_6 := Lib.hid (P1_5.out.below IN1.out (by omega) hb1)
      have P2_6 := Lib.hid (P2_5.out.below IN2.out (by omega) hb1)
      have P3_6 := Lib.hid (P3_5.out.below IN3.out (by omega) hb1)
      have zY_6 : V.heap.size ≤ Z1.heap.size := by have := hb1.size; omega
      clear KN_5 KX_5 KR_5 KL_5 BW_5 P1_5 P2_5 P3_5
      clear hb1
      have KN_7 : Hid ((Z1.setCell ⟨X3.heap.size, 0, none⟩ (.slice a5 m c5)).heap[(w.heap.size)]? = _) := Lib.hid (blkO KN_6.out (p := ⟨X3.heap.size, 0, none⟩) (by show w.heap.size ≠ X3.heap.size; omega) (.slice a5 m c5))
      have KX_7 : Hid ((Z1.setCell ⟨X3.heap.size, 0, none⟩ (.slice a5 m c5)).heap[(w.heap.size + 1)]? = _) := Lib.hid (blkO KX_6.out (p := ⟨X3.heap.size, 0, none⟩) (by show w.heap.size + 1 ≠ X3.heap.size; omega) (.slice a5 m c5))
      have KR_7 : Hid ((Z1.setCell ⟨X3.heap.size, 0, none⟩ (.slice a5 m c5)).heap[(w.heap.size + 2)]? = _) := Lib.hid (blkO KR_6.out (p := ⟨X3.heap.size, 0, none⟩) (by show w.heap.size + 2 ≠ X3.heap.size; omega) (.slice a5 m c5))
      have kl_ : (Z1.setCell ⟨X3.heap.size, 0, none⟩ (.slice a5 m c5)).heap[X3.heap.size]? = some (.cells #[.slice a5 m c5, .slice a1 n.sectors.length c1, .slice a2 n.antennas.length c2, .slice a3 n.radios.length c3] 35 (0, 0)) := by
        have h_ := blkS KL_6.out 0 (.slice a5 m c5)
        simpa using h_
      have KL_7 := Lib.hid kl_
      clear kl_
      have BW_7 := Lib.hid (BW_6.out.setCell (p := ⟨X3.heap.size, 0, none⟩) (by show w.heap.size ≤ X3.heap.size; omega) (.slice a5 m c5))
      have P1_7 := Lib.hid (P1_6.out.frame (w' := (Z1.setCell ⟨X3.heap.size, 0, none⟩ (.slice a5 m c5))) (fun b hb => Below.heap_setCell _ _ _ b (by have := (IN1.out b hb).2; show b ≠ X3.heap.size; omega)))
      have P2_7 := Lib.hid (P2_6.out.frame (w' := (Z1.setCell ⟨X3.heap.size, 0, none⟩ (.slice a5 m c5))) (fun b hb => Below.heap_setCell _ _ _ b (by have := (IN2.out b hb).2; show b ≠ X3.heap.size; omega)))
      have P3_7 := Lib.hid (P3_6.out.frame (w' := (Z1.setCell ⟨X3.heap.size, 0, none⟩ (.slice a5 m c5))) (fun b hb => Below.heap_setCell _ _ _ b (by have := (IN3.out b hb).2; show b ≠ X3.heap.size; omega)))
      have zY_7 : V.heap.size ≤ (Z1.setCell ⟨X3.heap.size, 0, none⟩ (.slice a5 m c5)).heap.size := by rw [size_setCell]; omega
      have HO_7 := Lib.hid (ownsRow_frame (w' := (Z1.setCell ⟨X3.heap.size, 0, none⟩ (.slice a5 m c5))) HO_6.out (fun g hg => Below.heap_setCell _ _ _ g (by have := (ownsRow_block HO_6.out hg).1; show g ≠ X3.heap.size; omega)))
      clear KN_6 KX_6 KR_6 KL_6 BW_6 P1_6 P2_6 P3_6
      clear HO_6
      generalize (Z1.setCell ⟨X3.heap.size, 0, none⟩ (.slice a5 m c5)) = Z2 at *
      have fL0 := blkC (v := .slice a5 m c5) KL_7.out 0 rfl
      have fL1 := blkC (v := .slice a1 n.sectors.length c1) KL_7.out 1 rfl
      have fL2 := blkC (v := .slice a2 n.antennas.length c2) KL_7.out 2 rfl
      have fL3 := blkC (v := .slice a3 n.radios.length c3) KL_7.out 3 rfl
      have zLz := blkF KL_7.out
      have fX0 := blkC (v := .string x.name) KX_7.out 0 rfl
      have fX1 := blkC (v := .string x.holder) KX_7.out 1 rfl
      have fX2 := blkC (v := .int .i64 x.place.x) KX_7.out 2 rfl
      have fX3 := blkC (v := .int .i64 x.place.y) KX_7.out 3 rfl
      have HOA := Lib.hid (ownsRow_frame (w' := (Z2.alloc (.cells #[.string x.name, .string x.holder, .int .i64 x.place.x, .int .i64 x.place.y] 62))) HO_7.out (fun g hg => Below.heap_alloc _ _ g (ownsRow_block HO_7.out hg).2))
      have HFR : Hid (Reads (Z2.alloc (.cells #[.string x.name, .string x.holder, .int .i64 x.place.x, .int .i64 x.place.y] 62)) (Z2.heap.size + 1) 4 (some ⟨Z2.heap.size, 0, none⟩) 1 x.vs) := Reads.fresh Z2 62 4 x.vs rfl
      have HBA : Hid (Below V.heap.size Z2 (Z2.alloc (.cells #[.string x.name, .string x.holder, .int .i64 x.place.x, .int .i64 x.place.y] 62))) := (Below.refl _ _).alloc (by omega) _
      go_wp2_with (at_builtin; refine wpList_append_more rfl (.tmp 53) (.tmp 55) _ rfl V.heap.size 62 ti _ 4 48 Tryz.underlying30 hi0 hi1 hi2 hi3 rfl (by omega) (.slice a5 (m) c5) _ _ rfl HOA.out (Z2.heap.size + 1) _ 1 1 x.vs rfl HFR.out ONX.out (by simp only [maxLen]; omega) (by omega) (by simp; omega) ?_; intro a6 c6 Z3 hown hb; have HO_8 := Lib.hid hown; have HB2 := Lib.hid (HBA.out.trans hb); have kl1 := ((HB2.out.block X3.heap.size (by omega)).trans KL_7.out); have g0 := blkC (v := .slice a5 m c5) kl1 0 rfl; have gz := blkF kl1; clear hown hb kl1)
      have hb2 := HB2.out
      clear HB2 HOA HFR HBA gz g0 fL0 fL1 fL2 fL3 zLz fX0 fX1 fX2 fX3
      have KN_8 := Lib.hid ((hb2.block (w.heap.size) (by omega)).trans KN_7.out)
      have KX_8 := Lib.hid ((hb2.block (w.heap.size + 1) (by omega)).trans KX_7.out)
      have KR_8 := Lib.hid ((hb2.block (w.heap.size + 2) (by omega)).trans KR_7.out)
      have KL_8 := Lib.hid ((hb2.block (X3.heap.size) (by omega)).trans KL_7.out)
      have BW_8 := Lib.hid (BW_7.out.trans (hb2.mono (by omega)))
      have P1_8 := Lib.hid (P1_7.out.below IN1.out (by omega) hb2)
      have P2_8 := Lib.hid (P2_7.out.below IN2.out (by omega) hb2)
      have P3_8 := Lib.hid (P3_7.out.below IN3.out (by omega) hb2)
      have zY_8 : V.heap.size ≤ Z3.heap.size := by have := hb2.size; omega
      clear KN_7 KX_7 KR_7 KL_7 BW_7 P1_7 P2_7 P3_7
      clear hb2 HO_7
      have KN_9 : Hid ((Z3.setCell ⟨X3.heap.size, 0, none⟩ (.slice a6 (m + 1) c6)).heap[(w.heap.size)]? = _) := Lib.hid (blkO KN_8.out (p := ⟨X3.heap.size, 0, none⟩) (by show w.heap.size ≠ X3.heap.size; omega) (.slice a6 (m + 1) c6))
      have KX_9 : Hid ((Z3.setCell ⟨X3.heap.size, 0, none⟩ (.slice a6 (m + 1) c6)).heap[(w.heap.size + 1)]? = _) := Lib.hid (blkO KX_8.out (p := ⟨X3.heap.size, 0, none⟩) (by show w.heap.size + 1 ≠ X3.heap.size; omega) (.slice a6 (m + 1) c6))
      have KR_9 : Hid ((Z3.setCell ⟨X3.heap.size, 0, none⟩ (.slice a6 (m + 1) c6)).heap[(w.heap.size + 2)]? = _) := Lib.hid (blkO KR_8.out (p := ⟨X3.heap.size, 0, none⟩) (by show w.heap.size + 2 ≠ X3.heap.size; omega) (.slice a6 (m + 1) c6))
      have kl_ : (Z3.setCell ⟨X3.heap.size, 0, none⟩ (.slice a6 (m + 1) c6)).heap[X3.heap.size]? = some (.cells #[.slice a6 (m + 1) c6, .slice a1 n.sectors.length c1, .slice a2 n.antennas.length c2, .slice a3 n.radios.length c3] 35 (0, 0)) := by
        have h_ := blkS KL_8.out 0 (.slice a6 (m + 1) c6)
        simpa using h_
      have KL_9 := Lib.hid kl_
      clear kl_
      have BW_9 := Lib.hid (BW_8.out.setCell (p := ⟨X3.heap.size, 0, none⟩) (by show w.heap.size ≤ X3.heap.size; omega) (.slice a6 (m + 1) c6))
      have P1_9 := Lib.hid (P1_8.out.frame (w' := (Z3.setCell ⟨X3.heap.size, 0, none⟩ (.slice a6 (m + 1) c6))) (fun b hb => Below.heap_setCell _ _ _ b (by have := (IN1.out b hb).2; show b ≠ X3.heap.size; omega)))
      have P2_9 := Lib.hid (P2_8.out.frame (w' := (Z3.setCell ⟨X3.heap.size, 0, none⟩ (.slice a6 (m + 1) c6))) (fun b hb => Below.heap_setCell _ _ _ b (by have := (IN2.out b hb).2; show b ≠ X3.heap.size; omega)))
      have P3_9 := Lib.hid (P3_8.out.frame (w' := (Z3.setCell ⟨X3.heap.size, 0, none⟩ (.slice a6 (m + 1) c6))) (fun b hb => Below.heap_setCell _ _ _ b (by have := (IN3.out b hb).2; show b ≠ X3.heap.size; omega)))
      have zY_9 : V.heap.size ≤ (Z3.setCell ⟨X3.heap.size, 0, none⟩ (.slice a6 (m + 1) c6)).heap.size := by rw [size_setCell]; omega
      have HO_9 := Lib.hid (ownsRow_frame (w' := (Z3.setCell ⟨X3.heap.size, 0, none⟩ (.slice a6 (m + 1) c6))) HO_8.out (fun g hg => Below.heap_setCell _ _ _ g (by have := (ownsRow_block HO_8.out hg).1; show g ≠ X3.heap.size; omega)))
      clear KN_8 KX_8 KR_8 KL_8 BW_8 P1_8 P2_8 P3_8
      clear HO_8
      generalize (Z3.setCell ⟨X3.heap.size, 0, none⟩ (.slice a6 (m + 1) c6)) = Z4 at *
      have kd1 : (m : Int) ≤ (n.sites.length : Int) := by omega
      have fL0 := blkC (v := .slice a6 (m + 1) c6) KL_9.out 0 rfl
      have fL1 := blkC (v := .slice a1 n.sectors.length c1) KL_9.out 1 rfl
      have fL2 := blkC (v := .slice a2 n.antennas.length c2) KL_9.out 2 rfl
      have fL3 := blkC (v := .slice a3 n.radios.length c3) KL_9.out 3 rfl
      have zLz := blkF KL_9.out
      have fN_ : Z4.cell? ⟨w.heap.size, 0, none⟩ = some (.slice A0 n.sites.length C0) := (blkC (v := .slice A0 n.sites.length C0) KN_9.out 0 rfl)
      refine wp_region_ord 6 [(0, true), (1, true), (2, true), (3, true), (4, true), (5, true)] (fun W => W.cell? ⟨X3.heap.size, 0, none⟩ = some (.slice a6 (m + 1) c6) ∧ W.cell? ⟨w.heap.size, 0, none⟩ = some (.slice A0 n.sites.length C0)) (by kernel_rfl) (by kernel_rfl) ⟨fL0, fN_⟩ (fun hHeld => ?_)
      refine wpOrd_read (v := ?_) rfl (fun _ _ _ h => h) ?_ ?_
      rotate_left
      · (intro W hSW; (try dsimp only at hSW); (go_simp <;> with_reducible rfl))
      (try simp only [Act.put, List.setIfInBounds_toArray, List.set_cons_zero, List.set_cons_succ])
      refine wpOrd_read (v := ?_) rfl (fun _ _ _ h => h) ?_ ?_
      rotate_left
      · (intro W hSW; (try dsimp only at hSW); (go_simp <;> with_reducible rfl))
      (try simp only [Act.put, List.setIfInBounds_toArray, List.set_cons_zero, List.set_cons_succ])
      refine wpOrd_read (v := ?_) rfl (fun _ _ _ h => h) ?_ ?_
      rotate_left
      · (intro W hSW; (try dsimp only at hSW); (go_simp <;> with_reducible rfl))
      (try simp only [Act.put, List.setIfInBounds_toArray, List.set_cons_zero, List.set_cons_succ])
      refine wpOrd_read (v := ?_) rfl (fun _ _ _ h => h) ?_ ?_
      rotate_left
      · (intro W hSW; (try dsimp only at hSW); (go_simp <;> with_reducible rfl))
      (try simp only [Act.put, List.setIfInBounds_toArray, List.set_cons_zero, List.set_cons_succ])
      refine wpOrd_read (v := ?_) rfl (fun _ _ _ h => h) ?_ ?_
      rotate_left
      · (intro W hSW; (try dsimp only at hSW); (go_simp <;> with_reducible rfl))
      (try simp only [Act.put, List.setIfInBounds_toArray, List.set_cons_zero, List.set_cons_succ])
      refine wpOrd_read (v := ?_) rfl (fun _ _ _ h => h) ?_ ?_
      rotate_left
      · (intro W hSW; (try dsimp only at hSW); (go_simp <;> with_reducible rfl))
      (try simp only [Act.put, List.setIfInBounds_toArray, List.set_cons_zero, List.set_cons_succ])
      refine wpOrd_nil ?_
      simp only [List.drop_succ_cons, List.drop_zero]
      clear fN_ fL0 fL1 fL2 fL3 zLz
      refine wpList_append_more rfl (.tmp 59) (.tmp 63) _ rfl V.heap.size 62 ti _ 4 48 Tryz.underlying30 hi0 hi1 hi2 hi3 rfl (by omega) (.slice a6 (m + 1) c6) _ _ rfl HO_9.out.drew w.heap.size (if C0 = m then A0 else A0.map (·.add (m * 4))) (n.sites.length - m) (C0 - m) ((n.sites.flatMap DSite.vs).drop (m * 4)) rfl ((RS.out.below (BW_9.out.drew)).cut hkn (by omega)) (fun u hu => ON.out u (List.mem_of_mem_drop hu)) (by simp only [maxLen]; omega) (by omega) (by show V.heap.size ≤ Z4.heap.size; omega) ?_
      intro a7 c7 Z5 hown hb
      have HO_10 := Lib.hid hown
      clear hown
      have hbd : Below V.heap.size Z4 Z5 := ((Below.refl _ _).drew).trans hb
      clear hb
      have KN_10 := Lib.hid ((hbd.block (w.heap.size) (by omega)).trans KN_9.out)
      have KX_10 := Lib.hid ((hbd.block (w.heap.size + 1) (by omega)).trans KX_9.out)
      have KR_10 := Lib.hid ((hbd.block (w.heap.size + 2) (by omega)).trans KR_9.out)
      have KL_10 := Lib.hid ((hbd.block (X3.heap.size) (by omega)).trans KL_9.out)
      have BW_10 := Lib.hid (BW_9.out.trans (hbd.mono (by omega)))
      have P1_10 := Lib.hid (P1_9.out.below IN1.out (by omega) hbd)
      have P2_10 := Lib.hid (P2_9.out.below IN2.out (by omega) hbd)
      have P3_10 := Lib.hid (P3_9.out.below IN3.out (by omega) hbd)
      have zY_10 : V.heap.size ≤ Z5.heap.size := by have := hbd.size; omega
      clear KN_9 KX_9 KR_9 KL_9 BW_9 P1_9 P2_9 P3_9
      clear hbd HO_9
      clear kd1
      have hfl : (insAt n.sites x m).flatMap DSite.vs = ((n.sites.flatMap DSite.vs).take (m * 4) ++ x.vs) ++ (n.sites.flatMap DSite.vs).drop (m * 4) := by
        unfold insAt
        rw [ins_flatv DSite.vs 4 DSite.vs_len, ← List.append_assoc]
      have hle : (insAt n.sites x m).length = m + 1 + (n.sites.length - m) := by rw [insAt_length n.sites x hm]; omega
      rw [HPOS.out] at HE
      obtain ⟨ax, cx, fq, ex_, oq, iq⟩ := ownsRow_own (lo := V.heap.size) HO_10.out (by omega) (Nat.le_refl _)
      injection ex_ with ex1 _ ex3
      subst ex1 ex3
      have oq2 : Own Z5 (DSite.sT (insAt n.sites x m)) (.slice a7 (m + 1 + (n.sites.length - m)) c7) fq := by rw [DSite.sT_vs, hfl]; exact oq
      have ov := netJoin (n := { n with sites := insAt n.sites x m }) oq2 P1_10.out P2_10.out P3_10.out (fun y hy => ⟨fun h => (by have := (IN1.out y h).2; have := (iq y hy).1; omega), fun h => (by have := (IN2.out y h).2; have := (iq y hy).1; omega), fun h => (by have := (IN3.out y h).2; have := (iq y hy).1; omega)⟩) d1 d2
      have ivn : ∀ y ∈ (fq ++ (f1 ++ (f2 ++ (f3 ++ [])))), (w.heap.size + 3 ≤ y ∧ y < Z5.heap.size) ∧ y ≠ X3.heap.size ∧ y ≠ w.heap.size + 2 := fun y hy => by
        simp only [List.mem_append, List.not_mem_nil, or_false] at hy
        rcases hy with h | h | h | h
        · have := iq y h; omega
        · have := IN1.out y h; omega
        · have := IN2.out y h; omega
        · have := IN3.out y h; omega
      have BF := Lib.hid ((((((BW_10.out).setCell (p := ⟨X3.heap.size, 0, none⟩) (by show w.heap.size ≤ X3.heap.size; omega) (.slice a7 (m + 1 + (n.sites.length - m)) c7)).setCell (p := ⟨w.heap.size + 2, 0, none⟩) (by show w.heap.size ≤ w.heap.size + 2; omega) (.slice a7 (m + 1 + (n.sites.length - m)) c7)).setCell (p := ⟨w.heap.size + 2, 1, none⟩) (by show w.heap.size ≤ w.heap.size + 2; omega) (.slice a1 n.sectors.length c1)).setCell (p := ⟨w.heap.size + 2, 2, none⟩) (by show w.heap.size ≤ w.heap.size + 2; omega) (.slice a2 n.antennas.length c2)).setCell (p := ⟨w.heap.size + 2, 3, none⟩) (by show w.heap.size ≤ w.heap.size + 2; omega) (.slice a3 n.radios.length c3))
      have OF := Lib.hid ((((((ov).setFar (p := ⟨X3.heap.size, 0, none⟩) (fun e => (ivn _ e).2.1 rfl) (.slice a7 (m + 1 + (n.sites.length - m)) c7)).setFar (p := ⟨w.heap.size + 2, 0, none⟩) (fun e => (ivn _ e).2.2 rfl) (.slice a7 (m + 1 + (n.sites.length - m)) c7)).setFar (p := ⟨w.heap.size + 2, 1, none⟩) (fun e => (ivn _ e).2.2 rfl) (.slice a1 n.sectors.length c1)).setFar (p := ⟨w.heap.size + 2, 2, none⟩) (fun e => (ivn _ e).2.2 rfl) (.slice a2 n.antennas.length c2)).setFar (p := ⟨w.heap.size + 2, 3, none⟩) (fun e => (ivn _ e).2.2 rfl) (.slice a3 n.radios.length c3))
      have IVF : Hid (In w.heap.size Z5.heap.size (fq ++ (f1 ++ (f2 ++ (f3 ++ []))))) := fun y hy => by have := (ivn y hy).1; omega
      clear ivn ov d0 d1 d2 fpm iv oq oq2 iq
      have fL0 := blkC (v := .slice a6 (m + 1) c6) KL_10.out 0 rfl
      have fL1 := blkC (v := .slice a1 n.sectors.length c1) KL_10.out 1 rfl
      have fL2 := blkC (v := .slice a2 n.antennas.length c2) KL_10.out 2 rfl
      have fL3 := blkC (v := .slice a3 n.radios.length c3) KL_10.out 3 rfl
      have zLz := blkF KL_10.out
      have fR0 := blkC (v := .slice none 0 0) KR_10.out 0 rfl
      have fR1 := blkC (v := .slice none 0 0) KR_10.out 1 rfl
      have fR2 := blkC (v := .slice none 0 0) KR_10.out 2 rfl
      have fR3 := blkC (v := .slice none 0 0) KR_10.out 3 rfl
      have zR := blkF KR_10.out
      have hneR : X3.heap.size ≠ (w.heap.size + 2) := by omega
      go_wp2
      all_goals
        refine bodyPost_ret (v := .tuple #[.agg #[.slice a7 (m + 1 + (n.sites.length - m)) c7, .slice a1 n.sectors.length c1, .slice a2 n.antennas.length c2, .slice a3 n.radios.length c3], .int .i64 0]) (by simp [results, Tryz.results28, go_sem, *]) rfl ?_
        rw [HE.out]
        simp only [hle]
        first | refine ⟨a7, c7, a1, c1, a2, c2, a3, c3, _, rfl, BF.out, OF.out, ?_⟩ | refine ⟨a7, c7, a1, c1, a2, c2, a3, c3, rfl, BF.out, _, OF.out, ?_⟩
        simp only [size_setCell]
        exact IVF.out
end Go.Proofs.YtppgcgopnchbcaaGreat
