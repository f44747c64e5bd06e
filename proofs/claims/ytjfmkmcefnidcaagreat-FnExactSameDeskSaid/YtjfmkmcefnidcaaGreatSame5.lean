/- SameNetwork of the program: it answers as the Bool of Same0. Conditions: bounded sizes. -/
import Derived.Test.YtjfmkmcefnidcaaGreatSame4
import Derived.Test.YtjfmkmcefnidcaaGreatBlk
namespace Go.Proofs.YtjfmkmcefnidcaaGreat
open Go.RowKit
set_option linter.unusedVariables false

set_option linter.unusedSimpArgs false
set_option maxHeartbeats 4000000 in
set_option maxRecDepth 100000 in
theorem iSameNetwork_any (a b : DNetwork) (v0 u0 v1 u1 v2 u2 v3 u3 : Value) (B : Nat) (w : World) (p0 : Rd B w (DSite.sT a.sites) v0) (r0 : Rd B w (DSite.sT b.sites) u0) (p1 : Rd B w (DSector.sT a.sectors) v1) (r1 : Rd B w (DSector.sT b.sectors) u1) (p2 : Rd B w (DAntenna.sT a.antennas) v2) (r2 : Rd B w (DAntenna.sT b.antennas) u2) (p3 : Rd B w (DRadio.sT a.radios) v3) (r3 : Rd B w (DRadio.sT b.radios) u3) (hB : B ≤ w.heap.size) (m0 : a.sites.length ≤ 1099511627776) (n0 : b.sites.length ≤ 1099511627776) (m1 : a.sectors.length ≤ 1099511627776) (n1 : b.sectors.length ≤ 1099511627776) (m2 : siz (DAntenna.sT a.antennas) ≤ 1099511627776) (n2 : siz (DAntenna.sT b.antennas) ≤ 1099511627776) (m3 : siz (DRadio.sT a.radios) ≤ 1099511627776) (n3 : siz (DRadio.sT b.radios) ≤ 1099511627776) :
    Calls Tryz.prog 30 #[.agg #[v0, v1, v2, v3], .agg #[u0, u1, u2, u3]] w fun e w' => e = .returned (.bool (sameNetwork a b)) ∧ Below w.heap.size w w' := by
  have hb0 : Below w.heap.size w ((w.alloc (.cells #[v0, v1, v2, v3] 48)).alloc (.cells #[u0, u1, u2, u3] 48)) := Below.alloc (Below.alloc (Below.refl _ _) (by first | exact Nat.le_refl _ | (simp; done) | (simp; omega)) _) (by first | exact Nat.le_refl _ | (simp; done) | (simp; omega)) _
  have z0 : w.heap.size + 2 ≤ ((w.alloc (.cells #[v0, v1, v2, v3] 48)).alloc (.cells #[u0, u1, u2, u3] 48)).heap.size := by simp
  have k0 : ((w.alloc (.cells #[v0, v1, v2, v3] 48)).alloc (.cells #[u0, u1, u2, u3] 48)).heap[w.heap.size]? = some (.cells #[v0, v1, v2, v3] 48 (0, 0)) := by
    have h := bkN w #[v0, v1, v2, v3] 48
    replace h := bkA h (by first | (simp; done) | (simp; omega)) (.cells #[u0, u1, u2, u3] 48)
    exact h
  have k1 : ((w.alloc (.cells #[v0, v1, v2, v3] 48)).alloc (.cells #[u0, u1, u2, u3] 48)).heap[w.heap.size + 1]? = some (.cells #[u0, u1, u2, u3] 48 (0, 0)) := by
    have h := bkN (w.alloc (.cells #[v0, v1, v2, v3] 48)) #[u0, u1, u2, u3] 48
    rw [show (w.alloc (.cells #[v0, v1, v2, v3] 48)).heap.size = w.heap.size + 1 by simp] at h
    exact h
  generalize hW0 : ((w.alloc (.cells #[v0, v1, v2, v3] 48)).alloc (.cells #[u0, u1, u2, u3] 48)) = W0 at hb0 z0 k0 k1
  have HW0 := Lib.hid hW0
  clear hW0
  have B0 := Lib.hid hb0
  clear hb0
  have K0 := Lib.hid k0
  clear k0
  have K1 := Lib.hid k1
  clear k1
  have C0 : Hid (∀ W : World, Below W0.heap.size W0 W → Calls Tryz.prog 76 #[v0, u0] W fun e w' => e = .returned (.bool (sameSiteS a.sites b.sites)) ∧ Below W.heap.size W w') := fun W hW => equalSite_any _ _ _ _ B W (p0.below ((B0.out.trans (hW.mono (by omega))).mono hB)) (r0.below ((B0.out.trans (hW.mono (by omega))).mono hB)) (by have := hW.size; omega) m0 n0
  have C1 : Hid (∀ W : World, Below W0.heap.size W0 W → Calls Tryz.prog 77 #[v1, u1] W fun e w' => e = .returned (.bool (sameSectorS a.sectors b.sectors)) ∧ Below W.heap.size W w') := fun W hW => equalSector_any _ _ _ _ B W (p1.below ((B0.out.trans (hW.mono (by omega))).mono hB)) (r1.below ((B0.out.trans (hW.mono (by omega))).mono hB)) (by have := hW.size; omega) m1 n1
  have C2 : Hid (∀ W : World, Below W0.heap.size W0 W → Calls Tryz.prog 78 #[v2, u2, .func (.func 79) #[] #[]] W fun e w' => e = .returned (.bool (sameAntennaS a.antennas b.antennas)) ∧ Below W.heap.size W w') := fun W hW => equalfAntenna_any _ _ _ _ B W (p2.below ((B0.out.trans (hW.mono (by omega))).mono hB)) (r2.below ((B0.out.trans (hW.mono (by omega))).mono hB)) (by have := hW.size; omega) m2 n2
  have C3 : Hid (∀ W : World, Below W0.heap.size W0 W → Calls Tryz.prog 80 #[v3, u3, .func (.func 81) #[] #[]] W fun e w' => e = .returned (.bool (sameRadioS a.radios b.radios)) ∧ Below W.heap.size W w') := fun W hW => equalfRadio_any _ _ _ _ B W (p3.below ((B0.out.trans (hW.mono (by omega))).mono hB)) (r3.below ((B0.out.trans (hW.mono (by omega))).mono hB)) (by have := hW.size; omega) m3 n3
  by_cases h0 : sameSiteS a.sites b.sites = true
  case neg =>
    replace h0 : sameSiteS a.sites b.sites = false := Bool.eq_false_iff.2 h0
    rw [h0] at C0
    have HE : Hid (sameNetwork a b = false) := by show _ = _; unfold sameNetwork; simp only [h0, Bool.and_false, Bool.false_and, Bool.and_true, Bool.true_and, Bool.and_self]
    go_enter Tryz.func30, Tryz.ntmps30
    go_upto_region 1 with (fail)
    rw [HW0.out]
    have f0_0 := bkC (v := v0) K0.out 0 rfl
    have f0_1 := bkC (v := v1) K0.out 1 rfl
    have f0_2 := bkC (v := v2) K0.out 2 rfl
    have f0_3 := bkC (v := v3) K0.out 3 rfl
    have f1_0 := bkC (v := u0) K1.out 0 rfl
    have f1_1 := bkC (v := u1) K1.out 1 rfl
    have f1_2 := bkC (v := u2) K1.out 2 rfl
    have f1_3 := bkC (v := u3) K1.out 3 rfl
    have BR_0 : Hid (Below W0.heap.size W0 W0) := Below.refl _ _
    have zz0 : W0.heap.size ≤ W0.heap.size := Nat.le_refl _
    go_wp2_with fail
    refine (C0.out _ BR_0.out).mono ?_
    rintro e X1 ⟨rfl, hb⟩
    clear f0_0 f0_1 f0_2 f0_3 f1_0 f1_1 f1_2 f1_3
    have BR_1 := Lib.hid (BR_0.out.trans (hb.mono zz0))
    have zz1 : W0.heap.size ≤ X1.heap.size := Nat.le_trans zz0 hb.size
    have K0_1 := Lib.hid (bkB K0.out hb (by omega))
    have K1_1 := Lib.hid (bkB K1.out hb (by omega))
    clear hb
    have f0_0 := bkC (v := v0) K0_1.out 0 rfl
    have f0_1 := bkC (v := v1) K0_1.out 1 rfl
    have f0_2 := bkC (v := v2) K0_1.out 2 rfl
    have f0_3 := bkC (v := v3) K0_1.out 3 rfl
    have f1_0 := bkC (v := u0) K1_1.out 0 rfl
    have f1_1 := bkC (v := u1) K1_1.out 1 rfl
    have f1_2 := bkC (v := u2) K1_1.out 2 rfl
    have f1_3 := bkC (v := u3) K1_1.out 3 rfl
    have BE := Lib.hid (B0.out.trans (BR_1.out.mono (by omega)))
    go_wp2
    go_ret
    exact ⟨by rw [HE.out]; rfl, BE.out⟩
  rw [h0] at C0
  by_cases h1 : sameSectorS a.sectors b.sectors = true
  case neg =>
    replace h1 : sameSectorS a.sectors b.sectors = false := Bool.eq_false_iff.2 h1
    rw [h1] at C1
    have HE : Hid (sameNetwork a b = false) := by show _ = _; unfold sameNetwork; simp only [h0, h1, Bool.and_false, Bool.false_and, Bool.and_true, Bool.true_and, Bool.and_self]
    go_enter Tryz.func30, Tryz.ntmps30
    go_upto_region 1 with (fail)
    rw [HW0.out]
    have f0_0 := bkC (v := v0) K0.out 0 rfl
    have f0_1 := bkC (v := v1) K0.out 1 rfl
    have f0_2 := bkC (v := v2) K0.out 2 rfl
    have f0_3 := bkC (v := v3) K0.out 3 rfl
    have f1_0 := bkC (v := u0) K1.out 0 rfl
    have f1_1 := bkC (v := u1) K1.out 1 rfl
    have f1_2 := bkC (v := u2) K1.out 2 rfl
    have f1_3 := bkC (v := u3) K1.out 3 rfl
    have BR_0 : Hid (Below W0.heap.size W0 W0) := Below.refl _ _
    have zz0 : W0.heap.size ≤ W0.heap.size := Nat.le_refl _
    go_wp2_with fail
    refine (C0.out _ BR_0.out).mono ?_
    rintro e X1 ⟨rfl, hb⟩
    clear f0_0 f0_1 f0_2 f0_3 f1_0 f1_1 f1_2 f1_3
    have BR_1 := Lib.hid (BR_0.out.trans (hb.mono zz0))
    have zz1 : W0.heap.size ≤ X1.heap.size := Nat.le_trans zz0 hb.size
    have K0_1 := Lib.hid (bkB K0.out hb (by omega))
    have K1_1 := Lib.hid (bkB K1.out hb (by omega))
    clear hb
    have f0_0 := bkC (v := v0) K0_1.out 0 rfl
    have f0_1 := bkC (v := v1) K0_1.out 1 rfl
    have f0_2 := bkC (v := v2) K0_1.out 2 rfl
    have f0_3 := bkC (v := v3) K0_1.out 3 rfl
    have f1_0 := bkC (v := u0) K1_1.out 0 rfl
    have f1_1 := bkC (v := u1) K1_1.out 1 rfl
    have f1_2 := bkC (v := u2) K1_1.out 2 rfl
    have f1_3 := bkC (v := u3) K1_1.out 3 rfl
    go_wp2_with fail
    refine (C1.out _ BR_1.out).mono ?_
    rintro e X2 ⟨rfl, hb⟩
    clear f0_0 f0_1 f0_2 f0_3 f1_0 f1_1 f1_2 f1_3
    have BR_2 := Lib.hid (BR_1.out.trans (hb.mono zz1))
    have zz2 : W0.heap.size ≤ X2.heap.size := Nat.le_trans zz1 hb.size
    have K0_2 := Lib.hid (bkB K0_1.out hb (by omega))
    have K1_2 := Lib.hid (bkB K1_1.out hb (by omega))
    clear hb
    have f0_0 := bkC (v := v0) K0_2.out 0 rfl
    have f0_1 := bkC (v := v1) K0_2.out 1 rfl
    have f0_2 := bkC (v := v2) K0_2.out 2 rfl
    have f0_3 := bkC (v := v3) K0_2.out 3 rfl
    have f1_0 := bkC (v := u0) K1_2.out 0 rfl
    have f1_1 := bkC (v := u1) K1_2.out 1 rfl
    have f1_2 := bkC (v := u2) K1_2.out 2 rfl
    have f1_3 := bkC (v := u3) K1_2.out 3 rfl
    have BE := Lib.hid (B0.out.trans (BR_2.out.mono (by omega)))
    go_wp2
    go_ret
    exact ⟨by rw [HE.out]; rfl, BE.out⟩
  rw [h1] at C1
  by_cases h2 : sameAntennaS a.antennas b.antennas = true
  case neg =>
    replace h2 : sameAntennaS a.antennas b.antennas = false := Bool.eq_false_iff.2 h2
    rw [h2] at C2
    have HE : Hid (sameNetwork a b = false) := by show _ = _; unfold sameNetwork; simp only [h0, h1, h2, Bool.and_false, Bool.false_and, Bool.and_true, Bool.true_and, Bool.and_self]
    go_enter Tryz.func30, Tryz.ntmps30
    go_upto_region 1 with (fail)
    rw [HW0.out]
    have f0_0 := bkC (v := v0) K0.out 0 rfl
    have f0_1 := bkC (v := v1) K0.out 1 rfl
    have f0_2 := bkC (v := v2) K0.out 2 rfl
    have f0_3 := bkC (v := v3) K0.out 3 rfl
    have f1_0 := bkC (v := u0) K1.out 0 rfl
    have f1_1 := bkC (v := u1) K1.out 1 rfl
    have f1_2 := bkC (v := u2) K1.out 2 rfl
    have f1_3 := bkC (v := u3) K1.out 3 rfl
    have BR_0 : Hid (Below W0.heap.size W0 W0) := Below.refl _ _
    have zz0 : W0.heap.size ≤ W0.heap.size := Nat.le_refl _
    go_wp2_with fail
    refine (C0.out _ BR_0.out).mono ?_
    rintro e X1 ⟨rfl, hb⟩
    clear f0_0 f0_1 f0_2 f0_3 f1_0 f1_1 f1_2 f1_3
    have BR_1 := Lib.hid (BR_0.out.trans (hb.mono zz0))
    have zz1 : W0.heap.size ≤ X1.heap.size := Nat.le_trans zz0 hb.size
    have K0_1 := Lib.hid (bkB K0.out hb (by omega))
    have K1_1 := Lib.hid (bkB K1.out hb (by omega))
    clear hb
    have f0_0 := bkC (v := v0) K0_1.out 0 rfl
    have f0_1 := bkC (v := v1) K0_1.out 1 rfl
    have f0_2 := bkC (v := v2) K0_1.out 2 rfl
    have f0_3 := bkC (v := v3) K0_1.out 3 rfl
    have f1_0 := bkC (v := u0) K1_1.out 0 rfl
    have f1_1 := bkC (v := u1) K1_1.out 1 rfl
    have f1_2 := bkC (v := u2) K1_1.out 2 rfl
    have f1_3 := bkC (v := u3) K1_1.out 3 rfl
    go_wp2_with fail
    refine (C1.out _ BR_1.out).mono ?_
    rintro e X2 ⟨rfl, hb⟩
    clear f0_0 f0_1 f0_2 f0_3 f1_0 f1_1 f1_2 f1_3
    have BR_2 := Lib.hid (BR_1.out.trans (hb.mono zz1))
    have zz2 : W0.heap.size ≤ X2.heap.size := Nat.le_trans zz1 hb.size
    have K0_2 := Lib.hid (bkB K0_1.out hb (by omega))
    have K1_2 := Lib.hid (bkB K1_1.out hb (by omega))
    clear hb
    have f0_0 := bkC (v := v0) K0_2.out 0 rfl
    have f0_1 := bkC (v := v1) K0_2.out 1 rfl
    have f0_2 := bkC (v := v2) K0_2.out 2 rfl
    have f0_3 := bkC (v := v3) K0_2.out 3 rfl
    have f1_0 := bkC (v := u0) K1_2.out 0 rfl
    have f1_1 := bkC (v := u1) K1_2.out 1 rfl
    have f1_2 := bkC (v := u2) K1_2.out 2 rfl
    have f1_3 := bkC (v := u3) K1_2.out 3 rfl
    go_wp2_with fail
    refine (C2.out _ BR_2.out).mono ?_
    rintro e X3 ⟨rfl, hb⟩
    clear f0_0 f0_1 f0_2 f0_3 f1_0 f1_1 f1_2 f1_3
    have BR_3 := Lib.hid (BR_2.out.trans (hb.mono zz2))
    have zz3 : W0.heap.size ≤ X3.heap.size := Nat.le_trans zz2 hb.size
    have K0_3 := Lib.hid (bkB K0_2.out hb (by omega))
    have K1_3 := Lib.hid (bkB K1_2.out hb (by omega))
    clear hb
    have f0_0 := bkC (v := v0) K0_3.out 0 rfl
    have f0_1 := bkC (v := v1) K0_3.out 1 rfl
    have f0_2 := bkC (v := v2) K0_3.out 2 rfl
    have f0_3 := bkC (v := v3) K0_3.out 3 rfl
    have f1_0 := bkC (v := u0) K1_3.out 0 rfl
    have f1_1 := bkC (v := u1) K1_3.out 1 rfl
    have f1_2 := bkC (v := u2) K1_3.out 2 rfl
    have f1_3 := bkC (v := u3) K1_3.out 3 rfl
    have BE := Lib.hid (B0.out.trans (BR_3.out.mono (by omega)))
    go_wp2
    go_ret
    exact ⟨by rw [HE.out]; rfl, BE.out⟩
  rw [h2] at C2
  by_cases h3 : sameRadioS a.radios b.radios = true
  case neg =>
    replace h3 : sameRadioS a.radios b.radios = false := Bool.eq_false_iff.2 h3
    rw [h3] at C3
    have HE : Hid (sameNetwork a b = false) := by show _ = _; unfold sameNetwork; simp only [h0, h1, h2, h3, Bool.and_false, Bool.false_and, Bool.and_true, Bool.true_and, Bool.and_self]
    go_enter Tryz.func30, Tryz.ntmps30
    go_upto_region 1 with (fail)
    rw [HW0.out]
    have f0_0 := bkC (v := v0) K0.out 0 rfl
    have f0_1 := bkC (v := v1) K0.out 1 rfl
    have f0_2 := bkC (v := v2) K0.out 2 rfl
    have f0_3 := bkC (v := v3) K0.out 3 rfl
    have f1_0 := bkC (v := u0) K1.out 0 rfl
    have f1_1 := bkC (v := u1) K1.out 1 rfl
    have f1_2 := bkC (v := u2) K1.out 2 rfl
    have f1_3 := bkC (v := u3) K1.out 3 rfl
    have BR_0 : Hid (Below W0.heap.size W0 W0) := Below.refl _ _
    have zz0 : W0.heap.size ≤ W0.heap.size := Nat.le_refl _
    go_wp2_with fail
    refine (C0.out _ BR_0.out).mono ?_
    rintro e X1 ⟨rfl, hb⟩
    clear f0_0 f0_1 f0_2 f0_3 f1_0 f1_1 f1_2 f1_3
    have BR_1 := Lib.hid (BR_0.out.trans (hb.mono zz0))
    have zz1 : W0.heap.size ≤ X1.heap.size := Nat.le_trans zz0 hb.size
    have K0_1 := Lib.hid (bkB K0.out hb (by omega))
    have K1_1 := Lib.hid (bkB K1.out hb (by omega))
    clear hb
    have f0_0 := bkC (v := v0) K0_1.out 0 rfl
    have f0_1 := bkC (v := v1) K0_1.out 1 rfl
    have f0_2 := bkC (v := v2) K0_1.out 2 rfl
    have f0_3 := bkC (v := v3) K0_1.out 3 rfl
    have f1_0 := bkC (v := u0) K1_1.out 0 rfl
    have f1_1 := bkC (v := u1) K1_1.out 1 rfl
    have f1_2 := bkC (v := u2) K1_1.out 2 rfl
    have f1_3 := bkC (v := u3) K1_1.out 3 rfl
    go_wp2_with fail
    refine (C1.out _ BR_1.out).mono ?_
    rintro e X2 ⟨rfl, hb⟩
    clear f0_0 f0_1 f0_2 f0_3 f1_0 f1_1 f1_2 f1_3
    have BR_2 := Lib.hid (BR_1.out.trans (hb.mono zz1))
    have zz2 : W0.heap.size ≤ X2.heap.size := Nat.le_trans zz1 hb.size
    have K0_2 := Lib.hid (bkB K0_1.out hb (by omega))
    have K1_2 := Lib.hid (bkB K1_1.out hb (by omega))
    clear hb
    have f0_0 := bkC (v := v0) K0_2.out 0 rfl
    have f0_1 := bkC (v := v1) K0_2.out 1 rfl
    have f0_2 := bkC (v := v2) K0_2.out 2 rfl
    have f0_3 := bkC (v := v3) K0_2.out 3 rfl
    have f1_0 := bkC (v := u0) K1_2.out 0 rfl
    have f1_1 := bkC (v := u1) K1_2.out 1 rfl
    have f1_2 := bkC (v := u2) K1_2.out 2 rfl
    have f1_3 := bkC (v := u3) K1_2.out 3 rfl
    go_wp2_with fail
    refine (C2.out _ BR_2.out).mono ?_
    rintro e X3 ⟨rfl, hb⟩
    clear f0_0 f0_1 f0_2 f0_3 f1_0 f1_1 f1_2 f1_3
    have BR_3 := Lib.hid (BR_2.out.trans (hb.mono zz2))
    have zz3 : W0.heap.size ≤ X3.heap.size := Nat.le_trans zz2 hb.size
    have K0_3 := Lib.hid (bkB K0_2.out hb (by omega))
    have K1_3 := Lib.hid (bkB K1_2.out hb (by omega))
    clear hb
    have f0_0 := bkC (v := v0) K0_3.out 0 rfl
    have f0_1 := bkC (v := v1) K0_3.out 1 rfl
    have f0_2 := bkC (v := v2) K0_3.out 2 rfl
    have f0_3 := bkC (v := v3) K0_3.out 3 rfl
    have f1_0 := bkC (v := u0) K1_3.out 0 rfl
    have f1_1 := bkC (v := u1) K1_3.out 1 rfl
    have f1_2 := bkC (v := u2) K1_3.out 2 rfl
    have f1_3 := bkC (v := u3) K1_3.out 3 rfl
    go_wp2_with fail
    refine (C3.out _ BR_3.out).mono ?_
    rintro e X4 ⟨rfl, hb⟩
    clear f0_0 f0_1 f0_2 f0_3 f1_0 f1_1 f1_2 f1_3
    have BR_4 := Lib.hid (BR_3.out.trans (hb.mono zz3))
    have zz4 : W0.heap.size ≤ X4.heap.size := Nat.le_trans zz3 hb.size
    have K0_4 := Lib.hid (bkB K0_3.out hb (by omega))
    have K1_4 := Lib.hid (bkB K1_3.out hb (by omega))
    clear hb
    have f0_0 := bkC (v := v0) K0_4.out 0 rfl
    have f0_1 := bkC (v := v1) K0_4.out 1 rfl
    have f0_2 := bkC (v := v2) K0_4.out 2 rfl
    have f0_3 := bkC (v := v3) K0_4.out 3 rfl
    have f1_0 := bkC (v := u0) K1_4.out 0 rfl
    have f1_1 := bkC (v := u1) K1_4.out 1 rfl
    have f1_2 := bkC (v := u2) K1_4.out 2 rfl
    have f1_3 := bkC (v := u3) K1_4.out 3 rfl
    have BE := Lib.hid (B0.out.trans (BR_4.out.mono (by omega)))
    go_wp2
    go_ret
    exact ⟨by rw [HE.out]; rfl, BE.out⟩
  rw [h3] at C3
  have HE : Hid (sameNetwork a b = true) := by show _ = _; unfold sameNetwork; simp only [h0, h1, h2, h3, Bool.and_false, Bool.false_and, Bool.and_true, Bool.true_and, Bool.and_self]
  go_enter Tryz.func30, Tryz.ntmps30
  go_upto_region 1 with (fail)
  rw [HW0.out]
  have f0_0 := bkC (v := v0) K0.out 0 rfl
  have f0_1 := bkC (v := v1) K0.out 1 rfl
  have f0_2 := bkC (v := v2) K0.out 2 rfl
  have f0_3 := bkC (v := v3) K0.out 3 rfl
  have f1_0 := bkC (v := u0) K1.out 0 rfl
  have f1_1 := bkC (v := u1) K1.out 1 rfl
  have f1_2 := bkC (v := u2) K1.out 2 rfl
  have f1_3 := bkC (v := u3) K1.out 3 rfl
  have BR_0 : Hid (Below W0.heap.size W0 W0) := Below.refl _ _
  have zz0 : W0.heap.size ≤ W0.heap.size := Nat.le_refl _
  go_wp2_with fail
  refine (C0.out _ BR_0.out).mono ?_
  rintro e X1 ⟨rfl, hb⟩
  clear f0_0 f0_1 f0_2 f0_3 f1_0 f1_1 f1_2 f1_3
  have BR_1 := Lib.hid (BR_0.out.trans (hb.mono zz0))
  have zz1 : W0.heap.size ≤ X1.heap.size := Nat.le_trans zz0 hb.size
  have K0_1 := Lib.hid (bkB K0.out hb (by omega))
  have K1_1 := Lib.hid (bkB K1.out hb (by omega))
  clear hb
  have f0_0 := bkC (v := v0) K0_1.out 0 rfl
  have f0_1 := bkC (v := v1) K0_1.out 1 rfl
  have f0_2 := bkC (v := v2) K0_1.out 2 rfl
  have f0_3 := bkC (v := v3) K0_1.out 3 rfl
  have f1_0 := bkC (v := u0) K1_1.out 0 rfl
  have f1_1 := bkC (v := u1) K1_1.out 1 rfl
  have f1_2 := bkC (v := u2) K1_1.out 2 rfl
  have f1_3 := bkC (v := u3) K1_1.out 3 rfl
  go_wp2_with fail
  refine (C1.out _ BR_1.out).mono ?_
  rintro e X2 ⟨rfl, hb⟩
  clear f0_0 f0_1 f0_2 f0_3 f1_0 f1_1 f1_2 f1_3
  have BR_2 := Lib.hid (BR_1.out.trans (hb.mono zz1))
  have zz2 : W0.heap.size ≤ X2.heap.size := Nat.le_trans zz1 hb.size
  have K0_2 := Lib.hid (bkB K0_1.out hb (by omega))
  have K1_2 := Lib.hid (bkB K1_1.out hb (by omega))
  clear hb
  have f0_0 := bkC (v := v0) K0_2.out 0 rfl
  have f0_1 := bkC (v := v1) K0_2.out 1 rfl
  have f0_2 := bkC (v := v2) K0_2.out 2 rfl
  have f0_3 := bkC (v := v3) K0_2.out 3 rfl
  have f1_0 := bkC (v := u0) K1_2.out 0 rfl
  have f1_1 := bkC (v := u1) K1_2.out 1 rfl
  have f1_2 := bkC (v := u2) K1_2.out 2 rfl
  have f1_3 := bkC (v := u3) K1_2.out 3 rfl
  go_wp2_with fail
  refine (C2.out _ BR_2.out).mono ?_
  rintro e X3 ⟨rfl, hb⟩
  clear f0_0 f0_1 f0_2 f0_3 f1_0 f1_1 f1_2 f1_3
  have BR_3 := Lib.hid (BR_2.out.trans (hb.mono zz2))
  have zz3 : W0.heap.size ≤ X3.heap.size := Nat.le_trans zz2 hb.size
  have K0_3 := Lib.hid (bkB K0_2.out hb (by omega))
  have K1_3 := Lib.hid (bkB K1_2.out hb (by omega))
  clear hb
  have f0_0 := bkC (v := v0) K0_3.out 0 rfl
  have f0_1 := bkC (v := v1) K0_3.out 1 rfl
  have f0_2 := bkC (v := v2) K0_3.out 2 rfl
  have f0_3 := bkC (v := v3) K0_3.out 3 rfl
  have f1_0 := bkC (v := u0) K1_3.out 0 rfl
  have f1_1 := bkC (v := u1) K1_3.out 1 rfl
  have f1_2 := bkC (v := u2) K1_3.out 2 rfl
  have f1_3 := bkC (v := u3) K1_3.out 3 rfl
  go_wp2_with fail
  refine (C3.out _ BR_3.out).mono ?_
  rintro e X4 ⟨rfl, hb⟩
  clear f0_0 f0_1 f0_2 f0_3 f1_0 f1_1 f1_2 f1_3
  have BR_4 := Lib.hid (BR_3.out.trans (hb.mono zz3))
  have zz4 : W0.heap.size ≤ X4.heap.size := Nat.le_trans zz3 hb.size
  have K0_4 := Lib.hid (bkB K0_3.out hb (by omega))
  have K1_4 := Lib.hid (bkB K1_3.out hb (by omega))
  clear hb
  have f0_0 := bkC (v := v0) K0_4.out 0 rfl
  have f0_1 := bkC (v := v1) K0_4.out 1 rfl
  have f0_2 := bkC (v := v2) K0_4.out 2 rfl
  have f0_3 := bkC (v := v3) K0_4.out 3 rfl
  have f1_0 := bkC (v := u0) K1_4.out 0 rfl
  have f1_1 := bkC (v := u1) K1_4.out 1 rfl
  have f1_2 := bkC (v := u2) K1_4.out 2 rfl
  have f1_3 := bkC (v := u3) K1_4.out 3 rfl
  have BE := Lib.hid (B0.out.trans (BR_4.out.mono (by omega)))
  go_wp2
  go_ret
  exact ⟨by rw [HE.out]; rfl, BE.out⟩
end Go.Proofs.YtjfmkmcefnidcaaGreat
