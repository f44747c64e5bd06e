/- SameTerrain and SameAntenna of the program and of the reference, SameRadio of the program: they answer as the Bools of Same0. Conditions: bounded lengths. -/
import Derived.Test.YtjfmkmcefnidcaaGreatSame1
import Derived.Test.YtjfmkmcefnidcaaGreatSame2
import Derived.Test.YtjfmkmcefnidcaaGreatOver
import Derived.Test.YtjfmkmcefnidcaaGreatBlk
namespace Go.Proofs.YtjfmkmcefnidcaaGreat
open Go.RowKit
set_option linter.unusedVariables false

set_option linter.unusedSimpArgs false
set_option maxHeartbeats 4000000 in
set_option maxRecDepth 100000 in
theorem iSameTerrain_any (a b : DTerrain) (v3 u3 v4 u4 : Value) (B : Nat) (w : World) (p3 : Rd B w (intsT a.heights) v3) (r3 : Rd B w (intsT b.heights) u3) (p4 : Rd B w (intsT a.clutter) v4) (r4 : Rd B w (intsT b.clutter) u4) (hB : B ≤ w.heap.size) (m3 : a.heights.length ≤ 1099511627776) (n3 : b.heights.length ≤ 1099511627776) (m4 : a.clutter.length ≤ 1099511627776) (n4 : b.clutter.length ≤ 1099511627776) :
    Calls Tryz.prog 29 #[.agg #[.int .i64 a.step, .int .i64 a.width, .int .i64 a.height, v3, v4], .agg #[.int .i64 b.step, .int .i64 b.width, .int .i64 b.height, u3, u4]] w fun e w' => e = .returned (.bool (sameTerrain a b)) ∧ Below w.heap.size w w' := by
  have hb0 : Below w.heap.size w ((w.alloc (.cells #[.int .i64 a.step, .int .i64 a.width, .int .i64 a.height, v3, v4] 42)).alloc (.cells #[.int .i64 b.step, .int .i64 b.width, .int .i64 b.height, u3, u4] 42)) := Below.alloc (Below.alloc (Below.refl _ _) (by first | exact Nat.le_refl _ | (simp; done) | (simp; omega)) _) (by first | exact Nat.le_refl _ | (simp; done) | (simp; omega)) _
  have z0 : w.heap.size + 2 ≤ ((w.alloc (.cells #[.int .i64 a.step, .int .i64 a.width, .int .i64 a.height, v3, v4] 42)).alloc (.cells #[.int .i64 b.step, .int .i64 b.width, .int .i64 b.height, u3, u4] 42)).heap.size := by simp
  have k0 : ((w.alloc (.cells #[.int .i64 a.step, .int .i64 a.width, .int .i64 a.height, v3, v4] 42)).alloc (.cells #[.int .i64 b.step, .int .i64 b.width, .int .i64 b.height, u3, u4] 42)).heap[w.heap.size]? = some (.cells #[.int .i64 a.step, .int .i64 a.width, .int .i64 a.height, v3, v4] 42 (0, 0)) := by
    have h := bkN w #[.int .i64 a.step, .int .i64 a.width, .int .i64 a.height, v3, v4] 42
    replace h := bkA h (by first | (simp; done) | (simp; omega)) (.cells #[.int .i64 b.step, .int .i64 b.width, .int .i64 b.height, u3, u4] 42)
    exact h
  have k1 : ((w.alloc (.cells #[.int .i64 a.step, .int .i64 a.width, .int .i64 a.height, v3, v4] 42)).alloc (.cells #[.int .i64 b.step, .int .i64 b.width, .int .i64 b.height, u3, u4] 42)).heap[w.heap.size + 1]? = some (.cells #[.int .i64 b.step, .int .i64 b.width, .int .i64 b.height, u3, u4] 42 (0, 0)) := by
    have h := bkN (w.alloc (.cells #[.int .i64 a.step, .int .i64 a.width, .int .i64 a.height, v3, v4] 42)) #[.int .i64 b.step, .int .i64 b.width, .int .i64 b.height, u3, u4] 42
    rw [show (w.alloc (.cells #[.int .i64 a.step, .int .i64 a.width, .int .i64 a.height, v3, v4] 42)).heap.size = w.heap.size + 1 by simp] at h
    exact h
  generalize hW0 : ((w.alloc (.cells #[.int .i64 a.step, .int .i64 a.width, .int .i64 a.height, v3, v4] 42)).alloc (.cells #[.int .i64 b.step, .int .i64 b.width, .int .i64 b.height, u3, u4] 42)) = W0 at hb0 z0 k0 k1
  have HW0 := Lib.hid hW0
  clear hW0
  have B0 := Lib.hid hb0
  clear hb0
  have K0 := Lib.hid k0
  clear k0
  have K1 := Lib.hid k1
  clear k1
  have C3 : Hid (∀ W : World, Below W0.heap.size W0 W → Calls Tryz.prog 35 #[v3, u3] W fun e w' => e = .returned (.bool (sameI a.heights b.heights)) ∧ Below W.heap.size W w') := fun W hW => equalI_any _ _ _ _ B W (p3.below ((B0.out.trans (hW.mono (by omega))).mono hB)) (r3.below ((B0.out.trans (hW.mono (by omega))).mono hB)) (by have := hW.size; omega) m3 n3
  have C4 : Hid (∀ W : World, Below W0.heap.size W0 W → Calls Tryz.prog 35 #[v4, u4] W fun e w' => e = .returned (.bool (sameI a.clutter b.clutter)) ∧ Below W.heap.size W w') := fun W hW => equalI_any _ _ _ _ B W (p4.below ((B0.out.trans (hW.mono (by omega))).mono hB)) (r4.below ((B0.out.trans (hW.mono (by omega))).mono hB)) (by have := hW.size; omega) m4 n4
  by_cases h0 : (a.step == b.step) = true
  case neg =>
    replace h0 : (a.step == b.step) = false := Bool.eq_false_iff.2 h0
    have HE : Hid (sameTerrain a b = false) := by show _ = _; unfold sameTerrain; simp only [h0, Bool.and_false, Bool.false_and, Bool.and_true, Bool.true_and, Bool.and_self]
    go_enter Tryz.func29, Tryz.ntmps29
    go_upto_region 1 with (fail)
    rw [HW0.out]
    have f0_0 := bkC (v := .int .i64 a.step) K0.out 0 rfl
    have f0_1 := bkC (v := .int .i64 a.width) K0.out 1 rfl
    have f0_2 := bkC (v := .int .i64 a.height) K0.out 2 rfl
    have f0_3 := bkC (v := v3) K0.out 3 rfl
    have f0_4 := bkC (v := v4) K0.out 4 rfl
    have f1_0 := bkC (v := .int .i64 b.step) K1.out 0 rfl
    have f1_1 := bkC (v := .int .i64 b.width) K1.out 1 rfl
    have f1_2 := bkC (v := .int .i64 b.height) K1.out 2 rfl
    have f1_3 := bkC (v := u3) K1.out 3 rfl
    have f1_4 := bkC (v := u4) K1.out 4 rfl
    have BR_0 : Hid (Below W0.heap.size W0 W0) := Below.refl _ _
    have zz0 : W0.heap.size ≤ W0.heap.size := Nat.le_refl _
    have BE := Lib.hid (B0.out.trans (BR_0.out.mono (by omega)))
    go_wp2
    go_ret
    exact ⟨by rw [HE.out]; rfl, BE.out⟩
  by_cases h1 : (a.width == b.width) = true
  case neg =>
    replace h1 : (a.width == b.width) = false := Bool.eq_false_iff.2 h1
    have HE : Hid (sameTerrain a b = false) := by show _ = _; unfold sameTerrain; simp only [h0, h1, Bool.and_false, Bool.false_and, Bool.and_true, Bool.true_and, Bool.and_self]
    go_enter Tryz.func29, Tryz.ntmps29
    go_upto_region 1 with (fail)
    rw [HW0.out]
    have f0_0 := bkC (v := .int .i64 a.step) K0.out 0 rfl
    have f0_1 := bkC (v := .int .i64 a.width) K0.out 1 rfl
    have f0_2 := bkC (v := .int .i64 a.height) K0.out 2 rfl
    have f0_3 := bkC (v := v3) K0.out 3 rfl
    have f0_4 := bkC (v := v4) K0.out 4 rfl
    have f1_0 := bkC (v := .int .i64 b.step) K1.out 0 rfl
    have f1_1 := bkC (v := .int .i64 b.width) K1.out 1 rfl
    have f1_2 := bkC (v := .int .i64 b.height) K1.out 2 rfl
    have f1_3 := bkC (v := u3) K1.out 3 rfl
    have f1_4 := bkC (v := u4) K1.out 4 rfl
    have BR_0 : Hid (Below W0.heap.size W0 W0) := Below.refl _ _
    have zz0 : W0.heap.size ≤ W0.heap.size := Nat.le_refl _
    have BE := Lib.hid (B0.out.trans (BR_0.out.mono (by omega)))
    go_wp2
    go_ret
    exact ⟨by rw [HE.out]; rfl, BE.out⟩
  by_cases h2 : (a.height == b.height) = true
  case neg =>
    replace h2 : (a.height == b.height) = false := Bool.eq_false_iff.2 h2
    have HE : Hid (sameTerrain a b = false) := by show _ = _; unfold sameTerrain; simp only [h0, h1, h2, Bool.and_false, Bool.false_and, Bool.and_true, Bool.true_and, Bool.and_self]
    go_enter Tryz.func29, Tryz.ntmps29
    go_upto_region 1 with (fail)
    rw [HW0.out]
    have f0_0 := bkC (v := .int .i64 a.step) K0.out 0 rfl
    have f0_1 := bkC (v := .int .i64 a.width) K0.out 1 rfl
    have f0_2 := bkC (v := .int .i64 a.height) K0.out 2 rfl
    have f0_3 := bkC (v := v3) K0.out 3 rfl
    have f0_4 := bkC (v := v4) K0.out 4 rfl
    have f1_0 := bkC (v := .int .i64 b.step) K1.out 0 rfl
    have f1_1 := bkC (v := .int .i64 b.width) K1.out 1 rfl
    have f1_2 := bkC (v := .int .i64 b.height) K1.out 2 rfl
    have f1_3 := bkC (v := u3) K1.out 3 rfl
    have f1_4 := bkC (v := u4) K1.out 4 rfl
    have BR_0 : Hid (Below W0.heap.size W0 W0) := Below.refl _ _
    have zz0 : W0.heap.size ≤ W0.heap.size := Nat.le_refl _
    have BE := Lib.hid (B0.out.trans (BR_0.out.mono (by omega)))
    go_wp2
    go_ret
    exact ⟨by rw [HE.out]; rfl, BE.out⟩
  by_cases h3 : sameI a.heights b.heights = true
  case neg =>
    replace h3 : sameI a.heights b.heights = false := Bool.eq_false_iff.2 h3
    rw [h3] at C3
    have HE : Hid (sameTerrain a b = false) := by show _ = _; unfold sameTerrain; simp only [h0, h1, h2, h3, Bool.and_false, Bool.false_and, Bool.and_true, Bool.true_and, Bool.and_self]
    go_enter Tryz.func29, Tryz.ntmps29
    go_upto_region 1 with (fail)
    rw [HW0.out]
    have f0_0 := bkC (v := .int .i64 a.step) K0.out 0 rfl
    have f0_1 := bkC (v := .int .i64 a.width) K0.out 1 rfl
    have f0_2 := bkC (v := .int .i64 a.height) K0.out 2 rfl
    have f0_3 := bkC (v := v3) K0.out 3 rfl
    have f0_4 := bkC (v := v4) K0.out 4 rfl
    have f1_0 := bkC (v := .int .i64 b.step) K1.out 0 rfl
    have f1_1 := bkC (v := .int .i64 b.width) K1.out 1 rfl
    have f1_2 := bkC (v := .int .i64 b.height) K1.out 2 rfl
    have f1_3 := bkC (v := u3) K1.out 3 rfl
    have f1_4 := bkC (v := u4) K1.out 4 rfl
    have BR_0 : Hid (Below W0.heap.size W0 W0) := Below.refl _ _
    have zz0 : W0.heap.size ≤ W0.heap.size := Nat.le_refl _
    go_wp2_with fail
    refine (C3.out _ BR_0.out).mono ?_
    rintro e X1 ⟨rfl, hb⟩
    clear f0_0 f0_1 f0_2 f0_3 f0_4 f1_0 f1_1 f1_2 f1_3 f1_4
    have BR_1 := Lib.hid (BR_0.out.trans (hb.mono zz0))
    have zz1 : W0.heap.size ≤ X1.heap.size := Nat.le_trans zz0 hb.size
    have K0_1 := Lib.hid (bkB K0.out hb (by omega))
    have K1_1 := Lib.hid (bkB K1.out hb (by omega))
    clear hb
    have f0_0 := bkC (v := .int .i64 a.step) K0_1.out 0 rfl
    have f0_1 := bkC (v := .int .i64 a.width) K0_1.out 1 rfl
    have f0_2 := bkC (v := .int .i64 a.height) K0_1.out 2 rfl
    have f0_3 := bkC (v := v3) K0_1.out 3 rfl
    have f0_4 := bkC (v := v4) K0_1.out 4 rfl
    have f1_0 := bkC (v := .int .i64 b.step) K1_1.out 0 rfl
    have f1_1 := bkC (v := .int .i64 b.width) K1_1.out 1 rfl
    have f1_2 := bkC (v := .int .i64 b.height) K1_1.out 2 rfl
    have f1_3 := bkC (v := u3) K1_1.out 3 rfl
    have f1_4 := bkC (v := u4) K1_1.out 4 rfl
    have BE := Lib.hid (B0.out.trans (BR_1.out.mono (by omega)))
    go_wp2
    go_ret
    exact ⟨by rw [HE.out]; rfl, BE.out⟩
  rw [h3] at C3
  by_cases h4 : sameI a.clutter b.clutter = true
  case neg =>
    replace h4 : sameI a.clutter b.clutter = false := Bool.eq_false_iff.2 h4
    rw [h4] at C4
    have HE : Hid (sameTerrain a b = false) := by show _ = _; unfold sameTerrain; simp only [h0, h1, h2, h3, h4, Bool.and_false, Bool.false_and, Bool.and_true, Bool.true_and, Bool.and_self]
    go_enter Tryz.func29, Tryz.ntmps29
    go_upto_region 1 with (fail)
    rw [HW0.out]
    have f0_0 := bkC (v := .int .i64 a.step) K0.out 0 rfl
    have f0_1 := bkC (v := .int .i64 a.width) K0.out 1 rfl
    have f0_2 := bkC (v := .int .i64 a.height) K0.out 2 rfl
    have f0_3 := bkC (v := v3) K0.out 3 rfl
    have f0_4 := bkC (v := v4) K0.out 4 rfl
    have f1_0 := bkC (v := .int .i64 b.step) K1.out 0 rfl
    have f1_1 := bkC (v := .int .i64 b.width) K1.out 1 rfl
    have f1_2 := bkC (v := .int .i64 b.height) K1.out 2 rfl
    have f1_3 := bkC (v := u3) K1.out 3 rfl
    have f1_4 := bkC (v := u4) K1.out 4 rfl
    have BR_0 : Hid (Below W0.heap.size W0 W0) := Below.refl _ _
    have zz0 : W0.heap.size ≤ W0.heap.size := Nat.le_refl _
    go_wp2_with fail
    refine (C3.out _ BR_0.out).mono ?_
    rintro e X1 ⟨rfl, hb⟩
    clear f0_0 f0_1 f0_2 f0_3 f0_4 f1_0 f1_1 f1_2 f1_3 f1_4
    have BR_1 := Lib.hid (BR_0.out.trans (hb.mono zz0))
    have zz1 : W0.heap.size ≤ X1.heap.size := Nat.le_trans zz0 hb.size
    have K0_1 := Lib.hid (bkB K0.out hb (by omega))
    have K1_1 := Lib.hid (bkB K1.out hb (by omega))
    clear hb
    have f0_0 := bkC (v := .int .i64 a.step) K0_1.out 0 rfl
    have f0_1 := bkC (v := .int .i64 a.width) K0_1.out 1 rfl
    have f0_2 := bkC (v := .int .i64 a.height) K0_1.out 2 rfl
    have f0_3 := bkC (v := v3) K0_1.out 3 rfl
    have f0_4 := bkC (v := v4) K0_1.out 4 rfl
    have f1_0 := bkC (v := .int .i64 b.step) K1_1.out 0 rfl
    have f1_1 := bkC (v := .int .i64 b.width) K1_1.out 1 rfl
    have f1_2 := bkC (v := .int .i64 b.height) K1_1.out 2 rfl
    have f1_3 := bkC (v := u3) K1_1.out 3 rfl
    have f1_4 := bkC (v := u4) K1_1.out 4 rfl
    go_wp2_with fail
    refine (C4.out _ BR_1.out).mono ?_
    rintro e X2 ⟨rfl, hb⟩
    clear f0_0 f0_1 f0_2 f0_3 f0_4 f1_0 f1_1 f1_2 f1_3 f1_4
    have BR_2 := Lib.hid (BR_1.out.trans (hb.mono zz1))
    have zz2 : W0.heap.size ≤ X2.heap.size := Nat.le_trans zz1 hb.size
    have K0_2 := Lib.hid (bkB K0_1.out hb (by omega))
    have K1_2 := Lib.hid (bkB K1_1.out hb (by omega))
    clear hb
    have f0_0 := bkC (v := .int .i64 a.step) K0_2.out 0 rfl
    have f0_1 := bkC (v := .int .i64 a.width) K0_2.out 1 rfl
    have f0_2 := bkC (v := .int .i64 a.height) K0_2.out 2 rfl
    have f0_3 := bkC (v := v3) K0_2.out 3 rfl
    have f0_4 := bkC (v := v4) K0_2.out 4 rfl
    have f1_0 := bkC (v := .int .i64 b.step) K1_2.out 0 rfl
    have f1_1 := bkC (v := .int .i64 b.width) K1_2.out 1 rfl
    have f1_2 := bkC (v := .int .i64 b.height) K1_2.out 2 rfl
    have f1_3 := bkC (v := u3) K1_2.out 3 rfl
    have f1_4 := bkC (v := u4) K1_2.out 4 rfl
    have BE := Lib.hid (B0.out.trans (BR_2.out.mono (by omega)))
    go_wp2
    go_ret
    exact ⟨by rw [HE.out]; rfl, BE.out⟩
  rw [h4] at C4
  have HE : Hid (sameTerrain a b = true) := by show _ = _; unfold sameTerrain; simp only [h0, h1, h2, h3, h4, Bool.and_false, Bool.false_and, Bool.and_true, Bool.true_and, Bool.and_self]
  go_enter Tryz.func29, Tryz.ntmps29
  go_upto_region 1 with (fail)
  rw [HW0.out]
  have f0_0 := bkC (v := .int .i64 a.step) K0.out 0 rfl
  have f0_1 := bkC (v := .int .i64 a.width) K0.out 1 rfl
  have f0_2 := bkC (v := .int .i64 a.height) K0.out 2 rfl
  have f0_3 := bkC (v := v3) K0.out 3 rfl
  have f0_4 := bkC (v := v4) K0.out 4 rfl
  have f1_0 := bkC (v := .int .i64 b.step) K1.out 0 rfl
  have f1_1 := bkC (v := .int .i64 b.width) K1.out 1 rfl
  have f1_2 := bkC (v := .int .i64 b.height) K1.out 2 rfl
  have f1_3 := bkC (v := u3) K1.out 3 rfl
  have f1_4 := bkC (v := u4) K1.out 4 rfl
  have BR_0 : Hid (Below W0.heap.size W0 W0) := Below.refl _ _
  have zz0 : W0.heap.size ≤ W0.heap.size := Nat.le_refl _
  go_wp2_with fail
  refine (C3.out _ BR_0.out).mono ?_
  rintro e X1 ⟨rfl, hb⟩
  clear f0_0 f0_1 f0_2 f0_3 f0_4 f1_0 f1_1 f1_2 f1_3 f1_4
  have BR_1 := Lib.hid (BR_0.out.trans (hb.mono zz0))
  have zz1 : W0.heap.size ≤ X1.heap.size := Nat.le_trans zz0 hb.size
  have K0_1 := Lib.hid (bkB K0.out hb (by omega))
  have K1_1 := Lib.hid (bkB K1.out hb (by omega))
  clear hb
  have f0_0 := bkC (v := .int .i64 a.step) K0_1.out 0 rfl
  have f0_1 := bkC (v := .int .i64 a.width) K0_1.out 1 rfl
  have f0_2 := bkC (v := .int .i64 a.height) K0_1.out 2 rfl
  have f0_3 := bkC (v := v3) K0_1.out 3 rfl
  have f0_4 := bkC (v := v4) K0_1.out 4 rfl
  have f1_0 := bkC (v := .int .i64 b.step) K1_1.out 0 rfl
  have f1_1 := bkC (v := .int .i64 b.width) K1_1.out 1 rfl
  have f1_2 := bkC (v := .int .i64 b.height) K1_1.out 2 rfl
  have f1_3 := bkC (v := u3) K1_1.out 3 rfl
  have f1_4 := bkC (v := u4) K1_1.out 4 rfl
  go_wp2_with fail
  refine (C4.out _ BR_1.out).mono ?_
  rintro e X2 ⟨rfl, hb⟩
  clear f0_0 f0_1 f0_2 f0_3 f0_4 f1_0 f1_1 f1_2 f1_3 f1_4
  have BR_2 := Lib.hid (BR_1.out.trans (hb.mono zz1))
  have zz2 : W0.heap.size ≤ X2.heap.size := Nat.le_trans zz1 hb.size
  have K0_2 := Lib.hid (bkB K0_1.out hb (by omega))
  have K1_2 := Lib.hid (bkB K1_1.out hb (by omega))
  clear hb
  have f0_0 := bkC (v := .int .i64 a.step) K0_2.out 0 rfl
  have f0_1 := bkC (v := .int .i64 a.width) K0_2.out 1 rfl
  have f0_2 := bkC (v := .int .i64 a.height) K0_2.out 2 rfl
  have f0_3 := bkC (v := v3) K0_2.out 3 rfl
  have f0_4 := bkC (v := v4) K0_2.out 4 rfl
  have f1_0 := bkC (v := .int .i64 b.step) K1_2.out 0 rfl
  have f1_1 := bkC (v := .int .i64 b.width) K1_2.out 1 rfl
  have f1_2 := bkC (v := .int .i64 b.height) K1_2.out 2 rfl
  have f1_3 := bkC (v := u3) K1_2.out 3 rfl
  have f1_4 := bkC (v := u4) K1_2.out 4 rfl
  have BE := Lib.hid (B0.out.trans (BR_2.out.mono (by omega)))
  go_wp2
  go_ret
  exact ⟨by rw [HE.out]; rfl, BE.out⟩
set_option maxHeartbeats 4000000 in
set_option maxRecDepth 100000 in
theorem sSameTerrain_any (a b : DTerrain) (v3 u3 v4 u4 : Value) (B : Nat) (w : World) (p3 : Rd B w (intsT a.heights) v3) (r3 : Rd B w (intsT b.heights) u3) (p4 : Rd B w (intsT a.clutter) v4) (r4 : Rd B w (intsT b.clutter) u4) (hB : B ≤ w.heap.size) (m3 : a.heights.length ≤ 1099511627776) (n3 : b.heights.length ≤ 1099511627776) (m4 : a.clutter.length ≤ 1099511627776) (n4 : b.clutter.length ≤ 1099511627776) :
    Calls Tryz.prog 23 #[.agg #[.int .i64 a.step, .int .i64 a.width, .int .i64 a.height, v3, v4], .agg #[.int .i64 b.step, .int .i64 b.width, .int .i64 b.height, u3, u4]] w fun e w' => e = .returned (.bool (sameTerrain a b)) ∧ Below w.heap.size w w' := by
  have hb0 : Below w.heap.size w ((w.alloc (.cells #[.int .i64 a.step, .int .i64 a.width, .int .i64 a.height, v3, v4] 42)).alloc (.cells #[.int .i64 b.step, .int .i64 b.width, .int .i64 b.height, u3, u4] 42)) := Below.alloc (Below.alloc (Below.refl _ _) (by first | exact Nat.le_refl _ | (simp; done) | (simp; omega)) _) (by first | exact Nat.le_refl _ | (simp; done) | (simp; omega)) _
  have z0 : w.heap.size + 2 ≤ ((w.alloc (.cells #[.int .i64 a.step, .int .i64 a.width, .int .i64 a.height, v3, v4] 42)).alloc (.cells #[.int .i64 b.step, .int .i64 b.width, .int .i64 b.height, u3, u4] 42)).heap.size := by simp
  have k0 : ((w.alloc (.cells #[.int .i64 a.step, .int .i64 a.width, .int .i64 a.height, v3, v4] 42)).alloc (.cells #[.int .i64 b.step, .int .i64 b.width, .int .i64 b.height, u3, u4] 42)).heap[w.heap.size]? = some (.cells #[.int .i64 a.step, .int .i64 a.width, .int .i64 a.height, v3, v4] 42 (0, 0)) := by
    have h := bkN w #[.int .i64 a.step, .int .i64 a.width, .int .i64 a.height, v3, v4] 42
    replace h := bkA h (by first | (simp; done) | (simp; omega)) (.cells #[.int .i64 b.step, .int .i64 b.width, .int .i64 b.height, u3, u4] 42)
    exact h
  have k1 : ((w.alloc (.cells #[.int .i64 a.step, .int .i64 a.width, .int .i64 a.height, v3, v4] 42)).alloc (.cells #[.int .i64 b.step, .int .i64 b.width, .int .i64 b.height, u3, u4] 42)).heap[w.heap.size + 1]? = some (.cells #[.int .i64 b.step, .int .i64 b.width, .int .i64 b.height, u3, u4] 42 (0, 0)) := by
    have h := bkN (w.alloc (.cells #[.int .i64 a.step, .int .i64 a.width, .int .i64 a.height, v3, v4] 42)) #[.int .i64 b.step, .int .i64 b.width, .int .i64 b.height, u3, u4] 42
    rw [show (w.alloc (.cells #[.int .i64 a.step, .int .i64 a.width, .int .i64 a.height, v3, v4] 42)).heap.size = w.heap.size + 1 by simp] at h
    exact h
  generalize hW0 : ((w.alloc (.cells #[.int .i64 a.step, .int .i64 a.width, .int .i64 a.height, v3, v4] 42)).alloc (.cells #[.int .i64 b.step, .int .i64 b.width, .int .i64 b.height, u3, u4] 42)) = W0 at hb0 z0 k0 k1
  have HW0 := Lib.hid hW0
  clear hW0
  have B0 := Lib.hid hb0
  clear hb0
  have K0 := Lib.hid k0
  clear k0
  have K1 := Lib.hid k1
  clear k1
  have C3 : Hid (∀ W : World, Below W0.heap.size W0 W → Calls Tryz.prog 27 #[v3, u3] W fun e w' => e = .returned (.bool (sameI a.heights b.heights)) ∧ Below W.heap.size W w') := fun W hW => l00Same_any _ _ _ _ B W (p3.below ((B0.out.trans (hW.mono (by omega))).mono hB)) (r3.below ((B0.out.trans (hW.mono (by omega))).mono hB)) (by have := hW.size; omega) m3 n3
  have C4 : Hid (∀ W : World, Below W0.heap.size W0 W → Calls Tryz.prog 27 #[v4, u4] W fun e w' => e = .returned (.bool (sameI a.clutter b.clutter)) ∧ Below W.heap.size W w') := fun W hW => l00Same_any _ _ _ _ B W (p4.below ((B0.out.trans (hW.mono (by omega))).mono hB)) (r4.below ((B0.out.trans (hW.mono (by omega))).mono hB)) (by have := hW.size; omega) m4 n4
  by_cases h0 : (a.step == b.step) = true
  case neg =>
    replace h0 : (a.step == b.step) = false := Bool.eq_false_iff.2 h0
    have HE : Hid (sameTerrain a b = false) := by show _ = _; unfold sameTerrain; simp only [h0, Bool.and_false, Bool.false_and, Bool.and_true, Bool.true_and, Bool.and_self]
    go_enter Tryz.func23, Tryz.ntmps23
    go_upto_region 1 with (fail)
    rw [HW0.out]
    have f0_0 := bkC (v := .int .i64 a.step) K0.out 0 rfl
    have f0_1 := bkC (v := .int .i64 a.width) K0.out 1 rfl
    have f0_2 := bkC (v := .int .i64 a.height) K0.out 2 rfl
    have f0_3 := bkC (v := v3) K0.out 3 rfl
    have f0_4 := bkC (v := v4) K0.out 4 rfl
    have f1_0 := bkC (v := .int .i64 b.step) K1.out 0 rfl
    have f1_1 := bkC (v := .int .i64 b.width) K1.out 1 rfl
    have f1_2 := bkC (v := .int .i64 b.height) K1.out 2 rfl
    have f1_3 := bkC (v := u3) K1.out 3 rfl
    have f1_4 := bkC (v := u4) K1.out 4 rfl
    have BR_0 : Hid (Below W0.heap.size W0 W0) := Below.refl _ _
    have zz0 : W0.heap.size ≤ W0.heap.size := Nat.le_refl _
    have BE := Lib.hid (B0.out.trans (BR_0.out.mono (by omega)))
    go_wp2
    go_ret
    exact ⟨by rw [HE.out]; rfl, BE.out⟩
  by_cases h1 : (a.width == b.width) = true
  case neg =>
    replace h1 : (a.width == b.width) = false := Bool.eq_false_iff.2 h1
    have HE : Hid (sameTerrain a b = false) := by show _ = _; unfold sameTerrain; simp only [h0, h1, Bool.and_false, Bool.false_and, Bool.and_true, Bool.true_and, Bool.and_self]
    go_enter Tryz.func23, Tryz.ntmps23
    go_upto_region 1 with (fail)
    rw [HW0.out]
    have f0_0 := bkC (v := .int .i64 a.step) K0.out 0 rfl
    have f0_1 := bkC (v := .int .i64 a.width) K0.out 1 rfl
    have f0_2 := bkC (v := .int .i64 a.height) K0.out 2 rfl
    have f0_3 := bkC (v := v3) K0.out 3 rfl
    have f0_4 := bkC (v := v4) K0.out 4 rfl
    have f1_0 := bkC (v := .int .i64 b.step) K1.out 0 rfl
    have f1_1 := bkC (v := .int .i64 b.width) K1.out 1 rfl
    have f1_2 := bkC (v := .int .i64 b.height) K1.out 2 rfl
    have f1_3 := bkC (v := u3) K1.out 3 rfl
    have f1_4 := bkC (v := u4) K1.out 4 rfl
    have BR_0 : Hid (Below W0.heap.size W0 W0) := Below.refl _ _
    have zz0 : W0.heap.size ≤ W0.heap.size := Nat.le_refl _
    have BE := Lib.hid (B0.out.trans (BR_0.out.mono (by omega)))
    go_wp2
    go_ret
    exact ⟨by rw [HE.out]; rfl, BE.out⟩
  by_cases h2 : (a.height == b.height) = true
  case neg =>
    replace h2 : (a.height == b.height) = false := Bool.eq_false_iff.2 h2
    have HE : Hid (sameTerrain a b = false) := by show _ = _; unfold sameTerrain; simp only [h0, h1, h2, Bool.and_false, Bool.false_and, Bool.and_true, Bool.true_and, Bool.and_self]
    go_enter Tryz.func23, Tryz.ntmps23
    go_upto_region 1 with (fail)
    rw [HW0.out]
    have f0_0 := bkC (v := .int .i64 a.step) K0.out 0 rfl
    have f0_1 := bkC (v := .int .i64 a.width) K0.out 1 rfl
    have f0_2 := bkC (v := .int .i64 a.height) K0.out 2 rfl
    have f0_3 := bkC (v := v3) K0.out 3 rfl
    have f0_4 := bkC (v := v4) K0.out 4 rfl
    have f1_0 := bkC (v := .int .i64 b.step) K1.out 0 rfl
    have f1_1 := bkC (v := .int .i64 b.width) K1.out 1 rfl
    have f1_2 := bkC (v := .int .i64 b.height) K1.out 2 rfl
    have f1_3 := bkC (v := u3) K1.out 3 rfl
    have f1_4 := bkC (v := u4) K1.out 4 rfl
    have BR_0 : Hid (Below W0.heap.size W0 W0) := Below.refl _ _
    have zz0 : W0.heap.size ≤ W0.heap.size := Nat.le_refl _
    have BE := Lib.hid (B0.out.trans (BR_0.out.mono (by omega)))
    go_wp2
    go_ret
    exact ⟨by rw [HE.out]; rfl, BE.out⟩
  by_cases h3 : sameI a.heights b.heights = true
  case neg =>
    replace h3 : sameI a.heights b.heights = false := Bool.eq_false_iff.2 h3
    rw [h3] at C3
    have HE : Hid (sameTerrain a b = false) := by show _ = _; unfold sameTerrain; simp only [h0, h1, h2, h3, Bool.and_false, Bool.false_and, Bool.and_true, Bool.true_and, Bool.and_self]
    go_enter Tryz.func23, Tryz.ntmps23
    go_upto_region 1 with (fail)
    rw [HW0.out]
    have f0_0 := bkC (v := .int .i64 a.step) K0.out 0 rfl
    have f0_1 := bkC (v := .int .i64 a.width) K0.out 1 rfl
    have f0_2 := bkC (v := .int .i64 a.height) K0.out 2 rfl
    have f0_3 := bkC (v := v3) K0.out 3 rfl
    have f0_4 := bkC (v := v4) K0.out 4 rfl
    have f1_0 := bkC (v := .int .i64 b.step) K1.out 0 rfl
    have f1_1 := bkC (v := .int .i64 b.width) K1.out 1 rfl
    have f1_2 := bkC (v := .int .i64 b.height) K1.out 2 rfl
    have f1_3 := bkC (v := u3) K1.out 3 rfl
    have f1_4 := bkC (v := u4) K1.out 4 rfl
    have BR_0 : Hid (Below W0.heap.size W0 W0) := Below.refl _ _
    have zz0 : W0.heap.size ≤ W0.heap.size := Nat.le_refl _
    go_wp2_with fail
    refine (C3.out _ BR_0.out).mono ?_
    rintro e X1 ⟨rfl, hb⟩
    clear f0_0 f0_1 f0_2 f0_3 f0_4 f1_0 f1_1 f1_2 f1_3 f1_4
    have BR_1 := Lib.hid (BR_0.out.trans (hb.mono zz0))
    have zz1 : W0.heap.size ≤ X1.heap.size := Nat.le_trans zz0 hb.size
    have K0_1 := Lib.hid (bkB K0.out hb (by omega))
    have K1_1 := Lib.hid (bkB K1.out hb (by omega))
    clear hb
    have f0_0 := bkC (v := .int .i64 a.step) K0_1.out 0 rfl
    have f0_1 := bkC (v := .int .i64 a.width) K0_1.out 1 rfl
    have f0_2 := bkC (v := .int .i64 a.height) K0_1.out 2 rfl
    have f0_3 := bkC (v := v3) K0_1.out 3 rfl
    have f0_4 := bkC (v := v4) K0_1.out 4 rfl
    have f1_0 := bkC (v := .int .i64 b.step) K1_1.out 0 rfl
    have f1_1 := bkC (v := .int .i64 b.width) K1_1.out 1 rfl
    have f1_2 := bkC (v := .int .i64 b.height) K1_1.out 2 rfl
    have f1_3 := bkC (v := u3) K1_1.out 3 rfl
    have f1_4 := bkC (v := u4) K1_1.out 4 rfl
    have BE := Lib.hid (B0.out.trans (BR_1.out.mono (by omega)))
    go_wp2
    go_ret
    exact ⟨by rw [HE.out]; rfl, BE.out⟩
  rw [h3] at C3
  by_cases h4 : sameI a.clutter b.clutter = true
  case neg =>
    replace h4 : sameI a.clutter b.clutter = false := Bool.eq_false_iff.2 h4
    rw [h4] at C4
    have HE : Hid (sameTerrain a b = false) := by show _ = _; unfold sameTerrain; simp only [h0, h1, h2, h3, h4, Bool.and_false, Bool.false_and, Bool.and_true, Bool.true_and, Bool.and_self]
    go_enter Tryz.func23, Tryz.ntmps23
    go_upto_region 1 with (fail)
    rw [HW0.out]
    have f0_0 := bkC (v := .int .i64 a.step) K0.out 0 rfl
    have f0_1 := bkC (v := .int .i64 a.width) K0.out 1 rfl
    have f0_2 := bkC (v := .int .i64 a.height) K0.out 2 rfl
    have f0_3 := bkC (v := v3) K0.out 3 rfl
    have f0_4 := bkC (v := v4) K0.out 4 rfl
    have f1_0 := bkC (v := .int .i64 b.step) K1.out 0 rfl
    have f1_1 := bkC (v := .int .i64 b.width) K1.out 1 rfl
    have f1_2 := bkC (v := .int .i64 b.height) K1.out 2 rfl
    have f1_3 := bkC (v := u3) K1.out 3 rfl
    have f1_4 := bkC (v := u4) K1.out 4 rfl
    have BR_0 : Hid (Below W0.heap.size W0 W0) := Below.refl _ _
    have zz0 : W0.heap.size ≤ W0.heap.size := Nat.le_refl _
    go_wp2_with fail
    refine (C3.out _ BR_0.out).mono ?_
    rintro e X1 ⟨rfl, hb⟩
    clear f0_0 f0_1 f0_2 f0_3 f0_4 f1_0 f1_1 f1_2 f1_3 f1_4
    have BR_1 := Lib.hid (BR_0.out.trans (hb.mono zz0))
    have zz1 : W0.heap.size ≤ X1.heap.size := Nat.le_trans zz0 hb.size
    have K0_1 := Lib.hid (bkB K0.out hb (by omega))
    have K1_1 := Lib.hid (bkB K1.out hb (by omega))
    clear hb
    have f0_0 := bkC (v := .int .i64 a.step) K0_1.out 0 rfl
    have f0_1 := bkC (v := .int .i64 a.width) K0_1.out 1 rfl
    have f0_2 := bkC (v := .int .i64 a.height) K0_1.out 2 rfl
    have f0_3 := bkC (v := v3) K0_1.out 3 rfl
    have f0_4 := bkC (v := v4) K0_1.out 4 rfl
    have f1_0 := bkC (v := .int .i64 b.step) K1_1.out 0 rfl
    have f1_1 := bkC (v := .int .i64 b.width) K1_1.out 1 rfl
    have f1_2 := bkC (v := .int .i64 b.height) K1_1.out 2 rfl
    have f1_3 := bkC (v := u3) K1_1.out 3 rfl
    have f1_4 := bkC (v := u4) K1_1.out 4 rfl
    go_wp2_with fail
    refine (C4.out _ BR_1.out).mono ?_
    rintro e X2 ⟨rfl, hb⟩
    clear f0_0 f0_1 f0_2 f0_3 f0_4 f1_0 f1_1 f1_2 f1_3 f1_4
    have BR_2 := Lib.hid (BR_1.out.trans (hb.mono zz1))
    have zz2 : W0.heap.size ≤ X2.heap.size := Nat.le_trans zz1 hb.size
    have K0_2 := Lib.hid (bkB K0_1.out hb (by omega))
    have K1_2 := Lib.hid (bkB K1_1.out hb (by omega))
    clear hb
    have f0_0 := bkC (v := .int .i64 a.step) K0_2.out 0 rfl
    have f0_1 := bkC (v := .int .i64 a.width) K0_2.out 1 rfl
    have f0_2 := bkC (v := .int .i64 a.height) K0_2.out 2 rfl
    have f0_3 := bkC (v := v3) K0_2.out 3 rfl
    have f0_4 := bkC (v := v4) K0_2.out 4 rfl
    have f1_0 := bkC (v := .int .i64 b.step) K1_2.out 0 rfl
    have f1_1 := bkC (v := .int .i64 b.width) K1_2.out 1 rfl
    have f1_2 := bkC (v := .int .i64 b.height) K1_2.out 2 rfl
    have f1_3 := bkC (v := u3) K1_2.out 3 rfl
    have f1_4 := bkC (v := u4) K1_2.out 4 rfl
    have BE := Lib.hid (B0.out.trans (BR_2.out.mono (by omega)))
    go_wp2
    go_ret
    exact ⟨by rw [HE.out]; rfl, BE.out⟩
  rw [h4] at C4
  have HE : Hid (sameTerrain a b = true) := by show _ = _; unfold sameTerrain; simp only [h0, h1, h2, h3, h4, Bool.and_false, Bool.false_and, Bool.and_true, Bool.true_and, Bool.and_self]
  go_enter Tryz.func23, Tryz.ntmps23
  go_upto_region 1 with (fail)
  rw [HW0.out]
  have f0_0 := bkC (v := .int .i64 a.step) K0.out 0 rfl
  have f0_1 := bkC (v := .int .i64 a.width) K0.out 1 rfl
  have f0_2 := bkC (v := .int .i64 a.height) K0.out 2 rfl
  have f0_3 := bkC (v := v3) K0.out 3 rfl
  have f0_4 := bkC (v := v4) K0.out 4 rfl
  have f1_0 := bkC (v := .int .i64 b.step) K1.out 0 rfl
  have f1_1 := bkC (v := .int .i64 b.width) K1.out 1 rfl
  have f1_2 := bkC (v := .int .i64 b.height) K1.out 2 rfl
  have f1_3 := bkC (v := u3) K1.out 3 rfl
  have f1_4 := bkC (v := u4) K1.out 4 rfl
  have BR_0 : Hid (Below W0.heap.size W0 W0) := Below.refl _ _
  have zz0 : W0.heap.size ≤ W0.heap.size := Nat.le_refl _
  go_wp2_with fail
  refine (C3.out _ BR_0.out).mono ?_
  rintro e X1 ⟨rfl, hb⟩
  clear f0_0 f0_1 f0_2 f0_3 f0_4 f1_0 f1_1 f1_2 f1_3 f1_4
  have BR_1 := Lib.hid (BR_0.out.trans (hb.mono zz0))
  have zz1 : W0.heap.size ≤ X1.heap.size := Nat.le_trans zz0 hb.size
  have K0_1 := Lib.hid (bkB K0.out hb (by omega))
  have K1_1 := Lib.hid (bkB K1.out hb (by omega))
  clear hb
  have f0_0 := bkC (v := .int .i64 a.step) K0_1.out 0 rfl
  have f0_1 := bkC (v := .int .i64 a.width) K0_1.out 1 rfl
  have f0_2 := bkC (v := .int .i64 a.height) K0_1.out 2 rfl
  have f0_3 := bkC (v := v3) K0_1.out 3 rfl
  have f0_4 := bkC (v := v4) K0_1.out 4 rfl
  have f1_0 := bkC (v := .int .i64 b.step) K1_1.out 0 rfl
  have f1_1 := bkC (v := .int .i64 b.width) K1_1.out 1 rfl
  have f1_2 := bkC (v := .int .i64 b.height) K1_1.out 2 rfl
  have f1_3 := bkC (v := u3) K1_1.out 3 rfl
  have f1_4 := bkC (v := u4) K1_1.out 4 rfl
  go_wp2_with fail
  refine (C4.out _ BR_1.out).mono ?_
  rintro e X2 ⟨rfl, hb⟩
  clear f0_0 f0_1 f0_2 f0_3 f0_4 f1_0 f1_1 f1_2 f1_3 f1_4
  have BR_2 := Lib.hid (BR_1.out.trans (hb.mono zz1))
  have zz2 : W0.heap.size ≤ X2.heap.size := Nat.le_trans zz1 hb.size
  have K0_2 := Lib.hid (bkB K0_1.out hb (by omega))
  have K1_2 := Lib.hid (bkB K1_1.out hb (by omega))
  clear hb
  have f0_0 := bkC (v := .int .i64 a.step) K0_2.out 0 rfl
  have f0_1 := bkC (v := .int .i64 a.width) K0_2.out 1 rfl
  have f0_2 := bkC (v := .int .i64 a.height) K0_2.out 2 rfl
  have f0_3 := bkC (v := v3) K0_2.out 3 rfl
  have f0_4 := bkC (v := v4) K0_2.out 4 rfl
  have f1_0 := bkC (v := .int .i64 b.step) K1_2.out 0 rfl
  have f1_1 := bkC (v := .int .i64 b.width) K1_2.out 1 rfl
  have f1_2 := bkC (v := .int .i64 b.height) K1_2.out 2 rfl
  have f1_3 := bkC (v := u3) K1_2.out 3 rfl
  have f1_4 := bkC (v := u4) K1_2.out 4 rfl
  have BE := Lib.hid (B0.out.trans (BR_2.out.mono (by omega)))
  go_wp2
  go_ret
  exact ⟨by rw [HE.out]; rfl, BE.out⟩
set_option maxHeartbeats 4000000 in
set_option maxRecDepth 100000 in
theorem iSameAntenna_any (a b : DAntenna) (v2 u2 v3 u3 : Value) (B : Nat) (w : World) (p2 : Rd B w (intsT a.horizontal) v2) (r2 : Rd B w (intsT b.horizontal) u2) (p3 : Rd B w (intsT a.vertical) v3) (r3 : Rd B w (intsT b.vertical) u3) (hB : B ≤ w.heap.size) (m2 : a.horizontal.length ≤ 1099511627776) (n2 : b.horizontal.length ≤ 1099511627776) (m3 : a.vertical.length ≤ 1099511627776) (n3 : b.vertical.length ≤ 1099511627776) :
    Calls Tryz.prog 79 #[.agg #[.string a.name, .int .i64 a.gain, v2, v3], .agg #[.string b.name, .int .i64 b.gain, u2, u3]] w fun e w' => e = .returned (.bool (sameAntenna a b)) ∧ Below w.heap.size w w' := by
  have hb0 : Below w.heap.size w ((w.alloc (.cells #[.string a.name, .int .i64 a.gain, v2, v3] 135)).alloc (.cells #[.string b.name, .int .i64 b.gain, u2, u3] 135)) := Below.alloc (Below.alloc (Below.refl _ _) (by first | exact Nat.le_refl _ | (simp; done) | (simp; omega)) _) (by first | exact Nat.le_refl _ | (simp; done) | (simp; omega)) _
  have z0 : w.heap.size + 2 ≤ ((w.alloc (.cells #[.string a.name, .int .i64 a.gain, v2, v3] 135)).alloc (.cells #[.string b.name, .int .i64 b.gain, u2, u3] 135)).heap.size := by simp
  have k0 : ((w.alloc (.cells #[.string a.name, .int .i64 a.gain, v2, v3] 135)).alloc (.cells #[.string b.name, .int .i64 b.gain, u2, u3] 135)).heap[w.heap.size]? = some (.cells #[.string a.name, .int .i64 a.gain, v2, v3] 135 (0, 0)) := by
    have h := bkN w #[.string a.name, .int .i64 a.gain, v2, v3] 135
    replace h := bkA h (by first | (simp; done) | (simp; omega)) (.cells #[.string b.name, .int .i64 b.gain, u2, u3] 135)
    exact h
  have k1 : ((w.alloc (.cells #[.string a.name, .int .i64 a.gain, v2, v3] 135)).alloc (.cells #[.string b.name, .int .i64 b.gain, u2, u3] 135)).heap[w.heap.size + 1]? = some (.cells #[.string b.name, .int .i64 b.gain, u2, u3] 135 (0, 0)) := by
    have h := bkN (w.alloc (.cells #[.string a.name, .int .i64 a.gain, v2, v3] 135)) #[.string b.name, .int .i64 b.gain, u2, u3] 135
    rw [show (w.alloc (.cells #[.string a.name, .int .i64 a.gain, v2, v3] 135)).heap.size = w.heap.size + 1 by simp] at h
    exact h
  generalize hW0 : ((w.alloc (.cells #[.string a.name, .int .i64 a.gain, v2, v3] 135)).alloc (.cells #[.string b.name, .int .i64 b.gain, u2, u3] 135)) = W0 at hb0 z0 k0 k1
  have HW0 := Lib.hid hW0
  clear hW0
  have B0 := Lib.hid hb0
  clear hb0
  have K0 := Lib.hid k0
  clear k0
  have K1 := Lib.hid k1
  clear k1
  have C2 : Hid (∀ W : World, Below W0.heap.size W0 W → Calls Tryz.prog 35 #[v2, u2] W fun e w' => e = .returned (.bool (sameI a.horizontal b.horizontal)) ∧ Below W.heap.size W w') := fun W hW => equalI_any _ _ _ _ B W (p2.below ((B0.out.trans (hW.mono (by omega))).mono hB)) (r2.below ((B0.out.trans (hW.mono (by omega))).mono hB)) (by have := hW.size; omega) m2 n2
  have C3 : Hid (∀ W : World, Below W0.heap.size W0 W → Calls Tryz.prog 35 #[v3, u3] W fun e w' => e = .returned (.bool (sameI a.vertical b.vertical)) ∧ Below W.heap.size W w') := fun W hW => equalI_any _ _ _ _ B W (p3.below ((B0.out.trans (hW.mono (by omega))).mono hB)) (r3.below ((B0.out.trans (hW.mono (by omega))).mono hB)) (by have := hW.size; omega) m3 n3
  by_cases h0 : eqS a.name b.name = true
  case neg =>
    replace h0 : eqS a.name b.name = false := Bool.eq_false_iff.2 h0
    have h0l : (a.name.toList == b.name.toList) = false := h0
    have HE : Hid (sameAntenna a b = false) := by show _ = _; unfold sameAntenna; simp only [h0, Bool.and_false, Bool.false_and, Bool.and_true, Bool.true_and, Bool.and_self]
    go_enter Tryz.func79, Tryz.ntmps79
    go_upto_region 1 with (fail)
    rw [HW0.out]
    have f0_0 := bkC (v := .string a.name) K0.out 0 rfl
    have f0_1 := bkC (v := .int .i64 a.gain) K0.out 1 rfl
    have f0_2 := bkC (v := v2) K0.out 2 rfl
    have f0_3 := bkC (v := v3) K0.out 3 rfl
    have f1_0 := bkC (v := .string b.name) K1.out 0 rfl
    have f1_1 := bkC (v := .int .i64 b.gain) K1.out 1 rfl
    have f1_2 := bkC (v := u2) K1.out 2 rfl
    have f1_3 := bkC (v := u3) K1.out 3 rfl
    have BR_0 : Hid (Below W0.heap.size W0 W0) := Below.refl _ _
    have zz0 : W0.heap.size ≤ W0.heap.size := Nat.le_refl _
    have BE := Lib.hid (B0.out.trans (BR_0.out.mono (by omega)))
    go_wp2
    go_ret
    exact ⟨by rw [HE.out]; rfl, BE.out⟩
  have h0l : (a.name.toList == b.name.toList) = true := h0
  by_cases h1 : (a.gain == b.gain) = true
  case neg =>
    replace h1 : (a.gain == b.gain) = false := Bool.eq_false_iff.2 h1
    have HE : Hid (sameAntenna a b = false) := by show _ = _; unfold sameAntenna; simp only [h0, h1, Bool.and_false, Bool.false_and, Bool.and_true, Bool.true_and, Bool.and_self]
    go_enter Tryz.func79, Tryz.ntmps79
    go_upto_region 1 with (fail)
    rw [HW0.out]
    have f0_0 := bkC (v := .string a.name) K0.out 0 rfl
    have f0_1 := bkC (v := .int .i64 a.gain) K0.out 1 rfl
    have f0_2 := bkC (v := v2) K0.out 2 rfl
    have f0_3 := bkC (v := v3) K0.out 3 rfl
    have f1_0 := bkC (v := .string b.name) K1.out 0 rfl
    have f1_1 := bkC (v := .int .i64 b.gain) K1.out 1 rfl
    have f1_2 := bkC (v := u2) K1.out 2 rfl
    have f1_3 := bkC (v := u3) K1.out 3 rfl
    have BR_0 : Hid (Below W0.heap.size W0 W0) := Below.refl _ _
    have zz0 : W0.heap.size ≤ W0.heap.size := Nat.le_refl _
    have BE := Lib.hid (B0.out.trans (BR_0.out.mono (by omega)))
    go_wp2
    go_ret
    exact ⟨by rw [HE.out]; rfl, BE.out⟩
  by_cases h2 : sameI a.horizontal b.horizontal = true
  case neg =>
    replace h2 : sameI a.horizontal b.horizontal = false := Bool.eq_false_iff.2 h2
    rw [h2] at C2
    have HE : Hid (sameAntenna a b = false) := by show _ = _; unfold sameAntenna; simp only [h0, h1, h2, Bool.and_false, Bool.false_and, Bool.and_true, Bool.true_and, Bool.and_self]
    go_enter Tryz.func79, Tryz.ntmps79
    go_upto_region 1 with (fail)
    rw [HW0.out]
    have f0_0 := bkC (v := .string a.name) K0.out 0 rfl
    have f0_1 := bkC (v := .int .i64 a.gain) K0.out 1 rfl
    have f0_2 := bkC (v := v2) K0.out 2 rfl
    have f0_3 := bkC (v := v3) K0.out 3 rfl
    have f1_0 := bkC (v := .string b.name) K1.out 0 rfl
    have f1_1 := bkC (v := .int .i64 b.gain) K1.out 1 rfl
    have f1_2 := bkC (v := u2) K1.out 2 rfl
    have f1_3 := bkC (v := u3) K1.out 3 rfl
    have BR_0 : Hid (Below W0.heap.size W0 W0) := Below.refl _ _
    have zz0 : W0.heap.size ≤ W0.heap.size := Nat.le_refl _
    go_wp2_with fail
    refine (C2.out _ BR_0.out).mono ?_
    rintro e X1 ⟨rfl, hb⟩
    clear f0_0 f0_1 f0_2 f0_3 f1_0 f1_1 f1_2 f1_3
    have BR_1 := Lib.hid (BR_0.out.trans (hb.mono zz0))
    have zz1 : W0.heap.size ≤ X1.heap.size := Nat.le_trans zz0 hb.size
    have K0_1 := Lib.hid (bkB K0.out hb (by omega))
    have K1_1 := Lib.hid (bkB K1.out hb (by omega))
    clear hb
    have f0_0 := bkC (v := .string a.name) K0_1.out 0 rfl
    have f0_1 := bkC (v := .int .i64 a.gain) K0_1.out 1 rfl
    have f0_2 := bkC (v := v2) K0_1.out 2 rfl
    have f0_3 := bkC (v := v3) K0_1.out 3 rfl
    have f1_0 := bkC (v := .string b.name) K1_1.out 0 rfl
    have f1_1 := bkC (v := .int .i64 b.gain) K1_1.out 1 rfl
    have f1_2 := bkC (v := u2) K1_1.out 2 rfl
    have f1_3 := bkC (v := u3) K1_1.out 3 rfl
    have BE := Lib.hid (B0.out.trans (BR_1.out.mono (by omega)))
    go_wp2
    go_ret
    exact ⟨by rw [HE.out]; rfl, BE.out⟩
  rw [h2] at C2
  by_cases h3 : sameI a.vertical b.vertical = true
  case neg =>
    replace h3 : sameI a.vertical b.vertical = false := Bool.eq_false_iff.2 h3
    rw [h3] at C3
    have HE : Hid (sameAntenna a b = false) := by show _ = _; unfold sameAntenna; simp only [h0, h1, h2, h3, Bool.and_false, Bool.false_and, Bool.and_true, Bool.true_and, Bool.and_self]
    go_enter Tryz.func79, Tryz.ntmps79
    go_upto_region 1 with (fail)
    rw [HW0.out]
    have f0_0 := bkC (v := .string a.name) K0.out 0 rfl
    have f0_1 := bkC (v := .int .i64 a.gain) K0.out 1 rfl
    have f0_2 := bkC (v := v2) K0.out 2 rfl
    have f0_3 := bkC (v := v3) K0.out 3 rfl
    have f1_0 := bkC (v := .string b.name) K1.out 0 rfl
    have f1_1 := bkC (v := .int .i64 b.gain) K1.out 1 rfl
    have f1_2 := bkC (v := u2) K1.out 2 rfl
    have f1_3 := bkC (v := u3) K1.out 3 rfl
    have BR_0 : Hid (Below W0.heap.size W0 W0) := Below.refl _ _
    have zz0 : W0.heap.size ≤ W0.heap.size := Nat.le_refl _
    go_wp2_with fail
    refine (C2.out _ BR_0.out).mono ?_
    rintro e X1 ⟨rfl, hb⟩
    clear f0_0 f0_1 f0_2 f0_3 f1_0 f1_1 f1_2 f1_3
    have BR_1 := Lib.hid (BR_0.out.trans (hb.mono zz0))
    have zz1 : W0.heap.size ≤ X1.heap.size := Nat.le_trans zz0 hb.size
    have K0_1 := Lib.hid (bkB K0.out hb (by omega))
    have K1_1 := Lib.hid (bkB K1.out hb (by omega))
    clear hb
    have f0_0 := bkC (v := .string a.name) K0_1.out 0 rfl
    have f0_1 := bkC (v := .int .i64 a.gain) K0_1.out 1 rfl
    have f0_2 := bkC (v := v2) K0_1.out 2 rfl
    have f0_3 := bkC (v := v3) K0_1.out 3 rfl
    have f1_0 := bkC (v := .string b.name) K1_1.out 0 rfl
    have f1_1 := bkC (v := .int .i64 b.gain) K1_1.out 1 rfl
    have f1_2 := bkC (v := u2) K1_1.out 2 rfl
    have f1_3 := bkC (v := u3) K1_1.out 3 rfl
    go_wp2_with fail
    refine (C3.out _ BR_1.out).mono ?_
    rintro e X2 ⟨rfl, hb⟩
    clear f0_0 f0_1 f0_2 f0_3 f1_0 f1_1 f1_2 f1_3
    have BR_2 := Lib.hid (BR_1.out.trans (hb.mono zz1))
    have zz2 : W0.heap.size ≤ X2.heap.size := Nat.le_trans zz1 hb.size
    have K0_2 := Lib.hid (bkB K0_1.out hb (by omega))
    have K1_2 := Lib.hid (bkB K1_1.out hb (by omega))
    clear hb
    have f0_0 := bkC (v := .string a.name) K0_2.out 0 rfl
    have f0_1 := bkC (v := .int .i64 a.gain) K0_2.out 1 rfl
    have f0_2 := bkC (v := v2) K0_2.out 2 rfl
    have f0_3 := bkC (v := v3) K0_2.out 3 rfl
    have f1_0 := bkC (v := .string b.name) K1_2.out 0 rfl
    have f1_1 := bkC (v := .int .i64 b.gain) K1_2.out 1 rfl
    have f1_2 := bkC (v := u2) K1_2.out 2 rfl
    have f1_3 := bkC (v := u3) K1_2.out 3 rfl
    have BE := Lib.hid (B0.out.trans (BR_2.out.mono (by omega)))
    go_wp2
    go_ret
    exact ⟨by rw [HE.out]; rfl, BE.out⟩
  rw [h3] at C3
  have HE : Hid (sameAntenna a b = true) := by show _ = _; unfold sameAntenna; simp only [h0, h1, h2, h3, Bool.and_false, Bool.false_and, Bool.and_true, Bool.true_and, Bool.and_self]
  go_enter Tryz.func79, Tryz.ntmps79
  go_upto_region 1 with (fail)
  rw [HW0.out]
  have f0_0 := bkC (v := .string a.name) K0.out 0 rfl
  have f0_1 := bkC (v := .int .i64 a.gain) K0.out 1 rfl
  have f0_2 := bkC (v := v2) K0.out 2 rfl
  have f0_3 := bkC (v := v3) K0.out 3 rfl
  have f1_0 := bkC (v := .string b.name) K1.out 0 rfl
  have f1_1 := bkC (v := .int .i64 b.gain) K1.out 1 rfl
  have f1_2 := bkC (v := u2) K1.out 2 rfl
  have f1_3 := bkC (v := u3) K1.out 3 rfl
  have BR_0 : Hid (Below W0.heap.size W0 W0) := Below.refl _ _
  have zz0 : W0.heap.size ≤ W0.heap.size := Nat.le_refl _
  go_wp2_with fail
  refine (C2.out _ BR_0.out).mono ?_
  rintro e X1 ⟨rfl, hb⟩
  clear f0_0 f0_1 f0_2 f0_3 f1_0 f1_1 f1_2 f1_3
  have BR_1 := Lib.hid (BR_0.out.trans (hb.mono zz0))
  have zz1 : W0.heap.size ≤ X1.heap.size := Nat.le_trans zz0 hb.size
  have K0_1 := Lib.hid (bkB K0.out hb (by omega))
  have K1_1 := Lib.hid (bkB K1.out hb (by omega))
  clear hb
  have f0_0 := bkC (v := .string a.name) K0_1.out 0 rfl
  have f0_1 := bkC (v := .int .i64 a.gain) K0_1.out 1 rfl
  have f0_2 := bkC (v := v2) K0_1.out 2 rfl
  have f0_3 := bkC (v := v3) K0_1.out 3 rfl
  have f1_0 := bkC (v := .string b.name) K1_1.out 0 rfl
  have f1_1 := bkC (v := .int .i64 b.gain) K1_1.out 1 rfl
  have f1_2 := bkC (v := u2) K1_1.out 2 rfl
  have f1_3 := bkC (v := u3) K1_1.out 3 rfl
  go_wp2_with fail
  refine (C3.out _ BR_1.out).mono ?_
  rintro e X2 ⟨rfl, hb⟩
  clear f0_0 f0_1 f0_2 f0_3 f1_0 f1_1 f1_2 f1_3
  have BR_2 := Lib.hid (BR_1.out.trans (hb.mono zz1))
  have zz2 : W0.heap.size ≤ X2.heap.size := Nat.le_trans zz1 hb.size
  have K0_2 := Lib.hid (bkB K0_1.out hb (by omega))
  have K1_2 := Lib.hid (bkB K1_1.out hb (by omega))
  clear hb
  have f0_0 := bkC (v := .string a.name) K0_2.out 0 rfl
  have f0_1 := bkC (v := .int .i64 a.gain) K0_2.out 1 rfl
  have f0_2 := bkC (v := v2) K0_2.out 2 rfl
  have f0_3 := bkC (v := v3) K0_2.out 3 rfl
  have f1_0 := bkC (v := .string b.name) K1_2.out 0 rfl
  have f1_1 := bkC (v := .int .i64 b.gain) K1_2.out 1 rfl
  have f1_2 := bkC (v := u2) K1_2.out 2 rfl
  have f1_3 := bkC (v := u3) K1_2.out 3 rfl
  have BE := Lib.hid (B0.out.trans (BR_2.out.mono (by omega)))
  go_wp2
  go_ret
  exact ⟨by rw [HE.out]; rfl, BE.out⟩
set_option maxHeartbeats 4000000 in
set_option maxRecDepth 100000 in
theorem sSameAntenna_any (a b : DAntenna) (v2 u2 v3 u3 : Value) (B : Nat) (w : World) (p2 : Rd B w (intsT a.horizontal) v2) (r2 : Rd B w (intsT b.horizontal) u2) (p3 : Rd B w (intsT a.vertical) v3) (r3 : Rd B w (intsT b.vertical) u3) (hB : B ≤ w.heap.size) (m2 : a.horizontal.length ≤ 1099511627776) (n2 : b.horizontal.length ≤ 1099511627776) (m3 : a.vertical.length ≤ 1099511627776) (n3 : b.vertical.length ≤ 1099511627776) :
    Calls Tryz.prog 73 #[.agg #[.string a.name, .int .i64 a.gain, v2, v3], .agg #[.string b.name, .int .i64 b.gain, u2, u3]] w fun e w' => e = .returned (.bool (sameAntenna a b)) ∧ Below w.heap.size w w' := by
  have hb0 : Below w.heap.size w ((w.alloc (.cells #[.string a.name, .int .i64 a.gain, v2, v3] 135)).alloc (.cells #[.string b.name, .int .i64 b.gain, u2, u3] 135)) := Below.alloc (Below.alloc (Below.refl _ _) (by first | exact Nat.le_refl _ | (simp; done) | (simp; omega)) _) (by first | exact Nat.le_refl _ | (simp; done) | (simp; omega)) _
  have z0 : w.heap.size + 2 ≤ ((w.alloc (.cells #[.string a.name, .int .i64 a.gain, v2, v3] 135)).alloc (.cells #[.string b.name, .int .i64 b.gain, u2, u3] 135)).heap.size := by simp
  have k0 : ((w.alloc (.cells #[.string a.name, .int .i64 a.gain, v2, v3] 135)).alloc (.cells #[.string b.name, .int .i64 b.gain, u2, u3] 135)).heap[w.heap.size]? = some (.cells #[.string a.name, .int .i64 a.gain, v2, v3] 135 (0, 0)) := by
    have h := bkN w #[.string a.name, .int .i64 a.gain, v2, v3] 135
    replace h := bkA h (by first | (simp; done) | (simp; omega)) (.cells #[.string b.name, .int .i64 b.gain, u2, u3] 135)
    exact h
  have k1 : ((w.alloc (.cells #[.string a.name, .int .i64 a.gain, v2, v3] 135)).alloc (.cells #[.string b.name, .int .i64 b.gain, u2, u3] 135)).heap[w.heap.size + 1]? = some (.cells #[.string b.name, .int .i64 b.gain, u2, u3] 135 (0, 0)) := by
    have h := bkN (w.alloc (.cells #[.string a.name, .int .i64 a.gain, v2, v3] 135)) #[.string b.name, .int .i64 b.gain, u2, u3] 135
    rw [show (w.alloc (.cells #[.string a.name, .int .i64 a.gain, v2, v3] 135)).heap.size = w.heap.size + 1 by simp] at h
    exact h
  generalize hW0 : ((w.alloc (.cells #[.string a.name, .int .i64 a.gain, v2, v3] 135)).alloc (.cells #[.string b.name, .int .i64 b.gain, u2, u3] 135)) = W0 at hb0 z0 k0 k1
  have HW0 := Lib.hid hW0
  clear hW0
  have B0 := Lib.hid hb0
  clear hb0
  have K0 := Lib.hid k0
  clear k0
  have K1 := Lib.hid k1
  clear k1
  have C2 : Hid (∀ W : World, Below W0.heap.size W0 W → Calls Tryz.prog 27 #[v2, u2] W fun e w' => e = .returned (.bool (sameI a.horizontal b.horizontal)) ∧ Below W.heap.size W w') := fun W hW => l00Same_any _ _ _ _ B W (p2.below ((B0.out.trans (hW.mono (by omega))).mono hB)) (r2.below ((B0.out.trans (hW.mono (by omega))).mono hB)) (by have := hW.size; omega) m2 n2
  have C3 : Hid (∀ W : World, Below W0.heap.size W0 W → Calls Tryz.prog 27 #[v3, u3] W fun e w' => e = .returned (.bool (sameI a.vertical b.vertical)) ∧ Below W.heap.size W w') := fun W hW => l00Same_any _ _ _ _ B W (p3.below ((B0.out.trans (hW.mono (by omega))).mono hB)) (r3.below ((B0.out.trans (hW.mono (by omega))).mono hB)) (by have := hW.size; omega) m3 n3
  by_cases h0 : eqS a.name b.name = true
  case neg =>
    replace h0 : eqS a.name b.name = false := Bool.eq_false_iff.2 h0
    have h0l : (a.name.toList == b.name.toList) = false := h0
    have HE : Hid (sameAntenna a b = false) := by show _ = _; unfold sameAntenna; simp only [h0, Bool.and_false, Bool.false_and, Bool.and_true, Bool.true_and, Bool.and_self]
    go_enter Tryz.func73, Tryz.ntmps73
    go_upto_region 1 with (fail)
    rw [HW0.out]
    have f0_0 := bkC (v := .string a.name) K0.out 0 rfl
    have f0_1 := bkC (v := .int .i64 a.gain) K0.out 1 rfl
    have f0_2 := bkC (v := v2) K0.out 2 rfl
    have f0_3 := bkC (v := v3) K0.out 3 rfl
    have f1_0 := bkC (v := .string b.name) K1.out 0 rfl
    have f1_1 := bkC (v := .int .i64 b.gain) K1.out 1 rfl
    have f1_2 := bkC (v := u2) K1.out 2 rfl
    have f1_3 := bkC (v := u3) K1.out 3 rfl
    have BR_0 : Hid (Below W0.heap.size W0 W0) := Below.refl _ _
    have zz0 : W0.heap.size ≤ W0.heap.size := Nat.le_refl _
    have BE := Lib.hid (B0.out.trans (BR_0.out.mono (by omega)))
    go_wp2
    go_ret
    exact ⟨by rw [HE.out]; rfl, BE.out⟩
  have h0l : (a.name.toList == b.name.toList) = true := h0
  by_cases h1 : (a.gain == b.gain) = true
  case neg =>
    replace h1 : (a.gain == b.gain) = false := Bool.eq_false_iff.2 h1
    have HE : Hid (sameAntenna a b = false) := by show _ = _; unfold sameAntenna; simp only [h0, h1, Bool.and_false, Bool.false_and, Bool.and_true, Bool.true_and, Bool.and_self]
    go_enter Tryz.func73, Tryz.ntmps73
    go_upto_region 1 with (fail)
    rw [HW0.out]
    have f0_0 := bkC (v := .string a.name) K0.out 0 rfl
    have f0_1 := bkC (v := .int .i64 a.gain) K0.out 1 rfl
    have f0_2 := bkC (v := v2) K0.out 2 rfl
    have f0_3 := bkC (v := v3) K0.out 3 rfl
    have f1_0 := bkC (v := .string b.name) K1.out 0 rfl
    have f1_1 := bkC (v := .int .i64 b.gain) K1.out 1 rfl
    have f1_2 := bkC (v := u2) K1.out 2 rfl
    have f1_3 := bkC (v := u3) K1.out 3 rfl
    have BR_0 : Hid (Below W0.heap.size W0 W0) := Below.refl _ _
    have zz0 : W0.heap.size ≤ W0.heap.size := Nat.le_refl _
    have BE := Lib.hid (B0.out.trans (BR_0.out.mono (by omega)))
    go_wp2
    go_ret
    exact ⟨by rw [HE.out]; rfl, BE.out⟩
  by_cases h2 : sameI a.horizontal b.horizontal = true
  case neg =>
    replace h2 : sameI a.horizontal b.horizontal = false := Bool.eq_false_iff.2 h2
    rw [h2] at C2
    have HE : Hid (sameAntenna a b = false) := by show _ = _; unfold sameAntenna; simp only [h0, h1, h2, Bool.and_false, Bool.false_and, Bool.and_true, Bool.true_and, Bool.and_self]
    go_enter Tryz.func73, Tryz.ntmps73
    go_upto_region 1 with (fail)
    rw [HW0.out]
    have f0_0 := bkC (v := .string a.name) K0.out 0 rfl
    have f0_1 := bkC (v := .int .i64 a.gain) K0.out 1 rfl
    have f0_2 := bkC (v := v2) K0.out 2 rfl
    have f0_3 := bkC (v := v3) K0.out 3 rfl
    have f1_0 := bkC (v := .string b.name) K1.out 0 rfl
    have f1_1 := bkC (v := .int .i64 b.gain) K1.out 1 rfl
    have f1_2 := bkC (v := u2) K1.out 2 rfl
    have f1_3 := bkC (v := u3) K1.out 3 rfl
    have BR_0 : Hid (Below W0.heap.size W0 W0) := Below.refl _ _
    have zz0 : W0.heap.size ≤ W0.heap.size := Nat.le_refl _
    go_wp2_with fail
    refine (C2.out _ BR_0.out).mono ?_
    rintro e X1 ⟨rfl, hb⟩
    clear f0_0 f0_1 f0_2 f0_3 f1_0 f1_1 f1_2 f1_3
    have BR_1 := Lib.hid (BR_0.out.trans (hb.mono zz0))
    have zz1 : W0.heap.size ≤ X1.heap.size := Nat.le_trans zz0 hb.size
    have K0_1 := Lib.hid (bkB K0.out hb (by omega))
    have K1_1 := Lib.hid (bkB K1.out hb (by omega))
    clear hb
    have f0_0 := bkC (v := .string a.name) K0_1.out 0 rfl
    have f0_1 := bkC (v := .int .i64 a.gain) K0_1.out 1 rfl
    have f0_2 := bkC (v := v2) K0_1.out 2 rfl
    have f0_3 := bkC (v := v3) K0_1.out 3 rfl
    have f1_0 := bkC (v := .string b.name) K1_1.out 0 rfl
    have f1_1 := bkC (v := .int .i64 b.gain) K1_1.out 1 rfl
    have f1_2 := bkC (v := u2) K1_1.out 2 rfl
    have f1_3 := bkC (v := u3) K1_1.out 3 rfl
    have BE := Lib.hid (B0.out.trans (BR_1.out.mono (by omega)))
    go_wp2
    go_ret
    exact ⟨by rw [HE.out]; rfl, BE.out⟩
  rw [h2] at C2
  by_cases h3 : sameI a.vertical b.vertical = true
  case neg =>
    replace h3 : sameI a.vertical b.vertical = false := Bool.eq_false_iff.2 h3
    rw [h3] at C3
    have HE : Hid (sameAntenna a b = false) := by show _ = _; unfold sameAntenna; simp only [h0, h1, h2, h3, Bool.and_false, Bool.false_and, Bool.and_true, Bool.true_and, Bool.and_self]
    go_enter Tryz.func73, Tryz.ntmps73
    go_upto_region 1 with (fail)
    rw [HW0.out]
    have f0_0 := bkC (v := .string a.name) K0.out 0 rfl
    have f0_1 := bkC (v := .int .i64 a.gain) K0.out 1 rfl
    have f0_2 := bkC (v := v2) K0.out 2 rfl
    have f0_3 := bkC (v := v3) K0.out 3 rfl
    have f1_0 := bkC (v := .string b.name) K1.out 0 rfl
    have f1_1 := bkC (v := .int .i64 b.gain) K1.out 1 rfl
    have f1_2 := bkC (v := u2) K1.out 2 rfl
    have f1_3 := bkC (v := u3) K1.out 3 rfl
    have BR_0 : Hid (Below W0.heap.size W0 W0) := Below.refl _ _
    have zz0 : W0.heap.size ≤ W0.heap.size := Nat.le_refl _
    go_wp2_with fail
    refine (C2.out _ BR_0.out).mono ?_
    rintro e X1 ⟨rfl, hb⟩
    clear f0_0 f0_1 f0_2 f0_3 f1_0 f1_1 f1_2 f1_3
    have BR_1 := Lib.hid (BR_0.out.trans (hb.mono zz0))
    have zz1 : W0.heap.size ≤ X1.heap.size := Nat.le_trans zz0 hb.size
    have K0_1 := Lib.hid (bkB K0.out hb (by omega))
    have K1_1 := Lib.hid (bkB K1.out hb (by omega))
    clear hb
    have f0_0 := bkC (v := .string a.name) K0_1.out 0 rfl
    have f0_1 := bkC (v := .int .i64 a.gain) K0_1.out 1 rfl
    have f0_2 := bkC (v := v2) K0_1.out 2 rfl
    have f0_3 := bkC (v := v3) K0_1.out 3 rfl
    have f1_0 := bkC (v := .string b.name) K1_1.out 0 rfl
    have f1_1 := bkC (v := .int .i64 b.gain) K1_1.out 1 rfl
    have f1_2 := bkC (v := u2) K1_1.out 2 rfl
    have f1_3 := bkC (v := u3) K1_1.out 3 rfl
    go_wp2_with fail
    refine (C3.out _ BR_1.out).mono ?_
    rintro e X2 ⟨rfl, hb⟩
    clear f0_0 f0_1 f0_2 f0_3 f1_0 f1_1 f1_2 f1_3
    have BR_2 := Lib.hid (BR_1.out.trans (hb.mono zz1))
    have zz2 : W0.heap.size ≤ X2.heap.size := Nat.le_trans zz1 hb.size
    have K0_2 := Lib.hid (bkB K0_1.out hb (by omega))
    have K1_2 := Lib.hid (bkB K1_1.out hb (by omega))
    clear hb
    have f0_0 := bkC (v := .string a.name) K0_2.out 0 rfl
    have f0_1 := bkC (v := .int .i64 a.gain) K0_2.out 1 rfl
    have f0_2 := bkC (v := v2) K0_2.out 2 rfl
    have f0_3 := bkC (v := v3) K0_2.out 3 rfl
    have f1_0 := bkC (v := .string b.name) K1_2.out 0 rfl
    have f1_1 := bkC (v := .int .i64 b.gain) K1_2.out 1 rfl
    have f1_2 := bkC (v := u2) K1_2.out 2 rfl
    have f1_3 := bkC (v := u3) K1_2.out 3 rfl
    have BE := Lib.hid (B0.out.trans (BR_2.out.mono (by omega)))
    go_wp2
    go_ret
    exact ⟨by rw [HE.out]; rfl, BE.out⟩
  rw [h3] at C3
  have HE : Hid (sameAntenna a b = true) := by show _ = _; unfold sameAntenna; simp only [h0, h1, h2, h3, Bool.and_false, Bool.false_and, Bool.and_true, Bool.true_and, Bool.and_self]
  go_enter Tryz.func73, Tryz.ntmps73
  go_upto_region 1 with (fail)
  rw [HW0.out]
  have f0_0 := bkC (v := .string a.name) K0.out 0 rfl
  have f0_1 := bkC (v := .int .i64 a.gain) K0.out 1 rfl
  have f0_2 := bkC (v := v2) K0.out 2 rfl
  have f0_3 := bkC (v := v3) K0.out 3 rfl
  have f1_0 := bkC (v := .string b.name) K1.out 0 rfl
  have f1_1 := bkC (v := .int .i64 b.gain) K1.out 1 rfl
  have f1_2 := bkC (v := u2) K1.out 2 rfl
  have f1_3 := bkC (v := u3) K1.out 3 rfl
  have BR_0 : Hid (Below W0.heap.size W0 W0) := Below.refl _ _
  have zz0 : W0.heap.size ≤ W0.heap.size := Nat.le_refl _
  go_wp2_with fail
  refine (C2.out _ BR_0.out).mono ?_
  rintro e X1 ⟨rfl, hb⟩
  clear f0_0 f0_1 f0_2 f0_3 f1_0 f1_1 f1_2 f1_3
  have BR_1 := Lib.hid (BR_0.out.trans (hb.mono zz0))
  have zz1 : W0.heap.size ≤ X1.heap.size := Nat.le_trans zz0 hb.size
  have K0_1 := Lib.hid (bkB K0.out hb (by omega))
  have K1_1 := Lib.hid (bkB K1.out hb (by omega))
  clear hb
  have f0_0 := bkC (v := .string a.name) K0_1.out 0 rfl
  have f0_1 := bkC (v := .int .i64 a.gain) K0_1.out 1 rfl
  have f0_2 := bkC (v := v2) K0_1.out 2 rfl
  have f0_3 := bkC (v := v3) K0_1.out 3 rfl
  have f1_0 := bkC (v := .string b.name) K1_1.out 0 rfl
  have f1_1 := bkC (v := .int .i64 b.gain) K1_1.out 1 rfl
  have f1_2 := bkC (v := u2) K1_1.out 2 rfl
  have f1_3 := bkC (v := u3) K1_1.out 3 rfl
  go_wp2_with fail
  refine (C3.out _ BR_1.out).mono ?_
  rintro e X2 ⟨rfl, hb⟩
  clear f0_0 f0_1 f0_2 f0_3 f1_0 f1_1 f1_2 f1_3
  have BR_2 := Lib.hid (BR_1.out.trans (hb.mono zz1))
  have zz2 : W0.heap.size ≤ X2.heap.size := Nat.le_trans zz1 hb.size
  have K0_2 := Lib.hid (bkB K0_1.out hb (by omega))
  have K1_2 := Lib.hid (bkB K1_1.out hb (by omega))
  clear hb
  have f0_0 := bkC (v := .string a.name) K0_2.out 0 rfl
  have f0_1 := bkC (v := .int .i64 a.gain) K0_2.out 1 rfl
  have f0_2 := bkC (v := v2) K0_2.out 2 rfl
  have f0_3 := bkC (v := v3) K0_2.out 3 rfl
  have f1_0 := bkC (v := .string b.name) K1_2.out 0 rfl
  have f1_1 := bkC (v := .int .i64 b.gain) K1_2.out 1 rfl
  have f1_2 := bkC (v := u2) K1_2.out 2 rfl
  have f1_3 := bkC (v := u3) K1_2.out 3 rfl
  have BE := Lib.hid (B0.out.trans (BR_2.out.mono (by omega)))
  go_wp2
  go_ret
  exact ⟨by rw [HE.out]; rfl, BE.out⟩
set_option maxHeartbeats 4000000 in
set_option maxRecDepth 100000 in
theorem iSameRadio_any (a b : DRadio) (v5 u5 : Value) (B : Nat) (w : World) (p5 : Rd B w (DMode.sT a.modes) v5) (r5 : Rd B w (DMode.sT b.modes) u5) (hB : B ≤ w.heap.size) (m5 : a.modes.length ≤ 1099511627776) (n5 : b.modes.length ≤ 1099511627776) :
    Calls Tryz.prog 81 #[.agg #[.string a.name, .int .i64 a.power, .int .i64 a.feeder, .int .i64 a.noise, .int .i64 a.width, v5], .agg #[.string b.name, .int .i64 b.power, .int .i64 b.feeder, .int .i64 b.noise, .int .i64 b.width, u5]] w fun e w' => e = .returned (.bool (sameRadio a b)) ∧ Below w.heap.size w w' := by
  have hb0 : Below w.heap.size w ((w.alloc (.cells #[.string a.name, .int .i64 a.power, .int .i64 a.feeder, .int .i64 a.noise, .int .i64 a.width, v5] 139)).alloc (.cells #[.string b.name, .int .i64 b.power, .int .i64 b.feeder, .int .i64 b.noise, .int .i64 b.width, u5] 139)) := Below.alloc (Below.alloc (Below.refl _ _) (by first | exact Nat.le_refl _ | (simp; done) | (simp; omega)) _) (by first | exact Nat.le_refl _ | (simp; done) | (simp; omega)) _
  have z0 : w.heap.size + 2 ≤ ((w.alloc (.cells #[.string a.name, .int .i64 a.power, .int .i64 a.feeder, .int .i64 a.noise, .int .i64 a.width, v5] 139)).alloc (.cells #[.string b.name, .int .i64 b.power, .int .i64 b.feeder, .int .i64 b.noise, .int .i64 b.width, u5] 139)).heap.size := by simp
  have k0 : ((w.alloc (.cells #[.string a.name, .int .i64 a.power, .int .i64 a.feeder, .int .i64 a.noise, .int .i64 a.width, v5] 139)).alloc (.cells #[.string b.name, .int .i64 b.power, .int .i64 b.feeder, .int .i64 b.noise, .int .i64 b.width, u5] 139)).heap[w.heap.size]? = some (.cells #[.string a.name, .int .i64 a.power, .int .i64 a.feeder, .int .i64 a.noise, .int .i64 a.width, v5] 139 (0, 0)) := by
    have h := bkN w #[.string a.name, .int .i64 a.power, .int .i64 a.feeder, .int .i64 a.noise, .int .i64 a.width, v5] 139
    replace h := bkA h (by first | (simp; done) | (simp; omega)) (.cells #[.string b.name, .int .i64 b.power, .int .i64 b.feeder, .int .i64 b.noise, .int .i64 b.width, u5] 139)
    exact h
  have k1 : ((w.alloc (.cells #[.string a.name, .int .i64 a.power, .int .i64 a.feeder, .int .i64 a.noise, .int .i64 a.width, v5] 139)).alloc (.cells #[.string b.name, .int .i64 b.power, .int .i64 b.feeder, .int .i64 b.noise, .int .i64 b.width, u5] 139)).heap[w.heap.size + 1]? = some (.cells #[.string b.name, .int .i64 b.power, .int .i64 b.feeder, .int .i64 b.noise, .int .i64 b.width, u5] 139 (0, 0)) := by
    have h := bkN (w.alloc (.cells #[.string a.name, .int .i64 a.power, .int .i64 a.feeder, .int .i64 a.noise, .int .i64 a.width, v5] 139)) #[.string b.name, .int .i64 b.power, .int .i64 b.feeder, .int .i64 b.noise, .int .i64 b.width, u5] 139
    rw [show (w.alloc (.cells #[.string a.name, .int .i64 a.power, .int .i64 a.feeder, .int .i64 a.noise, .int .i64 a.width, v5] 139)).heap.size = w.heap.size + 1 by simp] at h
    exact h
  generalize hW0 : ((w.alloc (.cells #[.string a.name, .int .i64 a.power, .int .i64 a.feeder, .int .i64 a.noise, .int .i64 a.width, v5] 139)).alloc (.cells #[.string b.name, .int .i64 b.power, .int .i64 b.feeder, .int .i64 b.noise, .int .i64 b.width, u5] 139)) = W0 at hb0 z0 k0 k1
  have HW0 := Lib.hid hW0
  clear hW0
  have B0 := Lib.hid hb0
  clear hb0
  have K0 := Lib.hid k0
  clear k0
  have K1 := Lib.hid k1
  clear k1
  have C5 : Hid (∀ W : World, Below W0.heap.size W0 W → Calls Tryz.prog 142 #[v5, u5] W fun e w' => e = .returned (.bool (sameModeS a.modes b.modes)) ∧ Below W.heap.size W w') := fun W hW => equalMode_any _ _ _ _ B W (p5.below ((B0.out.trans (hW.mono (by omega))).mono hB)) (r5.below ((B0.out.trans (hW.mono (by omega))).mono hB)) (by have := hW.size; omega) m5 n5
  by_cases h0 : eqS a.name b.name = true
  case neg =>
    replace h0 : eqS a.name b.name = false := Bool.eq_false_iff.2 h0
    have h0l : (a.name.toList == b.name.toList) = false := h0
    have HE : Hid (sameRadio a b = false) := by show _ = _; unfold sameRadio; simp only [h0, Bool.and_false, Bool.false_and, Bool.and_true, Bool.true_and, Bool.and_self]
    go_enter Tryz.func81, Tryz.ntmps81
    go_upto_region 1 with (fail)
    rw [HW0.out]
    have f0_0 := bkC (v := .string a.name) K0.out 0 rfl
    have f0_1 := bkC (v := .int .i64 a.power) K0.out 1 rfl
    have f0_2 := bkC (v := .int .i64 a.feeder) K0.out 2 rfl
    have f0_3 := bkC (v := .int .i64 a.noise) K0.out 3 rfl
    have f0_4 := bkC (v := .int .i64 a.width) K0.out 4 rfl
    have f0_5 := bkC (v := v5) K0.out 5 rfl
    have f1_0 := bkC (v := .string b.name) K1.out 0 rfl
    have f1_1 := bkC (v := .int .i64 b.power) K1.out 1 rfl
    have f1_2 := bkC (v := .int .i64 b.feeder) K1.out 2 rfl
    have f1_3 := bkC (v := .int .i64 b.noise) K1.out 3 rfl
    have f1_4 := bkC (v := .int .i64 b.width) K1.out 4 rfl
    have f1_5 := bkC (v := u5) K1.out 5 rfl
    have BR_0 : Hid (Below W0.heap.size W0 W0) := Below.refl _ _
    have zz0 : W0.heap.size ≤ W0.heap.size := Nat.le_refl _
    have BE := Lib.hid (B0.out.trans (BR_0.out.mono (by omega)))
    go_wp2
    go_ret
    exact ⟨by rw [HE.out]; rfl, BE.out⟩
  have h0l : (a.name.toList == b.name.toList) = true := h0
  by_cases h1 : (a.power == b.power) = true
  case neg =>
    replace h1 : (a.power == b.power) = false := Bool.eq_false_iff.2 h1
    have HE : Hid (sameRadio a b = false) := by show _ = _; unfold sameRadio; simp only [h0, h1, Bool.and_false, Bool.false_and, Bool.and_true, Bool.true_and, Bool.and_self]
    go_enter Tryz.func81, Tryz.ntmps81
    go_upto_region 1 with (fail)
    rw [HW0.out]
    have f0_0 := bkC (v := .string a.name) K0.out 0 rfl
    have f0_1 := bkC (v := .int .i64 a.power) K0.out 1 rfl
    have f0_2 := bkC (v := .int .i64 a.feeder) K0.out 2 rfl
    have f0_3 := bkC (v := .int .i64 a.noise) K0.out 3 rfl
    have f0_4 := bkC (v := .int .i64 a.width) K0.out 4 rfl
    have f0_5 := bkC (v := v5) K0.out 5 rfl
    have f1_0 := bkC (v := .string b.name) K1.out 0 rfl
    have f1_1 := bkC (v := .int .i64 b.power) K1.out 1 rfl
    have f1_2 := bkC (v := .int .i64 b.feeder) K1.out 2 rfl
    have f1_3 := bkC (v := .int .i64 b.noise) K1.out 3 rfl
    have f1_4 := bkC (v := .int .i64 b.width) K1.out 4 rfl
    have f1_5 := bkC (v := u5) K1.out 5 rfl
    have BR_0 : Hid (Below W0.heap.size W0 W0) := Below.refl _ _
    have zz0 : W0.heap.size ≤ W0.heap.size := Nat.le_refl _
    have BE := Lib.hid (B0.out.trans (BR_0.out.mono (by omega)))
    go_wp2
    go_ret
    exact ⟨by rw [HE.out]; rfl, BE.out⟩
  by_cases h2 : (a.feeder == b.feeder) = true
  case neg =>
    replace h2 : (a.feeder == b.feeder) = false := Bool.eq_false_iff.2 h2
    have HE : Hid (sameRadio a b = false) := by show _ = _; unfold sameRadio; simp only [h0, h1, h2, Bool.and_false, Bool.false_and, Bool.and_true, Bool.true_and, Bool.and_self]
    go_enter Tryz.func81, Tryz.ntmps81
    go_upto_region 1 with (fail)
    rw [HW0.out]
    have f0_0 := bkC (v := .string a.name) K0.out 0 rfl
    have f0_1 := bkC (v := .int .i64 a.power) K0.out 1 rfl
    have f0_2 := bkC (v := .int .i64 a.feeder) K0.out 2 rfl
    have f0_3 := bkC (v := .int .i64 a.noise) K0.out 3 rfl
    have f0_4 := bkC (v := .int .i64 a.width) K0.out 4 rfl
    have f0_5 := bkC (v := v5) K0.out 5 rfl
    have f1_0 := bkC (v := .string b.name) K1.out 0 rfl
    have f1_1 := bkC (v := .int .i64 b.power) K1.out 1 rfl
    have f1_2 := bkC (v := .int .i64 b.feeder) K1.out 2 rfl
    have f1_3 := bkC (v := .int .i64 b.noise) K1.out 3 rfl
    have f1_4 := bkC (v := .int .i64 b.width) K1.out 4 rfl
    have f1_5 := bkC (v := u5) K1.out 5 rfl
    have BR_0 : Hid (Below W0.heap.size W0 W0) := Below.refl _ _
    have zz0 : W0.heap.size ≤ W0.heap.size := Nat.le_refl _
    have BE := Lib.hid (B0.out.trans (BR_0.out.mono (by omega)))
    go_wp2
    go_ret
    exact ⟨by rw [HE.out]; rfl, BE.out⟩
  by_cases h3 : (a.noise == b.noise) = true
  case neg =>
    replace h3 : (a.noise == b.noise) = false := Bool.eq_false_iff.2 h3
    have HE : Hid (sameRadio a b = false) := by show _ = _; unfold sameRadio; simp only [h0, h1, h2, h3, Bool.and_false, Bool.false_and, Bool.and_true, Bool.true_and, Bool.and_self]
    go_enter Tryz.func81, Tryz.ntmps81
    go_upto_region 1 with (fail)
    rw [HW0.out]
    have f0_0 := bkC (v := .string a.name) K0.out 0 rfl
    have f0_1 := bkC (v := .int .i64 a.power) K0.out 1 rfl
    have f0_2 := bkC (v := .int .i64 a.feeder) K0.out 2 rfl
    have f0_3 := bkC (v := .int .i64 a.noise) K0.out 3 rfl
    have f0_4 := bkC (v := .int .i64 a.width) K0.out 4 rfl
    have f0_5 := bkC (v := v5) K0.out 5 rfl
    have f1_0 := bkC (v := .string b.name) K1.out 0 rfl
    have f1_1 := bkC (v := .int .i64 b.power) K1.out 1 rfl
    have f1_2 := bkC (v := .int .i64 b.feeder) K1.out 2 rfl
    have f1_3 := bkC (v := .int .i64 b.noise) K1.out 3 rfl
    have f1_4 := bkC (v := .int .i64 b.width) K1.out 4 rfl
    have f1_5 := bkC (v := u5) K1.out 5 rfl
    have BR_0 : Hid (Below W0.heap.size W0 W0) := Below.refl _ _
    have zz0 : W0.heap.size ≤ W0.heap.size := Nat.le_refl _
    have BE := Lib.hid (B0.out.trans (BR_0.out.mono (by omega)))
    go_wp2
    go_ret
    exact ⟨by rw [HE.out]; rfl, BE.out⟩
  by_cases h4 : (a.width == b.width) = true
  case neg =>
    replace h4 : (a.width == b.width) = false := Bool.eq_false_iff.2 h4
    have HE : Hid (sameRadio a b = false) := by show _ = _; unfold sameRadio; simp only [h0, h1, h2, h3, h4, Bool.and_false, Bool.false_and, Bool.and_true, Bool.true_and, Bool.and_self]
    go_enter Tryz.func81, Tryz.ntmps81
    go_upto_region 1 with (fail)
    rw [HW0.out]
    have f0_0 := bkC (v := .string a.name) K0.out 0 rfl
    have f0_1 := bkC (v := .int .i64 a.power) K0.out 1 rfl
    have f0_2 := bkC (v := .int .i64 a.feeder) K0.out 2 rfl
    have f0_3 := bkC (v := .int .i64 a.noise) K0.out 3 rfl
    have f0_4 := bkC (v := .int .i64 a.width) K0.out 4 rfl
    have f0_5 := bkC (v := v5) K0.out 5 rfl
    have f1_0 := bkC (v := .string b.name) K1.out 0 rfl
    have f1_1 := bkC (v := .int .i64 b.power) K1.out 1 rfl
    have f1_2 := bkC (v := .int .i64 b.feeder) K1.out 2 rfl
    have f1_3 := bkC (v := .int .i64 b.noise) K1.out 3 rfl
    have f1_4 := bkC (v := .int .i64 b.width) K1.out 4 rfl
    have f1_5 := bkC (v := u5) K1.out 5 rfl
    have BR_0 : Hid (Below W0.heap.size W0 W0) := Below.refl _ _
    have zz0 : W0.heap.size ≤ W0.heap.size := Nat.le_refl _
    have BE := Lib.hid (B0.out.trans (BR_0.out.mono (by omega)))
    go_wp2
    go_ret
    exact ⟨by rw [HE.out]; rfl, BE.out⟩
  by_cases h5 : sameModeS a.modes b.modes = true
  case neg =>
    replace h5 : sameModeS a.modes b.modes = false := Bool.eq_false_iff.2 h5
    rw [h5] at C5
    have HE : Hid (sameRadio a b = false) := by show _ = _; unfold sameRadio; simp only [h0, h1, h2, h3, h4, h5, Bool.and_false, Bool.false_and, Bool.and_true, Bool.true_and, Bool.and_self]
    go_enter Tryz.func81, Tryz.ntmps81
    go_upto_region 1 with (fail)
    rw [HW0.out]
    have f0_0 := bkC (v := .string a.name) K0.out 0 rfl
    have f0_1 := bkC (v := .int .i64 a.power) K0.out 1 rfl
    have f0_2 := bkC (v := .int .i64 a.feeder) K0.out 2 rfl
    have f0_3 := bkC (v := .int .i64 a.noise) K0.out 3 rfl
    have f0_4 := bkC (v := .int .i64 a.width) K0.out 4 rfl
    have f0_5 := bkC (v := v5) K0.out 5 rfl
    have f1_0 := bkC (v := .string b.name) K1.out 0 rfl
    have f1_1 := bkC (v := .int .i64 b.power) K1.out 1 rfl
    have f1_2 := bkC (v := .int .i64 b.feeder) K1.out 2 rfl
    have f1_3 := bkC (v := .int .i64 b.noise) K1.out 3 rfl
    have f1_4 := bkC (v := .int .i64 b.width) K1.out 4 rfl
    have f1_5 := bkC (v := u5) K1.out 5 rfl
    have BR_0 : Hid (Below W0.heap.size W0 W0) := Below.refl _ _
    have zz0 : W0.heap.size ≤ W0.heap.size := Nat.le_refl _
    go_wp2_with fail
    refine (C5.out _ BR_0.out).mono ?_
    rintro e X1 ⟨rfl, hb⟩
    clear f0_0 f0_1 f0_2 f0_3 f0_4 f0_5 f1_0 f1_1 f1_2 f1_3 f1_4 f1_5
    have BR_1 := Lib.hid (BR_0.out.trans (hb.mono zz0))
    have zz1 : W0.heap.size ≤ X1.heap.size := Nat.le_trans zz0 hb.size
    have K0_1 := Lib.hid (bkB K0.out hb (by omega))
    have K1_1 := Lib.hid (bkB K1.out hb (by omega))
    clear hb
    have f0_0 := bkC (v := .string a.name) K0_1.out 0 rfl
    have f0_1 := bkC (v := .int .i64 a.power) K0_1.out 1 rfl
    have f0_2 := bkC (v := .int .i64 a.feeder) K0_1.out 2 rfl
    have f0_3 := bkC (v := .int .i64 a.noise) K0_1.out 3 rfl
    have f0_4 := bkC (v := .int .i64 a.width) K0_1.out 4 rfl
    have f0_5 := bkC (v := v5) K0_1.out 5 rfl
    have f1_0 := bkC (v := .string b.name) K1_1.out 0 rfl
    have f1_1 := bkC (v := .int .i64 b.power) K1_1.out 1 rfl
    have f1_2 := bkC (v := .int .i64 b.feeder) K1_1.out 2 rfl
    have f1_3 := bkC (v := .int .i64 b.noise) K1_1.out 3 rfl
    have f1_4 := bkC (v := .int .i64 b.width) K1_1.out 4 rfl
    have f1_5 := bkC (v := u5) K1_1.out 5 rfl
    have BE := Lib.hid (B0.out.trans (BR_1.out.mono (by omega)))
    go_wp2
    go_ret
    exact ⟨by rw [HE.out]; rfl, BE.out⟩
  rw [h5] at C5
  have HE : Hid (sameRadio a b = true) := by show _ = _; unfold sameRadio; simp only [h0, h1, h2, h3, h4, h5, Bool.and_false, Bool.false_and, Bool.and_true, Bool.true_and, Bool.and_self]
  go_enter Tryz.func81, Tryz.ntmps81
  go_upto_region 1 with (fail)
  rw [HW0.out]
  have f0_0 := bkC (v := .string a.name) K0.out 0 rfl
  have f0_1 := bkC (v := .int .i64 a.power) K0.out 1 rfl
  have f0_2 := bkC (v := .int .i64 a.feeder) K0.out 2 rfl
  have f0_3 := bkC (v := .int .i64 a.noise) K0.out 3 rfl
  have f0_4 := bkC (v := .int .i64 a.width) K0.out 4 rfl
  have f0_5 := bkC (v := v5) K0.out 5 rfl
  have f1_0 := bkC (v := .string b.name) K1.out 0 rfl
  have f1_1 := bkC (v := .int .i64 b.power) K1.out 1 rfl
  have f1_2 := bkC (v := .int .i64 b.feeder) K1.out 2 rfl
  have f1_3 := bkC (v := .int .i64 b.noise) K1.out 3 rfl
  have f1_4 := bkC (v := .int .i64 b.width) K1.out 4 rfl
  have f1_5 := bkC (v := u5) K1.out 5 rfl
  have BR_0 : Hid (Below W0.heap.size W0 W0) := Below.refl _ _
  have zz0 : W0.heap.size ≤ W0.heap.size := Nat.le_refl _
  go_wp2_with fail
  refine (C5.out _ BR_0.out).mono ?_
  rintro e X1 ⟨rfl, hb⟩
  clear f0_0 f0_1 f0_2 f0_3 f0_4 f0_5 f1_0 f1_1 f1_2 f1_3 f1_4 f1_5
  have BR_1 := Lib.hid (BR_0.out.trans (hb.mono zz0))
  have zz1 : W0.heap.size ≤ X1.heap.size := Nat.le_trans zz0 hb.size
  have K0_1 := Lib.hid (bkB K0.out hb (by omega))
  have K1_1 := Lib.hid (bkB K1.out hb (by omega))
  clear hb
  have f0_0 := bkC (v := .string a.name) K0_1.out 0 rfl
  have f0_1 := bkC (v := .int .i64 a.power) K0_1.out 1 rfl
  have f0_2 := bkC (v := .int .i64 a.feeder) K0_1.out 2 rfl
  have f0_3 := bkC (v := .int .i64 a.noise) K0_1.out 3 rfl
  have f0_4 := bkC (v := .int .i64 a.width) K0_1.out 4 rfl
  have f0_5 := bkC (v := v5) K0_1.out 5 rfl
  have f1_0 := bkC (v := .string b.name) K1_1.out 0 rfl
  have f1_1 := bkC (v := .int .i64 b.power) K1_1.out 1 rfl
  have f1_2 := bkC (v := .int .i64 b.feeder) K1_1.out 2 rfl
  have f1_3 := bkC (v := .int .i64 b.noise) K1_1.out 3 rfl
  have f1_4 := bkC (v := .int .i64 b.width) K1_1.out 4 rfl
  have f1_5 := bkC (v := u5) K1_1.out 5 rfl
  have BE := Lib.hid (B0.out.trans (BR_1.out.mono (by omega)))
  go_wp2
  go_ret
  exact ⟨by rw [HE.out]; rfl, BE.out⟩
end Go.Proofs.YtjfmkmcefnidcaaGreat
