/- Contracts: what two areas have in common; licences clash: for the program and for the reference. Conditions: bounded lengths. -/
import Derived.Test.YtlfkdhakibagaaaGreatPl1
import Derived.Test.YtlfkdhakibagaaaGreatBlk
import Derived.Test.YtlfkdhakibagaaaGreatOverTail
import Derived.Lib.MinMax
namespace Go.Proofs.YtlfkdhakibagaaaGreat
open Go.RowKit
set_option linter.unusedVariables false
set_option linter.unusedSimpArgs false

def meetA (a b : DArea) : DArea := ⟨max a.west b.west, max a.south b.south, min a.east b.east, min a.north b.north⟩
def meetB (a b : DArea) : Bool := areaB a && (areaB b && areaB (meetA a b))
def clashB (a b : DLicence) : Bool := decide (a.low < b.high) && (decide (b.low < a.high) && (areaB (meetA a.area b.area) && (decide (a.from_ ≤ b.until_) && decide (b.from_ ≤ a.until_))))
def clashF (a b : DLicence) : Bool := licB a && (licB b && (meetB a.area b.area && (decide (a.from_ ≤ b.until_) && (decide (b.from_ ≤ a.until_) && (decide (a.low < b.high) && decide (b.low < a.high))))))
theorem licB_area {x : DLicence} (h : licB x = true) : areaB x.area = true := by
  unfold licB at h
  simp only [Bool.and_eq_true] at h
  exact h.2.2.2.2.2.1
theorem clashF_eq {a b : DLicence} (ha : licB a = true) (hb : licB b = true) : clashF a b = clashB a b := by
  unfold clashF clashB meetB
  rw [ha, hb, licB_area ha, licB_area hb]
  simp only [Bool.true_and]
  generalize areaB (meetA a.area b.area) = x0
  generalize decide (a.from_ ≤ b.until_) = x1
  generalize decide (b.from_ ≤ a.until_) = x2
  generalize decide (a.low < b.high) = x3
  generalize decide (b.low < a.high) = x4
  cases x0 <;> cases x1 <;> cases x2 <;> cases x3 <;> cases x4 <;> rfl
theorem l00Max_int (a b : Int) (w : World) : Calls Tryz.prog 225 #[.int .i64 a, .int .i64 b] w fun e w' => e = .returned (.int .i64 (max a b)) ∧ w = w' := by
  by_cases h : b < a
  · have e : max a b = a := by omega
    rw [e]; clear e
    go_enter Tryz.func225, Tryz.ntmps225
    go_wp2
    go_ret
    exact ⟨rfl, rfl⟩
  · have e : max a b = b := by omega
    rw [e]; clear e
    go_enter Tryz.func225, Tryz.ntmps225
    go_wp2
    go_ret
    exact ⟨rfl, rfl⟩
theorem l00Min_int (a b : Int) (w : World) : Calls Tryz.prog 226 #[.int .i64 a, .int .i64 b] w fun e w' => e = .returned (.int .i64 (min a b)) ∧ w = w' := by
  by_cases h : a < b
  · have e : min a b = a := by omega
    rw [e]; clear e
    go_enter Tryz.func226, Tryz.ntmps226
    go_wp2
    go_ret
    exact ⟨rfl, rfl⟩
  · have e : min a b = b := by omega
    rw [e]; clear e
    go_enter Tryz.func226, Tryz.ntmps226
    go_wp2
    go_ret
    exact ⟨rfl, rfl⟩
set_option maxHeartbeats 4000000 in
set_option maxRecDepth 100000 in
theorem l26Meet_any (a b : DArea) (w : World) :
    Calls Tryz.prog 203 #[.agg #[.int .i64 a.west, .int .i64 a.south, .int .i64 a.east, .int .i64 a.north], .agg #[.int .i64 b.west, .int .i64 b.south, .int .i64 b.east, .int .i64 b.north]] w fun e w' => e = .returned (.agg #[.int .i64 (max a.west b.west), .int .i64 (max a.south b.south), .int .i64 (min a.east b.east), .int .i64 (min a.north b.north)]) ∧ Below w.heap.size w w' := by
  have hb0 : Below w.heap.size w (((w.alloc (.cells #[.int .i64 a.west, .int .i64 a.south, .int .i64 a.east, .int .i64 a.north] 70)).alloc (.cells #[.int .i64 b.west, .int .i64 b.south, .int .i64 b.east, .int .i64 b.north] 70)).alloc (.cells #[.int .i64 0, .int .i64 0, .int .i64 0, .int .i64 0] 70)) := Below.alloc (Below.alloc (Below.alloc (Below.refl _ _) (by first | exact Nat.le_refl _ | (simp; done) | (simp; omega)) _) (by first | exact Nat.le_refl _ | (simp; done) | (simp; omega)) _) (by first | exact Nat.le_refl _ | (simp; done) | (simp; omega)) _
  have z0 : w.heap.size + 3 ≤ (((w.alloc (.cells #[.int .i64 a.west, .int .i64 a.south, .int .i64 a.east, .int .i64 a.north] 70)).alloc (.cells #[.int .i64 b.west, .int .i64 b.south, .int .i64 b.east, .int .i64 b.north] 70)).alloc (.cells #[.int .i64 0, .int .i64 0, .int .i64 0, .int .i64 0] 70)).heap.size := by simp
  have k0 : (((w.alloc (.cells #[.int .i64 a.west, .int .i64 a.south, .int .i64 a.east, .int .i64 a.north] 70)).alloc (.cells #[.int .i64 b.west, .int .i64 b.south, .int .i64 b.east, .int .i64 b.north] 70)).alloc (.cells #[.int .i64 0, .int .i64 0, .int .i64 0, .int .i64 0] 70)).heap[w.heap.size]? = some (.cells #[.int .i64 a.west, .int .i64 a.south, .int .i64 a.east, .int .i64 a.north] 70 (0, 0)) := by
    have h := bkN w #[.int .i64 a.west, .int .i64 a.south, .int .i64 a.east, .int .i64 a.north] 70
    replace h := bkA h (by first | (simp; done) | (simp; omega)) (.cells #[.int .i64 b.west, .int .i64 b.south, .int .i64 b.east, .int .i64 b.north] 70)
    replace h := bkA h (by first | (simp; done) | (simp; omega)) (.cells #[.int .i64 0, .int .i64 0, .int .i64 0, .int .i64 0] 70)
    exact h
  have k1 : (((w.alloc (.cells #[.int .i64 a.west, .int .i64 a.south, .int .i64 a.east, .int .i64 a.north] 70)).alloc (.cells #[.int .i64 b.west, .int .i64 b.south, .int .i64 b.east, .int .i64 b.north] 70)).alloc (.cells #[.int .i64 0, .int .i64 0, .int .i64 0, .int .i64 0] 70)).heap[w.heap.size + 1]? = some (.cells #[.int .i64 b.west, .int .i64 b.south, .int .i64 b.east, .int .i64 b.north] 70 (0, 0)) := by
    have h := bkN (w.alloc (.cells #[.int .i64 a.west, .int .i64 a.south, .int .i64 a.east, .int .i64 a.north] 70)) #[.int .i64 b.west, .int .i64 b.south, .int .i64 b.east, .int .i64 b.north] 70
    rw [show (w.alloc (.cells #[.int .i64 a.west, .int .i64 a.south, .int .i64 a.east, .int .i64 a.north] 70)).heap.size = w.heap.size + 1 by simp] at h
    replace h := bkA h (by first | (simp; done) | (simp; omega)) (.cells #[.int .i64 0, .int .i64 0, .int .i64 0, .int .i64 0] 70)
    exact h
  have k2 : (((w.alloc (.cells #[.int .i64 a.west, .int .i64 a.south, .int .i64 a.east, .int .i64 a.north] 70)).alloc (.cells #[.int .i64 b.west, .int .i64 b.south, .int .i64 b.east, .int .i64 b.north] 70)).alloc (.cells #[.int .i64 0, .int .i64 0, .int .i64 0, .int .i64 0] 70)).heap[w.heap.size + 2]? = some (.cells #[.int .i64 0, .int .i64 0, .int .i64 0, .int .i64 0] 70 (0, 0)) := by
    have h := bkN ((w.alloc (.cells #[.int .i64 a.west, .int .i64 a.south, .int .i64 a.east, .int .i64 a.north] 70)).alloc (.cells #[.int .i64 b.west, .int .i64 b.south, .int .i64 b.east, .int .i64 b.north] 70)) #[.int .i64 0, .int .i64 0, .int .i64 0, .int .i64 0] 70
    rw [show ((w.alloc (.cells #[.int .i64 a.west, .int .i64 a.south, .int .i64 a.east, .int .i64 a.north] 70)).alloc (.cells #[.int .i64 b.west, .int .i64 b.south, .int .i64 b.east, .int .i64 b.north] 70)).heap.size = w.heap.size + 2 by simp] at h
    exact h
  generalize hW0 : (((w.alloc (.cells #[.int .i64 a.west, .int .i64 a.south, .int .i64 a.east, .int .i64 a.north] 70)).alloc (.cells #[.int .i64 b.west, .int .i64 b.south, .int .i64 b.east, .int .i64 b.north] 70)).alloc (.cells #[.int .i64 0, .int .i64 0, .int .i64 0, .int .i64 0] 70)) = W0 at hb0 z0 k0 k1 k2
  have HW0 := Lib.hid hW0
  clear hW0
  have B0 := Lib.hid hb0
  clear hb0
  have K0 := Lib.hid k0
  clear k0
  have K1 := Lib.hid k1
  clear k1
  have K2 := Lib.hid k2
  clear k2
  go_enter Tryz.func203, Tryz.ntmps203
  go_upto_region 1 with (fail)
  rw [HW0.out]
  have f0_0 := bkC (v := .int .i64 a.west) K0.out 0 rfl
  have f0_1 := bkC (v := .int .i64 a.south) K0.out 1 rfl
  have f0_2 := bkC (v := .int .i64 a.east) K0.out 2 rfl
  have f0_3 := bkC (v := .int .i64 a.north) K0.out 3 rfl
  have f1_0 := bkC (v := .int .i64 b.west) K1.out 0 rfl
  have f1_1 := bkC (v := .int .i64 b.south) K1.out 1 rfl
  have f1_2 := bkC (v := .int .i64 b.east) K1.out 2 rfl
  have f1_3 := bkC (v := .int .i64 b.north) K1.out 3 rfl
  have o0 := overC (w0 := W0) (show w.heap.size < W0.heap.size by omega)
  have o1 := overC (w0 := W0) (show w.heap.size + 1 < W0.heap.size by omega)
  refine wp_region_over_tail 21 W0.heap.size W0 (Below.refl _ _) (by kernel_rfl) (by kernel_rfl) ?_
  simp only [List.take_succ_cons, List.take_zero, List.drop_succ_cons, List.drop_zero]
  repeat (go_big_quiet_step (first | (go_at_call 225; exact over_same (l00Max_int _ _ _)) | (go_at_call 226; exact over_same (l00Min_int _ _ _))))
  refine wpQuiet_nil ?_
  intro X
  have hX := over_below W0.heap.size W0 X
  clear o0 o1 f0_0 f0_1 f0_2 f0_3 f1_0 f1_1 f1_2 f1_3
  generalize over W0.heap.size W0 X = w2 at *
  have K2b := Lib.hid (bkB K2.out hX (by omega))
  have B2 := Lib.hid (B0.out.trans (hX.mono (by omega)))
  clear hX
  have g0_0 := bkC (v := .int .i64 0) K2b.out 0 rfl
  have g0_1 := bkC (v := .int .i64 0) K2b.out 1 rfl
  have g0_2 := bkC (v := .int .i64 0) K2b.out 2 rfl
  have g0_3 := bkC (v := .int .i64 0) K2b.out 3 rfl
  have gz := bkF K2b.out
  go_wp2
  refine bodyPost_ret (v := .agg #[.int .i64 (max a.west b.west), .int .i64 (max a.south b.south), .int .i64 (min a.east b.east), .int .i64 (min a.north b.north)]) (by simp [results, Tryz.results203, go_sem, *]) rfl ?_
  exact ⟨rfl, ((((B2.out.setCell (p := ⟨w.heap.size + 1 + 1, 0, none⟩) (by show w.heap.size ≤ w.heap.size + 1 + 1; omega) (.int .i64 (max a.west b.west))).setCell (p := ⟨w.heap.size + 1 + 1, 1, none⟩) (by show w.heap.size ≤ w.heap.size + 1 + 1; omega) (.int .i64 (max a.south b.south))).setCell (p := ⟨w.heap.size + 1 + 1, 2, none⟩) (by show w.heap.size ≤ w.heap.size + 1 + 1; omega) (.int .i64 (min a.east b.east))).setCell (p := ⟨w.heap.size + 1 + 1, 3, none⟩) (by show w.heap.size ≤ w.heap.size + 1 + 1; omega) (.int .i64 (min a.north b.north)))⟩
set_option maxHeartbeats 8000000 in
set_option maxRecDepth 100000 in
theorem meetAreas_any (a b : DArea) (w : World) :
    Calls Tryz.prog 176 #[.agg #[.int .i64 a.west, .int .i64 a.south, .int .i64 a.east, .int .i64 a.north], .agg #[.int .i64 b.west, .int .i64 b.south, .int .i64 b.east, .int .i64 b.north]] w fun e w' => ∃ c : DArea, e = .returned (.tuple #[.agg #[.int .i64 c.west, .int .i64 c.south, .int .i64 c.east, .int .i64 c.north], .bool (meetB a b)]) ∧ Below w.heap.size w w' := by
  have hb0 : Below w.heap.size w ((((w.alloc (.cells #[.int .i64 a.west, .int .i64 a.south, .int .i64 a.east, .int .i64 a.north] 70)).alloc (.cells #[.int .i64 b.west, .int .i64 b.south, .int .i64 b.east, .int .i64 b.north] 70)).alloc (.cells #[.int .i64 0, .int .i64 0, .int .i64 0, .int .i64 0] 70)).alloc (.cells #[.int .i64 (max a.west b.west), .int .i64 (max a.south b.south), .int .i64 (min a.east b.east), .int .i64 (min a.north b.north)] 70)) := Below.alloc (Below.alloc (Below.alloc (Below.alloc (Below.refl _ _) (by first | exact Nat.le_refl _ | (simp; done) | (simp; omega)) _) (by first | exact Nat.le_refl _ | (simp; done) | (simp; omega)) _) (by first | exact Nat.le_refl _ | (simp; done) | (simp; omega)) _) (by first | exact Nat.le_refl _ | (simp; done) | (simp; omega)) _
  have z0 : w.heap.size + 4 ≤ ((((w.alloc (.cells #[.int .i64 a.west, .int .i64 a.south, .int .i64 a.east, .int .i64 a.north] 70)).alloc (.cells #[.int .i64 b.west, .int .i64 b.south, .int .i64 b.east, .int .i64 b.north] 70)).alloc (.cells #[.int .i64 0, .int .i64 0, .int .i64 0, .int .i64 0] 70)).alloc (.cells #[.int .i64 (max a.west b.west), .int .i64 (max a.south b.south), .int .i64 (min a.east b.east), .int .i64 (min a.north b.north)] 70)).heap.size := by simp
  have k0 : ((((w.alloc (.cells #[.int .i64 a.west, .int .i64 a.south, .int .i64 a.east, .int .i64 a.north] 70)).alloc (.cells #[.int .i64 b.west, .int .i64 b.south, .int .i64 b.east, .int .i64 b.north] 70)).alloc (.cells #[.int .i64 0, .int .i64 0, .int .i64 0, .int .i64 0] 70)).alloc (.cells #[.int .i64 (max a.west b.west), .int .i64 (max a.south b.south), .int .i64 (min a.east b.east), .int .i64 (min a.north b.north)] 70)).heap[w.heap.size]? = some (.cells #[.int .i64 a.west, .int .i64 a.south, .int .i64 a.east, .int .i64 a.north] 70 (0, 0)) := by
    have h := bkN w #[.int .i64 a.west, .int .i64 a.south, .int .i64 a.east, .int .i64 a.north] 70
    replace h := bkA h (by first | (simp; done) | (simp; omega)) (.cells #[.int .i64 b.west, .int .i64 b.south, .int .i64 b.east, .int .i64 b.north] 70)
    replace h := bkA h (by first | (simp; done) | (simp; omega)) (.cells #[.int .i64 0, .int .i64 0, .int .i64 0, .int .i64 0] 70)
    replace h := bkA h (by first | (simp; done) | (simp; omega)) (.cells #[.int .i64 (max a.west b.west), .int .i64 (max a.south b.south), .int .i64 (min a.east b.east), .int .i64 (min a.north b.north)] 70)
    exact h
  have k1 : ((((w.alloc (.cells #[.int .i64 a.west, .int .i64 a.south, .int .i64 a.east, .int .i64 a.north] 70)).alloc (.cells #[.int .i64 b.west, .int .i64 b.south, .int .i64 b.east, .int .i64 b.north] 70)).alloc (.cells #[.int .i64 0, .int .i64 0, .int .i64 0, .int .i64 0] 70)).alloc (.cells #[.int .i64 (max a.west b.west), .int .i64 (max a.south b.south), .int .i64 (min a.east b.east), .int .i64 (min a.north b.north)] 70)).heap[w.heap.size + 1]? = some (.cells #[.int .i64 b.west, .int .i64 b.south, .int .i64 b.east, .int .i64 b.north] 70 (0, 0)) := by
    have h := bkN (w.alloc (.cells #[.int .i64 a.west, .int .i64 a.south, .int .i64 a.east, .int .i64 a.north] 70)) #[.int .i64 b.west, .int .i64 b.south, .int .i64 b.east, .int .i64 b.north] 70
    rw [show (w.alloc (.cells #[.int .i64 a.west, .int .i64 a.south, .int .i64 a.east, .int .i64 a.north] 70)).heap.size = w.heap.size + 1 by simp] at h
    replace h := bkA h (by first | (simp; done) | (simp; omega)) (.cells #[.int .i64 0, .int .i64 0, .int .i64 0, .int .i64 0] 70)
    replace h := bkA h (by first | (simp; done) | (simp; omega)) (.cells #[.int .i64 (max a.west b.west), .int .i64 (max a.south b.south), .int .i64 (min a.east b.east), .int .i64 (min a.north b.north)] 70)
    exact h
  have k2 : ((((w.alloc (.cells #[.int .i64 a.west, .int .i64 a.south, .int .i64 a.east, .int .i64 a.north] 70)).alloc (.cells #[.int .i64 b.west, .int .i64 b.south, .int .i64 b.east, .int .i64 b.north] 70)).alloc (.cells #[.int .i64 0, .int .i64 0, .int .i64 0, .int .i64 0] 70)).alloc (.cells #[.int .i64 (max a.west b.west), .int .i64 (max a.south b.south), .int .i64 (min a.east b.east), .int .i64 (min a.north b.north)] 70)).heap[w.heap.size + 2]? = some (.cells #[.int .i64 0, .int .i64 0, .int .i64 0, .int .i64 0] 70 (0, 0)) := by
    have h := bkN ((w.alloc (.cells #[.int .i64 a.west, .int .i64 a.south, .int .i64 a.east, .int .i64 a.north] 70)).alloc (.cells #[.int .i64 b.west, .int .i64 b.south, .int .i64 b.east, .int .i64 b.north] 70)) #[.int .i64 0, .int .i64 0, .int .i64 0, .int .i64 0] 70
    rw [show ((w.alloc (.cells #[.int .i64 a.west, .int .i64 a.south, .int .i64 a.east, .int .i64 a.north] 70)).alloc (.cells #[.int .i64 b.west, .int .i64 b.south, .int .i64 b.east, .int .i64 b.north] 70)).heap.size = w.heap.size + 2 by simp] at h
    replace h := bkA h (by first | (simp; done) | (simp; omega)) (.cells #[.int .i64 (max a.west b.west), .int .i64 (max a.south b.south), .int .i64 (min a.east b.east), .int .i64 (min a.north b.north)] 70)
    exact h
  have k3 : ((((w.alloc (.cells #[.int .i64 a.west, .int .i64 a.south, .int .i64 a.east, .int .i64 a.north] 70)).alloc (.cells #[.int .i64 b.west, .int .i64 b.south, .int .i64 b.east, .int .i64 b.north] 70)).alloc (.cells #[.int .i64 0, .int .i64 0, .int .i64 0, .int .i64 0] 70)).alloc (.cells #[.int .i64 (max a.west b.west), .int .i64 (max a.south b.south), .int .i64 (min a.east b.east), .int .i64 (min a.north b.north)] 70)).heap[w.heap.size + 3]? = some (.cells #[.int .i64 (max a.west b.west), .int .i64 (max a.south b.south), .int .i64 (min a.east b.east), .int .i64 (min a.north b.north)] 70 (0, 0)) := by
    have h := bkN (((w.alloc (.cells #[.int .i64 a.west, .int .i64 a.south, .int .i64 a.east, .int .i64 a.north] 70)).alloc (.cells #[.int .i64 b.west, .int .i64 b.south, .int .i64 b.east, .int .i64 b.north] 70)).alloc (.cells #[.int .i64 0, .int .i64 0, .int .i64 0, .int .i64 0] 70)) #[.int .i64 (max a.west b.west), .int .i64 (max a.south b.south), .int .i64 (min a.east b.east), .int .i64 (min a.north b.north)] 70
    rw [show (((w.alloc (.cells #[.int .i64 a.west, .int .i64 a.south, .int .i64 a.east, .int .i64 a.north] 70)).alloc (.cells #[.int .i64 b.west, .int .i64 b.south, .int .i64 b.east, .int .i64 b.north] 70)).alloc (.cells #[.int .i64 0, .int .i64 0, .int .i64 0, .int .i64 0] 70)).heap.size = w.heap.size + 3 by simp] at h
    exact h
  generalize hW0 : ((((w.alloc (.cells #[.int .i64 a.west, .int .i64 a.south, .int .i64 a.east, .int .i64 a.north] 70)).alloc (.cells #[.int .i64 b.west, .int .i64 b.south, .int .i64 b.east, .int .i64 b.north] 70)).alloc (.cells #[.int .i64 0, .int .i64 0, .int .i64 0, .int .i64 0] 70)).alloc (.cells #[.int .i64 (max a.west b.west), .int .i64 (max a.south b.south), .int .i64 (min a.east b.east), .int .i64 (min a.north b.north)] 70)) = W0 at hb0 z0 k0 k1 k2 k3
  have HW0 := Lib.hid hW0
  clear hW0
  have B0 := Lib.hid hb0
  clear hb0
  have K0 := Lib.hid k0
  clear k0
  have K1 := Lib.hid k1
  clear k1
  have K2 := Lib.hid k2
  clear k2
  have K3 := Lib.hid k3
  clear k3
  have HD : Hid (∀ W : World, Below W0.heap.size W0 W → (W.cell? ⟨w.heap.size, 0, none⟩ = some (.int .i64 a.west) ∧ W.cell? ⟨w.heap.size, 1, none⟩ = some (.int .i64 a.south) ∧ W.cell? ⟨w.heap.size, 2, none⟩ = some (.int .i64 a.east) ∧ W.cell? ⟨w.heap.size, 3, none⟩ = some (.int .i64 a.north) ∧ W.cell? ⟨w.heap.size + 1, 0, none⟩ = some (.int .i64 b.west) ∧ W.cell? ⟨w.heap.size + 1, 1, none⟩ = some (.int .i64 b.south) ∧ W.cell? ⟨w.heap.size + 1, 2, none⟩ = some (.int .i64 b.east) ∧ W.cell? ⟨w.heap.size + 1, 3, none⟩ = some (.int .i64 b.north) ∧ W.cell? ⟨w.heap.size + 3, 0, none⟩ = some (.int .i64 (max a.west b.west)) ∧ W.cell? ⟨w.heap.size + 3, 1, none⟩ = some (.int .i64 (max a.south b.south)) ∧ W.cell? ⟨w.heap.size + 3, 2, none⟩ = some (.int .i64 (min a.east b.east)) ∧ W.cell? ⟨w.heap.size + 3, 3, none⟩ = some (.int .i64 (min a.north b.north)))) := fun W hW => ⟨bkC (bkB K0.out hW (by omega)) 0 rfl, bkC (bkB K0.out hW (by omega)) 1 rfl, bkC (bkB K0.out hW (by omega)) 2 rfl, bkC (bkB K0.out hW (by omega)) 3 rfl, bkC (bkB K1.out hW (by omega)) 0 rfl, bkC (bkB K1.out hW (by omega)) 1 rfl, bkC (bkB K1.out hW (by omega)) 2 rfl, bkC (bkB K1.out hW (by omega)) 3 rfl, bkC (bkB K3.out hW (by omega)) 0 rfl, bkC (bkB K3.out hW (by omega)) 1 rfl, bkC (bkB K3.out hW (by omega)) 2 rfl, bkC (bkB K3.out hW (by omega)) 3 rfl⟩
  have HB : Hid (Below W0.heap.size W0 W0) := Below.refl _ _
  have C0 : Hid (∀ W : World, Calls Tryz.prog 173 #[.agg #[.int .i64 a.west, .int .i64 a.south, .int .i64 a.east, .int .i64 a.north]] W fun e w' => e = .returned (.bool (areaB a)) ∧ Below W.heap.size W w') := fun W => validArea_any a W
  have C1 : Hid (∀ W : World, Calls Tryz.prog 173 #[.agg #[.int .i64 b.west, .int .i64 b.south, .int .i64 b.east, .int .i64 b.north]] W fun e w' => e = .returned (.bool (areaB b)) ∧ Below W.heap.size W w') := fun W => validArea_any b W
  have C2 : Hid (∀ W : World, Calls Tryz.prog 173 #[.agg #[.int .i64 (max a.west b.west), .int .i64 (max a.south b.south), .int .i64 (min a.east b.east), .int .i64 (min a.north b.north)]] W fun e w' => e = .returned (.bool (areaB (meetA a b))) ∧ Below W.heap.size W w') := fun W => validArea_any (meetA a b) W
  by_cases h0 : areaB a = true
  case neg =>
    replace h0 : areaB a = false := Bool.eq_false_iff.2 h0
    rw [h0] at C0
    have HE : Hid (meetB a b = false) := by show _ = _; unfold meetB; simp only [h0, Bool.and_false, Bool.false_and, Bool.and_true, Bool.true_and, Bool.and_self]
    go_enter Tryz.func176, Tryz.ntmps176
    go_upto_region 2 with (fail)
    rw [HW0.out]
    have t0_0 := bkC (v := .int .i64 a.west) K0.out 0 rfl
    have t0_1 := bkC (v := .int .i64 a.south) K0.out 1 rfl
    have t0_2 := bkC (v := .int .i64 a.east) K0.out 2 rfl
    have t0_3 := bkC (v := .int .i64 a.north) K0.out 3 rfl
    have t1_0 := bkC (v := .int .i64 b.west) K1.out 0 rfl
    have t1_1 := bkC (v := .int .i64 b.south) K1.out 1 rfl
    have t1_2 := bkC (v := .int .i64 b.east) K1.out 2 rfl
    have t1_3 := bkC (v := .int .i64 b.north) K1.out 3 rfl
    have t3_0 := bkC (v := .int .i64 (max a.west b.west)) K3.out 0 rfl
    have t3_1 := bkC (v := .int .i64 (max a.south b.south)) K3.out 1 rfl
    have t3_2 := bkC (v := .int .i64 (min a.east b.east)) K3.out 2 rfl
    have t3_3 := bkC (v := .int .i64 (min a.north b.north)) K3.out 3 rfl
    go_upto_region 3 with (first | (go_at_call 173; with_reducible refine (C0.out _).mono ?_; rintro e w2 ⟨rfl, hb2⟩; (try clear t0_0 t0_1 t0_2 t0_3 t1_0 t1_1 t1_2 t1_3 t3_0 t3_1 t3_2 t3_3); replace HB := Lib.hid (HB.out.trans (hb2.mono HB.out.size)); clear hb2; obtain ⟨t0_0, t0_1, t0_2, t0_3, t1_0, t1_1, t1_2, t1_3, t3_0, t3_1, t3_2, t3_3⟩ := HD.out _ HB.out) | (go_at_call 173; with_reducible refine (C1.out _).mono ?_; rintro e w2 ⟨rfl, hb2⟩; (try clear t0_0 t0_1 t0_2 t0_3 t1_0 t1_1 t1_2 t1_3 t3_0 t3_1 t3_2 t3_3); replace HB := Lib.hid (HB.out.trans (hb2.mono HB.out.size)); clear hb2; obtain ⟨t0_0, t0_1, t0_2, t0_3, t1_0, t1_1, t1_2, t1_3, t3_0, t3_1, t3_2, t3_3⟩ := HD.out _ HB.out) | (go_at_call 173; with_reducible refine (C2.out _).mono ?_; rintro e w2 ⟨rfl, hb2⟩; (try clear t0_0 t0_1 t0_2 t0_3 t1_0 t1_1 t1_2 t1_3 t3_0 t3_1 t3_2 t3_3); replace HB := Lib.hid (HB.out.trans (hb2.mono HB.out.size)); clear hb2; obtain ⟨t0_0, t0_1, t0_2, t0_3, t1_0, t1_1, t1_2, t1_3, t3_0, t3_1, t3_2, t3_3⟩ := HD.out _ HB.out))
    have K2b := Lib.hid (bkB K2.out HB.out (by omega))
    have B2 := Lib.hid (B0.out.trans (HB.out.mono (by omega)))
    have g0_0 := bkC (v := .int .i64 0) K2b.out 0 rfl
    have g0_1 := bkC (v := .int .i64 0) K2b.out 1 rfl
    have g0_2 := bkC (v := .int .i64 0) K2b.out 2 rfl
    have g0_3 := bkC (v := .int .i64 0) K2b.out 3 rfl
    have gz := bkF K2b.out
    go_wp2
    refine bodyPost_ret (v := .tuple #[.agg #[.int .i64 0, .int .i64 0, .int .i64 0, .int .i64 0], .bool false]) (by simp [results, Tryz.results176, go_sem, *]) rfl ?_
    exact ⟨⟨0, 0, 0, 0⟩, by rw [HE.out], ((((B2.out.setCell (p := ⟨w.heap.size + 1 + 1, 0, none⟩) (by show w.heap.size ≤ w.heap.size + 1 + 1; omega) (.int .i64 0)).setCell (p := ⟨w.heap.size + 1 + 1, 1, none⟩) (by show w.heap.size ≤ w.heap.size + 1 + 1; omega) (.int .i64 0)).setCell (p := ⟨w.heap.size + 1 + 1, 2, none⟩) (by show w.heap.size ≤ w.heap.size + 1 + 1; omega) (.int .i64 0)).setCell (p := ⟨w.heap.size + 1 + 1, 3, none⟩) (by show w.heap.size ≤ w.heap.size + 1 + 1; omega) (.int .i64 0))⟩
  rw [h0] at C0
  by_cases h1 : areaB b = true
  case neg =>
    replace h1 : areaB b = false := Bool.eq_false_iff.2 h1
    rw [h1] at C1
    have HE : Hid (meetB a b = false) := by show _ = _; unfold meetB; simp only [h0, h1, Bool.and_false, Bool.false_and, Bool.and_true, Bool.true_and, Bool.and_self]
    go_enter Tryz.func176, Tryz.ntmps176
    go_upto_region 2 with (fail)
    rw [HW0.out]
    have t0_0 := bkC (v := .int .i64 a.west) K0.out 0 rfl
    have t0_1 := bkC (v := .int .i64 a.south) K0.out 1 rfl
    have t0_2 := bkC (v := .int .i64 a.east) K0.out 2 rfl
    have t0_3 := bkC (v := .int .i64 a.north) K0.out 3 rfl
    have t1_0 := bkC (v := .int .i64 b.west) K1.out 0 rfl
    have t1_1 := bkC (v := .int .i64 b.south) K1.out 1 rfl
    have t1_2 := bkC (v := .int .i64 b.east) K1.out 2 rfl
    have t1_3 := bkC (v := .int .i64 b.north) K1.out 3 rfl
    have t3_0 := bkC (v := .int .i64 (max a.west b.west)) K3.out 0 rfl
    have t3_1 := bkC (v := .int .i64 (max a.south b.south)) K3.out 1 rfl
    have t3_2 := bkC (v := .int .i64 (min a.east b.east)) K3.out 2 rfl
    have t3_3 := bkC (v := .int .i64 (min a.north b.north)) K3.out 3 rfl
    go_upto_region 3 with (first | (go_at_call 173; with_reducible refine (C0.out _).mono ?_; rintro e w2 ⟨rfl, hb2⟩; (try clear t0_0 t0_1 t0_2 t0_3 t1_0 t1_1 t1_2 t1_3 t3_0 t3_1 t3_2 t3_3); replace HB := Lib.hid (HB.out.trans (hb2.mono HB.out.size)); clear hb2; obtain ⟨t0_0, t0_1, t0_2, t0_3, t1_0, t1_1, t1_2, t1_3, t3_0, t3_1, t3_2, t3_3⟩ := HD.out _ HB.out) | (go_at_call 173; with_reducible refine (C1.out _).mono ?_; rintro e w2 ⟨rfl, hb2⟩; (try clear t0_0 t0_1 t0_2 t0_3 t1_0 t1_1 t1_2 t1_3 t3_0 t3_1 t3_2 t3_3); replace HB := Lib.hid (HB.out.trans (hb2.mono HB.out.size)); clear hb2; obtain ⟨t0_0, t0_1, t0_2, t0_3, t1_0, t1_1, t1_2, t1_3, t3_0, t3_1, t3_2, t3_3⟩ := HD.out _ HB.out) | (go_at_call 173; with_reducible refine (C2.out _).mono ?_; rintro e w2 ⟨rfl, hb2⟩; (try clear t0_0 t0_1 t0_2 t0_3 t1_0 t1_1 t1_2 t1_3 t3_0 t3_1 t3_2 t3_3); replace HB := Lib.hid (HB.out.trans (hb2.mono HB.out.size)); clear hb2; obtain ⟨t0_0, t0_1, t0_2, t0_3, t1_0, t1_1, t1_2, t1_3, t3_0, t3_1, t3_2, t3_3⟩ := HD.out _ HB.out))
    have K2b := Lib.hid (bkB K2.out HB.out (by omega))
    have B2 := Lib.hid (B0.out.trans (HB.out.mono (by omega)))
    have g0_0 := bkC (v := .int .i64 0) K2b.out 0 rfl
    have g0_1 := bkC (v := .int .i64 0) K2b.out 1 rfl
    have g0_2 := bkC (v := .int .i64 0) K2b.out 2 rfl
    have g0_3 := bkC (v := .int .i64 0) K2b.out 3 rfl
    have gz := bkF K2b.out
    go_wp2
    refine bodyPost_ret (v := .tuple #[.agg #[.int .i64 0, .int .i64 0, .int .i64 0, .int .i64 0], .bool false]) (by simp [results, Tryz.results176, go_sem, *]) rfl ?_
    exact ⟨⟨0, 0, 0, 0⟩, by rw [HE.out], ((((B2.out.setCell (p := ⟨w.heap.size + 1 + 1, 0, none⟩) (by show w.heap.size ≤ w.heap.size + 1 + 1; omega) (.int .i64 0)).setCell (p := ⟨w.heap.size + 1 + 1, 1, none⟩) (by show w.heap.size ≤ w.heap.size + 1 + 1; omega) (.int .i64 0)).setCell (p := ⟨w.heap.size + 1 + 1, 2, none⟩) (by show w.heap.size ≤ w.heap.size + 1 + 1; omega) (.int .i64 0)).setCell (p := ⟨w.heap.size + 1 + 1, 3, none⟩) (by show w.heap.size ≤ w.heap.size + 1 + 1; omega) (.int .i64 0))⟩
  rw [h1] at C1
  by_cases h2 : areaB (meetA a b) = true
  case neg =>
    replace h2 : areaB (meetA a b) = false := Bool.eq_false_iff.2 h2
    rw [h2] at C2
    have HE : Hid (meetB a b = false) := by show _ = _; unfold meetB; simp only [h0, h1, h2, Bool.and_false, Bool.false_and, Bool.and_true, Bool.true_and, Bool.and_self]
    go_enter Tryz.func176, Tryz.ntmps176
    go_upto_region 2 with (fail)
    rw [HW0.out]
    have t0_0 := bkC (v := .int .i64 a.west) K0.out 0 rfl
    have t0_1 := bkC (v := .int .i64 a.south) K0.out 1 rfl
    have t0_2 := bkC (v := .int .i64 a.east) K0.out 2 rfl
    have t0_3 := bkC (v := .int .i64 a.north) K0.out 3 rfl
    have t1_0 := bkC (v := .int .i64 b.west) K1.out 0 rfl
    have t1_1 := bkC (v := .int .i64 b.south) K1.out 1 rfl
    have t1_2 := bkC (v := .int .i64 b.east) K1.out 2 rfl
    have t1_3 := bkC (v := .int .i64 b.north) K1.out 3 rfl
    have t3_0 := bkC (v := .int .i64 (max a.west b.west)) K3.out 0 rfl
    have t3_1 := bkC (v := .int .i64 (max a.south b.south)) K3.out 1 rfl
    have t3_2 := bkC (v := .int .i64 (min a.east b.east)) K3.out 2 rfl
    have t3_3 := bkC (v := .int .i64 (min a.north b.north)) K3.out 3 rfl
    go_upto_region 3 with (first | (go_at_call 173; with_reducible refine (C0.out _).mono ?_; rintro e w2 ⟨rfl, hb2⟩; (try clear t0_0 t0_1 t0_2 t0_3 t1_0 t1_1 t1_2 t1_3 t3_0 t3_1 t3_2 t3_3); replace HB := Lib.hid (HB.out.trans (hb2.mono HB.out.size)); clear hb2; obtain ⟨t0_0, t0_1, t0_2, t0_3, t1_0, t1_1, t1_2, t1_3, t3_0, t3_1, t3_2, t3_3⟩ := HD.out _ HB.out) | (go_at_call 173; with_reducible refine (C1.out _).mono ?_; rintro e w2 ⟨rfl, hb2⟩; (try clear t0_0 t0_1 t0_2 t0_3 t1_0 t1_1 t1_2 t1_3 t3_0 t3_1 t3_2 t3_3); replace HB := Lib.hid (HB.out.trans (hb2.mono HB.out.size)); clear hb2; obtain ⟨t0_0, t0_1, t0_2, t0_3, t1_0, t1_1, t1_2, t1_3, t3_0, t3_1, t3_2, t3_3⟩ := HD.out _ HB.out) | (go_at_call 173; with_reducible refine (C2.out _).mono ?_; rintro e w2 ⟨rfl, hb2⟩; (try clear t0_0 t0_1 t0_2 t0_3 t1_0 t1_1 t1_2 t1_3 t3_0 t3_1 t3_2 t3_3); replace HB := Lib.hid (HB.out.trans (hb2.mono HB.out.size)); clear hb2; obtain ⟨t0_0, t0_1, t0_2, t0_3, t1_0, t1_1, t1_2, t1_3, t3_0, t3_1, t3_2, t3_3⟩ := HD.out _ HB.out))
    have K2b := Lib.hid (bkB K2.out HB.out (by omega))
    have B2 := Lib.hid (B0.out.trans (HB.out.mono (by omega)))
    have g0_0 := bkC (v := .int .i64 0) K2b.out 0 rfl
    have g0_1 := bkC (v := .int .i64 0) K2b.out 1 rfl
    have g0_2 := bkC (v := .int .i64 0) K2b.out 2 rfl
    have g0_3 := bkC (v := .int .i64 0) K2b.out 3 rfl
    have gz := bkF K2b.out
    go_wp2
    refine bodyPost_ret (v := .tuple #[.agg #[.int .i64 0, .int .i64 0, .int .i64 0, .int .i64 0], .bool false]) (by simp [results, Tryz.results176, go_sem, *]) rfl ?_
    exact ⟨⟨0, 0, 0, 0⟩, by rw [HE.out], ((((B2.out.setCell (p := ⟨w.heap.size + 1 + 1, 0, none⟩) (by show w.heap.size ≤ w.heap.size + 1 + 1; omega) (.int .i64 0)).setCell (p := ⟨w.heap.size + 1 + 1, 1, none⟩) (by show w.heap.size ≤ w.heap.size + 1 + 1; omega) (.int .i64 0)).setCell (p := ⟨w.heap.size + 1 + 1, 2, none⟩) (by show w.heap.size ≤ w.heap.size + 1 + 1; omega) (.int .i64 0)).setCell (p := ⟨w.heap.size + 1 + 1, 3, none⟩) (by show w.heap.size ≤ w.heap.size + 1 + 1; omega) (.int .i64 0))⟩
  rw [h2] at C2
  have HE : Hid (meetB a b = true) := by show _ = _; unfold meetB; simp only [h0, h1, h2, Bool.and_false, Bool.false_and, Bool.and_true, Bool.true_and, Bool.and_self]
  go_enter Tryz.func176, Tryz.ntmps176
  go_upto_region 2 with (fail)
  rw [HW0.out]
  have t0_0 := bkC (v := .int .i64 a.west) K0.out 0 rfl
  have t0_1 := bkC (v := .int .i64 a.south) K0.out 1 rfl
  have t0_2 := bkC (v := .int .i64 a.east) K0.out 2 rfl
  have t0_3 := bkC (v := .int .i64 a.north) K0.out 3 rfl
  have t1_0 := bkC (v := .int .i64 b.west) K1.out 0 rfl
  have t1_1 := bkC (v := .int .i64 b.south) K1.out 1 rfl
  have t1_2 := bkC (v := .int .i64 b.east) K1.out 2 rfl
  have t1_3 := bkC (v := .int .i64 b.north) K1.out 3 rfl
  have t3_0 := bkC (v := .int .i64 (max a.west b.west)) K3.out 0 rfl
  have t3_1 := bkC (v := .int .i64 (max a.south b.south)) K3.out 1 rfl
  have t3_2 := bkC (v := .int .i64 (min a.east b.east)) K3.out 2 rfl
  have t3_3 := bkC (v := .int .i64 (min a.north b.north)) K3.out 3 rfl
  go_upto_region 4 with (first | (go_at_call 173; with_reducible refine (C0.out _).mono ?_; rintro e w2 ⟨rfl, hb2⟩; (try clear t0_0 t0_1 t0_2 t0_3 t1_0 t1_1 t1_2 t1_3 t3_0 t3_1 t3_2 t3_3); replace HB := Lib.hid (HB.out.trans (hb2.mono HB.out.size)); clear hb2; obtain ⟨t0_0, t0_1, t0_2, t0_3, t1_0, t1_1, t1_2, t1_3, t3_0, t3_1, t3_2, t3_3⟩ := HD.out _ HB.out) | (go_at_call 173; with_reducible refine (C1.out _).mono ?_; rintro e w2 ⟨rfl, hb2⟩; (try clear t0_0 t0_1 t0_2 t0_3 t1_0 t1_1 t1_2 t1_3 t3_0 t3_1 t3_2 t3_3); replace HB := Lib.hid (HB.out.trans (hb2.mono HB.out.size)); clear hb2; obtain ⟨t0_0, t0_1, t0_2, t0_3, t1_0, t1_1, t1_2, t1_3, t3_0, t3_1, t3_2, t3_3⟩ := HD.out _ HB.out) | (go_at_call 173; with_reducible refine (C2.out _).mono ?_; rintro e w2 ⟨rfl, hb2⟩; (try clear t0_0 t0_1 t0_2 t0_3 t1_0 t1_1 t1_2 t1_3 t3_0 t3_1 t3_2 t3_3); replace HB := Lib.hid (HB.out.trans (hb2.mono HB.out.size)); clear hb2; obtain ⟨t0_0, t0_1, t0_2, t0_3, t1_0, t1_1, t1_2, t1_3, t3_0, t3_1, t3_2, t3_3⟩ := HD.out _ HB.out))
  have K2b := Lib.hid (bkB K2.out HB.out (by omega))
  have B2 := Lib.hid (B0.out.trans (HB.out.mono (by omega)))
  have g0_0 := bkC (v := .int .i64 0) K2b.out 0 rfl
  have g0_1 := bkC (v := .int .i64 0) K2b.out 1 rfl
  have g0_2 := bkC (v := .int .i64 0) K2b.out 2 rfl
  have g0_3 := bkC (v := .int .i64 0) K2b.out 3 rfl
  have gz := bkF K2b.out
  go_wp2
  refine bodyPost_ret (v := .tuple #[.agg #[.int .i64 (max a.west b.west), .int .i64 (max a.south b.south), .int .i64 (min a.east b.east), .int .i64 (min a.north b.north)], .bool true]) (by simp [results, Tryz.results176, go_sem, *]) rfl ?_
  exact ⟨meetA a b, by rw [HE.out]; rfl, ((((B2.out.setCell (p := ⟨w.heap.size + 1 + 1, 0, none⟩) (by show w.heap.size ≤ w.heap.size + 1 + 1; omega) (.int .i64 (max a.west b.west))).setCell (p := ⟨w.heap.size + 1 + 1, 1, none⟩) (by show w.heap.size ≤ w.heap.size + 1 + 1; omega) (.int .i64 (max a.south b.south))).setCell (p := ⟨w.heap.size + 1 + 1, 2, none⟩) (by show w.heap.size ≤ w.heap.size + 1 + 1; omega) (.int .i64 (min a.east b.east))).setCell (p := ⟨w.heap.size + 1 + 1, 3, none⟩) (by show w.heap.size ≤ w.heap.size + 1 + 1; omega) (.int .i64 (min a.north b.north)))⟩
set_option maxHeartbeats 8000000 in
set_option maxRecDepth 100000 in
theorem clashOf_any (a b : DLicence) (ka0 : a.id.size ≤ maxLen) (ka1 : a.holder.size ≤ maxLen) (kb0 : b.id.size ≤ maxLen) (kb1 : b.holder.size ≤ maxLen) (w : World) :
    Calls Tryz.prog 120 #[.agg #[.string a.id, .string a.holder, .int .i64 a.low, .int .i64 a.high, .int .i64 a.area.west, .int .i64 a.area.south, .int .i64 a.area.east, .int .i64 a.area.north, .int .i64 a.from_, .int .i64 a.until_, .int .i64 a.power], .agg #[.string b.id, .string b.holder, .int .i64 b.low, .int .i64 b.high, .int .i64 b.area.west, .int .i64 b.area.south, .int .i64 b.area.east, .int .i64 b.area.north, .int .i64 b.from_, .int .i64 b.until_, .int .i64 b.power]] w fun e w' => e = .returned (.bool (clashF a b)) ∧ Below w.heap.size w w' := by
  have hb0 : Below w.heap.size w ((w.alloc (.cells #[.string a.id, .string a.holder, .int .i64 a.low, .int .i64 a.high, .int .i64 a.area.west, .int .i64 a.area.south, .int .i64 a.area.east, .int .i64 a.area.north, .int .i64 a.from_, .int .i64 a.until_, .int .i64 a.power] 72)).alloc (.cells #[.string b.id, .string b.holder, .int .i64 b.low, .int .i64 b.high, .int .i64 b.area.west, .int .i64 b.area.south, .int .i64 b.area.east, .int .i64 b.area.north, .int .i64 b.from_, .int .i64 b.until_, .int .i64 b.power] 72)) := Below.alloc (Below.alloc (Below.refl _ _) (by first | exact Nat.le_refl _ | (simp; done) | (simp; omega)) _) (by first | exact Nat.le_refl _ | (simp; done) | (simp; omega)) _
  have z0 : w.heap.size + 2 ≤ ((w.alloc (.cells #[.string a.id, .string a.holder, .int .i64 a.low, .int .i64 a.high, .int .i64 a.area.west, .int .i64 a.area.south, .int .i64 a.area.east, .int .i64 a.area.north, .int .i64 a.from_, .int .i64 a.until_, .int .i64 a.power] 72)).alloc (.cells #[.string b.id, .string b.holder, .int .i64 b.low, .int .i64 b.high, .int .i64 b.area.west, .int .i64 b.area.south, .int .i64 b.area.east, .int .i64 b.area.north, .int .i64 b.from_, .int .i64 b.until_, .int .i64 b.power] 72)).heap.size := by simp
  have k0 : ((w.alloc (.cells #[.string a.id, .string a.holder, .int .i64 a.low, .int .i64 a.high, .int .i64 a.area.west, .int .i64 a.area.south, .int .i64 a.area.east, .int .i64 a.area.north, .int .i64 a.from_, .int .i64 a.until_, .int .i64 a.power] 72)).alloc (.cells #[.string b.id, .string b.holder, .int .i64 b.low, .int .i64 b.high, .int .i64 b.area.west, .int .i64 b.area.south, .int .i64 b.area.east, .int .i64 b.area.north, .int .i64 b.from_, .int .i64 b.until_, .int .i64 b.power] 72)).heap[w.heap.size]? = some (.cells #[.string a.id, .string a.holder, .int .i64 a.low, .int .i64 a.high, .int .i64 a.area.west, .int .i64 a.area.south, .int .i64 a.area.east, .int .i64 a.area.north, .int .i64 a.from_, .int .i64 a.until_, .int .i64 a.power] 72 (0, 0)) := by
    have h := bkN w #[.string a.id, .string a.holder, .int .i64 a.low, .int .i64 a.high, .int .i64 a.area.west, .int .i64 a.area.south, .int .i64 a.area.east, .int .i64 a.area.north, .int .i64 a.from_, .int .i64 a.until_, .int .i64 a.power] 72
    replace h := bkA h (by first | (simp; done) | (simp; omega)) (.cells #[.string b.id, .string b.holder, .int .i64 b.low, .int .i64 b.high, .int .i64 b.area.west, .int .i64 b.area.south, .int .i64 b.area.east, .int .i64 b.area.north, .int .i64 b.from_, .int .i64 b.until_, .int .i64 b.power] 72)
    exact h
  have k1 : ((w.alloc (.cells #[.string a.id, .string a.holder, .int .i64 a.low, .int .i64 a.high, .int .i64 a.area.west, .int .i64 a.area.south, .int .i64 a.area.east, .int .i64 a.area.north, .int .i64 a.from_, .int .i64 a.until_, .int .i64 a.power] 72)).alloc (.cells #[.string b.id, .string b.holder, .int .i64 b.low, .int .i64 b.high, .int .i64 b.area.west, .int .i64 b.area.south, .int .i64 b.area.east, .int .i64 b.area.north, .int .i64 b.from_, .int .i64 b.until_, .int .i64 b.power] 72)).heap[w.heap.size + 1]? = some (.cells #[.string b.id, .string b.holder, .int .i64 b.low, .int .i64 b.high, .int .i64 b.area.west, .int .i64 b.area.south, .int .i64 b.area.east, .int .i64 b.area.north, .int .i64 b.from_, .int .i64 b.until_, .int .i64 b.power] 72 (0, 0)) := by
    have h := bkN (w.alloc (.cells #[.string a.id, .string a.holder, .int .i64 a.low, .int .i64 a.high, .int .i64 a.area.west, .int .i64 a.area.south, .int .i64 a.area.east, .int .i64 a.area.north, .int .i64 a.from_, .int .i64 a.until_, .int .i64 a.power] 72)) #[.string b.id, .string b.holder, .int .i64 b.low, .int .i64 b.high, .int .i64 b.area.west, .int .i64 b.area.south, .int .i64 b.area.east, .int .i64 b.area.north, .int .i64 b.from_, .int .i64 b.until_, .int .i64 b.power] 72
    rw [show (w.alloc (.cells #[.string a.id, .string a.holder, .int .i64 a.low, .int .i64 a.high, .int .i64 a.area.west, .int .i64 a.area.south, .int .i64 a.area.east, .int .i64 a.area.north, .int .i64 a.from_, .int .i64 a.until_, .int .i64 a.power] 72)).heap.size = w.heap.size + 1 by simp] at h
    exact h
  generalize hW0 : ((w.alloc (.cells #[.string a.id, .string a.holder, .int .i64 a.low, .int .i64 a.high, .int .i64 a.area.west, .int .i64 a.area.south, .int .i64 a.area.east, .int .i64 a.area.north, .int .i64 a.from_, .int .i64 a.until_, .int .i64 a.power] 72)).alloc (.cells #[.string b.id, .string b.holder, .int .i64 b.low, .int .i64 b.high, .int .i64 b.area.west, .int .i64 b.area.south, .int .i64 b.area.east, .int .i64 b.area.north, .int .i64 b.from_, .int .i64 b.until_, .int .i64 b.power] 72)) = W0 at hb0 z0 k0 k1
  have HW0 := Lib.hid hW0
  clear hW0
  have B0 := Lib.hid hb0
  clear hb0
  have K0 := Lib.hid k0
  clear k0
  have K1 := Lib.hid k1
  clear k1
  have HD : Hid (∀ W : World, Below W0.heap.size W0 W → (W.cell? ⟨w.heap.size, 0, none⟩ = some (.string a.id) ∧ W.cell? ⟨w.heap.size, 1, none⟩ = some (.string a.holder) ∧ W.cell? ⟨w.heap.size, 2, none⟩ = some (.int .i64 a.low) ∧ W.cell? ⟨w.heap.size, 3, none⟩ = some (.int .i64 a.high) ∧ W.cell? ⟨w.heap.size, 4, none⟩ = some (.int .i64 a.area.west) ∧ W.cell? ⟨w.heap.size, 5, none⟩ = some (.int .i64 a.area.south) ∧ W.cell? ⟨w.heap.size, 6, none⟩ = some (.int .i64 a.area.east) ∧ W.cell? ⟨w.heap.size, 7, none⟩ = some (.int .i64 a.area.north) ∧ W.cell? ⟨w.heap.size, 8, none⟩ = some (.int .i64 a.from_) ∧ W.cell? ⟨w.heap.size, 9, none⟩ = some (.int .i64 a.until_) ∧ W.cell? ⟨w.heap.size, 10, none⟩ = some (.int .i64 a.power) ∧ W.cell? ⟨w.heap.size + 1, 0, none⟩ = some (.string b.id) ∧ W.cell? ⟨w.heap.size + 1, 1, none⟩ = some (.string b.holder) ∧ W.cell? ⟨w.heap.size + 1, 2, none⟩ = some (.int .i64 b.low) ∧ W.cell? ⟨w.heap.size + 1, 3, none⟩ = some (.int .i64 b.high) ∧ W.cell? ⟨w.heap.size + 1, 4, none⟩ = some (.int .i64 b.area.west) ∧ W.cell? ⟨w.heap.size + 1, 5, none⟩ = some (.int .i64 b.area.south) ∧ W.cell? ⟨w.heap.size + 1, 6, none⟩ = some (.int .i64 b.area.east) ∧ W.cell? ⟨w.heap.size + 1, 7, none⟩ = some (.int .i64 b.area.north) ∧ W.cell? ⟨w.heap.size + 1, 8, none⟩ = some (.int .i64 b.from_) ∧ W.cell? ⟨w.heap.size + 1, 9, none⟩ = some (.int .i64 b.until_) ∧ W.cell? ⟨w.heap.size + 1, 10, none⟩ = some (.int .i64 b.power))) := fun W hW => ⟨bkC (bkB K0.out hW (by omega)) 0 rfl, bkC (bkB K0.out hW (by omega)) 1 rfl, bkC (bkB K0.out hW (by omega)) 2 rfl, bkC (bkB K0.out hW (by omega)) 3 rfl, bkC (bkB K0.out hW (by omega)) 4 rfl, bkC (bkB K0.out hW (by omega)) 5 rfl, bkC (bkB K0.out hW (by omega)) 6 rfl, bkC (bkB K0.out hW (by omega)) 7 rfl, bkC (bkB K0.out hW (by omega)) 8 rfl, bkC (bkB K0.out hW (by omega)) 9 rfl, bkC (bkB K0.out hW (by omega)) 10 rfl, bkC (bkB K1.out hW (by omega)) 0 rfl, bkC (bkB K1.out hW (by omega)) 1 rfl, bkC (bkB K1.out hW (by omega)) 2 rfl, bkC (bkB K1.out hW (by omega)) 3 rfl, bkC (bkB K1.out hW (by omega)) 4 rfl, bkC (bkB K1.out hW (by omega)) 5 rfl, bkC (bkB K1.out hW (by omega)) 6 rfl, bkC (bkB K1.out hW (by omega)) 7 rfl, bkC (bkB K1.out hW (by omega)) 8 rfl, bkC (bkB K1.out hW (by omega)) 9 rfl, bkC (bkB K1.out hW (by omega)) 10 rfl⟩
  have HB : Hid (Below W0.heap.size W0 W0) := Below.refl _ _
  have CM : Hid (∀ W : World, Calls Tryz.prog 176 #[.agg #[.int .i64 a.area.west, .int .i64 a.area.south, .int .i64 a.area.east, .int .i64 a.area.north], .agg #[.int .i64 b.area.west, .int .i64 b.area.south, .int .i64 b.area.east, .int .i64 b.area.north]] W fun e w' => ∃ c : DArea, e = .returned (.tuple #[.agg #[.int .i64 c.west, .int .i64 c.south, .int .i64 c.east, .int .i64 c.north], .bool (meetB a.area b.area)]) ∧ Below W.heap.size W w') := fun W => meetAreas_any a.area b.area W
  have C0 : Hid (∀ W : World, Calls Tryz.prog 117 #[.agg #[.string a.id, .string a.holder, .int .i64 a.low, .int .i64 a.high, .int .i64 a.area.west, .int .i64 a.area.south, .int .i64 a.area.east, .int .i64 a.area.north, .int .i64 a.from_, .int .i64 a.until_, .int .i64 a.power]] W fun e w' => e = .returned (.bool (licB a)) ∧ Below W.heap.size W w') := fun W => validLicence_any a ka0 ka1 W
  have C1 : Hid (∀ W : World, Calls Tryz.prog 117 #[.agg #[.string b.id, .string b.holder, .int .i64 b.low, .int .i64 b.high, .int .i64 b.area.west, .int .i64 b.area.south, .int .i64 b.area.east, .int .i64 b.area.north, .int .i64 b.from_, .int .i64 b.until_, .int .i64 b.power]] W fun e w' => e = .returned (.bool (licB b)) ∧ Below W.heap.size W w') := fun W => validLicence_any b kb0 kb1 W
  by_cases h0 : licB a = true
  case neg =>
    replace h0 : licB a = false := Bool.eq_false_iff.2 h0
    rw [h0] at C0
    have HE : Hid (clashF a b = false) := by show _ = _; unfold clashF; simp only [h0, Bool.and_false, Bool.false_and, Bool.and_true, Bool.true_and, Bool.and_self]
    go_enter Tryz.func120, Tryz.ntmps120
    go_upto_region 1 with (fail)
    rw [HW0.out]
    have t0_0 := bkC (v := .string a.id) K0.out 0 rfl
    have t0_1 := bkC (v := .string a.holder) K0.out 1 rfl
    have t0_2 := bkC (v := .int .i64 a.low) K0.out 2 rfl
    have t0_3 := bkC (v := .int .i64 a.high) K0.out 3 rfl
    have t0_4 := bkC (v := .int .i64 a.area.west) K0.out 4 rfl
    have t0_5 := bkC (v := .int .i64 a.area.south) K0.out 5 rfl
    have t0_6 := bkC (v := .int .i64 a.area.east) K0.out 6 rfl
    have t0_7 := bkC (v := .int .i64 a.area.north) K0.out 7 rfl
    have t0_8 := bkC (v := .int .i64 a.from_) K0.out 8 rfl
    have t0_9 := bkC (v := .int .i64 a.until_) K0.out 9 rfl
    have t0_10 := bkC (v := .int .i64 a.power) K0.out 10 rfl
    have t1_0 := bkC (v := .string b.id) K1.out 0 rfl
    have t1_1 := bkC (v := .string b.holder) K1.out 1 rfl
    have t1_2 := bkC (v := .int .i64 b.low) K1.out 2 rfl
    have t1_3 := bkC (v := .int .i64 b.high) K1.out 3 rfl
    have t1_4 := bkC (v := .int .i64 b.area.west) K1.out 4 rfl
    have t1_5 := bkC (v := .int .i64 b.area.south) K1.out 5 rfl
    have t1_6 := bkC (v := .int .i64 b.area.east) K1.out 6 rfl
    have t1_7 := bkC (v := .int .i64 b.area.north) K1.out 7 rfl
    have t1_8 := bkC (v := .int .i64 b.from_) K1.out 8 rfl
    have t1_9 := bkC (v := .int .i64 b.until_) K1.out 9 rfl
    have t1_10 := bkC (v := .int .i64 b.power) K1.out 10 rfl
    go_upto_region 2 with (go_at_call 176; with_reducible refine (CM.out _).mono ?_; rintro e w2 ⟨c, rfl, hb2⟩; (try clear t0_0 t0_1 t0_2 t0_3 t0_4 t0_5 t0_6 t0_7 t0_8 t0_9 t0_10 t1_0 t1_1 t1_2 t1_3 t1_4 t1_5 t1_6 t1_7 t1_8 t1_9 t1_10); replace HB := Lib.hid (HB.out.trans (hb2.mono HB.out.size)); clear hb2; obtain ⟨t0_0, t0_1, t0_2, t0_3, t0_4, t0_5, t0_6, t0_7, t0_8, t0_9, t0_10, t1_0, t1_1, t1_2, t1_3, t1_4, t1_5, t1_6, t1_7, t1_8, t1_9, t1_10⟩ := HD.out _ HB.out)
    have HX : Hid (Below W0.heap.size W0 (w2.alloc (.cells #[.int .i64 c.west, .int .i64 c.south, .int .i64 c.east, .int .i64 c.north] 70))) := HB.out.alloc HB.out.size _
    generalize (w2.alloc (.cells #[.int .i64 c.west, .int .i64 c.south, .int .i64 c.east, .int .i64 c.north] 70)) = w3 at *
    clear t0_0 t0_1 t0_2 t0_3 t0_4 t0_5 t0_6 t0_7 t0_8 t0_9 t0_10 t1_0 t1_1 t1_2 t1_3 t1_4 t1_5 t1_6 t1_7 t1_8 t1_9 t1_10
    replace HB := Lib.hid HX.out
    clear HX
    obtain ⟨t0_0, t0_1, t0_2, t0_3, t0_4, t0_5, t0_6, t0_7, t0_8, t0_9, t0_10, t1_0, t1_1, t1_2, t1_3, t1_4, t1_5, t1_6, t1_7, t1_8, t1_9, t1_10⟩ := HD.out _ HB.out
    go_wp2_with (first | (go_at_call 117; with_reducible refine (C0.out _).mono ?_; rintro e w2 ⟨rfl, hb2⟩; (try clear t0_0 t0_1 t0_2 t0_3 t0_4 t0_5 t0_6 t0_7 t0_8 t0_9 t0_10 t1_0 t1_1 t1_2 t1_3 t1_4 t1_5 t1_6 t1_7 t1_8 t1_9 t1_10); replace HB := Lib.hid (HB.out.trans (hb2.mono HB.out.size)); clear hb2; obtain ⟨t0_0, t0_1, t0_2, t0_3, t0_4, t0_5, t0_6, t0_7, t0_8, t0_9, t0_10, t1_0, t1_1, t1_2, t1_3, t1_4, t1_5, t1_6, t1_7, t1_8, t1_9, t1_10⟩ := HD.out _ HB.out) | (go_at_call 117; with_reducible refine (C1.out _).mono ?_; rintro e w2 ⟨rfl, hb2⟩; (try clear t0_0 t0_1 t0_2 t0_3 t0_4 t0_5 t0_6 t0_7 t0_8 t0_9 t0_10 t1_0 t1_1 t1_2 t1_3 t1_4 t1_5 t1_6 t1_7 t1_8 t1_9 t1_10); replace HB := Lib.hid (HB.out.trans (hb2.mono HB.out.size)); clear hb2; obtain ⟨t0_0, t0_1, t0_2, t0_3, t0_4, t0_5, t0_6, t0_7, t0_8, t0_9, t0_10, t1_0, t1_1, t1_2, t1_3, t1_4, t1_5, t1_6, t1_7, t1_8, t1_9, t1_10⟩ := HD.out _ HB.out))
    go_ret
    exact ⟨by rw [HE.out]; rfl, B0.out.trans (HB.out.mono (by omega))⟩
  rw [h0] at C0
  by_cases h1 : licB b = true
  case neg =>
    replace h1 : licB b = false := Bool.eq_false_iff.2 h1
    rw [h1] at C1
    have HE : Hid (clashF a b = false) := by show _ = _; unfold clashF; simp only [h0, h1, Bool.and_false, Bool.false_and, Bool.and_true, Bool.true_and, Bool.and_self]
    go_enter Tryz.func120, Tryz.ntmps120
    go_upto_region 1 with (fail)
    rw [HW0.out]
    have t0_0 := bkC (v := .string a.id) K0.out 0 rfl
    have t0_1 := bkC (v := .string a.holder) K0.out 1 rfl
    have t0_2 := bkC (v := .int .i64 a.low) K0.out 2 rfl
    have t0_3 := bkC (v := .int .i64 a.high) K0.out 3 rfl
    have t0_4 := bkC (v := .int .i64 a.area.west) K0.out 4 rfl
    have t0_5 := bkC (v := .int .i64 a.area.south) K0.out 5 rfl
    have t0_6 := bkC (v := .int .i64 a.area.east) K0.out 6 rfl
    have t0_7 := bkC (v := .int .i64 a.area.north) K0.out 7 rfl
    have t0_8 := bkC (v := .int .i64 a.from_) K0.out 8 rfl
    have t0_9 := bkC (v := .int .i64 a.until_) K0.out 9 rfl
    have t0_10 := bkC (v := .int .i64 a.power) K0.out 10 rfl
    have t1_0 := bkC (v := .string b.id) K1.out 0 rfl
    have t1_1 := bkC (v := .string b.holder) K1.out 1 rfl
    have t1_2 := bkC (v := .int .i64 b.low) K1.out 2 rfl
    have t1_3 := bkC (v := .int .i64 b.high) K1.out 3 rfl
    have t1_4 := bkC (v := .int .i64 b.area.west) K1.out 4 rfl
    have t1_5 := bkC (v := .int .i64 b.area.south) K1.out 5 rfl
    have t1_6 := bkC (v := .int .i64 b.area.east) K1.out 6 rfl
    have t1_7 := bkC (v := .int .i64 b.area.north) K1.out 7 rfl
    have t1_8 := bkC (v := .int .i64 b.from_) K1.out 8 rfl
    have t1_9 := bkC (v := .int .i64 b.until_) K1.out 9 rfl
    have t1_10 := bkC (v := .int .i64 b.power) K1.out 10 rfl
    go_upto_region 2 with (go_at_call 176; with_reducible refine (CM.out _).mono ?_; rintro e w2 ⟨c, rfl, hb2⟩; (try clear t0_0 t0_1 t0_2 t0_3 t0_4 t0_5 t0_6 t0_7 t0_8 t0_9 t0_10 t1_0 t1_1 t1_2 t1_3 t1_4 t1_5 t1_6 t1_7 t1_8 t1_9 t1_10); replace HB := Lib.hid (HB.out.trans (hb2.mono HB.out.size)); clear hb2; obtain ⟨t0_0, t0_1, t0_2, t0_3, t0_4, t0_5, t0_6, t0_7, t0_8, t0_9, t0_10, t1_0, t1_1, t1_2, t1_3, t1_4, t1_5, t1_6, t1_7, t1_8, t1_9, t1_10⟩ := HD.out _ HB.out)
    have HX : Hid (Below W0.heap.size W0 (w2.alloc (.cells #[.int .i64 c.west, .int .i64 c.south, .int .i64 c.east, .int .i64 c.north] 70))) := HB.out.alloc HB.out.size _
    generalize (w2.alloc (.cells #[.int .i64 c.west, .int .i64 c.south, .int .i64 c.east, .int .i64 c.north] 70)) = w3 at *
    clear t0_0 t0_1 t0_2 t0_3 t0_4 t0_5 t0_6 t0_7 t0_8 t0_9 t0_10 t1_0 t1_1 t1_2 t1_3 t1_4 t1_5 t1_6 t1_7 t1_8 t1_9 t1_10
    replace HB := Lib.hid HX.out
    clear HX
    obtain ⟨t0_0, t0_1, t0_2, t0_3, t0_4, t0_5, t0_6, t0_7, t0_8, t0_9, t0_10, t1_0, t1_1, t1_2, t1_3, t1_4, t1_5, t1_6, t1_7, t1_8, t1_9, t1_10⟩ := HD.out _ HB.out
    go_wp2_with (first | (go_at_call 117; with_reducible refine (C0.out _).mono ?_; rintro e w2 ⟨rfl, hb2⟩; (try clear t0_0 t0_1 t0_2 t0_3 t0_4 t0_5 t0_6 t0_7 t0_8 t0_9 t0_10 t1_0 t1_1 t1_2 t1_3 t1_4 t1_5 t1_6 t1_7 t1_8 t1_9 t1_10); replace HB := Lib.hid (HB.out.trans (hb2.mono HB.out.size)); clear hb2; obtain ⟨t0_0, t0_1, t0_2, t0_3, t0_4, t0_5, t0_6, t0_7, t0_8, t0_9, t0_10, t1_0, t1_1, t1_2, t1_3, t1_4, t1_5, t1_6, t1_7, t1_8, t1_9, t1_10⟩ := HD.out _ HB.out) | (go_at_call 117; with_reducible refine (C1.out _).mono ?_; rintro e w2 ⟨rfl, hb2⟩; (try clear t0_0 t0_1 t0_2 t0_3 t0_4 t0_5 t0_6 t0_7 t0_8 t0_9 t0_10 t1_0 t1_1 t1_2 t1_3 t1_4 t1_5 t1_6 t1_7 t1_8 t1_9 t1_10); replace HB := Lib.hid (HB.out.trans (hb2.mono HB.out.size)); clear hb2; obtain ⟨t0_0, t0_1, t0_2, t0_3, t0_4, t0_5, t0_6, t0_7, t0_8, t0_9, t0_10, t1_0, t1_1, t1_2, t1_3, t1_4, t1_5, t1_6, t1_7, t1_8, t1_9, t1_10⟩ := HD.out _ HB.out))
    go_ret
    exact ⟨by rw [HE.out]; rfl, B0.out.trans (HB.out.mono (by omega))⟩
  rw [h1] at C1
  by_cases h2 : meetB a.area b.area = true
  case neg =>
    replace h2 : meetB a.area b.area = false := Bool.eq_false_iff.2 h2
    rw [h2] at CM
    have HE : Hid (clashF a b = false) := by show _ = _; unfold clashF; simp only [h0, h1, h2, Bool.and_false, Bool.false_and, Bool.and_true, Bool.true_and, Bool.and_self]
    go_enter Tryz.func120, Tryz.ntmps120
    go_upto_region 1 with (fail)
    rw [HW0.out]
    have t0_0 := bkC (v := .string a.id) K0.out 0 rfl
    have t0_1 := bkC (v := .string a.holder) K0.out 1 rfl
    have t0_2 := bkC (v := .int .i64 a.low) K0.out 2 rfl
    have t0_3 := bkC (v := .int .i64 a.high) K0.out 3 rfl
    have t0_4 := bkC (v := .int .i64 a.area.west) K0.out 4 rfl
    have t0_5 := bkC (v := .int .i64 a.area.south) K0.out 5 rfl
    have t0_6 := bkC (v := .int .i64 a.area.east) K0.out 6 rfl
    have t0_7 := bkC (v := .int .i64 a.area.north) K0.out 7 rfl
    have t0_8 := bkC (v := .int .i64 a.from_) K0.out 8 rfl
    have t0_9 := bkC (v := .int .i64 a.until_) K0.out 9 rfl
    have t0_10 := bkC (v := .int .i64 a.power) K0.out 10 rfl
    have t1_0 := bkC (v := .string b.id) K1.out 0 rfl
    have t1_1 := bkC (v := .string b.holder) K1.out 1 rfl
    have t1_2 := bkC (v := .int .i64 b.low) K1.out 2 rfl
    have t1_3 := bkC (v := .int .i64 b.high) K1.out 3 rfl
    have t1_4 := bkC (v := .int .i64 b.area.west) K1.out 4 rfl
    have t1_5 := bkC (v := .int .i64 b.area.south) K1.out 5 rfl
    have t1_6 := bkC (v := .int .i64 b.area.east) K1.out 6 rfl
    have t1_7 := bkC (v := .int .i64 b.area.north) K1.out 7 rfl
    have t1_8 := bkC (v := .int .i64 b.from_) K1.out 8 rfl
    have t1_9 := bkC (v := .int .i64 b.until_) K1.out 9 rfl
    have t1_10 := bkC (v := .int .i64 b.power) K1.out 10 rfl
    go_upto_region 2 with (go_at_call 176; with_reducible refine (CM.out _).mono ?_; rintro e w2 ⟨c, rfl, hb2⟩; (try clear t0_0 t0_1 t0_2 t0_3 t0_4 t0_5 t0_6 t0_7 t0_8 t0_9 t0_10 t1_0 t1_1 t1_2 t1_3 t1_4 t1_5 t1_6 t1_7 t1_8 t1_9 t1_10); replace HB := Lib.hid (HB.out.trans (hb2.mono HB.out.size)); clear hb2; obtain ⟨t0_0, t0_1, t0_2, t0_3, t0_4, t0_5, t0_6, t0_7, t0_8, t0_9, t0_10, t1_0, t1_1, t1_2, t1_3, t1_4, t1_5, t1_6, t1_7, t1_8, t1_9, t1_10⟩ := HD.out _ HB.out)
    have HX : Hid (Below W0.heap.size W0 (w2.alloc (.cells #[.int .i64 c.west, .int .i64 c.south, .int .i64 c.east, .int .i64 c.north] 70))) := HB.out.alloc HB.out.size _
    generalize (w2.alloc (.cells #[.int .i64 c.west, .int .i64 c.south, .int .i64 c.east, .int .i64 c.north] 70)) = w3 at *
    clear t0_0 t0_1 t0_2 t0_3 t0_4 t0_5 t0_6 t0_7 t0_8 t0_9 t0_10 t1_0 t1_1 t1_2 t1_3 t1_4 t1_5 t1_6 t1_7 t1_8 t1_9 t1_10
    replace HB := Lib.hid HX.out
    clear HX
    obtain ⟨t0_0, t0_1, t0_2, t0_3, t0_4, t0_5, t0_6, t0_7, t0_8, t0_9, t0_10, t1_0, t1_1, t1_2, t1_3, t1_4, t1_5, t1_6, t1_7, t1_8, t1_9, t1_10⟩ := HD.out _ HB.out
    go_wp2_with (first | (go_at_call 117; with_reducible refine (C0.out _).mono ?_; rintro e w2 ⟨rfl, hb2⟩; (try clear t0_0 t0_1 t0_2 t0_3 t0_4 t0_5 t0_6 t0_7 t0_8 t0_9 t0_10 t1_0 t1_1 t1_2 t1_3 t1_4 t1_5 t1_6 t1_7 t1_8 t1_9 t1_10); replace HB := Lib.hid (HB.out.trans (hb2.mono HB.out.size)); clear hb2; obtain ⟨t0_0, t0_1, t0_2, t0_3, t0_4, t0_5, t0_6, t0_7, t0_8, t0_9, t0_10, t1_0, t1_1, t1_2, t1_3, t1_4, t1_5, t1_6, t1_7, t1_8, t1_9, t1_10⟩ := HD.out _ HB.out) | (go_at_call 117; with_reducible refine (C1.out _).mono ?_; rintro e w2 ⟨rfl, hb2⟩; (try clear t0_0 t0_1 t0_2 t0_3 t0_4 t0_5 t0_6 t0_7 t0_8 t0_9 t0_10 t1_0 t1_1 t1_2 t1_3 t1_4 t1_5 t1_6 t1_7 t1_8 t1_9 t1_10); replace HB := Lib.hid (HB.out.trans (hb2.mono HB.out.size)); clear hb2; obtain ⟨t0_0, t0_1, t0_2, t0_3, t0_4, t0_5, t0_6, t0_7, t0_8, t0_9, t0_10, t1_0, t1_1, t1_2, t1_3, t1_4, t1_5, t1_6, t1_7, t1_8, t1_9, t1_10⟩ := HD.out _ HB.out))
    go_ret
    exact ⟨by rw [HE.out]; rfl, B0.out.trans (HB.out.mono (by omega))⟩
  rw [h2] at CM
  by_cases h3 : a.from_ ≤ b.until_
  case neg =>
    have hd3 : decide (a.from_ ≤ b.until_) = false := decide_eq_false h3
    replace h3 : b.until_ < a.from_ := by omega
    have HE : Hid (clashF a b = false) := by show _ = _; unfold clashF; simp only [h0, h1, h2, hd3, Bool.and_false, Bool.false_and, Bool.and_true, Bool.true_and, Bool.and_self]
    go_enter Tryz.func120, Tryz.ntmps120
    go_upto_region 1 with (fail)
    rw [HW0.out]
    have t0_0 := bkC (v := .string a.id) K0.out 0 rfl
    have t0_1 := bkC (v := .string a.holder) K0.out 1 rfl
    have t0_2 := bkC (v := .int .i64 a.low) K0.out 2 rfl
    have t0_3 := bkC (v := .int .i64 a.high) K0.out 3 rfl
    have t0_4 := bkC (v := .int .i64 a.area.west) K0.out 4 rfl
    have t0_5 := bkC (v := .int .i64 a.area.south) K0.out 5 rfl
    have t0_6 := bkC (v := .int .i64 a.area.east) K0.out 6 rfl
    have t0_7 := bkC (v := .int .i64 a.area.north) K0.out 7 rfl
    have t0_8 := bkC (v := .int .i64 a.from_) K0.out 8 rfl
    have t0_9 := bkC (v := .int .i64 a.until_) K0.out 9 rfl
    have t0_10 := bkC (v := .int .i64 a.power) K0.out 10 rfl
    have t1_0 := bkC (v := .string b.id) K1.out 0 rfl
    have t1_1 := bkC (v := .string b.holder) K1.out 1 rfl
    have t1_2 := bkC (v := .int .i64 b.low) K1.out 2 rfl
    have t1_3 := bkC (v := .int .i64 b.high) K1.out 3 rfl
    have t1_4 := bkC (v := .int .i64 b.area.west) K1.out 4 rfl
    have t1_5 := bkC (v := .int .i64 b.area.south) K1.out 5 rfl
    have t1_6 := bkC (v := .int .i64 b.area.east) K1.out 6 rfl
    have t1_7 := bkC (v := .int .i64 b.area.north) K1.out 7 rfl
    have t1_8 := bkC (v := .int .i64 b.from_) K1.out 8 rfl
    have t1_9 := bkC (v := .int .i64 b.until_) K1.out 9 rfl
    have t1_10 := bkC (v := .int .i64 b.power) K1.out 10 rfl
    go_upto_region 2 with (go_at_call 176; with_reducible refine (CM.out _).mono ?_; rintro e w2 ⟨c, rfl, hb2⟩; (try clear t0_0 t0_1 t0_2 t0_3 t0_4 t0_5 t0_6 t0_7 t0_8 t0_9 t0_10 t1_0 t1_1 t1_2 t1_3 t1_4 t1_5 t1_6 t1_7 t1_8 t1_9 t1_10); replace HB := Lib.hid (HB.out.trans (hb2.mono HB.out.size)); clear hb2; obtain ⟨t0_0, t0_1, t0_2, t0_3, t0_4, t0_5, t0_6, t0_7, t0_8, t0_9, t0_10, t1_0, t1_1, t1_2, t1_3, t1_4, t1_5, t1_6, t1_7, t1_8, t1_9, t1_10⟩ := HD.out _ HB.out)
    have HX : Hid (Below W0.heap.size W0 (w2.alloc (.cells #[.int .i64 c.west, .int .i64 c.south, .int .i64 c.east, .int .i64 c.north] 70))) := HB.out.alloc HB.out.size _
    generalize (w2.alloc (.cells #[.int .i64 c.west, .int .i64 c.south, .int .i64 c.east, .int .i64 c.north] 70)) = w3 at *
    clear t0_0 t0_1 t0_2 t0_3 t0_4 t0_5 t0_6 t0_7 t0_8 t0_9 t0_10 t1_0 t1_1 t1_2 t1_3 t1_4 t1_5 t1_6 t1_7 t1_8 t1_9 t1_10
    replace HB := Lib.hid HX.out
    clear HX
    obtain ⟨t0_0, t0_1, t0_2, t0_3, t0_4, t0_5, t0_6, t0_7, t0_8, t0_9, t0_10, t1_0, t1_1, t1_2, t1_3, t1_4, t1_5, t1_6, t1_7, t1_8, t1_9, t1_10⟩ := HD.out _ HB.out
    go_wp2_with (first | (go_at_call 117; with_reducible refine (C0.out _).mono ?_; rintro e w2 ⟨rfl, hb2⟩; (try clear t0_0 t0_1 t0_2 t0_3 t0_4 t0_5 t0_6 t0_7 t0_8 t0_9 t0_10 t1_0 t1_1 t1_2 t1_3 t1_4 t1_5 t1_6 t1_7 t1_8 t1_9 t1_10); replace HB := Lib.hid (HB.out.trans (hb2.mono HB.out.size)); clear hb2; obtain ⟨t0_0, t0_1, t0_2, t0_3, t0_4, t0_5, t0_6, t0_7, t0_8, t0_9, t0_10, t1_0, t1_1, t1_2, t1_3, t1_4, t1_5, t1_6, t1_7, t1_8, t1_9, t1_10⟩ := HD.out _ HB.out) | (go_at_call 117; with_reducible refine (C1.out _).mono ?_; rintro e w2 ⟨rfl, hb2⟩; (try clear t0_0 t0_1 t0_2 t0_3 t0_4 t0_5 t0_6 t0_7 t0_8 t0_9 t0_10 t1_0 t1_1 t1_2 t1_3 t1_4 t1_5 t1_6 t1_7 t1_8 t1_9 t1_10); replace HB := Lib.hid (HB.out.trans (hb2.mono HB.out.size)); clear hb2; obtain ⟨t0_0, t0_1, t0_2, t0_3, t0_4, t0_5, t0_6, t0_7, t0_8, t0_9, t0_10, t1_0, t1_1, t1_2, t1_3, t1_4, t1_5, t1_6, t1_7, t1_8, t1_9, t1_10⟩ := HD.out _ HB.out))
    go_ret
    exact ⟨by rw [HE.out]; rfl, B0.out.trans (HB.out.mono (by omega))⟩
  have hd3 : decide (a.from_ ≤ b.until_) = true := decide_eq_true h3
  by_cases h4 : b.from_ ≤ a.until_
  case neg =>
    have hd4 : decide (b.from_ ≤ a.until_) = false := decide_eq_false h4
    replace h4 : a.until_ < b.from_ := by omega
    have HE : Hid (clashF a b = false) := by show _ = _; unfold clashF; simp only [h0, h1, h2, hd3, hd4, Bool.and_false, Bool.false_and, Bool.and_true, Bool.true_and, Bool.and_self]
    go_enter Tryz.func120, Tryz.ntmps120
    go_upto_region 1 with (fail)
    rw [HW0.out]
    have t0_0 := bkC (v := .string a.id) K0.out 0 rfl
    have t0_1 := bkC (v := .string a.holder) K0.out 1 rfl
    have t0_2 := bkC (v := .int .i64 a.low) K0.out 2 rfl
    have t0_3 := bkC (v := .int .i64 a.high) K0.out 3 rfl
    have t0_4 := bkC (v := .int .i64 a.area.west) K0.out 4 rfl
    have t0_5 := bkC (v := .int .i64 a.area.south) K0.out 5 rfl
    have t0_6 := bkC (v := .int .i64 a.area.east) K0.out 6 rfl
    have t0_7 := bkC (v := .int .i64 a.area.north) K0.out 7 rfl
    have t0_8 := bkC (v := .int .i64 a.from_) K0.out 8 rfl
    have t0_9 := bkC (v := .int .i64 a.until_) K0.out 9 rfl
    have t0_10 := bkC (v := .int .i64 a.power) K0.out 10 rfl
    have t1_0 := bkC (v := .string b.id) K1.out 0 rfl
    have t1_1 := bkC (v := .string b.holder) K1.out 1 rfl
    have t1_2 := bkC (v := .int .i64 b.low) K1.out 2 rfl
    have t1_3 := bkC (v := .int .i64 b.high) K1.out 3 rfl
    have t1_4 := bkC (v := .int .i64 b.area.west) K1.out 4 rfl
    have t1_5 := bkC (v := .int .i64 b.area.south) K1.out 5 rfl
    have t1_6 := bkC (v := .int .i64 b.area.east) K1.out 6 rfl
    have t1_7 := bkC (v := .int .i64 b.area.north) K1.out 7 rfl
    have t1_8 := bkC (v := .int .i64 b.from_) K1.out 8 rfl
    have t1_9 := bkC (v := .int .i64 b.until_) K1.out 9 rfl
    have t1_10 := bkC (v := .int .i64 b.power) K1.out 10 rfl
    go_upto_region 2 with (go_at_call 176; with_reducible refine (CM.out _).mono ?_; rintro e w2 ⟨c, rfl, hb2⟩; (try clear t0_0 t0_1 t0_2 t0_3 t0_4 t0_5 t0_6 t0_7 t0_8 t0_9 t0_10 t1_0 t1_1 t1_2 t1_3 t1_4 t1_5 t1_6 t1_7 t1_8 t1_9 t1_10); replace HB := Lib.hid (HB.out.trans (hb2.mono HB.out.size)); clear hb2; obtain ⟨t0_0, t0_1, t0_2, t0_3, t0_4, t0_5, t0_6, t0_7, t0_8, t0_9, t0_10, t1_0, t1_1, t1_2, t1_3, t1_4, t1_5, t1_6, t1_7, t1_8, t1_9, t1_10⟩ := HD.out _ HB.out)
    have HX : Hid (Below W0.heap.size W0 (w2.alloc (.cells #[.int .i64 c.west, .int .i64 c.south, .int .i64 c.east, .int .i64 c.north] 70))) := HB.out.alloc HB.out.size _
    generalize (w2.alloc (.cells #[.int .i64 c.west, .int .i64 c.south, .int .i64 c.east, .int .i64 c.north] 70)) = w3 at *
    clear t0_0 t0_1 t0_2 t0_3 t0_4 t0_5 t0_6 t0_7 t0_8 t0_9 t0_10 t1_0 t1_1 t1_2 t1_3 t1_4 t1_5 t1_6 t1_7 t1_8 t1_9 t1_10
    replace HB := Lib.hid HX.out
    clear HX
    obtain ⟨t0_0, t0_1, t0_2, t0_3, t0_4, t0_5, t0_6, t0_7, t0_8, t0_9, t0_10, t1_0, t1_1, t1_2, t1_3, t1_4, t1_5, t1_6, t1_7, t1_8, t1_9, t1_10⟩ := HD.out _ HB.out
    go_wp2_with (first | (go_at_call 117; with_reducible refine (C0.out _).mono ?_; rintro e w2 ⟨rfl, hb2⟩; (try clear t0_0 t0_1 t0_2 t0_3 t0_4 t0_5 t0_6 t0_7 t0_8 t0_9 t0_10 t1_0 t1_1 t1_2 t1_3 t1_4 t1_5 t1_6 t1_7 t1_8 t1_9 t1_10); replace HB := Lib.hid (HB.out.trans (hb2.mono HB.out.size)); clear hb2; obtain ⟨t0_0, t0_1, t0_2, t0_3, t0_4, t0_5, t0_6, t0_7, t0_8, t0_9, t0_10, t1_0, t1_1, t1_2, t1_3, t1_4, t1_5, t1_6, t1_7, t1_8, t1_9, t1_10⟩ := HD.out _ HB.out) | (go_at_call 117; with_reducible refine (C1.out _).mono ?_; rintro e w2 ⟨rfl, hb2⟩; (try clear t0_0 t0_1 t0_2 t0_3 t0_4 t0_5 t0_6 t0_7 t0_8 t0_9 t0_10 t1_0 t1_1 t1_2 t1_3 t1_4 t1_5 t1_6 t1_7 t1_8 t1_9 t1_10); replace HB := Lib.hid (HB.out.trans (hb2.mono HB.out.size)); clear hb2; obtain ⟨t0_0, t0_1, t0_2, t0_3, t0_4, t0_5, t0_6, t0_7, t0_8, t0_9, t0_10, t1_0, t1_1, t1_2, t1_3, t1_4, t1_5, t1_6, t1_7, t1_8, t1_9, t1_10⟩ := HD.out _ HB.out))
    go_ret
    exact ⟨by rw [HE.out]; rfl, B0.out.trans (HB.out.mono (by omega))⟩
  have hd4 : decide (b.from_ ≤ a.until_) = true := decide_eq_true h4
  by_cases h5 : a.low < b.high
  case neg =>
    have hd5 : decide (a.low < b.high) = false := decide_eq_false h5
    replace h5 : b.high ≤ a.low := by omega
    have HE : Hid (clashF a b = false) := by show _ = _; unfold clashF; simp only [h0, h1, h2, hd3, hd4, hd5, Bool.and_false, Bool.false_and, Bool.and_true, Bool.true_and, Bool.and_self]
    go_enter Tryz.func120, Tryz.ntmps120
    go_upto_region 1 with (fail)
    rw [HW0.out]
    have t0_0 := bkC (v := .string a.id) K0.out 0 rfl
    have t0_1 := bkC (v := .string a.holder) K0.out 1 rfl
    have t0_2 := bkC (v := .int .i64 a.low) K0.out 2 rfl
    have t0_3 := bkC (v := .int .i64 a.high) K0.out 3 rfl
    have t0_4 := bkC (v := .int .i64 a.area.west) K0.out 4 rfl
    have t0_5 := bkC (v := .int .i64 a.area.south) K0.out 5 rfl
    have t0_6 := bkC (v := .int .i64 a.area.east) K0.out 6 rfl
    have t0_7 := bkC (v := .int .i64 a.area.north) K0.out 7 rfl
    have t0_8 := bkC (v := .int .i64 a.from_) K0.out 8 rfl
    have t0_9 := bkC (v := .int .i64 a.until_) K0.out 9 rfl
    have t0_10 := bkC (v := .int .i64 a.power) K0.out 10 rfl
    have t1_0 := bkC (v := .string b.id) K1.out 0 rfl
    have t1_1 := bkC (v := .string b.holder) K1.out 1 rfl
    have t1_2 := bkC (v := .int .i64 b.low) K1.out 2 rfl
    have t1_3 := bkC (v := .int .i64 b.high) K1.out 3 rfl
    have t1_4 := bkC (v := .int .i64 b.area.west) K1.out 4 rfl
    have t1_5 := bkC (v := .int .i64 b.area.south) K1.out 5 rfl
    have t1_6 := bkC (v := .int .i64 b.area.east) K1.out 6 rfl
    have t1_7 := bkC (v := .int .i64 b.area.north) K1.out 7 rfl
    have t1_8 := bkC (v := .int .i64 b.from_) K1.out 8 rfl
    have t1_9 := bkC (v := .int .i64 b.until_) K1.out 9 rfl
    have t1_10 := bkC (v := .int .i64 b.power) K1.out 10 rfl
    go_upto_region 2 with (go_at_call 176; with_reducible refine (CM.out _).mono ?_; rintro e w2 ⟨c, rfl, hb2⟩; (try clear t0_0 t0_1 t0_2 t0_3 t0_4 t0_5 t0_6 t0_7 t0_8 t0_9 t0_10 t1_0 t1_1 t1_2 t1_3 t1_4 t1_5 t1_6 t1_7 t1_8 t1_9 t1_10); replace HB := Lib.hid (HB.out.trans (hb2.mono HB.out.size)); clear hb2; obtain ⟨t0_0, t0_1, t0_2, t0_3, t0_4, t0_5, t0_6, t0_7, t0_8, t0_9, t0_10, t1_0, t1_1, t1_2, t1_3, t1_4, t1_5, t1_6, t1_7, t1_8, t1_9, t1_10⟩ := HD.out _ HB.out)
    have HX : Hid (Below W0.heap.size W0 (w2.alloc (.cells #[.int .i64 c.west, .int .i64 c.south, .int .i64 c.east, .int .i64 c.north] 70))) := HB.out.alloc HB.out.size _
    generalize (w2.alloc (.cells #[.int .i64 c.west, .int .i64 c.south, .int .i64 c.east, .int .i64 c.north] 70)) = w3 at *
    clear t0_0 t0_1 t0_2 t0_3 t0_4 t0_5 t0_6 t0_7 t0_8 t0_9 t0_10 t1_0 t1_1 t1_2 t1_3 t1_4 t1_5 t1_6 t1_7 t1_8 t1_9 t1_10
    replace HB := Lib.hid HX.out
    clear HX
    obtain ⟨t0_0, t0_1, t0_2, t0_3, t0_4, t0_5, t0_6, t0_7, t0_8, t0_9, t0_10, t1_0, t1_1, t1_2, t1_3, t1_4, t1_5, t1_6, t1_7, t1_8, t1_9, t1_10⟩ := HD.out _ HB.out
    go_wp2_with (first | (go_at_call 117; with_reducible refine (C0.out _).mono ?_; rintro e w2 ⟨rfl, hb2⟩; (try clear t0_0 t0_1 t0_2 t0_3 t0_4 t0_5 t0_6 t0_7 t0_8 t0_9 t0_10 t1_0 t1_1 t1_2 t1_3 t1_4 t1_5 t1_6 t1_7 t1_8 t1_9 t1_10); replace HB := Lib.hid (HB.out.trans (hb2.mono HB.out.size)); clear hb2; obtain ⟨t0_0, t0_1, t0_2, t0_3, t0_4, t0_5, t0_6, t0_7, t0_8, t0_9, t0_10, t1_0, t1_1, t1_2, t1_3, t1_4, t1_5, t1_6, t1_7, t1_8, t1_9, t1_10⟩ := HD.out _ HB.out) | (go_at_call 117; with_reducible refine (C1.out _).mono ?_; rintro e w2 ⟨rfl, hb2⟩; (try clear t0_0 t0_1 t0_2 t0_3 t0_4 t0_5 t0_6 t0_7 t0_8 t0_9 t0_10 t1_0 t1_1 t1_2 t1_3 t1_4 t1_5 t1_6 t1_7 t1_8 t1_9 t1_10); replace HB := Lib.hid (HB.out.trans (hb2.mono HB.out.size)); clear hb2; obtain ⟨t0_0, t0_1, t0_2, t0_3, t0_4, t0_5, t0_6, t0_7, t0_8, t0_9, t0_10, t1_0, t1_1, t1_2, t1_3, t1_4, t1_5, t1_6, t1_7, t1_8, t1_9, t1_10⟩ := HD.out _ HB.out))
    go_ret
    exact ⟨by rw [HE.out]; rfl, B0.out.trans (HB.out.mono (by omega))⟩
  have hd5 : decide (a.low < b.high) = true := decide_eq_true h5
  by_cases h6 : b.low < a.high
  case neg =>
    have hd6 : decide (b.low < a.high) = false := decide_eq_false h6
    replace h6 : a.high ≤ b.low := by omega
    have HE : Hid (clashF a b = false) := by show _ = _; unfold clashF; simp only [h0, h1, h2, hd3, hd4, hd5, hd6, Bool.and_false, Bool.false_and, Bool.and_true, Bool.true_and, Bool.and_self]
    go_enter Tryz.func120, Tryz.ntmps120
    go_upto_region 1 with (fail)
    rw [HW0.out]
    have t0_0 := bkC (v := .string a.id) K0.out 0 rfl
    have t0_1 := bkC (v := .string a.holder) K0.out 1 rfl
    have t0_2 := bkC (v := .int .i64 a.low) K0.out 2 rfl
    have t0_3 := bkC (v := .int .i64 a.high) K0.out 3 rfl
    have t0_4 := bkC (v := .int .i64 a.area.west) K0.out 4 rfl
    have t0_5 := bkC (v := .int .i64 a.area.south) K0.out 5 rfl
    have t0_6 := bkC (v := .int .i64 a.area.east) K0.out 6 rfl
    have t0_7 := bkC (v := .int .i64 a.area.north) K0.out 7 rfl
    have t0_8 := bkC (v := .int .i64 a.from_) K0.out 8 rfl
    have t0_9 := bkC (v := .int .i64 a.until_) K0.out 9 rfl
    have t0_10 := bkC (v := .int .i64 a.power) K0.out 10 rfl
    have t1_0 := bkC (v := .string b.id) K1.out 0 rfl
    have t1_1 := bkC (v := .string b.holder) K1.out 1 rfl
    have t1_2 := bkC (v := .int .i64 b.low) K1.out 2 rfl
    have t1_3 := bkC (v := .int .i64 b.high) K1.out 3 rfl
    have t1_4 := bkC (v := .int .i64 b.area.west) K1.out 4 rfl
    have t1_5 := bkC (v := .int .i64 b.area.south) K1.out 5 rfl
    have t1_6 := bkC (v := .int .i64 b.area.east) K1.out 6 rfl
    have t1_7 := bkC (v := .int .i64 b.area.north) K1.out 7 rfl
    have t1_8 := bkC (v := .int .i64 b.from_) K1.out 8 rfl
    have t1_9 := bkC (v := .int .i64 b.until_) K1.out 9 rfl
    have t1_10 := bkC (v := .int .i64 b.power) K1.out 10 rfl
    go_upto_region 2 with (go_at_call 176; with_reducible refine (CM.out _).mono ?_; rintro e w2 ⟨c, rfl, hb2⟩; (try clear t0_0 t0_1 t0_2 t0_3 t0_4 t0_5 t0_6 t0_7 t0_8 t0_9 t0_10 t1_0 t1_1 t1_2 t1_3 t1_4 t1_5 t1_6 t1_7 t1_8 t1_9 t1_10); replace HB := Lib.hid (HB.out.trans (hb2.mono HB.out.size)); clear hb2; obtain ⟨t0_0, t0_1, t0_2, t0_3, t0_4, t0_5, t0_6, t0_7, t0_8, t0_9, t0_10, t1_0, t1_1, t1_2, t1_3, t1_4, t1_5, t1_6, t1_7, t1_8, t1_9, t1_10⟩ := HD.out _ HB.out)
    have HX : Hid (Below W0.heap.size W0 (w2.alloc (.cells #[.int .i64 c.west, .int .i64 c.south, .int .i64 c.east, .int .i64 c.north] 70))) := HB.out.alloc HB.out.size _
    generalize (w2.alloc (.cells #[.int .i64 c.west, .int .i64 c.south, .int .i64 c.east, .int .i64 c.north] 70)) = w3 at *
    clear t0_0 t0_1 t0_2 t0_3 t0_4 t0_5 t0_6 t0_7 t0_8 t0_9 t0_10 t1_0 t1_1 t1_2 t1_3 t1_4 t1_5 t1_6 t1_7 t1_8 t1_9 t1_10
    replace HB := Lib.hid HX.out
    clear HX
    obtain ⟨t0_0, t0_1, t0_2, t0_3, t0_4, t0_5, t0_6, t0_7, t0_8, t0_9, t0_10, t1_0, t1_1, t1_2, t1_3, t1_4, t1_5, t1_6, t1_7, t1_8, t1_9, t1_10⟩ := HD.out _ HB.out
    go_wp2_with (first | (go_at_call 117; with_reducible refine (C0.out _).mono ?_; rintro e w2 ⟨rfl, hb2⟩; (try clear t0_0 t0_1 t0_2 t0_3 t0_4 t0_5 t0_6 t0_7 t0_8 t0_9 t0_10 t1_0 t1_1 t1_2 t1_3 t1_4 t1_5 t1_6 t1_7 t1_8 t1_9 t1_10); replace HB := Lib.hid (HB.out.trans (hb2.mono HB.out.size)); clear hb2; obtain ⟨t0_0, t0_1, t0_2, t0_3, t0_4, t0_5, t0_6, t0_7, t0_8, t0_9, t0_10, t1_0, t1_1, t1_2, t1_3, t1_4, t1_5, t1_6, t1_7, t1_8, t1_9, t1_10⟩ := HD.out _ HB.out) | (go_at_call 117; with_reducible refine (C1.out _).mono ?_; rintro e w2 ⟨rfl, hb2⟩; (try clear t0_0 t0_1 t0_2 t0_3 t0_4 t0_5 t0_6 t0_7 t0_8 t0_9 t0_10 t1_0 t1_1 t1_2 t1_3 t1_4 t1_5 t1_6 t1_7 t1_8 t1_9 t1_10); replace HB := Lib.hid (HB.out.trans (hb2.mono HB.out.size)); clear hb2; obtain ⟨t0_0, t0_1, t0_2, t0_3, t0_4, t0_5, t0_6, t0_7, t0_8, t0_9, t0_10, t1_0, t1_1, t1_2, t1_3, t1_4, t1_5, t1_6, t1_7, t1_8, t1_9, t1_10⟩ := HD.out _ HB.out))
    go_ret
    exact ⟨by rw [HE.out]; rfl, B0.out.trans (HB.out.mono (by omega))⟩
  have hd6 : decide (b.low < a.high) = true := decide_eq_true h6
  have HE : Hid (clashF a b = true) := by show _ = _; unfold clashF; simp only [h0, h1, h2, hd3, hd4, hd5, hd6, Bool.and_false, Bool.false_and, Bool.and_true, Bool.true_and, Bool.and_self]
  go_enter Tryz.func120, Tryz.ntmps120
  go_upto_region 1 with (fail)
  rw [HW0.out]
  have t0_0 := bkC (v := .string a.id) K0.out 0 rfl
  have t0_1 := bkC (v := .string a.holder) K0.out 1 rfl
  have t0_2 := bkC (v := .int .i64 a.low) K0.out 2 rfl
  have t0_3 := bkC (v := .int .i64 a.high) K0.out 3 rfl
  have t0_4 := bkC (v := .int .i64 a.area.west) K0.out 4 rfl
  have t0_5 := bkC (v := .int .i64 a.area.south) K0.out 5 rfl
  have t0_6 := bkC (v := .int .i64 a.area.east) K0.out 6 rfl
  have t0_7 := bkC (v := .int .i64 a.area.north) K0.out 7 rfl
  have t0_8 := bkC (v := .int .i64 a.from_) K0.out 8 rfl
  have t0_9 := bkC (v := .int .i64 a.until_) K0.out 9 rfl
  have t0_10 := bkC (v := .int .i64 a.power) K0.out 10 rfl
  have t1_0 := bkC (v := .string b.id) K1.out 0 rfl
  have t1_1 := bkC (v := .string b.holder) K1.out 1 rfl
  have t1_2 := bkC (v := .int .i64 b.low) K1.out 2 rfl
  have t1_3 := bkC (v := .int .i64 b.high) K1.out 3 rfl
  have t1_4 := bkC (v := .int .i64 b.area.west) K1.out 4 rfl
  have t1_5 := bkC (v := .int .i64 b.area.south) K1.out 5 rfl
  have t1_6 := bkC (v := .int .i64 b.area.east) K1.out 6 rfl
  have t1_7 := bkC (v := .int .i64 b.area.north) K1.out 7 rfl
  have t1_8 := bkC (v := .int .i64 b.from_) K1.out 8 rfl
  have t1_9 := bkC (v := .int .i64 b.until_) K1.out 9 rfl
  have t1_10 := bkC (v := .int .i64 b.power) K1.out 10 rfl
  go_upto_region 2 with (go_at_call 176; with_reducible refine (CM.out _).mono ?_; rintro e w2 ⟨c, rfl, hb2⟩; (try clear t0_0 t0_1 t0_2 t0_3 t0_4 t0_5 t0_6 t0_7 t0_8 t0_9 t0_10 t1_0 t1_1 t1_2 t1_3 t1_4 t1_5 t1_6 t1_7 t1_8 t1_9 t1_10); replace HB := Lib.hid (HB.out.trans (hb2.mono HB.out.size)); clear hb2; obtain ⟨t0_0, t0_1, t0_2, t0_3, t0_4, t0_5, t0_6, t0_7, t0_8, t0_9, t0_10, t1_0, t1_1, t1_2, t1_3, t1_4, t1_5, t1_6, t1_7, t1_8, t1_9, t1_10⟩ := HD.out _ HB.out)
  have HX : Hid (Below W0.heap.size W0 (w2.alloc (.cells #[.int .i64 c.west, .int .i64 c.south, .int .i64 c.east, .int .i64 c.north] 70))) := HB.out.alloc HB.out.size _
  generalize (w2.alloc (.cells #[.int .i64 c.west, .int .i64 c.south, .int .i64 c.east, .int .i64 c.north] 70)) = w3 at *
  clear t0_0 t0_1 t0_2 t0_3 t0_4 t0_5 t0_6 t0_7 t0_8 t0_9 t0_10 t1_0 t1_1 t1_2 t1_3 t1_4 t1_5 t1_6 t1_7 t1_8 t1_9 t1_10
  replace HB := Lib.hid HX.out
  clear HX
  obtain ⟨t0_0, t0_1, t0_2, t0_3, t0_4, t0_5, t0_6, t0_7, t0_8, t0_9, t0_10, t1_0, t1_1, t1_2, t1_3, t1_4, t1_5, t1_6, t1_7, t1_8, t1_9, t1_10⟩ := HD.out _ HB.out
  go_wp2_with (first | (go_at_call 117; with_reducible refine (C0.out _).mono ?_; rintro e w2 ⟨rfl, hb2⟩; (try clear t0_0 t0_1 t0_2 t0_3 t0_4 t0_5 t0_6 t0_7 t0_8 t0_9 t0_10 t1_0 t1_1 t1_2 t1_3 t1_4 t1_5 t1_6 t1_7 t1_8 t1_9 t1_10); replace HB := Lib.hid (HB.out.trans (hb2.mono HB.out.size)); clear hb2; obtain ⟨t0_0, t0_1, t0_2, t0_3, t0_4, t0_5, t0_6, t0_7, t0_8, t0_9, t0_10, t1_0, t1_1, t1_2, t1_3, t1_4, t1_5, t1_6, t1_7, t1_8, t1_9, t1_10⟩ := HD.out _ HB.out) | (go_at_call 117; with_reducible refine (C1.out _).mono ?_; rintro e w2 ⟨rfl, hb2⟩; (try clear t0_0 t0_1 t0_2 t0_3 t0_4 t0_5 t0_6 t0_7 t0_8 t0_9 t0_10 t1_0 t1_1 t1_2 t1_3 t1_4 t1_5 t1_6 t1_7 t1_8 t1_9 t1_10); replace HB := Lib.hid (HB.out.trans (hb2.mono HB.out.size)); clear hb2; obtain ⟨t0_0, t0_1, t0_2, t0_3, t0_4, t0_5, t0_6, t0_7, t0_8, t0_9, t0_10, t1_0, t1_1, t1_2, t1_3, t1_4, t1_5, t1_6, t1_7, t1_8, t1_9, t1_10⟩ := HD.out _ HB.out))
  go_ret
  exact ⟨by rw [HE.out]; rfl, B0.out.trans (HB.out.mono (by omega))⟩
set_option maxHeartbeats 8000000 in
set_option maxRecDepth 100000 in
theorem l26Clash_any (a b : DLicence) (ba oa bb ob : Nat) (w : World) (ac0 : w.cell? ⟨ba, oa, none⟩ = some (.string a.id)) (ac1 : w.cell? ⟨ba, oa + 1, none⟩ = some (.string a.holder)) (ac2 : w.cell? ⟨ba, oa + 2, none⟩ = some (.int .i64 a.low)) (ac3 : w.cell? ⟨ba, oa + 3, none⟩ = some (.int .i64 a.high)) (ac4 : w.cell? ⟨ba, oa + 4, none⟩ = some (.int .i64 a.area.west)) (ac5 : w.cell? ⟨ba, oa + 5, none⟩ = some (.int .i64 a.area.south)) (ac6 : w.cell? ⟨ba, oa + 6, none⟩ = some (.int .i64 a.area.east)) (ac7 : w.cell? ⟨ba, oa + 7, none⟩ = some (.int .i64 a.area.north)) (ac8 : w.cell? ⟨ba, oa + 8, none⟩ = some (.int .i64 a.from_)) (ac9 : w.cell? ⟨ba, oa + 9, none⟩ = some (.int .i64 a.until_)) (ac10 : w.cell? ⟨ba, oa + 10, none⟩ = some (.int .i64 a.power)) (bc0 : w.cell? ⟨bb, ob, none⟩ = some (.string b.id)) (bc1 : w.cell? ⟨bb, ob + 1, none⟩ = some (.string b.holder)) (bc2 : w.cell? ⟨bb, ob + 2, none⟩ = some (.int .i64 b.low)) (bc3 : w.cell? ⟨bb, ob + 3, none⟩ = some (.int .i64 b.high)) (bc4 : w.cell? ⟨bb, ob + 4, none⟩ = some (.int .i64 b.area.west)) (bc5 : w.cell? ⟨bb, ob + 5, none⟩ = some (.int .i64 b.area.south)) (bc6 : w.cell? ⟨bb, ob + 6, none⟩ = some (.int .i64 b.area.east)) (bc7 : w.cell? ⟨bb, ob + 7, none⟩ = some (.int .i64 b.area.north)) (bc8 : w.cell? ⟨bb, ob + 8, none⟩ = some (.int .i64 b.from_)) (bc9 : w.cell? ⟨bb, ob + 9, none⟩ = some (.int .i64 b.until_)) (bc10 : w.cell? ⟨bb, ob + 10, none⟩ = some (.int .i64 b.power)) :
    Calls Tryz.prog 157 #[.pointer (some ⟨ba, oa, none⟩), .pointer (some ⟨bb, ob, none⟩)] w fun e w' => e = .returned (.bool (clashB a b)) ∧ Below w.heap.size w w' := by
  have hba := cell_lt ac0
  have hbb := cell_lt bc0
  dsimp only at hba hbb
  have CM : Hid (∀ W : World, Calls Tryz.prog 203 #[.agg #[.int .i64 a.area.west, .int .i64 a.area.south, .int .i64 a.area.east, .int .i64 a.area.north], .agg #[.int .i64 b.area.west, .int .i64 b.area.south, .int .i64 b.area.east, .int .i64 b.area.north]] W fun e w' => e = .returned (.agg #[.int .i64 (max a.area.west b.area.west), .int .i64 (max a.area.south b.area.south), .int .i64 (min a.area.east b.area.east), .int .i64 (min a.area.north b.area.north)]) ∧ Below W.heap.size W w') := fun W => l26Meet_any a.area b.area W
  have C0 : Hid (∀ W : World, Calls Tryz.prog 201 #[.agg #[.int .i64 (max a.area.west b.area.west), .int .i64 (max a.area.south b.area.south), .int .i64 (min a.area.east b.area.east), .int .i64 (min a.area.north b.area.north)]] W fun e w' => e = .returned (.bool (areaB (meetA a.area b.area))) ∧ Below W.heap.size W w') := fun W => l26Area_any (meetA a.area b.area) W
  by_cases h0 : a.low < b.high
  case neg =>
    have hd0 : decide (a.low < b.high) = false := decide_eq_false h0
    replace h0 : b.high ≤ a.low := by omega
    have HE : Hid (clashB a b = false) := by show _ = _; unfold clashB; simp only [hd0, Bool.and_false, Bool.false_and, Bool.and_true, Bool.true_and, Bool.and_self]
    go_enter Tryz.func157, Tryz.ntmps157
    go_upto_region 1 with (fail)
    have oA := overC (w0 := w) (show ba < w.heap.size by omega)
    have oB := overC (w0 := w) (show bb < w.heap.size by omega)
    refine wp_region_over w.heap.size w (Below.refl _ _) (by kernel_rfl) (by kernel_rfl) ?_
    repeat (go_big_quiet_step (first | (go_at_call 203; exact over_left (Nat.le_refl _) (CM.out _)) | (go_at_call 201; exact over_left (Nat.le_refl _) (C0.out _))))
    refine wpQuiet_nil ?_
    rintro _ ⟨X, rfl⟩
    have BE := Lib.hid (over_below w.heap.size w X)
    clear oA oB
    generalize over w.heap.size w X = W9 at *
    go_wp2
    go_ret
    exact ⟨by rw [HE.out]; rfl, BE.out⟩
  have hd0 : decide (a.low < b.high) = true := decide_eq_true h0
  by_cases h1 : b.low < a.high
  case neg =>
    have hd1 : decide (b.low < a.high) = false := decide_eq_false h1
    replace h1 : a.high ≤ b.low := by omega
    have HE : Hid (clashB a b = false) := by show _ = _; unfold clashB; simp only [hd0, hd1, Bool.and_false, Bool.false_and, Bool.and_true, Bool.true_and, Bool.and_self]
    go_enter Tryz.func157, Tryz.ntmps157
    go_upto_region 1 with (fail)
    have oA := overC (w0 := w) (show ba < w.heap.size by omega)
    have oB := overC (w0 := w) (show bb < w.heap.size by omega)
    refine wp_region_over w.heap.size w (Below.refl _ _) (by kernel_rfl) (by kernel_rfl) ?_
    repeat (go_big_quiet_step (first | (go_at_call 203; exact over_left (Nat.le_refl _) (CM.out _)) | (go_at_call 201; exact over_left (Nat.le_refl _) (C0.out _))))
    refine wpQuiet_nil ?_
    rintro _ ⟨X, rfl⟩
    have BE := Lib.hid (over_below w.heap.size w X)
    clear oA oB
    generalize over w.heap.size w X = W9 at *
    go_wp2
    go_ret
    exact ⟨by rw [HE.out]; rfl, BE.out⟩
  have hd1 : decide (b.low < a.high) = true := decide_eq_true h1
  by_cases h2 : areaB (meetA a.area b.area) = true
  case neg =>
    replace h2 : areaB (meetA a.area b.area) = false := Bool.eq_false_iff.2 h2
    rw [h2] at C0
    have HE : Hid (clashB a b = false) := by show _ = _; unfold clashB; simp only [hd0, hd1, h2, Bool.and_false, Bool.false_and, Bool.and_true, Bool.true_and, Bool.and_self]
    go_enter Tryz.func157, Tryz.ntmps157
    go_upto_region 1 with (fail)
    have oA := overC (w0 := w) (show ba < w.heap.size by omega)
    have oB := overC (w0 := w) (show bb < w.heap.size by omega)
    refine wp_region_over w.heap.size w (Below.refl _ _) (by kernel_rfl) (by kernel_rfl) ?_
    repeat (go_big_quiet_step (first | (go_at_call 203; exact over_left (Nat.le_refl _) (CM.out _)) | (go_at_call 201; exact over_left (Nat.le_refl _) (C0.out _))))
    refine wpQuiet_nil ?_
    rintro _ ⟨X, rfl⟩
    have BE := Lib.hid (over_below w.heap.size w X)
    clear oA oB
    generalize over w.heap.size w X = W9 at *
    go_wp2
    go_ret
    exact ⟨by rw [HE.out]; rfl, BE.out⟩
  rw [h2] at C0
  by_cases h3 : a.from_ ≤ b.until_
  case neg =>
    have hd3 : decide (a.from_ ≤ b.until_) = false := decide_eq_false h3
    replace h3 : b.until_ < a.from_ := by omega
    have HE : Hid (clashB a b = false) := by show _ = _; unfold clashB; simp only [hd0, hd1, h2, hd3, Bool.and_false, Bool.false_and, Bool.and_true, Bool.true_and, Bool.and_self]
    go_enter Tryz.func157, Tryz.ntmps157
    go_upto_region 1 with (fail)
    have oA := overC (w0 := w) (show ba < w.heap.size by omega)
    have oB := overC (w0 := w) (show bb < w.heap.size by omega)
    refine wp_region_over w.heap.size w (Below.refl _ _) (by kernel_rfl) (by kernel_rfl) ?_
    repeat (go_big_quiet_step (first | (go_at_call 203; exact over_left (Nat.le_refl _) (CM.out _)) | (go_at_call 201; exact over_left (Nat.le_refl _) (C0.out _))))
    refine wpQuiet_nil ?_
    rintro _ ⟨X, rfl⟩
    have BE := Lib.hid (over_below w.heap.size w X)
    clear oA oB
    generalize over w.heap.size w X = W9 at *
    go_wp2
    go_ret
    exact ⟨by rw [HE.out]; rfl, BE.out⟩
  have hd3 : decide (a.from_ ≤ b.until_) = true := decide_eq_true h3
  by_cases h4 : b.from_ ≤ a.until_
  case neg =>
    have hd4 : decide (b.from_ ≤ a.until_) = false := decide_eq_false h4
    replace h4 : a.until_ < b.from_ := by omega
    have HE : Hid (clashB a b = false) := by show _ = _; unfold clashB; simp only [hd0, hd1, h2, hd3, hd4, Bool.and_false, Bool.false_and, Bool.and_true, Bool.true_and, Bool.and_self]
    go_enter Tryz.func157, Tryz.ntmps157
    go_upto_region 1 with (fail)
    have oA := overC (w0 := w) (show ba < w.heap.size by omega)
    have oB := overC (w0 := w) (show bb < w.heap.size by omega)
    refine wp_region_over w.heap.size w (Below.refl _ _) (by kernel_rfl) (by kernel_rfl) ?_
    repeat (go_big_quiet_step (first | (go_at_call 203; exact over_left (Nat.le_refl _) (CM.out _)) | (go_at_call 201; exact over_left (Nat.le_refl _) (C0.out _))))
    refine wpQuiet_nil ?_
    rintro _ ⟨X, rfl⟩
    have BE := Lib.hid (over_below w.heap.size w X)
    clear oA oB
    generalize over w.heap.size w X = W9 at *
    go_wp2
    go_ret
    exact ⟨by rw [HE.out]; rfl, BE.out⟩
  have hd4 : decide (b.from_ ≤ a.until_) = true := decide_eq_true h4
  have HE : Hid (clashB a b = true) := by show _ = _; unfold clashB; simp only [hd0, hd1, h2, hd3, hd4, Bool.and_false, Bool.false_and, Bool.and_true, Bool.true_and, Bool.and_self]
  go_enter Tryz.func157, Tryz.ntmps157
  go_upto_region 1 with (fail)
  have oA := overC (w0 := w) (show ba < w.heap.size by omega)
  have oB := overC (w0 := w) (show bb < w.heap.size by omega)
  refine wp_region_over w.heap.size w (Below.refl _ _) (by kernel_rfl) (by kernel_rfl) ?_
  repeat (go_big_quiet_step (first | (go_at_call 203; exact over_left (Nat.le_refl _) (CM.out _)) | (go_at_call 201; exact over_left (Nat.le_refl _) (C0.out _))))
  refine wpQuiet_nil ?_
  rintro _ ⟨X, rfl⟩
  have BE := Lib.hid (over_below w.heap.size w X)
  clear oA oB
  generalize over w.heap.size w X = W9 at *
  go_wp2
  go_ret
  exact ⟨by rw [HE.out]; rfl, BE.out⟩
end Go.Proofs.YtlfkdhakibagaaaGreat
