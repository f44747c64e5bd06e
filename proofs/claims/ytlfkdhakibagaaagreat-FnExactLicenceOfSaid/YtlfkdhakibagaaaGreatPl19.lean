/- Contracts: whether a licence is for a use, for the program and for the reference. Conditions: bounded sizes. -/
import Derived.Test.YtlfkdhakibagaaaGreatPl15
import Derived.Test.YtlfkdhakibagaaaGreatTree
namespace Go.Proofs.YtlfkdhakibagaaaGreat

open Go.RowKit
set_option linter.unusedVariables false
set_option linter.unusedSimpArgs false

def hasA (a : DArea) (q : DPoint) : Bool := inB q.x a.west a.east && inB q.y a.south a.north
def areaHasB (a : DArea) (q : DPoint) : Bool := areaB a && (inB q.x a.west a.east && inB q.y a.south a.north)
def isForB (x : DLicence) (h : ByteArray) (q : DPoint) (day : Int) : Bool := eqS x.holder h && (areaHasB x.area q && inB day x.from_ x.until_)
def allowsB (x : DLicence) (h : ByteArray) (q : DPoint) (lo hi day : Int) : Bool := eqS x.holder h && (decide (x.low ≤ lo) && (decide (hi ≤ x.high) && (hasA x.area q && inB day x.from_ x.until_)))
def forB (x : DLicence) (h : ByteArray) (q : DPoint) (lo hi day : Int) : Bool := isForB x h q day && (decide (lo < hi) && (decide (x.low ≤ lo) && decide (hi ≤ x.high)))
theorem forB_eq {x : DLicence} (hx : licB x = true) (h : ByteArray) (q : DPoint) {lo hi : Int} (day : Int) (hl : lo < hi) : forB x h q lo hi day = allowsB x h q lo hi day := by
  unfold forB isForB allowsB areaHasB hasA
  rw [licB_area hx, decide_eq_true hl]
  simp only [Bool.true_and]
  generalize eqS x.holder h = x0
  generalize decide (x.low ≤ lo) = x1
  generalize decide (hi ≤ x.high) = x2
  generalize inB q.x x.area.west x.area.east = x3
  generalize inB q.y x.area.south x.area.north = x4
  generalize inB day x.from_ x.until_ = x5
  cases x0 <;> cases x1 <;> cases x2 <;> cases x3 <;> cases x4 <;> cases x5 <;> rfl
set_option maxHeartbeats 2000000 in
set_option maxRecDepth 100000 in
theorem areaHas_any (a : DArea) (q : DPoint) (w : World) :
    Calls Tryz.prog 220 #[.agg #[.int .i64 a.west, .int .i64 a.south, .int .i64 a.east, .int .i64 a.north], .agg #[.int .i64 q.x, .int .i64 q.y]] w fun e w' => e = .returned (.bool (areaHasB a q)) ∧ Below w.heap.size w w' := by
  have B0 : Hid (Below w.heap.size w ((w.alloc (.cells #[.int .i64 a.west, .int .i64 a.south, .int .i64 a.east, .int .i64 a.north] 70)).alloc (.cells #[.int .i64 q.x, .int .i64 q.y] 84))) := (Below.alloc (Below.alloc (Below.refl _ _) (by first | exact Nat.le_refl _ | (simp; done) | (simp; omega)) _) (by first | exact Nat.le_refl _ | (simp; done) | (simp; omega)) _)
  have HD : Hid (∀ W : World, Below ((w.alloc (.cells #[.int .i64 a.west, .int .i64 a.south, .int .i64 a.east, .int .i64 a.north] 70)).alloc (.cells #[.int .i64 q.x, .int .i64 q.y] 84)).heap.size ((w.alloc (.cells #[.int .i64 a.west, .int .i64 a.south, .int .i64 a.east, .int .i64 a.north] 70)).alloc (.cells #[.int .i64 q.x, .int .i64 q.y] 84)) W → (W.cell? ⟨w.heap.size, 0, none⟩ = some (.int .i64 a.west) ∧ W.cell? ⟨w.heap.size, 1, none⟩ = some (.int .i64 a.south) ∧ W.cell? ⟨w.heap.size, 2, none⟩ = some (.int .i64 a.east) ∧ W.cell? ⟨w.heap.size, 3, none⟩ = some (.int .i64 a.north) ∧ W.cell? ⟨w.heap.size + 1, 0, none⟩ = some (.int .i64 q.x) ∧ W.cell? ⟨w.heap.size + 1, 1, none⟩ = some (.int .i64 q.y))) := fun W hW => ⟨by rw [hW.cell (p := ⟨w.heap.size, 0, none⟩) (by first | (simp; done) | (simp; omega))]; simp [go_sem], by rw [hW.cell (p := ⟨w.heap.size, 1, none⟩) (by first | (simp; done) | (simp; omega))]; simp [go_sem], by rw [hW.cell (p := ⟨w.heap.size, 2, none⟩) (by first | (simp; done) | (simp; omega))]; simp [go_sem], by rw [hW.cell (p := ⟨w.heap.size, 3, none⟩) (by first | (simp; done) | (simp; omega))]; simp [go_sem], by rw [hW.cell (p := ⟨w.heap.size + 1, 0, none⟩) (by first | (simp; done) | (simp; omega))]; simp [go_sem], by rw [hW.cell (p := ⟨w.heap.size + 1, 1, none⟩) (by first | (simp; done) | (simp; omega))]; simp [go_sem]⟩
  have HB : Hid (Below ((w.alloc (.cells #[.int .i64 a.west, .int .i64 a.south, .int .i64 a.east, .int .i64 a.north] 70)).alloc (.cells #[.int .i64 q.x, .int .i64 q.y] 84)).heap.size ((w.alloc (.cells #[.int .i64 a.west, .int .i64 a.south, .int .i64 a.east, .int .i64 a.north] 70)).alloc (.cells #[.int .i64 q.x, .int .i64 q.y] 84)) ((w.alloc (.cells #[.int .i64 a.west, .int .i64 a.south, .int .i64 a.east, .int .i64 a.north] 70)).alloc (.cells #[.int .i64 q.x, .int .i64 q.y] 84))) := Below.refl _ _
  by_cases h0 : areaB a = true
  case neg =>
    replace h0 : areaB a = false := Bool.eq_false_iff.2 h0
    have HE : Hid (areaHasB a q = false) := by show _ = _; unfold areaHasB; simp only [h0, Bool.and_false, Bool.false_and, Bool.and_true, Bool.true_and, Bool.and_self, Bool.or_false, Bool.false_or, Bool.or_true, Bool.true_or, Bool.or_self, Bool.not_true, Bool.not_false]
    go_enter Tryz.func220, Tryz.ntmps220
    go_wp2_with (first | (go_at_call 173; refine (validArea_any a _).mono ?_; rintro e w2 ⟨rfl, hb2⟩; (try clear t0 t1 t2 t3 t4 t5); replace HB := Lib.hid (HB.out.trans (hb2.mono HB.out.size)); clear hb2; obtain ⟨t0, t1, t2, t3, t4, t5⟩ := HD.out _ HB.out) | (go_at_call 122; refine (within_any _ _ _ _).mono ?_; rintro e w1 ⟨rfl, rfl⟩))
    go_ret
    exact ⟨by rw [HE.out]; rfl, by exact B0.out.trans (HB.out.mono (by first | exact Nat.le_refl _ | (simp; done) | (simp; omega)))⟩
  by_cases h1 : inB q.x a.west a.east = true
  case neg =>
    replace h1 : inB q.x a.west a.east = false := Bool.eq_false_iff.2 h1
    have HE : Hid (areaHasB a q = false) := by show _ = _; unfold areaHasB; simp only [h0, h1, Bool.and_false, Bool.false_and, Bool.and_true, Bool.true_and, Bool.and_self, Bool.or_false, Bool.false_or, Bool.or_true, Bool.true_or, Bool.or_self, Bool.not_true, Bool.not_false]
    go_enter Tryz.func220, Tryz.ntmps220
    go_wp2_with (first | (go_at_call 173; refine (validArea_any a _).mono ?_; rintro e w2 ⟨rfl, hb2⟩; (try clear t0 t1 t2 t3 t4 t5); replace HB := Lib.hid (HB.out.trans (hb2.mono HB.out.size)); clear hb2; obtain ⟨t0, t1, t2, t3, t4, t5⟩ := HD.out _ HB.out) | (go_at_call 122; refine (within_any _ _ _ _).mono ?_; rintro e w1 ⟨rfl, rfl⟩))
    go_ret
    exact ⟨by rw [HE.out]; rfl, by exact B0.out.trans (HB.out.mono (by first | exact Nat.le_refl _ | (simp; done) | (simp; omega)))⟩
  by_cases h2 : inB q.y a.south a.north = true
  case neg =>
    replace h2 : inB q.y a.south a.north = false := Bool.eq_false_iff.2 h2
    have HE : Hid (areaHasB a q = false) := by show _ = _; unfold areaHasB; simp only [h0, h1, h2, Bool.and_false, Bool.false_and, Bool.and_true, Bool.true_and, Bool.and_self, Bool.or_false, Bool.false_or, Bool.or_true, Bool.true_or, Bool.or_self, Bool.not_true, Bool.not_false]
    go_enter Tryz.func220, Tryz.ntmps220
    go_wp2_with (first | (go_at_call 173; refine (validArea_any a _).mono ?_; rintro e w2 ⟨rfl, hb2⟩; (try clear t0 t1 t2 t3 t4 t5); replace HB := Lib.hid (HB.out.trans (hb2.mono HB.out.size)); clear hb2; obtain ⟨t0, t1, t2, t3, t4, t5⟩ := HD.out _ HB.out) | (go_at_call 122; refine (within_any _ _ _ _).mono ?_; rintro e w1 ⟨rfl, rfl⟩))
    go_ret
    exact ⟨by rw [HE.out]; rfl, by exact B0.out.trans (HB.out.mono (by first | exact Nat.le_refl _ | (simp; done) | (simp; omega)))⟩
  have HE : Hid (areaHasB a q = true) := by show _ = _; unfold areaHasB; simp only [h0, h1, h2, Bool.and_false, Bool.false_and, Bool.and_true, Bool.true_and, Bool.and_self, Bool.or_false, Bool.false_or, Bool.or_true, Bool.true_or, Bool.or_self, Bool.not_true, Bool.not_false]
  go_enter Tryz.func220, Tryz.ntmps220
  go_wp2_with (first | (go_at_call 173; refine (validArea_any a _).mono ?_; rintro e w2 ⟨rfl, hb2⟩; (try clear t0 t1 t2 t3 t4 t5); replace HB := Lib.hid (HB.out.trans (hb2.mono HB.out.size)); clear hb2; obtain ⟨t0, t1, t2, t3, t4, t5⟩ := HD.out _ HB.out) | (go_at_call 122; refine (within_any _ _ _ _).mono ?_; rintro e w1 ⟨rfl, rfl⟩))
  go_ret
  exact ⟨by rw [HE.out]; rfl, by exact B0.out.trans (HB.out.mono (by first | exact Nat.le_refl _ | (simp; done) | (simp; omega)))⟩
set_option maxHeartbeats 2000000 in
set_option maxRecDepth 100000 in
theorem l26Has_any (a : DArea) (q : DPoint) (w : World) :
    Calls Tryz.prog 191 #[.agg #[.int .i64 a.west, .int .i64 a.south, .int .i64 a.east, .int .i64 a.north], .agg #[.int .i64 q.x, .int .i64 q.y]] w fun e w' => e = .returned (.bool (hasA a q)) ∧ Below w.heap.size w w' := by
  have B0 : Hid (Below w.heap.size w ((w.alloc (.cells #[.int .i64 a.west, .int .i64 a.south, .int .i64 a.east, .int .i64 a.north] 70)).alloc (.cells #[.int .i64 q.x, .int .i64 q.y] 84))) := (Below.alloc (Below.alloc (Below.refl _ _) (by first | exact Nat.le_refl _ | (simp; done) | (simp; omega)) _) (by first | exact Nat.le_refl _ | (simp; done) | (simp; omega)) _)
  have HD : Hid (∀ W : World, Below ((w.alloc (.cells #[.int .i64 a.west, .int .i64 a.south, .int .i64 a.east, .int .i64 a.north] 70)).alloc (.cells #[.int .i64 q.x, .int .i64 q.y] 84)).heap.size ((w.alloc (.cells #[.int .i64 a.west, .int .i64 a.south, .int .i64 a.east, .int .i64 a.north] 70)).alloc (.cells #[.int .i64 q.x, .int .i64 q.y] 84)) W → (W.cell? ⟨w.heap.size, 0, none⟩ = some (.int .i64 a.west) ∧ W.cell? ⟨w.heap.size, 1, none⟩ = some (.int .i64 a.south) ∧ W.cell? ⟨w.heap.size, 2, none⟩ = some (.int .i64 a.east) ∧ W.cell? ⟨w.heap.size, 3, none⟩ = some (.int .i64 a.north) ∧ W.cell? ⟨w.heap.size + 1, 0, none⟩ = some (.int .i64 q.x) ∧ W.cell? ⟨w.heap.size + 1, 1, none⟩ = some (.int .i64 q.y))) := fun W hW => ⟨by rw [hW.cell (p := ⟨w.heap.size, 0, none⟩) (by first | (simp; done) | (simp; omega))]; simp [go_sem], by rw [hW.cell (p := ⟨w.heap.size, 1, none⟩) (by first | (simp; done) | (simp; omega))]; simp [go_sem], by rw [hW.cell (p := ⟨w.heap.size, 2, none⟩) (by first | (simp; done) | (simp; omega))]; simp [go_sem], by rw [hW.cell (p := ⟨w.heap.size, 3, none⟩) (by first | (simp; done) | (simp; omega))]; simp [go_sem], by rw [hW.cell (p := ⟨w.heap.size + 1, 0, none⟩) (by first | (simp; done) | (simp; omega))]; simp [go_sem], by rw [hW.cell (p := ⟨w.heap.size + 1, 1, none⟩) (by first | (simp; done) | (simp; omega))]; simp [go_sem]⟩
  have HB : Hid (Below ((w.alloc (.cells #[.int .i64 a.west, .int .i64 a.south, .int .i64 a.east, .int .i64 a.north] 70)).alloc (.cells #[.int .i64 q.x, .int .i64 q.y] 84)).heap.size ((w.alloc (.cells #[.int .i64 a.west, .int .i64 a.south, .int .i64 a.east, .int .i64 a.north] 70)).alloc (.cells #[.int .i64 q.x, .int .i64 q.y] 84)) ((w.alloc (.cells #[.int .i64 a.west, .int .i64 a.south, .int .i64 a.east, .int .i64 a.north] 70)).alloc (.cells #[.int .i64 q.x, .int .i64 q.y] 84))) := Below.refl _ _
  by_cases h0 : inB q.x a.west a.east = true
  case neg =>
    replace h0 : inB q.x a.west a.east = false := Bool.eq_false_iff.2 h0
    have HE : Hid (hasA a q = false) := by show _ = _; unfold hasA; simp only [h0, Bool.and_false, Bool.false_and, Bool.and_true, Bool.true_and, Bool.and_self, Bool.or_false, Bool.false_or, Bool.or_true, Bool.true_or, Bool.or_self, Bool.not_true, Bool.not_false]
    go_enter Tryz.func191, Tryz.ntmps191
    go_wp2_with (first | (go_at_call 150; refine (l00In_any _ _ _ _).mono ?_; rintro e w1 ⟨rfl, rfl⟩))
    go_ret
    exact ⟨by rw [HE.out]; rfl, by exact B0.out.trans (HB.out.mono (by first | exact Nat.le_refl _ | (simp; done) | (simp; omega)))⟩
  by_cases h1 : inB q.y a.south a.north = true
  case neg =>
    replace h1 : inB q.y a.south a.north = false := Bool.eq_false_iff.2 h1
    have HE : Hid (hasA a q = false) := by show _ = _; unfold hasA; simp only [h0, h1, Bool.and_false, Bool.false_and, Bool.and_true, Bool.true_and, Bool.and_self, Bool.or_false, Bool.false_or, Bool.or_true, Bool.true_or, Bool.or_self, Bool.not_true, Bool.not_false]
    go_enter Tryz.func191, Tryz.ntmps191
    go_wp2_with (first | (go_at_call 150; refine (l00In_any _ _ _ _).mono ?_; rintro e w1 ⟨rfl, rfl⟩))
    go_ret
    exact ⟨by rw [HE.out]; rfl, by exact B0.out.trans (HB.out.mono (by first | exact Nat.le_refl _ | (simp; done) | (simp; omega)))⟩
  have HE : Hid (hasA a q = true) := by show _ = _; unfold hasA; simp only [h0, h1, Bool.and_false, Bool.false_and, Bool.and_true, Bool.true_and, Bool.and_self, Bool.or_false, Bool.false_or, Bool.or_true, Bool.true_or, Bool.or_self, Bool.not_true, Bool.not_false]
  go_enter Tryz.func191, Tryz.ntmps191
  go_wp2_with (first | (go_at_call 150; refine (l00In_any _ _ _ _).mono ?_; rintro e w1 ⟨rfl, rfl⟩))
  go_ret
  exact ⟨by rw [HE.out]; rfl, by exact B0.out.trans (HB.out.mono (by first | exact Nat.le_refl _ | (simp; done) | (simp; omega)))⟩
set_option maxHeartbeats 2000000 in
set_option maxRecDepth 100000 in
theorem isFor_any (x : DLicence) (h : ByteArray) (q : DPoint) (day : Int) (w : World) :
    Calls Tryz.prog 192 #[.agg #[.string x.id, .string x.holder, .int .i64 x.low, .int .i64 x.high, .int .i64 x.area.west, .int .i64 x.area.south, .int .i64 x.area.east, .int .i64 x.area.north, .int .i64 x.from_, .int .i64 x.until_, .int .i64 x.power], .string h, .agg #[.int .i64 q.x, .int .i64 q.y], .int .i64 day] w fun e w' => e = .returned (.bool (isForB x h q day)) ∧ Below w.heap.size w w' := by
  have B0 : Hid (Below w.heap.size w ((w.alloc (.cells #[.string x.id, .string x.holder, .int .i64 x.low, .int .i64 x.high, .int .i64 x.area.west, .int .i64 x.area.south, .int .i64 x.area.east, .int .i64 x.area.north, .int .i64 x.from_, .int .i64 x.until_, .int .i64 x.power] 72)).alloc (.cells #[.int .i64 q.x, .int .i64 q.y] 84))) := (Below.alloc (Below.alloc (Below.refl _ _) (by first | exact Nat.le_refl _ | (simp; done) | (simp; omega)) _) (by first | exact Nat.le_refl _ | (simp; done) | (simp; omega)) _)
  have HD : Hid (∀ W : World, Below ((w.alloc (.cells #[.string x.id, .string x.holder, .int .i64 x.low, .int .i64 x.high, .int .i64 x.area.west, .int .i64 x.area.south, .int .i64 x.area.east, .int .i64 x.area.north, .int .i64 x.from_, .int .i64 x.until_, .int .i64 x.power] 72)).alloc (.cells #[.int .i64 q.x, .int .i64 q.y] 84)).heap.size ((w.alloc (.cells #[.string x.id, .string x.holder, .int .i64 x.low, .int .i64 x.high, .int .i64 x.area.west, .int .i64 x.area.south, .int .i64 x.area.east, .int .i64 x.area.north, .int .i64 x.from_, .int .i64 x.until_, .int .i64 x.power] 72)).alloc (.cells #[.int .i64 q.x, .int .i64 q.y] 84)) W → (W.cell? ⟨w.heap.size, 0, none⟩ = some (.string x.id) ∧ W.cell? ⟨w.heap.size, 1, none⟩ = some (.string x.holder) ∧ W.cell? ⟨w.heap.size, 2, none⟩ = some (.int .i64 x.low) ∧ W.cell? ⟨w.heap.size, 3, none⟩ = some (.int .i64 x.high) ∧ W.cell? ⟨w.heap.size, 4, none⟩ = some (.int .i64 x.area.west) ∧ W.cell? ⟨w.heap.size, 5, none⟩ = some (.int .i64 x.area.south) ∧ W.cell? ⟨w.heap.size, 6, none⟩ = some (.int .i64 x.area.east) ∧ W.cell? ⟨w.heap.size, 7, none⟩ = some (.int .i64 x.area.north) ∧ W.cell? ⟨w.heap.size, 8, none⟩ = some (.int .i64 x.from_) ∧ W.cell? ⟨w.heap.size, 9, none⟩ = some (.int .i64 x.until_) ∧ W.cell? ⟨w.heap.size, 10, none⟩ = some (.int .i64 x.power) ∧ W.cell? ⟨w.heap.size + 1, 0, none⟩ = some (.int .i64 q.x) ∧ W.cell? ⟨w.heap.size + 1, 1, none⟩ = some (.int .i64 q.y))) := fun W hW => ⟨by rw [hW.cell (p := ⟨w.heap.size, 0, none⟩) (by first | (simp; done) | (simp; omega))]; simp [go_sem], by rw [hW.cell (p := ⟨w.heap.size, 1, none⟩) (by first | (simp; done) | (simp; omega))]; simp [go_sem], by rw [hW.cell (p := ⟨w.heap.size, 2, none⟩) (by first | (simp; done) | (simp; omega))]; simp [go_sem], by rw [hW.cell (p := ⟨w.heap.size, 3, none⟩) (by first | (simp; done) | (simp; omega))]; simp [go_sem], by rw [hW.cell (p := ⟨w.heap.size, 4, none⟩) (by first | (simp; done) | (simp; omega))]; simp [go_sem], by rw [hW.cell (p := ⟨w.heap.size, 5, none⟩) (by first | (simp; done) | (simp; omega))]; simp [go_sem], by rw [hW.cell (p := ⟨w.heap.size, 6, none⟩) (by first | (simp; done) | (simp; omega))]; simp [go_sem], by rw [hW.cell (p := ⟨w.heap.size, 7, none⟩) (by first | (simp; done) | (simp; omega))]; simp [go_sem], by rw [hW.cell (p := ⟨w.heap.size, 8, none⟩) (by first | (simp; done) | (simp; omega))]; simp [go_sem], by rw [hW.cell (p := ⟨w.heap.size, 9, none⟩) (by first | (simp; done) | (simp; omega))]; simp [go_sem], by rw [hW.cell (p := ⟨w.heap.size, 10, none⟩) (by first | (simp; done) | (simp; omega))]; simp [go_sem], by rw [hW.cell (p := ⟨w.heap.size + 1, 0, none⟩) (by first | (simp; done) | (simp; omega))]; simp [go_sem], by rw [hW.cell (p := ⟨w.heap.size + 1, 1, none⟩) (by first | (simp; done) | (simp; omega))]; simp [go_sem]⟩
  have HB : Hid (Below ((w.alloc (.cells #[.string x.id, .string x.holder, .int .i64 x.low, .int .i64 x.high, .int .i64 x.area.west, .int .i64 x.area.south, .int .i64 x.area.east, .int .i64 x.area.north, .int .i64 x.from_, .int .i64 x.until_, .int .i64 x.power] 72)).alloc (.cells #[.int .i64 q.x, .int .i64 q.y] 84)).heap.size ((w.alloc (.cells #[.string x.id, .string x.holder, .int .i64 x.low, .int .i64 x.high, .int .i64 x.area.west, .int .i64 x.area.south, .int .i64 x.area.east, .int .i64 x.area.north, .int .i64 x.from_, .int .i64 x.until_, .int .i64 x.power] 72)).alloc (.cells #[.int .i64 q.x, .int .i64 q.y] 84)) ((w.alloc (.cells #[.string x.id, .string x.holder, .int .i64 x.low, .int .i64 x.high, .int .i64 x.area.west, .int .i64 x.area.south, .int .i64 x.area.east, .int .i64 x.area.north, .int .i64 x.from_, .int .i64 x.until_, .int .i64 x.power] 72)).alloc (.cells #[.int .i64 q.x, .int .i64 q.y] 84))) := Below.refl _ _
  by_cases h0 : eqS x.holder h = true
  case neg =>
    replace h0 : eqS x.holder h = false := Bool.eq_false_iff.2 h0
    have h0l : (x.holder.toList == h.toList) = false := h0
    have HE : Hid (isForB x h q day = false) := by show _ = _; unfold isForB; simp only [h0, Bool.and_false, Bool.false_and, Bool.and_true, Bool.true_and, Bool.and_self, Bool.or_false, Bool.false_or, Bool.or_true, Bool.true_or, Bool.or_self, Bool.not_true, Bool.not_false]
    go_enter Tryz.func192, Tryz.ntmps192
    go_wp2_with (first | (go_at_call 220; refine (areaHas_any x.area q _).mono ?_; rintro e w2 ⟨rfl, hb2⟩; (try clear t0 t1 t2 t3 t4 t5 t6 t7 t8 t9 t10 t11 t12); replace HB := Lib.hid (HB.out.trans (hb2.mono HB.out.size)); clear hb2; obtain ⟨t0, t1, t2, t3, t4, t5, t6, t7, t8, t9, t10, t11, t12⟩ := HD.out _ HB.out) | (go_at_call 122; refine (within_any _ _ _ _).mono ?_; rintro e w1 ⟨rfl, rfl⟩))
    go_ret
    exact ⟨by rw [HE.out]; rfl, by exact B0.out.trans (HB.out.mono (by first | exact Nat.le_refl _ | (simp; done) | (simp; omega)))⟩
  have h0l : (x.holder.toList == h.toList) = true := h0
  by_cases h1 : areaHasB x.area q = true
  case neg =>
    replace h1 : areaHasB x.area q = false := Bool.eq_false_iff.2 h1
    have HE : Hid (isForB x h q day = false) := by show _ = _; unfold isForB; simp only [h0, h1, Bool.and_false, Bool.false_and, Bool.and_true, Bool.true_and, Bool.and_self, Bool.or_false, Bool.false_or, Bool.or_true, Bool.true_or, Bool.or_self, Bool.not_true, Bool.not_false]
    go_enter Tryz.func192, Tryz.ntmps192
    go_wp2_with (first | (go_at_call 220; refine (areaHas_any x.area q _).mono ?_; rintro e w2 ⟨rfl, hb2⟩; (try clear t0 t1 t2 t3 t4 t5 t6 t7 t8 t9 t10 t11 t12); replace HB := Lib.hid (HB.out.trans (hb2.mono HB.out.size)); clear hb2; obtain ⟨t0, t1, t2, t3, t4, t5, t6, t7, t8, t9, t10, t11, t12⟩ := HD.out _ HB.out) | (go_at_call 122; refine (within_any _ _ _ _).mono ?_; rintro e w1 ⟨rfl, rfl⟩))
    go_ret
    exact ⟨by rw [HE.out]; rfl, by exact B0.out.trans (HB.out.mono (by first | exact Nat.le_refl _ | (simp; done) | (simp; omega)))⟩
  by_cases h2 : inB day x.from_ x.until_ = true
  case neg =>
    replace h2 : inB day x.from_ x.until_ = false := Bool.eq_false_iff.2 h2
    have HE : Hid (isForB x h q day = false) := by show _ = _; unfold isForB; simp only [h0, h1, h2, Bool.and_false, Bool.false_and, Bool.and_true, Bool.true_and, Bool.and_self, Bool.or_false, Bool.false_or, Bool.or_true, Bool.true_or, Bool.or_self, Bool.not_true, Bool.not_false]
    go_enter Tryz.func192, Tryz.ntmps192
    go_wp2_with (first | (go_at_call 220; refine (areaHas_any x.area q _).mono ?_; rintro e w2 ⟨rfl, hb2⟩; (try clear t0 t1 t2 t3 t4 t5 t6 t7 t8 t9 t10 t11 t12); replace HB := Lib.hid (HB.out.trans (hb2.mono HB.out.size)); clear hb2; obtain ⟨t0, t1, t2, t3, t4, t5, t6, t7, t8, t9, t10, t11, t12⟩ := HD.out _ HB.out) | (go_at_call 122; refine (within_any _ _ _ _).mono ?_; rintro e w1 ⟨rfl, rfl⟩))
    go_ret
    exact ⟨by rw [HE.out]; rfl, by exact B0.out.trans (HB.out.mono (by first | exact Nat.le_refl _ | (simp; done) | (simp; omega)))⟩
  have HE : Hid (isForB x h q day = true) := by show _ = _; unfold isForB; simp only [h0, h1, h2, Bool.and_false, Bool.false_and, Bool.and_true, Bool.true_and, Bool.and_self, Bool.or_false, Bool.false_or, Bool.or_true, Bool.true_or, Bool.or_self, Bool.not_true, Bool.not_false]
  go_enter Tryz.func192, Tryz.ntmps192
  go_wp2_with (first | (go_at_call 220; refine (areaHas_any x.area q _).mono ?_; rintro e w2 ⟨rfl, hb2⟩; (try clear t0 t1 t2 t3 t4 t5 t6 t7 t8 t9 t10 t11 t12); replace HB := Lib.hid (HB.out.trans (hb2.mono HB.out.size)); clear hb2; obtain ⟨t0, t1, t2, t3, t4, t5, t6, t7, t8, t9, t10, t11, t12⟩ := HD.out _ HB.out) | (go_at_call 122; refine (within_any _ _ _ _).mono ?_; rintro e w1 ⟨rfl, rfl⟩))
  go_ret
  exact ⟨by rw [HE.out]; rfl, by exact B0.out.trans (HB.out.mono (by first | exact Nat.le_refl _ | (simp; done) | (simp; omega)))⟩
set_option maxHeartbeats 8000000 in
set_option maxRecDepth 100000 in
theorem l26Allows_any (x : DLicence) (h : ByteArray) (q : DPoint) (lo hi day : Int) (b off : Nat) (w : World) (c0 : w.cell? ⟨b, off, none⟩ = some (.string x.id)) (c1 : w.cell? ⟨b, off + 1, none⟩ = some (.string x.holder)) (c2 : w.cell? ⟨b, off + 2, none⟩ = some (.int .i64 x.low)) (c3 : w.cell? ⟨b, off + 3, none⟩ = some (.int .i64 x.high)) (c4 : w.cell? ⟨b, off + 4, none⟩ = some (.int .i64 x.area.west)) (c5 : w.cell? ⟨b, off + 5, none⟩ = some (.int .i64 x.area.south)) (c6 : w.cell? ⟨b, off + 6, none⟩ = some (.int .i64 x.area.east)) (c7 : w.cell? ⟨b, off + 7, none⟩ = some (.int .i64 x.area.north)) (c8 : w.cell? ⟨b, off + 8, none⟩ = some (.int .i64 x.from_)) (c9 : w.cell? ⟨b, off + 9, none⟩ = some (.int .i64 x.until_)) (c10 : w.cell? ⟨b, off + 10, none⟩ = some (.int .i64 x.power)) :
    Calls Tryz.prog 141 #[.pointer (some ⟨b, off, none⟩), .string h, .agg #[.int .i64 q.x, .int .i64 q.y], .int .i64 lo, .int .i64 hi, .int .i64 day] w fun e w' => e = .returned (.bool (allowsB x h q lo hi day)) ∧ Below w.heap.size w w' := by
  have hbl := cell_lt c0
  dsimp only at hbl
  have b0 := below_alloc w (.cells #[.int .i64 q.x, .int .i64 q.y] 84)
  have k0 := bkN w #[.int .i64 q.x, .int .i64 q.y] 84
  have z0 : w.heap.size + 1 ≤ (w.alloc (.cells #[.int .i64 q.x, .int .i64 q.y] 84)).heap.size := by simp
  have d0 := (bat b0 b _ hbl).trans c0
  have d1 := (bat b0 b _ hbl).trans c1
  have d2 := (bat b0 b _ hbl).trans c2
  have d3 := (bat b0 b _ hbl).trans c3
  have d4 := (bat b0 b _ hbl).trans c4
  have d5 := (bat b0 b _ hbl).trans c5
  have d6 := (bat b0 b _ hbl).trans c6
  have d7 := (bat b0 b _ hbl).trans c7
  have d8 := (bat b0 b _ hbl).trans c8
  have d9 := (bat b0 b _ hbl).trans c9
  have d10 := (bat b0 b _ hbl).trans c10
  have e0 := bkC (v := .int .i64 q.x) k0 0 rfl
  have e1 := bkC (v := .int .i64 q.y) k0 1 rfl
  clear k0 c0 c1 c2 c3 c4 c5 c6 c7 c8 c9 c10
  generalize hW0 : (w.alloc (.cells #[.int .i64 q.x, .int .i64 q.y] 84)) = W0 at *
  have HW0 := Lib.hid hW0
  have B0 := Lib.hid b0
  clear hW0 b0
  have CA : Hid (∀ W : World, Calls Tryz.prog 191 #[.agg #[.int .i64 x.area.west, .int .i64 x.area.south, .int .i64 x.area.east, .int .i64 x.area.north], .agg #[.int .i64 q.x, .int .i64 q.y]] W fun e w' => e = .returned (.bool (hasA x.area q)) ∧ Below W.heap.size W w') := fun W => l26Has_any x.area q W
  have CD : Hid (∀ W : World, Calls Tryz.prog 150 #[.int .i64 day, .int .i64 x.from_, .int .i64 x.until_] W fun e w' => e = .returned (.bool (inB day x.from_ x.until_)) ∧ W = w') := fun W => l00In_any _ _ _ _
  by_cases h0 : eqS x.holder h = true
  case neg =>
    replace h0 : eqS x.holder h = false := Bool.eq_false_iff.2 h0
    have hl : (x.holder.toList == h.toList) = false := h0
    have HE : Hid (allowsB x h q lo hi day = false) := by show _ = _; unfold allowsB; rw [h0]; rfl
    go_enter Tryz.func141, Tryz.ntmps141
    go_upto_region 1 with (fail)
    rw [HW0.out]
    have o0 := overC (w0 := W0) (show b < W0.heap.size by omega)
    have o1 := overC (w0 := W0) (show w.heap.size < W0.heap.size by omega)
    refine wp_region_over W0.heap.size W0 (Below.refl _ _) (by kernel_rfl) (by kernel_rfl) ?_
    repeat (go_big_quiet_step (first | (go_at_call 191; exact over_left (Nat.le_refl _) (CA.out _)) | (go_at_call 150; exact over_same (CD.out _))))
    refine wpQuiet_nil ?_
    rintro _ ⟨X, rfl⟩
    have BE := Lib.hid (B0.out.trans ((over_below W0.heap.size W0 X).mono (by omega)))
    clear o0 o1
    generalize over W0.heap.size W0 X = W9 at *
    go_wp2
    go_ret
    exact ⟨by rw [HE.out]; rfl, BE.out⟩
  have hl : (x.holder.toList == h.toList) = true := h0
  by_cases h1 : x.low ≤ lo
  case neg =>
    have hd1 : decide (x.low ≤ lo) = false := decide_eq_false h1
    replace h1 : lo < x.low := by omega
    have HE : Hid (allowsB x h q lo hi day = false) := by show _ = _; unfold allowsB; rw [h0, hd1]; rfl
    go_enter Tryz.func141, Tryz.ntmps141
    go_upto_region 1 with (fail)
    rw [HW0.out]
    have o0 := overC (w0 := W0) (show b < W0.heap.size by omega)
    have o1 := overC (w0 := W0) (show w.heap.size < W0.heap.size by omega)
    refine wp_region_over W0.heap.size W0 (Below.refl _ _) (by kernel_rfl) (by kernel_rfl) ?_
    repeat (go_big_quiet_step (first | (go_at_call 191; exact over_left (Nat.le_refl _) (CA.out _)) | (go_at_call 150; exact over_same (CD.out _))))
    refine wpQuiet_nil ?_
    rintro _ ⟨X, rfl⟩
    have BE := Lib.hid (B0.out.trans ((over_below W0.heap.size W0 X).mono (by omega)))
    clear o0 o1
    generalize over W0.heap.size W0 X = W9 at *
    go_wp2
    go_ret
    exact ⟨by rw [HE.out]; rfl, BE.out⟩
  have hd1 : decide (x.low ≤ lo) = true := decide_eq_true h1
  by_cases h2 : hi ≤ x.high
  case neg =>
    have hd2 : decide (hi ≤ x.high) = false := decide_eq_false h2
    replace h2 : x.high < hi := by omega
    have HE : Hid (allowsB x h q lo hi day = false) := by show _ = _; unfold allowsB; rw [h0, hd1, hd2]; rfl
    go_enter Tryz.func141, Tryz.ntmps141
    go_upto_region 1 with (fail)
    rw [HW0.out]
    have o0 := overC (w0 := W0) (show b < W0.heap.size by omega)
    have o1 := overC (w0 := W0) (show w.heap.size < W0.heap.size by omega)
    refine wp_region_over W0.heap.size W0 (Below.refl _ _) (by kernel_rfl) (by kernel_rfl) ?_
    repeat (go_big_quiet_step (first | (go_at_call 191; exact over_left (Nat.le_refl _) (CA.out _)) | (go_at_call 150; exact over_same (CD.out _))))
    refine wpQuiet_nil ?_
    rintro _ ⟨X, rfl⟩
    have BE := Lib.hid (B0.out.trans ((over_below W0.heap.size W0 X).mono (by omega)))
    clear o0 o1
    generalize over W0.heap.size W0 X = W9 at *
    go_wp2
    go_ret
    exact ⟨by rw [HE.out]; rfl, BE.out⟩
  have hd2 : decide (hi ≤ x.high) = true := decide_eq_true h2
  by_cases h3 : hasA x.area q = true
  case neg =>
    replace h3 : hasA x.area q = false := Bool.eq_false_iff.2 h3
    rw [h3] at CA
    have HE : Hid (allowsB x h q lo hi day = false) := by show _ = _; unfold allowsB; rw [h0, hd1, hd2, h3]; rfl
    go_enter Tryz.func141, Tryz.ntmps141
    go_upto_region 1 with (fail)
    rw [HW0.out]
    have o0 := overC (w0 := W0) (show b < W0.heap.size by omega)
    have o1 := overC (w0 := W0) (show w.heap.size < W0.heap.size by omega)
    refine wp_region_over W0.heap.size W0 (Below.refl _ _) (by kernel_rfl) (by kernel_rfl) ?_
    repeat (go_big_quiet_step (first | (go_at_call 191; exact over_left (Nat.le_refl _) (CA.out _)) | (go_at_call 150; exact over_same (CD.out _))))
    refine wpQuiet_nil ?_
    rintro _ ⟨X, rfl⟩
    have BE := Lib.hid (B0.out.trans ((over_below W0.heap.size W0 X).mono (by omega)))
    clear o0 o1
    generalize over W0.heap.size W0 X = W9 at *
    go_wp2
    go_ret
    exact ⟨by rw [HE.out]; rfl, BE.out⟩
  rw [h3] at CA
  by_cases h4 : inB day x.from_ x.until_ = true
  case neg =>
    replace h4 : inB day x.from_ x.until_ = false := Bool.eq_false_iff.2 h4
    rw [h4] at CD
    have HE : Hid (allowsB x h q lo hi day = false) := by show _ = _; unfold allowsB; rw [h0, hd1, hd2, h3, h4]; rfl
    go_enter Tryz.func141, Tryz.ntmps141
    go_upto_region 1 with (fail)
    rw [HW0.out]
    have o0 := overC (w0 := W0) (show b < W0.heap.size by omega)
    have o1 := overC (w0 := W0) (show w.heap.size < W0.heap.size by omega)
    refine wp_region_over W0.heap.size W0 (Below.refl _ _) (by kernel_rfl) (by kernel_rfl) ?_
    repeat (go_big_quiet_step (first | (go_at_call 191; exact over_left (Nat.le_refl _) (CA.out _)) | (go_at_call 150; exact over_same (CD.out _))))
    refine wpQuiet_nil ?_
    rintro _ ⟨X, rfl⟩
    have BE := Lib.hid (B0.out.trans ((over_below W0.heap.size W0 X).mono (by omega)))
    clear o0 o1
    generalize over W0.heap.size W0 X = W9 at *
    go_wp2
    go_ret
    exact ⟨by rw [HE.out]; rfl, BE.out⟩
  rw [h4] at CD
  have HE : Hid (allowsB x h q lo hi day = true) := by show _ = _; unfold allowsB; rw [h0, hd1, hd2, h3, h4]; rfl
  go_enter Tryz.func141, Tryz.ntmps141
  go_upto_region 1 with (fail)
  rw [HW0.out]
  have o0 := overC (w0 := W0) (show b < W0.heap.size by omega)
  have o1 := overC (w0 := W0) (show w.heap.size < W0.heap.size by omega)
  refine wp_region_over W0.heap.size W0 (Below.refl _ _) (by kernel_rfl) (by kernel_rfl) ?_
  repeat (go_big_quiet_step (first | (go_at_call 191; exact over_left (Nat.le_refl _) (CA.out _)) | (go_at_call 150; exact over_same (CD.out _))))
  refine wpQuiet_nil ?_
  rintro _ ⟨X, rfl⟩
  have BE := Lib.hid (B0.out.trans ((over_below W0.heap.size W0 X).mono (by omega)))
  clear o0 o1
  generalize over W0.heap.size W0 X = W9 at *
  go_wp2
  go_ret
  exact ⟨by rw [HE.out]; rfl, BE.out⟩
set_option maxHeartbeats 8000000 in
set_option maxRecDepth 100000 in
theorem licenceFor_any (l : List DLicence) (h : ByteArray) (q : DPoint) (lo hi day : Int) (v : Value) (B : Nat) (w : World) (hr : Rd B w (DLicence.sT l) v) (hB : B ≤ w.heap.size) (hn : l.length ≤ 1099511627776) (hv : holdB l = true) (hk : ∀ x ∈ l, x.ok) :
    Calls Tryz.prog 143 #[v, .string h, .agg #[.int .i64 q.x, .int .i64 q.y], .int .i64 lo, .int .i64 hi, .int .i64 day] w fun e w' => ((∃ k, k < l.length ∧ firstIdx' (fun x => forB x h q lo hi day) l = (k : Int) ∧ e = .returned (.tuple #[.agg #[.string (gLicence l k).id, .string (gLicence l k).holder, .int .i64 (gLicence l k).low, .int .i64 (gLicence l k).high, .int .i64 (gLicence l k).area.west, .int .i64 (gLicence l k).area.south, .int .i64 (gLicence l k).area.east, .int .i64 (gLicence l k).area.north, .int .i64 (gLicence l k).from_, .int .i64 (gLicence l k).until_, .int .i64 (gLicence l k).power], .int .i64 0])) ∨ (firstIdx' (fun x => forB x h q lo hi day) l = -1 ∧ e = .returned (.tuple #[.agg #[.string ⟨#[]⟩, .string ⟨#[]⟩, .int .i64 0, .int .i64 0, .int .i64 0, .int .i64 0, .int .i64 0, .int .i64 0, .int .i64 0, .int .i64 0, .int .i64 0], .int .i64 3]))) ∧ Below w.heap.size w w' := by
  have HRD := Lib.hid hr
  obtain ⟨a, c, rfl, _, _, hcl⟩ := DLicence.rd hr
  have HCL := Lib.hid hcl
  clear hcl hr
  have hni : (l.length : Int) ≤ 1099511627776 := by omega
  obtain ⟨W0, hW0, b0, z0, k0, k1⟩ := boxes2 w #[.int .i64 q.x, .int .i64 q.y] 84 #[.string ⟨#[]⟩, .string ⟨#[]⟩, .int .i64 0, .int .i64 0, .int .i64 0, .int .i64 0, .int .i64 0, .int .i64 0, .int .i64 0, .int .i64 0, .int .i64 0] 72
  have HW0 := Lib.hid hW0
  clear hW0
  have B0 := Lib.hid b0
  clear b0
  have K0 := Lib.hid k0
  clear k0
  have K1 := Lib.hid k1
  clear k1
  have HD : Hid (∀ W : World, Below W0.heap.size W0 W → (W.cell? ⟨w.heap.size, 0, none⟩ = some (.int .i64 q.x) ∧ W.cell? ⟨w.heap.size, 1, none⟩ = some (.int .i64 q.y) ∧ W.cell? ⟨w.heap.size + 1, 0, none⟩ = some (.string ⟨#[]⟩) ∧ W.cell? ⟨w.heap.size + 1, 1, none⟩ = some (.string ⟨#[]⟩) ∧ W.cell? ⟨w.heap.size + 1, 2, none⟩ = some (.int .i64 0) ∧ W.cell? ⟨w.heap.size + 1, 3, none⟩ = some (.int .i64 0) ∧ W.cell? ⟨w.heap.size + 1, 4, none⟩ = some (.int .i64 0) ∧ W.cell? ⟨w.heap.size + 1, 5, none⟩ = some (.int .i64 0) ∧ W.cell? ⟨w.heap.size + 1, 6, none⟩ = some (.int .i64 0) ∧ W.cell? ⟨w.heap.size + 1, 7, none⟩ = some (.int .i64 0) ∧ W.cell? ⟨w.heap.size + 1, 8, none⟩ = some (.int .i64 0) ∧ W.cell? ⟨w.heap.size + 1, 9, none⟩ = some (.int .i64 0) ∧ W.cell? ⟨w.heap.size + 1, 10, none⟩ = some (.int .i64 0))) := fun W hW => ⟨bkC (bkB K0.out hW (by omega)) 0 rfl, bkC (bkB K0.out hW (by omega)) 1 rfl, bkC (bkB K1.out hW (by omega)) 0 rfl, bkC (bkB K1.out hW (by omega)) 1 rfl, bkC (bkB K1.out hW (by omega)) 2 rfl, bkC (bkB K1.out hW (by omega)) 3 rfl, bkC (bkB K1.out hW (by omega)) 4 rfl, bkC (bkB K1.out hW (by omega)) 5 rfl, bkC (bkB K1.out hW (by omega)) 6 rfl, bkC (bkB K1.out hW (by omega)) 7 rfl, bkC (bkB K1.out hW (by omega)) 8 rfl, bkC (bkB K1.out hW (by omega)) 9 rfl, bkC (bkB K1.out hW (by omega)) 10 rfl⟩
  have HB : Hid (Below W0.heap.size W0 W0) := Below.refl _ _
  have HH : Hid (∀ W : World, Below W0.heap.size W0 W → Below w.heap.size w W) := fun W hW => B0.out.trans (hW.mono (by omega))
  have CV : Hid (∀ W : World, Below W0.heap.size W0 W → Calls Tryz.prog 57 #[.slice a l.length c] W fun e w' => e = .returned (.bool true) ∧ Below W.heap.size W w') := fun W hW => by
    have t := iValidHoldings_any l _ B W (HRD.out.below ((HH.out W hW).mono hB)) (Nat.le_trans hB (HH.out W hW).size) hk hn
    rw [hv] at t
    exact t
  have K1Z := Lib.hid K1.out
  go_enter Tryz.func143, Tryz.ntmps143
  go_upto_region 1 with (fail)
  rw [HW0.out]
  obtain ⟨t0, t1, t2, t3, t4, t5, t6, t7, t8, t9, t10, t11, t12⟩ := HD.out _ HB.out
  go_wp2_with (go_at_call 57; with_reducible refine (CV.out _ HB.out).mono ?_; rintro e w2 ⟨rfl, hb2⟩; (try clear t0 t1 t2 t3 t4 t5 t6 t7 t8 t9 t10 t11 t12); replace HB := Lib.hid (HB.out.trans (hb2.mono HB.out.size)); clear hb2; obtain ⟨t0, t1, t2, t3, t4, t5, t6, t7, t8, t9, t10, t11, t12⟩ := HD.out _ HB.out)
  have HBS := Lib.hid HB.out
  clear t0 t1 t2 t3 t4 t5 t6 t7 t8 t9 t10 t11 t12
  go_loopw [22] (fun i wr => ∃ (k : Nat), k ≤ l.length ∧ i = .int .i64 k ∧ (l.take k).any (fun x => forB x h q lo hi day) = false ∧ Below W0.heap.size W0 wr) (fun i wr => l.length - (intOf i).toNat)
  case atStart => exact ⟨0, Nat.zero_le _, rfl, by simp, HBS.out⟩
  case round =>
    obtain ⟨k, hk1, rfl, hno, hb⟩ := hrel
    have HN := Lib.hid hno
    have HBR := Lib.hid hb
    have zb := hb.size
    clear hno hb
    have hbw := HH.out _ HBR.out
    have zw := hbw.size
    by_cases hlt : k < l.length
    · obtain ⟨b, off, ea, hbl, hat⟩ := HCL.out (by omega)
      subst ea
      obtain ⟨s0, s1, s2, s3, s4, s5, s6, s7, s8, s9, s10⟩ := hat k hlt
      rw [gLicence_eq hlt, ← bat hbw b _ (by omega)] at s0 s1 s2 s3 s4 s5 s6 s7 s8 s9 s10
      have HT : Hid (forB (gLicence l k) h q lo hi day = true → firstIdx' (fun x => forB x h q lo hi day) l = (k : Int)) := fun e => firstIdx_at _ l k hlt (by rw [gLicence_eq hlt]; exact e) HN.out
      have HF : Hid (forB (gLicence l k) h q lo hi day = false → (l.take (k + 1)).any (fun x => forB x h q lo hi day) = false) := fun e => by rw [any_take_succ _ l k hlt, HN.out, gLicence_eq hlt, e]; rfl
      have HG : Hid (gLicence l k = gLicence l k) := rfl
      generalize hA : gLicence l k = A at *
      have HA := Lib.hid hA
      clear hA hat hbw HG
      have i1 : (0 : Int) ≤ (k : Int) := by omega
      have i2 : (k : Int) < (l.length : Int) := by omega
      have CI : Hid (∀ W : World, Calls Tryz.prog 192 #[.agg #[.string A.id, .string A.holder, .int .i64 A.low, .int .i64 A.high, .int .i64 A.area.west, .int .i64 A.area.south, .int .i64 A.area.east, .int .i64 A.area.north, .int .i64 A.from_, .int .i64 A.until_, .int .i64 A.power], .string h, .agg #[.int .i64 q.x, .int .i64 q.y], .int .i64 day] W fun e w' => e = .returned (.bool (isForB A h q day)) ∧ Below W.heap.size W w') := fun W => isFor_any A h q day W
      go_upto_region 6 with (fail)
      have b1 : Below wr.heap.size wr (wr.alloc (.cells #[.string A.id, .string A.holder, .int .i64 A.low, .int .i64 A.high, .int .i64 A.area.west, .int .i64 A.area.south, .int .i64 A.area.east, .int .i64 A.area.north, .int .i64 A.from_, .int .i64 A.until_, .int .i64 A.power] 72)) := (Below.refl _ _).alloc (Nat.le_refl _) _
      have k1 := bkN wr #[.string A.id, .string A.holder, .int .i64 A.low, .int .i64 A.high, .int .i64 A.area.west, .int .i64 A.area.south, .int .i64 A.area.east, .int .i64 A.area.north, .int .i64 A.from_, .int .i64 A.until_, .int .i64 A.power] 72
      have fz : wr.heap.size < (wr.alloc (.cells #[.string A.id, .string A.holder, .int .i64 A.low, .int .i64 A.high, .int .i64 A.area.west, .int .i64 A.area.south, .int .i64 A.area.east, .int .i64 A.area.north, .int .i64 A.from_, .int .i64 A.until_, .int .i64 A.power] 72)).heap.size := by simp
      generalize (wr.alloc (.cells #[.string A.id, .string A.holder, .int .i64 A.low, .int .i64 A.high, .int .i64 A.area.west, .int .i64 A.area.south, .int .i64 A.area.east, .int .i64 A.area.north, .int .i64 A.from_, .int .i64 A.until_, .int .i64 A.power] 72)) = W1 at *
      have K1 := Lib.hid k1
      have BS := Lib.hid (HBR.out.trans (b1.mono zb))
      have zz := b1.size
      clear b1 k1 s0 s1 s2 s3 s4 s5 s6 s7 s8 s9 s10
      have HE1 : Hid (∀ W : World, Below W1.heap.size W1 W → (W.cell? ⟨wr.heap.size, 0, none⟩ = some (.string A.id) ∧ W.cell? ⟨wr.heap.size, 1, none⟩ = some (.string A.holder) ∧ W.cell? ⟨wr.heap.size, 2, none⟩ = some (.int .i64 A.low) ∧ W.cell? ⟨wr.heap.size, 3, none⟩ = some (.int .i64 A.high) ∧ W.cell? ⟨wr.heap.size, 4, none⟩ = some (.int .i64 A.area.west) ∧ W.cell? ⟨wr.heap.size, 5, none⟩ = some (.int .i64 A.area.south) ∧ W.cell? ⟨wr.heap.size, 6, none⟩ = some (.int .i64 A.area.east) ∧ W.cell? ⟨wr.heap.size, 7, none⟩ = some (.int .i64 A.area.north) ∧ W.cell? ⟨wr.heap.size, 8, none⟩ = some (.int .i64 A.from_) ∧ W.cell? ⟨wr.heap.size, 9, none⟩ = some (.int .i64 A.until_) ∧ W.cell? ⟨wr.heap.size, 10, none⟩ = some (.int .i64 A.power) ∧ W.cell? ⟨w.heap.size, 0, none⟩ = some (.int .i64 q.x) ∧ W.cell? ⟨w.heap.size, 1, none⟩ = some (.int .i64 q.y))) := fun W hW => ⟨bkC (bkB K1.out hW fz) 0 rfl, bkC (bkB K1.out hW fz) 1 rfl, bkC (bkB K1.out hW fz) 2 rfl, bkC (bkB K1.out hW fz) 3 rfl, bkC (bkB K1.out hW fz) 4 rfl, bkC (bkB K1.out hW fz) 5 rfl, bkC (bkB K1.out hW fz) 6 rfl, bkC (bkB K1.out hW fz) 7 rfl, bkC (bkB K1.out hW fz) 8 rfl, bkC (bkB K1.out hW fz) 9 rfl, bkC (bkB K1.out hW fz) 10 rfl, (HD.out W (BS.out.trans (hW.mono (by omega)))).1, (HD.out W (BS.out.trans (hW.mono (by omega)))).2.1⟩
      obtain ⟨u0, u1, u2, u3, u4, u5, u6, u7, u8, u9, u10, u11, u12⟩ := HE1.out _ (Below.refl _ _)
      by_cases h0 : isForB A h q day = true
      case neg =>
        replace h0 : isForB A h q day = false := Bool.eq_false_iff.2 h0
        rw [h0] at CI
        have HE : Hid (forB A h q lo hi day = false) := by show _ = _; unfold forB; rw [h0]; rfl
        go_wp2_with (go_at_call 192; with_reducible refine (CI.out _).mono ?_; rintro e w3 ⟨rfl, hb3⟩; clear u0 u1 u2 u3 u4 u5 u6 u7 u8 u9 u10 u11 u12; obtain ⟨u0, u1, u2, u3, u4, u5, u6, u7, u8, u9, u10, u11, u12⟩ := HE1.out _ hb3; have HB3 := Lib.hid hb3; clear hb3)
        go_roundw
        case rel => exact ⟨k + 1, by omega, by go_num, HF.out HE.out, BS.out.trans (HB3.out.mono (by omega))⟩
        case measure => simp [intOf]; omega
      rw [h0] at CI
      by_cases h1 : lo < hi
      case neg =>
        have hd1 : decide (lo < hi) = false := decide_eq_false h1
        replace h1 : hi ≤ lo := by omega
        have HE : Hid (forB A h q lo hi day = false) := by show _ = _; unfold forB; rw [h0, hd1]; rfl
        go_wp2_with (go_at_call 192; with_reducible refine (CI.out _).mono ?_; rintro e w3 ⟨rfl, hb3⟩; clear u0 u1 u2 u3 u4 u5 u6 u7 u8 u9 u10 u11 u12; obtain ⟨u0, u1, u2, u3, u4, u5, u6, u7, u8, u9, u10, u11, u12⟩ := HE1.out _ hb3; have HB3 := Lib.hid hb3; clear hb3)
        go_roundw
        case rel => exact ⟨k + 1, by omega, by go_num, HF.out HE.out, BS.out.trans (HB3.out.mono (by omega))⟩
        case measure => simp [intOf]; omega
      have hd1 : decide (lo < hi) = true := decide_eq_true h1
      by_cases h2 : A.low ≤ lo
      case neg =>
        have hd2 : decide (A.low ≤ lo) = false := decide_eq_false h2
        replace h2 : lo < A.low := by omega
        have HE : Hid (forB A h q lo hi day = false) := by show _ = _; unfold forB; rw [h0, hd1, hd2]; rfl
        go_wp2_with (go_at_call 192; with_reducible refine (CI.out _).mono ?_; rintro e w3 ⟨rfl, hb3⟩; clear u0 u1 u2 u3 u4 u5 u6 u7 u8 u9 u10 u11 u12; obtain ⟨u0, u1, u2, u3, u4, u5, u6, u7, u8, u9, u10, u11, u12⟩ := HE1.out _ hb3; have HB3 := Lib.hid hb3; clear hb3)
        go_roundw
        case rel => exact ⟨k + 1, by omega, by go_num, HF.out HE.out, BS.out.trans (HB3.out.mono (by omega))⟩
        case measure => simp [intOf]; omega
      have hd2 : decide (A.low ≤ lo) = true := decide_eq_true h2
      by_cases h3 : hi ≤ A.high
      case neg =>
        have hd3 : decide (hi ≤ A.high) = false := decide_eq_false h3
        replace h3 : A.high < hi := by omega
        have HE : Hid (forB A h q lo hi day = false) := by show _ = _; unfold forB; rw [h0, hd1, hd2, hd3]; rfl
        go_wp2_with (go_at_call 192; with_reducible refine (CI.out _).mono ?_; rintro e w3 ⟨rfl, hb3⟩; clear u0 u1 u2 u3 u4 u5 u6 u7 u8 u9 u10 u11 u12; obtain ⟨u0, u1, u2, u3, u4, u5, u6, u7, u8, u9, u10, u11, u12⟩ := HE1.out _ hb3; have HB3 := Lib.hid hb3; clear hb3)
        go_roundw
        case rel => exact ⟨k + 1, by omega, by go_num, HF.out HE.out, BS.out.trans (HB3.out.mono (by omega))⟩
        case measure => simp [intOf]; omega
      have hd3 : decide (hi ≤ A.high) = true := decide_eq_true h3
      have HE : Hid (forB A h q lo hi day = true) := by show _ = _; unfold forB; rw [h0, hd1, hd2, hd3]; rfl
      go_upto_region 7 with (go_at_call 192; with_reducible refine (CI.out _).mono ?_; rintro e w3 ⟨rfl, hb3⟩; clear u0 u1 u2 u3 u4 u5 u6 u7 u8 u9 u10 u11 u12; obtain ⟨u0, u1, u2, u3, u4, u5, u6, u7, u8, u9, u10, u11, u12⟩ := HE1.out _ hb3; have HB3 := Lib.hid hb3; clear hb3)
      have hb5 := BS.out.trans (HB3.out.mono (by omega))
      have K5 := Lib.hid (bkB K1Z.out hb5 (by omega))
      have B5 := Lib.hid (HH.out _ hb5)
      clear hb5
      have g0 := bkC (v := .string ⟨#[]⟩) K5.out 0 rfl
      have g1 := bkC (v := .string ⟨#[]⟩) K5.out 1 rfl
      have g2 := bkC (v := .int .i64 0) K5.out 2 rfl
      have g3 := bkC (v := .int .i64 0) K5.out 3 rfl
      have g4 := bkC (v := .int .i64 0) K5.out 4 rfl
      have g5 := bkC (v := .int .i64 0) K5.out 5 rfl
      have g6 := bkC (v := .int .i64 0) K5.out 6 rfl
      have g7 := bkC (v := .int .i64 0) K5.out 7 rfl
      have g8 := bkC (v := .int .i64 0) K5.out 8 rfl
      have g9 := bkC (v := .int .i64 0) K5.out 9 rfl
      have g10 := bkC (v := .int .i64 0) K5.out 10 rfl
      have gz := bkF K5.out
      go_wp2
      refine bodyPost_ret (v := .tuple #[.agg #[.string A.id, .string A.holder, .int .i64 A.low, .int .i64 A.high, .int .i64 A.area.west, .int .i64 A.area.south, .int .i64 A.area.east, .int .i64 A.area.north, .int .i64 A.from_, .int .i64 A.until_, .int .i64 A.power], .int .i64 0]) (by simp [results, Tryz.results143, go_sem, *]) rfl ?_
      exact ⟨Or.inl ⟨k, hlt, HT.out HE.out, by rw [HA.out]⟩, (bset (bset (bset (bset (bset (bset (bset (bset (bset (bset (bset B5.out (by omega) 0 _) (by omega) 1 _) (by omega) 2 _) (by omega) 3 _) (by omega) 4 _) (by omega) 5 _) (by omega) 6 _) (by omega) 7 _) (by omega) 8 _) (by omega) 9 _) (by omega) 10 _)⟩
    · obtain rfl : k = l.length := by omega
      have hno := HN.out
      rw [List.take_length] at hno
      have HE := Lib.hid (firstIdx_none _ l hno)
      have K5 := Lib.hid (bkB K1Z.out HBR.out (by omega))
      have B5 := Lib.hid hbw
      clear hno hbw
      have g0 := bkC (v := .string ⟨#[]⟩) K5.out 0 rfl
      have g1 := bkC (v := .string ⟨#[]⟩) K5.out 1 rfl
      have g2 := bkC (v := .int .i64 0) K5.out 2 rfl
      have g3 := bkC (v := .int .i64 0) K5.out 3 rfl
      have g4 := bkC (v := .int .i64 0) K5.out 4 rfl
      have g5 := bkC (v := .int .i64 0) K5.out 5 rfl
      have g6 := bkC (v := .int .i64 0) K5.out 6 rfl
      have g7 := bkC (v := .int .i64 0) K5.out 7 rfl
      have g8 := bkC (v := .int .i64 0) K5.out 8 rfl
      have g9 := bkC (v := .int .i64 0) K5.out 9 rfl
      have g10 := bkC (v := .int .i64 0) K5.out 10 rfl
      have gz := bkF K5.out
      go_wp2
      refine bodyPost_ret (v := .tuple #[.agg #[.string ⟨#[]⟩, .string ⟨#[]⟩, .int .i64 0, .int .i64 0, .int .i64 0, .int .i64 0, .int .i64 0, .int .i64 0, .int .i64 0, .int .i64 0, .int .i64 0], .int .i64 3]) (by simp [results, Tryz.results143, go_sem, *]) rfl ?_
      exact ⟨Or.inr ⟨HE.out, rfl⟩, (bset (bset (bset (bset (bset (bset (bset (bset (bset (bset (bset B5.out (by omega) 0 _) (by omega) 1 _) (by omega) 2 _) (by omega) 3 _) (by omega) 4 _) (by omega) 5 _) (by omega) 6 _) (by omega) 7 _) (by omega) 8 _) (by omega) 9 _) (by omega) 10 _)⟩

open Go.RowKit
set_option linter.unusedVariables false
set_option linter.unusedSimpArgs false

def siteN (p : DPlan) (x : DSector) : DSite := gSite p.network.sites (idxSite p.network.sites x.site).toNat
def licIdx (p : DPlan) (x : DSector) : Int := if hasB p x = true then firstIdx' (fun y => allowsB y (siteN p x).holder (siteN p x).place (rngLow p x) (rngHigh p x) p.day) p.licences else -1
theorem refers_site {p : DPlan} {x : DSector} (h : refersB p.network x = true) : (idxSite p.network.sites x.site).toNat < p.network.sites.length ∧ ((idxSite p.network.sites x.site).toNat : Int) = idxSite p.network.sites x.site := by
  unfold refersB at h
  simp only [Bool.and_eq_true, decide_eq_true_eq] at h
  have := firstIdx_bounds (fun y : DSite => eqS y.name x.site) p.network.sites
  have h1 := h.1
  unfold idxSite at h1 ⊢
  omega
theorem planB_lics {p : DPlan} (h : planB p = true) : holdB p.licences = true ∧ ∀ y ∈ p.licences, licB y = true := by
  unfold planB at h
  simp only [Bool.and_eq_true] at h
  have h1 := h.2.2.2.1
  refine ⟨h1, ?_⟩
  unfold holdB at h1
  rw [Bool.and_eq_true, List.all_eq_true] at h1
  have := okL_prev (l := p.licences) (k := p.licences.length) (fun j hj => h1.2 j (by simpa using hj)) (Nat.le_refl _)
  rwa [List.take_length] at this
theorem firstIdx_congr {α : Type} {f g : α → Bool} {l : List α} (h : ∀ y ∈ l, f y = g y) : firstIdx' f l = firstIdx' g l := by
  unfold firstIdx'
  have : l.findIdx? f = l.findIdx? g := by
    induction l with
    | nil => rfl
    | cons x l ih =>
      simp only [List.findIdx?_cons, h x (by simp), ih (fun y hy => h y (by simp [hy]))]
  rw [this]
theorem rng_lt {p : DPlan} {x : DSector} (hv : ∀ j, j < p.bands.length → bandB (gBand p.bands j) = true) (h : hasB p x = true) : rngLow p x < rngHigh p x := by
  have h1 := bandB_facts (hasB_facts hv h).2.1
  rw [rngHigh_eq]
  omega
set_option maxHeartbeats 8000000 in
set_option maxRecDepth 100000 in
theorem siteOf_any (p : DPlan) (x : DSector) (v3 v4 v5 v6 v7 v8 v9 v10 v11 v12 : Value) (w : World) (h5 : Rd w.heap.size w (DSite.sT p.network.sites) v5) (hn : p.network.sites.length ≤ 1099511627776) (hr : refersB p.network x = true) :
    Calls Tryz.prog 142 #[.agg #[.int .i64 p.terrain.step, .int .i64 p.terrain.width, .int .i64 p.terrain.height, v3, v4, v5, v6, v7, v8, v9, v10, v11, v12, .int .i64 p.day], .agg #[.string x.name, .string x.site, .string x.antenna, .string x.radio, .string x.band, .int .i64 x.azimuth, .int .i64 x.tilt, .int .i64 x.above, .int .i64 x.channel]] w fun e w' => e = .returned (.agg #[.string (siteN p x).name, .string (siteN p x).holder, .int .i64 (siteN p x).place.x, .int .i64 (siteN p x).place.y]) ∧ Below w.heap.size w w' := by
  obtain ⟨hl, hlc⟩ := refers_site hr
  clear hr
  have H5 := Lib.hid h5
  obtain ⟨a5, k5, e5, _, _, hcl⟩ := DSite.rd h5
  subst e5
  have HS := Lib.hid h5
  obtain ⟨bs, os, es, hbs, hat⟩ := hcl (by omega)
  subst es
  obtain ⟨s0, s1, s2, s3⟩ := hat _ hl
  rw [gSite_eq hl] at s0 s1 s2 s3
  clear hat h5 hcl
  have HX : Hid (siteN p x = gSite p.network.sites (idxSite p.network.sites x.site).toNat) := rfl
  rw [← HX.out] at s0 s1 s2 s3
  have m5 : (p.network.sites.length : Int) ≤ 1099511627776 := by omega
  obtain ⟨W0, hW0, b0, z0, k0, k1, k2⟩ := boxes3 w #[.int .i64 p.terrain.step, .int .i64 p.terrain.width, .int .i64 p.terrain.height, v3, v4, .slice (some ⟨bs, os, none⟩) p.network.sites.length k5, v6, v7, v8, v9, v10, v11, v12, .int .i64 p.day] 53 #[.string x.name, .string x.site, .string x.antenna, .string x.radio, .string x.band, .int .i64 x.azimuth, .int .i64 x.tilt, .int .i64 x.above, .int .i64 x.channel] 128 #[.string ⟨#[]⟩, .string ⟨#[]⟩, .int .i64 0, .int .i64 0] 136
  have HW0 := Lib.hid hW0
  clear hW0
  have B0 := Lib.hid b0
  clear b0
  have K0 := Lib.hid k0
  clear k0
  have K1 := Lib.hid k1
  clear k1
  have K2 := Lib.hid k2
  clear k2
  have HD : Hid (∀ W : World, Below W0.heap.size W0 W → (W.cell? ⟨w.heap.size, 0, none⟩ = some (.int .i64 p.terrain.step) ∧ W.cell? ⟨w.heap.size, 1, none⟩ = some (.int .i64 p.terrain.width) ∧ W.cell? ⟨w.heap.size, 2, none⟩ = some (.int .i64 p.terrain.height) ∧ W.cell? ⟨w.heap.size, 3, none⟩ = some (v3) ∧ W.cell? ⟨w.heap.size, 4, none⟩ = some (v4) ∧ W.cell? ⟨w.heap.size, 5, none⟩ = some (.slice (some ⟨bs, os, none⟩) p.network.sites.length k5) ∧ W.cell? ⟨w.heap.size, 6, none⟩ = some (v6) ∧ W.cell? ⟨w.heap.size, 7, none⟩ = some (v7) ∧ W.cell? ⟨w.heap.size, 8, none⟩ = some (v8) ∧ W.cell? ⟨w.heap.size, 9, none⟩ = some (v9) ∧ W.cell? ⟨w.heap.size, 10, none⟩ = some (v10) ∧ W.cell? ⟨w.heap.size, 11, none⟩ = some (v11) ∧ W.cell? ⟨w.heap.size, 12, none⟩ = some (v12) ∧ W.cell? ⟨w.heap.size, 13, none⟩ = some (.int .i64 p.day) ∧ W.cell? ⟨w.heap.size + 1, 0, none⟩ = some (.string x.name) ∧ W.cell? ⟨w.heap.size + 1, 1, none⟩ = some (.string x.site) ∧ W.cell? ⟨w.heap.size + 1, 2, none⟩ = some (.string x.antenna) ∧ W.cell? ⟨w.heap.size + 1, 3, none⟩ = some (.string x.radio) ∧ W.cell? ⟨w.heap.size + 1, 4, none⟩ = some (.string x.band) ∧ W.cell? ⟨w.heap.size + 1, 5, none⟩ = some (.int .i64 x.azimuth) ∧ W.cell? ⟨w.heap.size + 1, 6, none⟩ = some (.int .i64 x.tilt) ∧ W.cell? ⟨w.heap.size + 1, 7, none⟩ = some (.int .i64 x.above) ∧ W.cell? ⟨w.heap.size + 1, 8, none⟩ = some (.int .i64 x.channel) ∧ W.cell? ⟨w.heap.size + 2, 0, none⟩ = some (.string ⟨#[]⟩) ∧ W.cell? ⟨w.heap.size + 2, 1, none⟩ = some (.string ⟨#[]⟩) ∧ W.cell? ⟨w.heap.size + 2, 2, none⟩ = some (.int .i64 0) ∧ W.cell? ⟨w.heap.size + 2, 3, none⟩ = some (.int .i64 0))) := fun W hW => ⟨bkC (bkB K0.out hW (by omega)) 0 rfl, bkC (bkB K0.out hW (by omega)) 1 rfl, bkC (bkB K0.out hW (by omega)) 2 rfl, bkC (bkB K0.out hW (by omega)) 3 rfl, bkC (bkB K0.out hW (by omega)) 4 rfl, bkC (bkB K0.out hW (by omega)) 5 rfl, bkC (bkB K0.out hW (by omega)) 6 rfl, bkC (bkB K0.out hW (by omega)) 7 rfl, bkC (bkB K0.out hW (by omega)) 8 rfl, bkC (bkB K0.out hW (by omega)) 9 rfl, bkC (bkB K0.out hW (by omega)) 10 rfl, bkC (bkB K0.out hW (by omega)) 11 rfl, bkC (bkB K0.out hW (by omega)) 12 rfl, bkC (bkB K0.out hW (by omega)) 13 rfl, bkC (bkB K1.out hW (by omega)) 0 rfl, bkC (bkB K1.out hW (by omega)) 1 rfl, bkC (bkB K1.out hW (by omega)) 2 rfl, bkC (bkB K1.out hW (by omega)) 3 rfl, bkC (bkB K1.out hW (by omega)) 4 rfl, bkC (bkB K1.out hW (by omega)) 5 rfl, bkC (bkB K1.out hW (by omega)) 6 rfl, bkC (bkB K1.out hW (by omega)) 7 rfl, bkC (bkB K1.out hW (by omega)) 8 rfl, bkC (bkB K2.out hW (by omega)) 0 rfl, bkC (bkB K2.out hW (by omega)) 1 rfl, bkC (bkB K2.out hW (by omega)) 2 rfl, bkC (bkB K2.out hW (by omega)) 3 rfl⟩
  have HB : Hid (Below W0.heap.size W0 W0) := Below.refl _ _
  have HH : Hid (∀ W : World, Below W0.heap.size W0 W → Below w.heap.size w W) := fun W hW => B0.out.trans (hW.mono (by omega))
  have CN : Hid (∀ W : World, Below W0.heap.size W0 W → Calls Tryz.prog 168 #[.agg #[.slice (some ⟨bs, os, none⟩) p.network.sites.length k5, v6, v7, v8], .string x.site] W fun e w' => e = .returned (.int .i64 (idxSite p.network.sites x.site)) ∧ Below W.heap.size W w') := fun W hW => siteNamed_any p.network.sites x.site _ v6 v7 v8 w.heap.size W (H5.out.below (HH.out W hW)) (HH.out W hW).size hn
  rw [← hlc] at CN
  generalize (idxSite p.network.sites x.site).toNat = k at *
  clear hlc
  generalize siteN p x = y at *
  clear HX
  have i1 : (0 : Int) ≤ (k : Int) := by omega
  have i2 : (k : Int) < (p.network.sites.length : Int) := by omega
  rw [← bat B0.out bs _ hbs] at s0 s1 s2 s3
  go_enter Tryz.func142, Tryz.ntmps142
  go_upto_region 1 with (fail)
  rw [HW0.out]
  obtain ⟨t0, t1, t2, t3, t4, t5, t6, t7, t8, t9, t10, t11, t12, t13, t14, t15, t16, t17, t18, t19, t20, t21, t22, t23, t24, t25, t26⟩ := HD.out _ HB.out
  have oP := overC (w0 := W0) (show w.heap.size < W0.heap.size by omega)
  have oX := overC (w0 := W0) (show w.heap.size + 1 < W0.heap.size by omega)
  have oB := overC (w0 := W0) (show bs < W0.heap.size by omega)
  refine wp_region_over_tail 10 W0.heap.size W0 (Below.refl _ _) (by kernel_rfl) (by kernel_rfl) ?_
  simp only [List.take_succ_cons, List.take_zero, List.drop_succ_cons, List.drop_zero]
  repeat (go_big_quiet_step ((go_at_call 168; with_reducible exact over_left (Nat.le_refl _) (CN.out _ (over_below _ _ _)))))
  refine wpQuiet_nil ?_
  intro X
  have hX := over_below W0.heap.size W0 X
  clear oP oX oB s0 s1 s2 s3 t0 t1 t2 t3 t4 t5 t6 t7 t8 t9 t10 t11 t12 t13 t14 t15 t16 t17 t18 t19 t20 t21 t22 t23 t24 t25 t26
  generalize over W0.heap.size W0 X = w2 at *
  have K2b := Lib.hid (bkB K2.out hX (by omega))
  have B2 := Lib.hid (HH.out _ hX)
  clear hX
  have g0 := bkC (v := .string ⟨#[]⟩) K2b.out 0 rfl
  have g1 := bkC (v := .string ⟨#[]⟩) K2b.out 1 rfl
  have g2 := bkC (v := .int .i64 0) K2b.out 2 rfl
  have g3 := bkC (v := .int .i64 0) K2b.out 3 rfl
  have gz := bkF K2b.out
  go_wp2
  refine bodyPost_ret (v := .agg #[.string y.name, .string y.holder, .int .i64 y.place.x, .int .i64 y.place.y]) (by simp [results, Tryz.results142, go_sem, *]) rfl ?_
  exact ⟨rfl, (bset (bset (bset (bset B2.out (by omega) 0 _) (by omega) 1 _) (by omega) 2 _) (by omega) 3 _)⟩
set_option maxHeartbeats 8000000 in
set_option maxRecDepth 100000 in
theorem licenceOf_any (p : DPlan) (x : DSector) (v3 v4 v5 v6 v7 v8 v9 v10 v11 v12 : Value) (w : World) (h : PlanRd w.heap.size w p v3 v4 v5 v6 v7 v8 v9 v10 v11 v12) (hs : sizL p.tr ≤ 1099511627776) (hk : p.ok) (hp : planB p = true) (hx : sectorB x = true) (hr : refersB p.network x = true) :
    Calls Tryz.prog 74 #[.agg #[.int .i64 p.terrain.step, .int .i64 p.terrain.width, .int .i64 p.terrain.height, v3, v4, v5, v6, v7, v8, v9, v10, v11, v12, .int .i64 p.day], .agg #[.string x.name, .string x.site, .string x.antenna, .string x.radio, .string x.band, .int .i64 x.azimuth, .int .i64 x.tilt, .int .i64 x.above, .int .i64 x.channel]] w fun e w' => ((0 ≤ licIdx p x ∧ (licIdx p x).toNat < p.licences.length ∧ e = .returned (.tuple #[.agg #[.string (gLicence p.licences (licIdx p x).toNat).id, .string (gLicence p.licences (licIdx p x).toNat).holder, .int .i64 (gLicence p.licences (licIdx p x).toNat).low, .int .i64 (gLicence p.licences (licIdx p x).toNat).high, .int .i64 (gLicence p.licences (licIdx p x).toNat).area.west, .int .i64 (gLicence p.licences (licIdx p x).toNat).area.south, .int .i64 (gLicence p.licences (licIdx p x).toNat).area.east, .int .i64 (gLicence p.licences (licIdx p x).toNat).area.north, .int .i64 (gLicence p.licences (licIdx p x).toNat).from_, .int .i64 (gLicence p.licences (licIdx p x).toNat).until_, .int .i64 (gLicence p.licences (licIdx p x).toNat).power], .bool true])) ∨ (licIdx p x = -1 ∧ e = .returned (.tuple #[.agg #[.string ⟨#[]⟩, .string ⟨#[]⟩, .int .i64 0, .int .i64 0, .int .i64 0, .int .i64 0, .int .i64 0, .int .i64 0, .int .i64 0, .int .i64 0, .int .i64 0], .bool false]))) ∧ Below w.heap.size w w' := by
  have H := Lib.hid h
  clear h
  have Z := Lib.hid (PlanSz.of hs)
  obtain ⟨hc1, hc2⟩ := sectorB_channel hx
  have hv : ∀ j, j < p.bands.length → bandB (gBand p.bands j) = true := fun j hj => planB_bands hp hj
  obtain ⟨W0, hW0, b0, z0, k0, k1, k2⟩ := boxes3 w #[.int .i64 p.terrain.step, .int .i64 p.terrain.width, .int .i64 p.terrain.height, v3, v4, v5, v6, v7, v8, v9, v10, v11, v12, .int .i64 p.day] 53 #[.string x.name, .string x.site, .string x.antenna, .string x.radio, .string x.band, .int .i64 x.azimuth, .int .i64 x.tilt, .int .i64 x.above, .int .i64 x.channel] 128 #[.string ⟨#[]⟩, .string ⟨#[]⟩, .int .i64 0, .int .i64 0, .int .i64 0, .int .i64 0, .int .i64 0, .int .i64 0, .int .i64 0, .int .i64 0, .int .i64 0] 72
  have HW0 := Lib.hid hW0
  clear hW0
  have B0 := Lib.hid b0
  clear b0
  have K0 := Lib.hid k0
  clear k0
  have K1 := Lib.hid k1
  clear k1
  have K2 := Lib.hid k2
  clear k2
  have HD : Hid (∀ W : World, Below W0.heap.size W0 W → (W.cell? ⟨w.heap.size, 0, none⟩ = some (.int .i64 p.terrain.step) ∧ W.cell? ⟨w.heap.size, 1, none⟩ = some (.int .i64 p.terrain.width) ∧ W.cell? ⟨w.heap.size, 2, none⟩ = some (.int .i64 p.terrain.height) ∧ W.cell? ⟨w.heap.size, 3, none⟩ = some (v3) ∧ W.cell? ⟨w.heap.size, 4, none⟩ = some (v4) ∧ W.cell? ⟨w.heap.size, 5, none⟩ = some (v5) ∧ W.cell? ⟨w.heap.size, 6, none⟩ = some (v6) ∧ W.cell? ⟨w.heap.size, 7, none⟩ = some (v7) ∧ W.cell? ⟨w.heap.size, 8, none⟩ = some (v8) ∧ W.cell? ⟨w.heap.size, 9, none⟩ = some (v9) ∧ W.cell? ⟨w.heap.size, 10, none⟩ = some (v10) ∧ W.cell? ⟨w.heap.size, 11, none⟩ = some (v11) ∧ W.cell? ⟨w.heap.size, 12, none⟩ = some (v12) ∧ W.cell? ⟨w.heap.size, 13, none⟩ = some (.int .i64 p.day) ∧ W.cell? ⟨w.heap.size + 1, 0, none⟩ = some (.string x.name) ∧ W.cell? ⟨w.heap.size + 1, 1, none⟩ = some (.string x.site) ∧ W.cell? ⟨w.heap.size + 1, 2, none⟩ = some (.string x.antenna) ∧ W.cell? ⟨w.heap.size + 1, 3, none⟩ = some (.string x.radio) ∧ W.cell? ⟨w.heap.size + 1, 4, none⟩ = some (.string x.band) ∧ W.cell? ⟨w.heap.size + 1, 5, none⟩ = some (.int .i64 x.azimuth) ∧ W.cell? ⟨w.heap.size + 1, 6, none⟩ = some (.int .i64 x.tilt) ∧ W.cell? ⟨w.heap.size + 1, 7, none⟩ = some (.int .i64 x.above) ∧ W.cell? ⟨w.heap.size + 1, 8, none⟩ = some (.int .i64 x.channel) ∧ W.cell? ⟨w.heap.size + 2, 0, none⟩ = some (.string ⟨#[]⟩) ∧ W.cell? ⟨w.heap.size + 2, 1, none⟩ = some (.string ⟨#[]⟩) ∧ W.cell? ⟨w.heap.size + 2, 2, none⟩ = some (.int .i64 0) ∧ W.cell? ⟨w.heap.size + 2, 3, none⟩ = some (.int .i64 0) ∧ W.cell? ⟨w.heap.size + 2, 4, none⟩ = some (.int .i64 0) ∧ W.cell? ⟨w.heap.size + 2, 5, none⟩ = some (.int .i64 0) ∧ W.cell? ⟨w.heap.size + 2, 6, none⟩ = some (.int .i64 0) ∧ W.cell? ⟨w.heap.size + 2, 7, none⟩ = some (.int .i64 0) ∧ W.cell? ⟨w.heap.size + 2, 8, none⟩ = some (.int .i64 0) ∧ W.cell? ⟨w.heap.size + 2, 9, none⟩ = some (.int .i64 0) ∧ W.cell? ⟨w.heap.size + 2, 10, none⟩ = some (.int .i64 0))) := fun W hW => ⟨bkC (bkB K0.out hW (by omega)) 0 rfl, bkC (bkB K0.out hW (by omega)) 1 rfl, bkC (bkB K0.out hW (by omega)) 2 rfl, bkC (bkB K0.out hW (by omega)) 3 rfl, bkC (bkB K0.out hW (by omega)) 4 rfl, bkC (bkB K0.out hW (by omega)) 5 rfl, bkC (bkB K0.out hW (by omega)) 6 rfl, bkC (bkB K0.out hW (by omega)) 7 rfl, bkC (bkB K0.out hW (by omega)) 8 rfl, bkC (bkB K0.out hW (by omega)) 9 rfl, bkC (bkB K0.out hW (by omega)) 10 rfl, bkC (bkB K0.out hW (by omega)) 11 rfl, bkC (bkB K0.out hW (by omega)) 12 rfl, bkC (bkB K0.out hW (by omega)) 13 rfl, bkC (bkB K1.out hW (by omega)) 0 rfl, bkC (bkB K1.out hW (by omega)) 1 rfl, bkC (bkB K1.out hW (by omega)) 2 rfl, bkC (bkB K1.out hW (by omega)) 3 rfl, bkC (bkB K1.out hW (by omega)) 4 rfl, bkC (bkB K1.out hW (by omega)) 5 rfl, bkC (bkB K1.out hW (by omega)) 6 rfl, bkC (bkB K1.out hW (by omega)) 7 rfl, bkC (bkB K1.out hW (by omega)) 8 rfl, bkC (bkB K2.out hW (by omega)) 0 rfl, bkC (bkB K2.out hW (by omega)) 1 rfl, bkC (bkB K2.out hW (by omega)) 2 rfl, bkC (bkB K2.out hW (by omega)) 3 rfl, bkC (bkB K2.out hW (by omega)) 4 rfl, bkC (bkB K2.out hW (by omega)) 5 rfl, bkC (bkB K2.out hW (by omega)) 6 rfl, bkC (bkB K2.out hW (by omega)) 7 rfl, bkC (bkB K2.out hW (by omega)) 8 rfl, bkC (bkB K2.out hW (by omega)) 9 rfl, bkC (bkB K2.out hW (by omega)) 10 rfl⟩
  have HB : Hid (Below W0.heap.size W0 W0) := Below.refl _ _
  have HH : Hid (∀ W : World, Below W0.heap.size W0 W → Below w.heap.size w W) := fun W hW => B0.out.trans (hW.mono (by omega))
  have CR : Hid (∀ W : World, Below W0.heap.size W0 W → Calls Tryz.prog 72 #[.agg #[.int .i64 p.terrain.step, .int .i64 p.terrain.width, .int .i64 p.terrain.height, v3, v4, v5, v6, v7, v8, v9, v10, v11, v12, .int .i64 p.day], .agg #[.string x.name, .string x.site, .string x.antenna, .string x.radio, .string x.band, .int .i64 x.azimuth, .int .i64 x.tilt, .int .i64 x.above, .int .i64 x.channel]] W fun e w' => e = .returned (.tuple #[.int .i64 (rngV p x).1, .int .i64 (rngV p x).2.1, .bool (rngV p x).2.2]) ∧ Below W.heap.size W w') := fun W hW => rangeOf_any p x v3 v4 v5 v6 v7 v8 v9 v10 v11 v12 W ((H.out.r9.below (HH.out W hW)).mono (HH.out W hW).size) Z.out.bands hv hk.bands hc1 hc2
  have CS : Hid (∀ W : World, Below W0.heap.size W0 W → Calls Tryz.prog 142 #[.agg #[.int .i64 p.terrain.step, .int .i64 p.terrain.width, .int .i64 p.terrain.height, v3, v4, v5, v6, v7, v8, v9, v10, v11, v12, .int .i64 p.day], .agg #[.string x.name, .string x.site, .string x.antenna, .string x.radio, .string x.band, .int .i64 x.azimuth, .int .i64 x.tilt, .int .i64 x.above, .int .i64 x.channel]] W fun e w' => e = .returned (.agg #[.string (siteN p x).name, .string (siteN p x).holder, .int .i64 (siteN p x).place.x, .int .i64 (siteN p x).place.y]) ∧ Below W.heap.size W w') := fun W hW => siteOf_any p x v3 v4 v5 v6 v7 v8 v9 v10 v11 v12 W ((H.out.r5.below (HH.out W hW)).mono (HH.out W hW).size) Z.out.sites hr
  have HRV : Hid (rngV p x = if hasB p x = true then (rngLow p x, rngHigh p x, true) else (0, 0, false)) := rfl
  have HLI : Hid (licIdx p x = if hasB p x = true then firstIdx' (fun y => allowsB y (siteN p x).holder (siteN p x).place (rngLow p x) (rngHigh p x) p.day) p.licences else -1) := rfl
  by_cases hh : hasB p x = true
  case neg =>
    rw [if_neg hh] at HRV HLI
    rw [HRV.out] at CR
    clear hh HRV
    go_enter Tryz.func74, Tryz.ntmps74
    go_upto_region 1 with (fail)
    rw [HW0.out]
    obtain ⟨t0, t1, t2, t3, t4, t5, t6, t7, t8, t9, t10, t11, t12, t13, t14, t15, t16, t17, t18, t19, t20, t21, t22, t23, t24, t25, t26, t27, t28, t29, t30, t31, t32, t33⟩ := HD.out _ HB.out
    go_upto_region 3 with (go_at_call 72; with_reducible refine (CR.out _ HB.out).mono ?_; rintro e w2 ⟨rfl, hb2⟩; (try clear t0 t1 t2 t3 t4 t5 t6 t7 t8 t9 t10 t11 t12 t13 t14 t15 t16 t17 t18 t19 t20 t21 t22 t23 t24 t25 t26 t27 t28 t29 t30 t31 t32 t33); replace HB := Lib.hid (HB.out.trans (hb2.mono HB.out.size)); clear hb2; obtain ⟨t0, t1, t2, t3, t4, t5, t6, t7, t8, t9, t10, t11, t12, t13, t14, t15, t16, t17, t18, t19, t20, t21, t22, t23, t24, t25, t26, t27, t28, t29, t30, t31, t32, t33⟩ := HD.out _ HB.out)
    have K2b := Lib.hid (bkB K2.out HB.out (by omega))
    have B2 := Lib.hid (HH.out _ HB.out)
    clear t23 t24 t25 t26 t27 t28 t29 t30 t31 t32 t33
    have g0 := bkC (v := .string ⟨#[]⟩) K2b.out 0 rfl
    have g1 := bkC (v := .string ⟨#[]⟩) K2b.out 1 rfl
    have g2 := bkC (v := .int .i64 0) K2b.out 2 rfl
    have g3 := bkC (v := .int .i64 0) K2b.out 3 rfl
    have g4 := bkC (v := .int .i64 0) K2b.out 4 rfl
    have g5 := bkC (v := .int .i64 0) K2b.out 5 rfl
    have g6 := bkC (v := .int .i64 0) K2b.out 6 rfl
    have g7 := bkC (v := .int .i64 0) K2b.out 7 rfl
    have g8 := bkC (v := .int .i64 0) K2b.out 8 rfl
    have g9 := bkC (v := .int .i64 0) K2b.out 9 rfl
    have g10 := bkC (v := .int .i64 0) K2b.out 10 rfl
    have gz := bkF K2b.out
    go_wp2
    refine bodyPost_ret (v := .tuple #[.agg #[.string ⟨#[]⟩, .string ⟨#[]⟩, .int .i64 0, .int .i64 0, .int .i64 0, .int .i64 0, .int .i64 0, .int .i64 0, .int .i64 0, .int .i64 0, .int .i64 0], .bool false]) (by simp [results, Tryz.results74, go_sem, *]) rfl ?_
    exact ⟨Or.inr ⟨HLI.out, rfl⟩, (bset (bset (bset (bset (bset (bset (bset (bset (bset (bset (bset B2.out (by omega) 0 _) (by omega) 1 _) (by omega) 2 _) (by omega) 3 _) (by omega) 4 _) (by omega) 5 _) (by omega) 6 _) (by omega) 7 _) (by omega) 8 _) (by omega) 9 _) (by omega) 10 _)⟩
  have hlt := rng_lt hv hh
  obtain ⟨hvl, hvv⟩ := planB_lics hp
  have HEQ := Lib.hid (firstIdx_congr (f := fun y => forB y (siteN p x).holder (siteN p x).place (rngLow p x) (rngHigh p x) p.day) (fun y hy => forB_eq (hvv y hy) (siteN p x).holder (siteN p x).place p.day hlt))
  rw [if_pos hh] at HRV HLI
  rw [HRV.out] at CR
  have CL : Hid (∀ W : World, Below W0.heap.size W0 W → Calls Tryz.prog 143 #[v10, .string (siteN p x).holder, .agg #[.int .i64 (siteN p x).place.x, .int .i64 (siteN p x).place.y], .int .i64 (rngLow p x), .int .i64 (rngHigh p x), .int .i64 p.day] W fun e w' => ((∃ k, k < p.licences.length ∧ licIdx p x = (k : Int) ∧ e = .returned (.tuple #[.agg #[.string (gLicence p.licences k).id, .string (gLicence p.licences k).holder, .int .i64 (gLicence p.licences k).low, .int .i64 (gLicence p.licences k).high, .int .i64 (gLicence p.licences k).area.west, .int .i64 (gLicence p.licences k).area.south, .int .i64 (gLicence p.licences k).area.east, .int .i64 (gLicence p.licences k).area.north, .int .i64 (gLicence p.licences k).from_, .int .i64 (gLicence p.licences k).until_, .int .i64 (gLicence p.licences k).power], .int .i64 0])) ∨ (licIdx p x = -1 ∧ e = .returned (.tuple #[.agg #[.string ⟨#[]⟩, .string ⟨#[]⟩, .int .i64 0, .int .i64 0, .int .i64 0, .int .i64 0, .int .i64 0, .int .i64 0, .int .i64 0, .int .i64 0, .int .i64 0], .int .i64 3]))) ∧ Below W.heap.size W w') := fun W hW => by
    rw [HLI.out, ← HEQ.out]
    exact licenceFor_any p.licences (siteN p x).holder (siteN p x).place (rngLow p x) (rngHigh p x) p.day v10 w.heap.size W (H.out.r10.below (HH.out W hW)) (HH.out W hW).size Z.out.licences hvl hk.licences
  clear HRV HLI HEQ hh hlt hvl hvv
  generalize licIdx p x = li at *
  generalize rngLow p x = lo at *
  generalize rngHigh p x = hi at *
  generalize siteN p x = y at *
  go_enter Tryz.func74, Tryz.ntmps74
  go_upto_region 1 with (fail)
  rw [HW0.out]
  obtain ⟨t0, t1, t2, t3, t4, t5, t6, t7, t8, t9, t10, t11, t12, t13, t14, t15, t16, t17, t18, t19, t20, t21, t22, t23, t24, t25, t26, t27, t28, t29, t30, t31, t32, t33⟩ := HD.out _ HB.out
  go_upto_region 5 with (first | (go_at_call 72; with_reducible refine (CR.out _ HB.out).mono ?_; rintro e w2 ⟨rfl, hb2⟩; (try clear t0 t1 t2 t3 t4 t5 t6 t7 t8 t9 t10 t11 t12 t13 t14 t15 t16 t17 t18 t19 t20 t21 t22 t23 t24 t25 t26 t27 t28 t29 t30 t31 t32 t33); replace HB := Lib.hid (HB.out.trans (hb2.mono HB.out.size)); clear hb2; obtain ⟨t0, t1, t2, t3, t4, t5, t6, t7, t8, t9, t10, t11, t12, t13, t14, t15, t16, t17, t18, t19, t20, t21, t22, t23, t24, t25, t26, t27, t28, t29, t30, t31, t32, t33⟩ := HD.out _ HB.out) | (go_at_call 142; with_reducible refine (CS.out _ HB.out).mono ?_; rintro e w2 ⟨rfl, hb2⟩; (try clear t0 t1 t2 t3 t4 t5 t6 t7 t8 t9 t10 t11 t12 t13 t14 t15 t16 t17 t18 t19 t20 t21 t22 t23 t24 t25 t26 t27 t28 t29 t30 t31 t32 t33); replace HB := Lib.hid (HB.out.trans (hb2.mono HB.out.size)); clear hb2; obtain ⟨t0, t1, t2, t3, t4, t5, t6, t7, t8, t9, t10, t11, t12, t13, t14, t15, t16, t17, t18, t19, t20, t21, t22, t23, t24, t25, t26, t27, t28, t29, t30, t31, t32, t33⟩ := HD.out _ HB.out))
  have HX := Lib.hid (HB.out.alloc HB.out.size (.cells #[.string y.name, .string y.holder, .int .i64 y.place.x, .int .i64 y.place.y] 136))
  have kb := bkN w2 #[.string y.name, .string y.holder, .int .i64 y.place.x, .int .i64 y.place.y] 136
  have zb : w2.heap.size < (w2.alloc (.cells #[.string y.name, .string y.holder, .int .i64 y.place.x, .int .i64 y.place.y] 136)).heap.size := by simp
  generalize (w2.alloc (.cells #[.string y.name, .string y.holder, .int .i64 y.place.x, .int .i64 y.place.y] 136)) = w3 at *
  clear t0 t1 t2 t3 t4 t5 t6 t7 t8 t9 t10 t11 t12 t13 t14 t15 t16 t17 t18 t19 t20 t21 t22 t23 t24 t25 t26 t27 t28 t29 t30 t31 t32 t33
  replace HB := Lib.hid HX.out
  clear HX
  obtain ⟨t0, t1, t2, t3, t4, t5, t6, t7, t8, t9, t10, t11, t12, t13, t14, t15, t16, t17, t18, t19, t20, t21, t22, t23, t24, t25, t26, t27, t28, t29, t30, t31, t32, t33⟩ := HD.out _ HB.out
  have q0 := bkC (v := .string y.name) kb 0 rfl
  have q1 := bkC (v := .string y.holder) kb 1 rfl
  have q2 := bkC (v := .int .i64 y.place.x) kb 2 rfl
  have q3 := bkC (v := .int .i64 y.place.y) kb 3 rfl
  go_upto_region 5 with (fail)
  go_wp2_with fail
  refine (CL.out _ HB.out).mono ?_
  rintro e w4 ⟨⟨k, hkl, hli, rfl⟩ | ⟨hli, rfl⟩, hb2⟩
  case inl =>
    clear t0 t1 t2 t3 t4 t5 t6 t7 t8 t9 t10 t11 t12 t13 t14 t15 t16 t17 t18 t19 t20 t21 t22 t23 t24 t25 t26 t27 t28 t29 t30 t31 t32 t33 q0 q1 q2 q3
    replace HB := Lib.hid (HB.out.trans (hb2.mono HB.out.size))
    clear hb2
    obtain ⟨t0, t1, t2, t3, t4, t5, t6, t7, t8, t9, t10, t11, t12, t13, t14, t15, t16, t17, t18, t19, t20, t21, t22, t23, t24, t25, t26, t27, t28, t29, t30, t31, t32, t33⟩ := HD.out _ HB.out
    subst hli
    have HKL := Lib.hid hkl
    have HGK : Hid (gLicence p.licences ((k : Int)).toNat = gLicence p.licences k) := by show _ = _; rw [Int.toNat_natCast]
    generalize hG : gLicence p.licences k = A at *
    clear hG
    go_upto_region 6 with (fail)
    have HX := Lib.hid (HB.out.alloc HB.out.size (.cells #[.string A.id, .string A.holder, .int .i64 A.low, .int .i64 A.high, .int .i64 A.area.west, .int .i64 A.area.south, .int .i64 A.area.east, .int .i64 A.area.north, .int .i64 A.from_, .int .i64 A.until_, .int .i64 A.power] 72))
    have kl := bkN w4 #[.string A.id, .string A.holder, .int .i64 A.low, .int .i64 A.high, .int .i64 A.area.west, .int .i64 A.area.south, .int .i64 A.area.east, .int .i64 A.area.north, .int .i64 A.from_, .int .i64 A.until_, .int .i64 A.power] 72
    have zl : w4.heap.size < (w4.alloc (.cells #[.string A.id, .string A.holder, .int .i64 A.low, .int .i64 A.high, .int .i64 A.area.west, .int .i64 A.area.south, .int .i64 A.area.east, .int .i64 A.area.north, .int .i64 A.from_, .int .i64 A.until_, .int .i64 A.power] 72)).heap.size := by simp
    generalize (w4.alloc (.cells #[.string A.id, .string A.holder, .int .i64 A.low, .int .i64 A.high, .int .i64 A.area.west, .int .i64 A.area.south, .int .i64 A.area.east, .int .i64 A.area.north, .int .i64 A.from_, .int .i64 A.until_, .int .i64 A.power] 72)) = w5 at *
    clear t0 t1 t2 t3 t4 t5 t6 t7 t8 t9 t10 t11 t12 t13 t14 t15 t16 t17 t18 t19 t20 t21 t22 t23 t24 t25 t26 t27 t28 t29 t30 t31 t32 t33
    replace HB := Lib.hid HX.out
    clear HX
    obtain ⟨t0, t1, t2, t3, t4, t5, t6, t7, t8, t9, t10, t11, t12, t13, t14, t15, t16, t17, t18, t19, t20, t21, t22, t23, t24, t25, t26, t27, t28, t29, t30, t31, t32, t33⟩ := HD.out _ HB.out
    have y0 := bkC (v := .string A.id) kl 0 rfl
    have y1 := bkC (v := .string A.holder) kl 1 rfl
    have y2 := bkC (v := .int .i64 A.low) kl 2 rfl
    have y3 := bkC (v := .int .i64 A.high) kl 3 rfl
    have y4 := bkC (v := .int .i64 A.area.west) kl 4 rfl
    have y5 := bkC (v := .int .i64 A.area.south) kl 5 rfl
    have y6 := bkC (v := .int .i64 A.area.east) kl 6 rfl
    have y7 := bkC (v := .int .i64 A.area.north) kl 7 rfl
    have y8 := bkC (v := .int .i64 A.from_) kl 8 rfl
    have y9 := bkC (v := .int .i64 A.until_) kl 9 rfl
    have y10 := bkC (v := .int .i64 A.power) kl 10 rfl
    have K2b := Lib.hid (bkB K2.out HB.out (by omega))
    have B2 := Lib.hid (HH.out _ HB.out)
    clear t23 t24 t25 t26 t27 t28 t29 t30 t31 t32 t33
    have g0 := bkC (v := .string ⟨#[]⟩) K2b.out 0 rfl
    have g1 := bkC (v := .string ⟨#[]⟩) K2b.out 1 rfl
    have g2 := bkC (v := .int .i64 0) K2b.out 2 rfl
    have g3 := bkC (v := .int .i64 0) K2b.out 3 rfl
    have g4 := bkC (v := .int .i64 0) K2b.out 4 rfl
    have g5 := bkC (v := .int .i64 0) K2b.out 5 rfl
    have g6 := bkC (v := .int .i64 0) K2b.out 6 rfl
    have g7 := bkC (v := .int .i64 0) K2b.out 7 rfl
    have g8 := bkC (v := .int .i64 0) K2b.out 8 rfl
    have g9 := bkC (v := .int .i64 0) K2b.out 9 rfl
    have g10 := bkC (v := .int .i64 0) K2b.out 10 rfl
    have gz := bkF K2b.out
    go_wp2
    refine bodyPost_ret (v := .tuple #[.agg #[.string A.id, .string A.holder, .int .i64 A.low, .int .i64 A.high, .int .i64 A.area.west, .int .i64 A.area.south, .int .i64 A.area.east, .int .i64 A.area.north, .int .i64 A.from_, .int .i64 A.until_, .int .i64 A.power], .bool true]) (by simp [results, Tryz.results74, go_sem, *]) rfl ?_
    exact ⟨Or.inl ⟨by omega, by rw [Int.toNat_natCast]; exact HKL.out, by rw [HGK.out]⟩, (bset (bset (bset (bset (bset (bset (bset (bset (bset (bset (bset B2.out (by omega) 0 _) (by omega) 1 _) (by omega) 2 _) (by omega) 3 _) (by omega) 4 _) (by omega) 5 _) (by omega) 6 _) (by omega) 7 _) (by omega) 8 _) (by omega) 9 _) (by omega) 10 _)⟩
  clear t0 t1 t2 t3 t4 t5 t6 t7 t8 t9 t10 t11 t12 t13 t14 t15 t16 t17 t18 t19 t20 t21 t22 t23 t24 t25 t26 t27 t28 t29 t30 t31 t32 t33 q0 q1 q2 q3
  replace HB := Lib.hid (HB.out.trans (hb2.mono HB.out.size))
  clear hb2
  obtain ⟨t0, t1, t2, t3, t4, t5, t6, t7, t8, t9, t10, t11, t12, t13, t14, t15, t16, t17, t18, t19, t20, t21, t22, t23, t24, t25, t26, t27, t28, t29, t30, t31, t32, t33⟩ := HD.out _ HB.out
  have HLI := Lib.hid hli
  clear hli
  go_upto_region 6 with (fail)
  have HX := Lib.hid (HB.out.alloc HB.out.size (.cells #[.string ⟨#[]⟩, .string ⟨#[]⟩, .int .i64 0, .int .i64 0, .int .i64 0, .int .i64 0, .int .i64 0, .int .i64 0, .int .i64 0, .int .i64 0, .int .i64 0] 72))
  have kl := bkN w4 #[.string ⟨#[]⟩, .string ⟨#[]⟩, .int .i64 0, .int .i64 0, .int .i64 0, .int .i64 0, .int .i64 0, .int .i64 0, .int .i64 0, .int .i64 0, .int .i64 0] 72
  have zl : w4.heap.size < (w4.alloc (.cells #[.string ⟨#[]⟩, .string ⟨#[]⟩, .int .i64 0, .int .i64 0, .int .i64 0, .int .i64 0, .int .i64 0, .int .i64 0, .int .i64 0, .int .i64 0, .int .i64 0] 72)).heap.size := by simp
  generalize (w4.alloc (.cells #[.string ⟨#[]⟩, .string ⟨#[]⟩, .int .i64 0, .int .i64 0, .int .i64 0, .int .i64 0, .int .i64 0, .int .i64 0, .int .i64 0, .int .i64 0, .int .i64 0] 72)) = w5 at *
  clear t0 t1 t2 t3 t4 t5 t6 t7 t8 t9 t10 t11 t12 t13 t14 t15 t16 t17 t18 t19 t20 t21 t22 t23 t24 t25 t26 t27 t28 t29 t30 t31 t32 t33
  replace HB := Lib.hid HX.out
  clear HX
  obtain ⟨t0, t1, t2, t3, t4, t5, t6, t7, t8, t9, t10, t11, t12, t13, t14, t15, t16, t17, t18, t19, t20, t21, t22, t23, t24, t25, t26, t27, t28, t29, t30, t31, t32, t33⟩ := HD.out _ HB.out
  have y0 := bkC (v := .string ⟨#[]⟩) kl 0 rfl
  have y1 := bkC (v := .string ⟨#[]⟩) kl 1 rfl
  have y2 := bkC (v := .int .i64 0) kl 2 rfl
  have y3 := bkC (v := .int .i64 0) kl 3 rfl
  have y4 := bkC (v := .int .i64 0) kl 4 rfl
  have y5 := bkC (v := .int .i64 0) kl 5 rfl
  have y6 := bkC (v := .int .i64 0) kl 6 rfl
  have y7 := bkC (v := .int .i64 0) kl 7 rfl
  have y8 := bkC (v := .int .i64 0) kl 8 rfl
  have y9 := bkC (v := .int .i64 0) kl 9 rfl
  have y10 := bkC (v := .int .i64 0) kl 10 rfl
  have K2b := Lib.hid (bkB K2.out HB.out (by omega))
  have B2 := Lib.hid (HH.out _ HB.out)
  clear t23 t24 t25 t26 t27 t28 t29 t30 t31 t32 t33
  have g0 := bkC (v := .string ⟨#[]⟩) K2b.out 0 rfl
  have g1 := bkC (v := .string ⟨#[]⟩) K2b.out 1 rfl
  have g2 := bkC (v := .int .i64 0) K2b.out 2 rfl
  have g3 := bkC (v := .int .i64 0) K2b.out 3 rfl
  have g4 := bkC (v := .int .i64 0) K2b.out 4 rfl
  have g5 := bkC (v := .int .i64 0) K2b.out 5 rfl
  have g6 := bkC (v := .int .i64 0) K2b.out 6 rfl
  have g7 := bkC (v := .int .i64 0) K2b.out 7 rfl
  have g8 := bkC (v := .int .i64 0) K2b.out 8 rfl
  have g9 := bkC (v := .int .i64 0) K2b.out 9 rfl
  have g10 := bkC (v := .int .i64 0) K2b.out 10 rfl
  have gz := bkF K2b.out
  go_wp2
  refine bodyPost_ret (v := .tuple #[.agg #[.string ⟨#[]⟩, .string ⟨#[]⟩, .int .i64 0, .int .i64 0, .int .i64 0, .int .i64 0, .int .i64 0, .int .i64 0, .int .i64 0, .int .i64 0, .int .i64 0], .bool false]) (by simp [results, Tryz.results74, go_sem, *]) rfl ?_
  exact ⟨Or.inr ⟨HLI.out, rfl⟩, (bset (bset (bset (bset (bset (bset (bset (bset (bset (bset (bset B2.out (by omega) 0 _) (by omega) 1 _) (by omega) 2 _) (by omega) 3 _) (by omega) 4 _) (by omega) 5 _) (by omega) 6 _) (by omega) 7 _) (by omega) 8 _) (by omega) 9 _) (by omega) 10 _)⟩

open Go.RowKit
set_option linter.unusedVariables false
set_option linter.unusedSimpArgs false

def zeroL : DLicence := ⟨⟨#[]⟩, ⟨#[]⟩, 0, 0, ⟨0, 0, 0, 0⟩, 0, 0, 0⟩
def licR (p : DPlan) (nm : ByteArray) : DLicence × Int := if (codeP p nm).2 = 0 then (if 0 ≤ licIdx p (secN p nm) then (gLicence p.licences (licIdx p (secN p nm)).toNat, 0) else (zeroL, 6)) else (zeroL, (codeP p nm).2)
set_option maxHeartbeats 4000000 in
set_option maxRecDepth 100000 in
theorem l30Site_any (p : DPlan) (k : Nat) (b off bs os k5 b6 o6 k6 : Nat) (w : World) (h5 : Rd w.heap.size w (DSite.sT p.network.sites) (.slice (some ⟨bs, os, none⟩) p.network.sites.length k5)) (hn : p.network.sites.length ≤ 1099511627776) (hn6 : p.network.sectors.length ≤ 1099511627776) (hr : refersB p.network (gSector p.network.sectors k) = true) (hkl : k < p.network.sectors.length) (hb6 : b6 < w.heap.size) (hbl : b < w.heap.size)
    (c5 : w.cell? ⟨b, off + 5, none⟩ = some (.slice (some ⟨bs, os, none⟩) p.network.sites.length k5)) (c6 : w.cell? ⟨b, off + 6, none⟩ = some (.slice (some ⟨b6, o6, none⟩) p.network.sectors.length k6)) (x1 : w.cell? ⟨b6, o6 + k * 9 + 1, none⟩ = some (.string (gSector p.network.sectors k).site)) :
    Calls Tryz.prog 140 #[.pointer (some ⟨b, off, none⟩), .int .i64 (k : Int)] w fun e w' => e = .returned (.pointer (some ⟨bs, os + (idxSite p.network.sites (gSector p.network.sectors k).site).toNat * 4, none⟩)) ∧ Below w.heap.size w w' := by
  obtain ⟨hl, hlc⟩ := refers_site hr
  clear hr
  have H5 := Lib.hid h5
  have HC5 : Hid (∀ W : World, Below w.heap.size w W → W.cell? ⟨b, off + 5, none⟩ = some (.slice (some ⟨bs, os, none⟩) p.network.sites.length k5)) := fun W hW => (hW.cell (p := ⟨b, off + 5, none⟩) hbl).trans c5
  have CF : Hid (∀ W : World, Below w.heap.size w W → Calls Tryz.prog 190 #[.pointer (some ⟨b, off + 5, none⟩), .string (gSector p.network.sectors k).site] W fun e w' => e = .returned (.int .i64 (idxSite p.network.sites (gSector p.network.sectors k).site)) ∧ W = w') := fun W hW => l14FindSite_off p.network.sites _ _ b (off + 5) w.heap.size W (H5.out.below hW) hW.size (HC5.out W hW) hn
  rw [← hlc] at CF
  clear h5 hlc
  generalize (idxSite p.network.sites (gSector p.network.sectors k).site).toNat = m at *
  generalize gSector p.network.sectors k = x at *
  have i1 : (0 : Int) ≤ (k : Int) := by omega
  have i2 : (k : Int) < (p.network.sectors.length : Int) := by omega
  have i3 : (0 : Int) ≤ (m : Int) := by omega
  have i4 : (m : Int) < (p.network.sites.length : Int) := by omega
  have m5 : (p.network.sites.length : Int) ≤ 1099511627776 := by omega
  have m6 : (p.network.sectors.length : Int) ≤ 1099511627776 := by omega
  go_enter Tryz.func140, Tryz.ntmps140
  go_upto_region 1 with (fail)
  have o0 := overC (w0 := w) (show b < w.heap.size by omega)
  have o1 := overC (w0 := w) (show b6 < w.heap.size by omega)
  refine wp_region_over w.heap.size w (Below.refl _ _) (by kernel_rfl) (by kernel_rfl) ?_
  repeat (go_big_quiet_step ((go_at_call 190; with_reducible exact over_same (CF.out _ (over_below _ _ _)))))
  refine wpQuiet_nil ?_
  rintro _ ⟨X, rfl⟩
  have BE := Lib.hid (over_below w.heap.size w X)
  clear o0 o1
  generalize over w.heap.size w X = W9 at *
  go_wp2
  go_ret
  exact ⟨rfl, BE.out⟩
set_option maxHeartbeats 8000000 in
set_option maxRecDepth 100000 in
theorem l30Licence_any (p : DPlan) (k : Nat) (v3 v4 v5 v6 v7 v8 v9 v10 v11 v12 : Value) (b off : Nat) (w : World) (h : PlanRd w.heap.size w p v3 v4 v5 v6 v7 v8 v9 v10 v11 v12) (hs : sizL p.tr ≤ 1099511627776) (hk : p.ok) (hp : planB p = true) (hkl : k < p.network.sectors.length) (c0 : w.cell? ⟨b, off, none⟩ = some (.int .i64 p.terrain.step)) (c1 : w.cell? ⟨b, off + 1, none⟩ = some (.int .i64 p.terrain.width)) (c2 : w.cell? ⟨b, off + 2, none⟩ = some (.int .i64 p.terrain.height)) (c3 : w.cell? ⟨b, off + 3, none⟩ = some (v3)) (c4 : w.cell? ⟨b, off + 4, none⟩ = some (v4)) (c5 : w.cell? ⟨b, off + 5, none⟩ = some (v5)) (c6 : w.cell? ⟨b, off + 6, none⟩ = some (v6)) (c7 : w.cell? ⟨b, off + 7, none⟩ = some (v7)) (c8 : w.cell? ⟨b, off + 8, none⟩ = some (v8)) (c9 : w.cell? ⟨b, off + 9, none⟩ = some (v9)) (c10 : w.cell? ⟨b, off + 10, none⟩ = some (v10)) (c11 : w.cell? ⟨b, off + 11, none⟩ = some (v11)) (c12 : w.cell? ⟨b, off + 12, none⟩ = some (v12)) (c13 : w.cell? ⟨b, off + 13, none⟩ = some (.int .i64 p.day)) :
    Calls Tryz.prog 73 #[.pointer (some ⟨b, off, none⟩), .int .i64 (k : Int)] w fun e w' => e = .returned (.int .i64 (licIdx p (gSector p.network.sectors k))) ∧ Below w.heap.size w w' := by
  have H := Lib.hid h
  clear h
  have Z := Lib.hid (PlanSz.of hs)
  have hbl := cell_lt c0
  dsimp only at hbl
  have hsec := planB_sector hp hkl
  obtain ⟨hl, hlc⟩ := refers_site hsec.2
  obtain ⟨a6, k6, e6, _, _, hcl6⟩ := DSector.rd H.out.r6
  subst e6
  obtain ⟨b6, o6, e6, hb6, hat6⟩ := hcl6 (Nat.lt_of_le_of_lt (Nat.zero_le _) hkl)
  subst e6
  have x1 := (hat6 k hkl).2.1
  rw [gSector_eq hkl] at x1
  obtain ⟨a5, k5, e5, _, _, hcl5⟩ := DSite.rd H.out.r5
  subst e5
  obtain ⟨bs, os, e5, hbs, hat5⟩ := hcl5 (Nat.lt_of_le_of_lt (Nat.zero_le _) hl)
  subst e5
  obtain ⟨s0, s1, s2, s3⟩ := hat5 _ hl
  rw [gSite_eq hl] at s0 s1 s2 s3
  clear hat5 hat6 hcl5 hcl6
  obtain ⟨al, kl, el, _, _, hcl⟩ := DLicence.rd H.out.r10
  subst el
  have HCL := Lib.hid hcl
  clear hcl
  have CR : Hid (∀ W : World, Below w.heap.size w W → Calls Tryz.prog 70 #[.pointer (some ⟨b, off, none⟩), .int .i64 (k : Int)] W fun e w' => e = .returned (.tuple #[.int .i64 (rngV p (gSector p.network.sectors k)).1, .int .i64 (rngV p (gSector p.network.sectors k)).2.1, .bool (rngV p (gSector p.network.sectors k)).2.2]) ∧ Below W.heap.size W w') := fun W hW => l30Range_any p k v3 v4 _ _ v7 v8 v9 _ v11 v12 b off W ((H.out.below hW).mono hW.size) hs hk hp hkl ((hW.cell (p := ⟨b, _, none⟩) hbl).trans c0) ((hW.cell (p := ⟨b, _, none⟩) hbl).trans c6) ((hW.cell (p := ⟨b, _, none⟩) hbl).trans c9)
  have CS : Hid (∀ W : World, Below w.heap.size w W → Calls Tryz.prog 140 #[.pointer (some ⟨b, off, none⟩), .int .i64 (k : Int)] W fun e w' => e = .returned (.pointer (some ⟨bs, os + (idxSite p.network.sites (gSector p.network.sectors k).site).toNat * 4, none⟩)) ∧ Below W.heap.size W w') := fun W hW => l30Site_any p k b off bs os k5 b6 o6 k6 W ((H.out.r5.below hW).mono hW.size) Z.out.sites Z.out.sectors hsec.2 hkl (Nat.lt_of_lt_of_le hb6 hW.size) (Nat.lt_of_lt_of_le hbl hW.size) ((hW.cell (p := ⟨b, _, none⟩) hbl).trans c5) ((hW.cell (p := ⟨b, _, none⟩) hbl).trans c6) ((hW.cell (p := ⟨b6, _, none⟩) hb6).trans x1)
  have HX : Hid (siteN p (gSector p.network.sectors k) = gSite p.network.sites (idxSite p.network.sites (gSector p.network.sectors k).site).toNat) := rfl
  rw [← HX.out] at s0 s1 s2 s3
  clear HX hsec
  have HLI : Hid (licIdx p (gSector p.network.sectors k) = if hasB p (gSector p.network.sectors k) = true then firstIdx' (fun y => allowsB y (siteN p (gSector p.network.sectors k)).holder (siteN p (gSector p.network.sectors k)).place (rngLow p (gSector p.network.sectors k)) (rngHigh p (gSector p.network.sectors k)) p.day) p.licences else -1) := rfl
  have HRV : Hid (rngV p (gSector p.network.sectors k) = if hasB p (gSector p.network.sectors k) = true then (rngLow p (gSector p.network.sectors k), rngHigh p (gSector p.network.sectors k), true) else (0, 0, false)) := rfl
  generalize (idxSite p.network.sites (gSector p.network.sectors k).site).toNat = m at *
  generalize gSector p.network.sectors k = x at *
  generalize siteN p x = y at *
  have ml : (p.licences.length : Int) ≤ 1099511627776 := by have := Z.out.licences; omega
  have HC : Hid (∀ W : World, Below w.heap.size w W → (W.cell? ⟨b, off + 10, none⟩ = some (.slice al p.licences.length kl) ∧ W.cell? ⟨b, off + 13, none⟩ = some (.int .i64 p.day) ∧ W.cell? ⟨bs, os + m * 4 + 1, none⟩ = some (.string y.holder) ∧ W.cell? ⟨bs, os + m * 4 + 2, none⟩ = some (.int .i64 y.place.x) ∧ W.cell? ⟨bs, os + m * 4 + 3, none⟩ = some (.int .i64 y.place.y))) := fun W hW => ⟨(hW.cell (p := ⟨b, _, none⟩) hbl).trans c10, (hW.cell (p := ⟨b, _, none⟩) hbl).trans c13, (hW.cell (p := ⟨bs, _, none⟩) hbs).trans s1, (hW.cell (p := ⟨bs, _, none⟩) hbs).trans s2, (hW.cell (p := ⟨bs, _, none⟩) hbs).trans s3⟩
  clear c0 c1 c2 c3 c4 c5 c6 c7 c8 c9 c10 c11 c12 c13 s0 s1 s2 s3 x1 hlc
  have HB : Hid (Below w.heap.size w w) := Below.refl _ _
  by_cases hh : hasB p x = true
  case neg =>
    rw [if_neg hh] at HRV HLI
    rw [HRV.out] at CR
    clear hh HRV
    go_enter Tryz.func73, Tryz.ntmps73
    go_wp2_with (go_at_call 70; with_reducible refine (CR.out _ HB.out).mono ?_; rintro e w2 ⟨rfl, hb2⟩; replace HB := Lib.hid (HB.out.trans (hb2.mono HB.out.size)); clear hb2)
    go_ret
    exact ⟨by rw [HLI.out]; rfl, HB.out⟩
  rw [if_pos hh] at HRV HLI
  rw [HRV.out] at CR
  clear hh HRV
  generalize rngLow p x = lo at *
  generalize rngHigh p x = hi at *
  go_enter Tryz.func73, Tryz.ntmps73
  go_wp2_with (first | (go_at_call 70; with_reducible refine (CR.out _ HB.out).mono ?_; rintro e w2 ⟨rfl, hb2⟩; replace HB := Lib.hid (HB.out.trans (hb2.mono HB.out.size)); clear hb2) | (go_at_call 140; with_reducible refine (CS.out _ HB.out).mono ?_; rintro e w2 ⟨rfl, hb2⟩; replace HB := Lib.hid (HB.out.trans (hb2.mono HB.out.size)); clear hb2))
  have HBS := Lib.hid HB.out
  obtain ⟨d10, d13, y1, y2, y3⟩ := HC.out _ HB.out
  go_loopw [9] (fun i wr => ∃ (q : Nat), q ≤ p.licences.length ∧ i = .int .i64 q ∧ (p.licences.take q).any (fun z => allowsB z y.holder y.place lo hi p.day) = false ∧ Below w.heap.size w wr) (fun i wr => p.licences.length - (intOf i).toNat)
  case atStart => exact ⟨0, Nat.zero_le _, rfl, by simp, HBS.out⟩
  case round =>
    clear d10 d13 y1 y2 y3
    obtain ⟨q, hq, rfl, hno, hb⟩ := hrel
    have HN := Lib.hid hno
    have HBR := Lib.hid hb
    have zb := hb.size
    clear hno hb
    obtain ⟨d10, d13, y1, y2, y3⟩ := HC.out _ HBR.out
    by_cases hlt : q < p.licences.length
    · obtain ⟨bL, oL, ea, hbL, hat⟩ := HCL.out (by omega)
      subst ea
      obtain ⟨s0, s1, s2, s3, s4, s5, s6, s7, s8, s9, s10⟩ := hat q hlt
      rw [gLicence_eq hlt, ← bat HBR.out bL _ (by omega)] at s0 s1 s2 s3 s4 s5 s6 s7 s8 s9 s10
      have HT : Hid (allowsB (gLicence p.licences q) y.holder y.place lo hi p.day = true → firstIdx' (fun z => allowsB z y.holder y.place lo hi p.day) p.licences = (q : Int)) := fun e => firstIdx_at _ p.licences q hlt (by rw [gLicence_eq hlt]; exact e) HN.out
      have HF : Hid (allowsB (gLicence p.licences q) y.holder y.place lo hi p.day = false → (p.licences.take (q + 1)).any (fun z => allowsB z y.holder y.place lo hi p.day) = false) := fun e => by rw [any_take_succ _ p.licences q hlt, HN.out, gLicence_eq hlt, e]; rfl
      generalize gLicence p.licences q = A at *
      clear hat
      have i1 : (0 : Int) ≤ (q : Int) := by omega
      have i2 : (q : Int) < (p.licences.length : Int) := by omega
      have yb : bL < wr.heap.size := by omega
      have CA : Hid (∀ W : World, Below wr.heap.size wr W → Calls Tryz.prog 141 #[.pointer (some ⟨bL, oL + q * 11, none⟩), .string y.holder, .agg #[.int .i64 y.place.x, .int .i64 y.place.y], .int .i64 lo, .int .i64 hi, .int .i64 p.day] W fun e w' => e = .returned (.bool (allowsB A y.holder y.place lo hi p.day)) ∧ Below W.heap.size W w') := fun W hW => l26Allows_any A y.holder y.place lo hi p.day bL _ W ((bat hW bL _ yb).trans s0) ((bat hW bL _ yb).trans s1) ((bat hW bL _ yb).trans s2) ((bat hW bL _ yb).trans s3) ((bat hW bL _ yb).trans s4) ((bat hW bL _ yb).trans s5) ((bat hW bL _ yb).trans s6) ((bat hW bL _ yb).trans s7) ((bat hW bL _ yb).trans s8) ((bat hW bL _ yb).trans s9) ((bat hW bL _ yb).trans s10)
      clear s0 s1 s2 s3 s4 s5 s6 s7 s8 s9 s10
      go_wp2
      by_cases c6 : allowsB A y.holder y.place lo hi p.day = true
      case pos =>
        rw [c6] at CA
        have o0 := overC (w0 := wr) (show b < wr.heap.size by omega)
        have o1 := overC (w0 := wr) (show bs < wr.heap.size by omega)
        refine wp_region_over wr.heap.size wr (Below.refl _ _) (by kernel_rfl) (by kernel_rfl) ?_
        repeat (go_big_quiet_step ((go_at_call 141; with_reducible exact over_left (Nat.le_refl _) (CA.out _ (over_below _ _ _)))))
        refine wpQuiet_nil ?_
        rintro _ ⟨X, rfl⟩
        have hX := over_below wr.heap.size wr X
        clear o0 o1
        generalize over wr.heap.size wr X = w3 at *
        have BG := Lib.hid (HBR.out.trans (hX.mono (by omega)))
        clear hX
        have HE := Lib.hid (HT.out c6)
        go_wp2
        go_ret
        exact ⟨by rw [HLI.out, HE.out]; rfl, BG.out⟩
      replace c6 : allowsB A y.holder y.place lo hi p.day = false := Bool.eq_false_iff.2 c6
      rw [c6] at CA
      have o0 := overC (w0 := wr) (show b < wr.heap.size by omega)
      have o1 := overC (w0 := wr) (show bs < wr.heap.size by omega)
      refine wp_region_over wr.heap.size wr (Below.refl _ _) (by kernel_rfl) (by kernel_rfl) ?_
      repeat (go_big_quiet_step ((go_at_call 141; with_reducible exact over_left (Nat.le_refl _) (CA.out _ (over_below _ _ _)))))
      refine wpQuiet_nil ?_
      rintro _ ⟨X, rfl⟩
      have hX := over_below wr.heap.size wr X
      clear o0 o1
      generalize over wr.heap.size wr X = w3 at *
      have BG := Lib.hid (HBR.out.trans (hX.mono (by omega)))
      clear hX
      have HE := Lib.hid (HF.out c6)
      go_wp2
      go_roundw
      case rel => exact ⟨q + 1, by omega, by go_num, HE.out, BG.out⟩
      case measure => simp [intOf]; omega
    · obtain rfl : q = p.licences.length := by omega
      have hno := HN.out
      rw [List.take_length] at hno
      have HE := Lib.hid (firstIdx_none _ p.licences hno)
      clear hno
      go_wp2
      go_ret
      exact ⟨by rw [HLI.out, HE.out]; rfl, HBR.out⟩

open Go.RowKit
set_option linter.unusedVariables false
set_option linter.unusedSimpArgs false

set_option maxHeartbeats 8000000 in
set_option maxRecDepth 100000 in
theorem sLicenceOf_any (p : DPlan) (nm : ByteArray) (v3 v4 v5 v6 v7 v8 v9 v10 v11 v12 : Value) (w : World) (h : PlanRd w.heap.size w p v3 v4 v5 v6 v7 v8 v9 v10 v11 v12) (hs : sizL p.tr ≤ 1099511627776) (hk : p.ok) :
    Calls Tryz.prog 22 #[.agg #[.int .i64 p.terrain.step, .int .i64 p.terrain.width, .int .i64 p.terrain.height, v3, v4, v5, v6, v7, v8, v9, v10, v11, v12, .int .i64 p.day], .string nm] w fun e w' => e = .returned (.tuple #[.agg #[.string (licR p nm).1.id, .string (licR p nm).1.holder, .int .i64 (licR p nm).1.low, .int .i64 (licR p nm).1.high, .int .i64 (licR p nm).1.area.west, .int .i64 (licR p nm).1.area.south, .int .i64 (licR p nm).1.area.east, .int .i64 (licR p nm).1.area.north, .int .i64 (licR p nm).1.from_, .int .i64 (licR p nm).1.until_, .int .i64 (licR p nm).1.power], .int .i64 (licR p nm).2]) ∧ Below w.heap.size w w' := by
  have H := Lib.hid h
  clear h
  have Z := Lib.hid (PlanSz.of hs)
  obtain ⟨a6, k6, e6, _, _, hcl6⟩ := DSector.rd H.out.r6
  subst e6
  have HCL := Lib.hid hcl6
  clear hcl6
  obtain ⟨W0, hW0, b0, z0, k0, k1⟩ := boxes2 w #[.int .i64 p.terrain.step, .int .i64 p.terrain.width, .int .i64 p.terrain.height, v3, v4, v5, .slice a6 p.network.sectors.length k6, v7, v8, v9, v10, v11, v12, .int .i64 p.day] 53 #[.string ⟨#[]⟩, .string ⟨#[]⟩, .int .i64 0, .int .i64 0, .int .i64 0, .int .i64 0, .int .i64 0, .int .i64 0, .int .i64 0, .int .i64 0, .int .i64 0] 72
  have HW0 := Lib.hid hW0
  clear hW0
  have B0 := Lib.hid b0
  clear b0
  have K0 := Lib.hid k0
  clear k0
  have K1 := Lib.hid k1
  clear k1
  have HD : Hid (∀ W : World, Below W0.heap.size W0 W → (W.cell? ⟨w.heap.size, 0, none⟩ = some (.int .i64 p.terrain.step) ∧ W.cell? ⟨w.heap.size, 1, none⟩ = some (.int .i64 p.terrain.width) ∧ W.cell? ⟨w.heap.size, 2, none⟩ = some (.int .i64 p.terrain.height) ∧ W.cell? ⟨w.heap.size, 3, none⟩ = some (v3) ∧ W.cell? ⟨w.heap.size, 4, none⟩ = some (v4) ∧ W.cell? ⟨w.heap.size, 5, none⟩ = some (v5) ∧ W.cell? ⟨w.heap.size, 6, none⟩ = some (.slice a6 p.network.sectors.length k6) ∧ W.cell? ⟨w.heap.size, 7, none⟩ = some (v7) ∧ W.cell? ⟨w.heap.size, 8, none⟩ = some (v8) ∧ W.cell? ⟨w.heap.size, 9, none⟩ = some (v9) ∧ W.cell? ⟨w.heap.size, 10, none⟩ = some (v10) ∧ W.cell? ⟨w.heap.size, 11, none⟩ = some (v11) ∧ W.cell? ⟨w.heap.size, 12, none⟩ = some (v12) ∧ W.cell? ⟨w.heap.size, 13, none⟩ = some (.int .i64 p.day) ∧ W.cell? ⟨w.heap.size + 1, 0, none⟩ = some (.string ⟨#[]⟩) ∧ W.cell? ⟨w.heap.size + 1, 1, none⟩ = some (.string ⟨#[]⟩) ∧ W.cell? ⟨w.heap.size + 1, 2, none⟩ = some (.int .i64 0) ∧ W.cell? ⟨w.heap.size + 1, 3, none⟩ = some (.int .i64 0) ∧ W.cell? ⟨w.heap.size + 1, 4, none⟩ = some (.int .i64 0) ∧ W.cell? ⟨w.heap.size + 1, 5, none⟩ = some (.int .i64 0) ∧ W.cell? ⟨w.heap.size + 1, 6, none⟩ = some (.int .i64 0) ∧ W.cell? ⟨w.heap.size + 1, 7, none⟩ = some (.int .i64 0) ∧ W.cell? ⟨w.heap.size + 1, 8, none⟩ = some (.int .i64 0) ∧ W.cell? ⟨w.heap.size + 1, 9, none⟩ = some (.int .i64 0) ∧ W.cell? ⟨w.heap.size + 1, 10, none⟩ = some (.int .i64 0))) := fun W hW => ⟨bkC (bkB K0.out hW (by omega)) 0 rfl, bkC (bkB K0.out hW (by omega)) 1 rfl, bkC (bkB K0.out hW (by omega)) 2 rfl, bkC (bkB K0.out hW (by omega)) 3 rfl, bkC (bkB K0.out hW (by omega)) 4 rfl, bkC (bkB K0.out hW (by omega)) 5 rfl, bkC (bkB K0.out hW (by omega)) 6 rfl, bkC (bkB K0.out hW (by omega)) 7 rfl, bkC (bkB K0.out hW (by omega)) 8 rfl, bkC (bkB K0.out hW (by omega)) 9 rfl, bkC (bkB K0.out hW (by omega)) 10 rfl, bkC (bkB K0.out hW (by omega)) 11 rfl, bkC (bkB K0.out hW (by omega)) 12 rfl, bkC (bkB K0.out hW (by omega)) 13 rfl, bkC (bkB K1.out hW (by omega)) 0 rfl, bkC (bkB K1.out hW (by omega)) 1 rfl, bkC (bkB K1.out hW (by omega)) 2 rfl, bkC (bkB K1.out hW (by omega)) 3 rfl, bkC (bkB K1.out hW (by omega)) 4 rfl, bkC (bkB K1.out hW (by omega)) 5 rfl, bkC (bkB K1.out hW (by omega)) 6 rfl, bkC (bkB K1.out hW (by omega)) 7 rfl, bkC (bkB K1.out hW (by omega)) 8 rfl, bkC (bkB K1.out hW (by omega)) 9 rfl, bkC (bkB K1.out hW (by omega)) 10 rfl⟩
  have HB : Hid (Below W0.heap.size W0 W0) := Below.refl _ _
  have HH : Hid (∀ W : World, Below W0.heap.size W0 W → Below w.heap.size w W) := fun W hW => B0.out.trans (hW.mono (by omega))
  have CP : Hid (∀ W : World, Below W0.heap.size W0 W → Calls Tryz.prog 69 #[.pointer (some ⟨w.heap.size, 0, none⟩), .string nm] W fun e w' => e = .returned (.tuple #[.int .i64 (codeP p nm).1, .int .i64 (codeP p nm).2]) ∧ Below W.heap.size W w') := fun W hW => by
    obtain ⟨t0, t1, t2, t3, t4, t5, t6, t7, t8, t9, t10, t11, t12, t13, t14, t15, t16, t17, t18, t19, t20, t21, t22, t23, t24⟩ := HD.out W hW
    exact l30Ask_any p nm v3 v4 v5 _ v7 v8 v9 v10 v11 v12 w.heap.size 0 W ((H.out.below (HH.out W hW)).mono (HH.out W hW).size) hs hk t0 t1 t2 t3 t4 t5 t6 t7 t8 t9 t10 t11 t12 t13
  rcases codeP_cases p nm with hcp | hcp | ⟨hp, hi0, hcp⟩
  · have HE : Hid (licR p nm = (zeroL, 1)) := by show _ = _; unfold licR; rw [hcp]; rfl
    rw [hcp] at CP
    clear hcp
    go_enter Tryz.func22, Tryz.ntmps22
    go_upto_region 1 with (fail)
    rw [HW0.out]
    obtain ⟨t0, t1, t2, t3, t4, t5, t6, t7, t8, t9, t10, t11, t12, t13, t14, t15, t16, t17, t18, t19, t20, t21, t22, t23, t24⟩ := HD.out _ HB.out
    go_upto_region 3 with (go_at_call 69; with_reducible refine (CP.out _ HB.out).mono ?_; rintro e w2 ⟨rfl, hb2⟩; (try clear t0 t1 t2 t3 t4 t5 t6 t7 t8 t9 t10 t11 t12 t13 t14 t15 t16 t17 t18 t19 t20 t21 t22 t23 t24); replace HB := Lib.hid (HB.out.trans (hb2.mono HB.out.size)); clear hb2; obtain ⟨t0, t1, t2, t3, t4, t5, t6, t7, t8, t9, t10, t11, t12, t13, t14, t15, t16, t17, t18, t19, t20, t21, t22, t23, t24⟩ := HD.out _ HB.out)
    clear t14 t15 t16 t17 t18 t19 t20 t21 t22 t23 t24
    have KN := Lib.hid (bkB K1.out HB.out (by omega))
    have BN := Lib.hid (HH.out _ HB.out)
    have g0 := bkC (v := .string ⟨#[]⟩) KN.out 0 rfl
    have g1 := bkC (v := .string ⟨#[]⟩) KN.out 1 rfl
    have g2 := bkC (v := .int .i64 0) KN.out 2 rfl
    have g3 := bkC (v := .int .i64 0) KN.out 3 rfl
    have g4 := bkC (v := .int .i64 0) KN.out 4 rfl
    have g5 := bkC (v := .int .i64 0) KN.out 5 rfl
    have g6 := bkC (v := .int .i64 0) KN.out 6 rfl
    have g7 := bkC (v := .int .i64 0) KN.out 7 rfl
    have g8 := bkC (v := .int .i64 0) KN.out 8 rfl
    have g9 := bkC (v := .int .i64 0) KN.out 9 rfl
    have g10 := bkC (v := .int .i64 0) KN.out 10 rfl
    have gz := bkF KN.out
    go_wp2
    refine bodyPost_ret (v := .tuple #[.agg #[.string ⟨#[]⟩, .string ⟨#[]⟩, .int .i64 0, .int .i64 0, .int .i64 0, .int .i64 0, .int .i64 0, .int .i64 0, .int .i64 0, .int .i64 0, .int .i64 0], .int .i64 1]) (by simp [results, Tryz.results22, go_sem, *]) rfl ?_
    exact ⟨by rw [HE.out]; rfl, (bset (bset (bset (bset (bset (bset (bset (bset (bset (bset (bset BN.out (by omega) 0 _) (by omega) 1 _) (by omega) 2 _) (by omega) 3 _) (by omega) 4 _) (by omega) 5 _) (by omega) 6 _) (by omega) 7 _) (by omega) 8 _) (by omega) 9 _) (by omega) 10 _)⟩
  · have HE : Hid (licR p nm = (zeroL, 3)) := by show _ = _; unfold licR; rw [hcp]; rfl
    rw [hcp] at CP
    clear hcp
    go_enter Tryz.func22, Tryz.ntmps22
    go_upto_region 1 with (fail)
    rw [HW0.out]
    obtain ⟨t0, t1, t2, t3, t4, t5, t6, t7, t8, t9, t10, t11, t12, t13, t14, t15, t16, t17, t18, t19, t20, t21, t22, t23, t24⟩ := HD.out _ HB.out
    go_upto_region 3 with (go_at_call 69; with_reducible refine (CP.out _ HB.out).mono ?_; rintro e w2 ⟨rfl, hb2⟩; (try clear t0 t1 t2 t3 t4 t5 t6 t7 t8 t9 t10 t11 t12 t13 t14 t15 t16 t17 t18 t19 t20 t21 t22 t23 t24); replace HB := Lib.hid (HB.out.trans (hb2.mono HB.out.size)); clear hb2; obtain ⟨t0, t1, t2, t3, t4, t5, t6, t7, t8, t9, t10, t11, t12, t13, t14, t15, t16, t17, t18, t19, t20, t21, t22, t23, t24⟩ := HD.out _ HB.out)
    clear t14 t15 t16 t17 t18 t19 t20 t21 t22 t23 t24
    have KN := Lib.hid (bkB K1.out HB.out (by omega))
    have BN := Lib.hid (HH.out _ HB.out)
    have g0 := bkC (v := .string ⟨#[]⟩) KN.out 0 rfl
    have g1 := bkC (v := .string ⟨#[]⟩) KN.out 1 rfl
    have g2 := bkC (v := .int .i64 0) KN.out 2 rfl
    have g3 := bkC (v := .int .i64 0) KN.out 3 rfl
    have g4 := bkC (v := .int .i64 0) KN.out 4 rfl
    have g5 := bkC (v := .int .i64 0) KN.out 5 rfl
    have g6 := bkC (v := .int .i64 0) KN.out 6 rfl
    have g7 := bkC (v := .int .i64 0) KN.out 7 rfl
    have g8 := bkC (v := .int .i64 0) KN.out 8 rfl
    have g9 := bkC (v := .int .i64 0) KN.out 9 rfl
    have g10 := bkC (v := .int .i64 0) KN.out 10 rfl
    have gz := bkF KN.out
    go_wp2
    refine bodyPost_ret (v := .tuple #[.agg #[.string ⟨#[]⟩, .string ⟨#[]⟩, .int .i64 0, .int .i64 0, .int .i64 0, .int .i64 0, .int .i64 0, .int .i64 0, .int .i64 0, .int .i64 0, .int .i64 0], .int .i64 3]) (by simp [results, Tryz.results22, go_sem, *]) rfl ?_
    exact ⟨by rw [HE.out]; rfl, (bset (bset (bset (bset (bset (bset (bset (bset (bset (bset (bset BN.out (by omega) 0 _) (by omega) 1 _) (by omega) 2 _) (by omega) 3 _) (by omega) 4 _) (by omega) 5 _) (by omega) 6 _) (by omega) 7 _) (by omega) 8 _) (by omega) 9 _) (by omega) 10 _)⟩
  · have HE0 : Hid (licR p nm = if 0 ≤ licIdx p (secN p nm) then (gLicence p.licences (licIdx p (secN p nm)).toNat, 0) else (zeroL, 6)) := by show _ = _; unfold licR; rw [hcp]; rfl
    rw [hcp] at CP
    clear hcp
    obtain ⟨hl, hlc⟩ := idxSector_lt _ _ hi0
    have hx : secN p nm = gSector p.network.sectors (idxSector p.network.sectors nm).toNat := rfl
    rw [← hlc] at CP
    generalize (idxSector p.network.sectors nm).toNat = k at *
    have hsec := planB_sector hp hl
    rw [← hx] at hsec
    clear hlc hi0
    have i1 : (0 : Int) ≤ (k : Int) := by omega
    have i2 : (k : Int) < (p.network.sectors.length : Int) := by omega
    have CL : Hid (∀ W : World, Below W0.heap.size W0 W → Calls Tryz.prog 73 #[.pointer (some ⟨w.heap.size, 0, none⟩), .int .i64 (k : Int)] W fun e w' => e = .returned (.int .i64 (licIdx p (secN p nm))) ∧ Below W.heap.size W w') := fun W hW => by
      rw [hx]
      obtain ⟨t0, t1, t2, t3, t4, t5, t6, t7, t8, t9, t10, t11, t12, t13, t14, t15, t16, t17, t18, t19, t20, t21, t22, t23, t24⟩ := HD.out W hW
      exact l30Licence_any p k v3 v4 v5 _ v7 v8 v9 v10 v11 v12 w.heap.size 0 W ((H.out.below (HH.out W hW)).mono (HH.out W hW).size) hs hk hp hl t0 t1 t2 t3 t4 t5 t6 t7 t8 t9 t10 t11 t12 t13
    have hbd : licIdx p (secN p nm) = -1 ∨ (0 ≤ licIdx p (secN p nm) ∧ (licIdx p (secN p nm)).toNat < p.licences.length ∧ ((licIdx p (secN p nm)).toNat : Int) = licIdx p (secN p nm)) := by
      unfold licIdx
      split
      · have := firstIdx_bounds (fun y => allowsB y (siteN p (secN p nm)).holder (siteN p (secN p nm)).place (rngLow p (secN p nm)) (rngHigh p (secN p nm)) p.day) p.licences
        omega
      · exact Or.inl rfl
    clear hx hsec
    generalize licIdx p (secN p nm) = li at *
    rcases hbd with hli | ⟨h0, h1, h2⟩
    case inl =>
      have HE : Hid (licR p nm = (zeroL, 6)) := by show _ = _; rw [HE0.out, hli]; rfl
      rw [hli] at CL
      clear hli HE0
      go_enter Tryz.func22, Tryz.ntmps22
      go_upto_region 1 with (fail)
      rw [HW0.out]
      obtain ⟨t0, t1, t2, t3, t4, t5, t6, t7, t8, t9, t10, t11, t12, t13, t14, t15, t16, t17, t18, t19, t20, t21, t22, t23, t24⟩ := HD.out _ HB.out
      go_upto_region 6 with (first | (go_at_call 69; with_reducible refine (CP.out _ HB.out).mono ?_; rintro e w2 ⟨rfl, hb2⟩; (try clear t0 t1 t2 t3 t4 t5 t6 t7 t8 t9 t10 t11 t12 t13 t14 t15 t16 t17 t18 t19 t20 t21 t22 t23 t24); replace HB := Lib.hid (HB.out.trans (hb2.mono HB.out.size)); clear hb2; obtain ⟨t0, t1, t2, t3, t4, t5, t6, t7, t8, t9, t10, t11, t12, t13, t14, t15, t16, t17, t18, t19, t20, t21, t22, t23, t24⟩ := HD.out _ HB.out) | (go_at_call 73; with_reducible refine (CL.out _ HB.out).mono ?_; rintro e w2 ⟨rfl, hb2⟩; (try clear t0 t1 t2 t3 t4 t5 t6 t7 t8 t9 t10 t11 t12 t13 t14 t15 t16 t17 t18 t19 t20 t21 t22 t23 t24); replace HB := Lib.hid (HB.out.trans (hb2.mono HB.out.size)); clear hb2; obtain ⟨t0, t1, t2, t3, t4, t5, t6, t7, t8, t9, t10, t11, t12, t13, t14, t15, t16, t17, t18, t19, t20, t21, t22, t23, t24⟩ := HD.out _ HB.out))
      clear t14 t15 t16 t17 t18 t19 t20 t21 t22 t23 t24
      have KN := Lib.hid (bkB K1.out HB.out (by omega))
      have BN := Lib.hid (HH.out _ HB.out)
      have g0 := bkC (v := .string ⟨#[]⟩) KN.out 0 rfl
      have g1 := bkC (v := .string ⟨#[]⟩) KN.out 1 rfl
      have g2 := bkC (v := .int .i64 0) KN.out 2 rfl
      have g3 := bkC (v := .int .i64 0) KN.out 3 rfl
      have g4 := bkC (v := .int .i64 0) KN.out 4 rfl
      have g5 := bkC (v := .int .i64 0) KN.out 5 rfl
      have g6 := bkC (v := .int .i64 0) KN.out 6 rfl
      have g7 := bkC (v := .int .i64 0) KN.out 7 rfl
      have g8 := bkC (v := .int .i64 0) KN.out 8 rfl
      have g9 := bkC (v := .int .i64 0) KN.out 9 rfl
      have g10 := bkC (v := .int .i64 0) KN.out 10 rfl
      have gz := bkF KN.out
      go_wp2
      refine bodyPost_ret (v := .tuple #[.agg #[.string ⟨#[]⟩, .string ⟨#[]⟩, .int .i64 0, .int .i64 0, .int .i64 0, .int .i64 0, .int .i64 0, .int .i64 0, .int .i64 0, .int .i64 0, .int .i64 0], .int .i64 6]) (by simp [results, Tryz.results22, go_sem, *]) rfl ?_
      exact ⟨by rw [HE.out]; rfl, (bset (bset (bset (bset (bset (bset (bset (bset (bset (bset (bset BN.out (by omega) 0 _) (by omega) 1 _) (by omega) 2 _) (by omega) 3 _) (by omega) 4 _) (by omega) 5 _) (by omega) 6 _) (by omega) 7 _) (by omega) 8 _) (by omega) 9 _) (by omega) 10 _)⟩
    have HE : Hid (licR p nm = (gLicence p.licences li.toNat, 0)) := by show _ = _; rw [HE0.out, if_pos h0]
    rw [← h2] at CL
    clear HE0 h0 h2
    generalize li.toNat = q at *
    obtain ⟨al, kl, el, _, _, hcl⟩ := DLicence.rd H.out.r10
    subst el
    obtain ⟨bL, oL, el, hbL, hat⟩ := hcl (Nat.lt_of_le_of_lt (Nat.zero_le _) h1)
    subst el
    obtain ⟨s0, s1, s2, s3, s4, s5, s6, s7, s8, s9, s10⟩ := hat q h1
    rw [gLicence_eq h1] at s0 s1 s2 s3 s4 s5 s6 s7 s8 s9 s10
    generalize gLicence p.licences q = A at *
    have j1 : (0 : Int) ≤ (q : Int) := by omega
    have j2 : (q : Int) < (p.licences.length : Int) := by omega
    clear hat hcl
    have HS : Hid (∀ W : World, Below W0.heap.size W0 W → (W.cell? ⟨bL, oL + q * 11, none⟩ = some (.string A.id) ∧ W.cell? ⟨bL, oL + q * 11 + 1, none⟩ = some (.string A.holder) ∧ W.cell? ⟨bL, oL + q * 11 + 2, none⟩ = some (.int .i64 A.low) ∧ W.cell? ⟨bL, oL + q * 11 + 3, none⟩ = some (.int .i64 A.high) ∧ W.cell? ⟨bL, oL + q * 11 + 4, none⟩ = some (.int .i64 A.area.west) ∧ W.cell? ⟨bL, oL + q * 11 + 5, none⟩ = some (.int .i64 A.area.south) ∧ W.cell? ⟨bL, oL + q * 11 + 6, none⟩ = some (.int .i64 A.area.east) ∧ W.cell? ⟨bL, oL + q * 11 + 7, none⟩ = some (.int .i64 A.area.north) ∧ W.cell? ⟨bL, oL + q * 11 + 8, none⟩ = some (.int .i64 A.from_) ∧ W.cell? ⟨bL, oL + q * 11 + 9, none⟩ = some (.int .i64 A.until_) ∧ W.cell? ⟨bL, oL + q * 11 + 10, none⟩ = some (.int .i64 A.power))) := fun W hW => ⟨(bat (HH.out W hW) bL _ hbL).trans s0, (bat (HH.out W hW) bL _ hbL).trans s1, (bat (HH.out W hW) bL _ hbL).trans s2, (bat (HH.out W hW) bL _ hbL).trans s3, (bat (HH.out W hW) bL _ hbL).trans s4, (bat (HH.out W hW) bL _ hbL).trans s5, (bat (HH.out W hW) bL _ hbL).trans s6, (bat (HH.out W hW) bL _ hbL).trans s7, (bat (HH.out W hW) bL _ hbL).trans s8, (bat (HH.out W hW) bL _ hbL).trans s9, (bat (HH.out W hW) bL _ hbL).trans s10⟩
    clear s0 s1 s2 s3 s4 s5 s6 s7 s8 s9 s10
    go_enter Tryz.func22, Tryz.ntmps22
    go_upto_region 1 with (fail)
    rw [HW0.out]
    obtain ⟨t0, t1, t2, t3, t4, t5, t6, t7, t8, t9, t10, t11, t12, t13, t14, t15, t16, t17, t18, t19, t20, t21, t22, t23, t24⟩ := HD.out _ HB.out
    go_upto_region 7 with (first | (go_at_call 69; with_reducible refine (CP.out _ HB.out).mono ?_; rintro e w2 ⟨rfl, hb2⟩; (try clear t0 t1 t2 t3 t4 t5 t6 t7 t8 t9 t10 t11 t12 t13 t14 t15 t16 t17 t18 t19 t20 t21 t22 t23 t24); replace HB := Lib.hid (HB.out.trans (hb2.mono HB.out.size)); clear hb2; obtain ⟨t0, t1, t2, t3, t4, t5, t6, t7, t8, t9, t10, t11, t12, t13, t14, t15, t16, t17, t18, t19, t20, t21, t22, t23, t24⟩ := HD.out _ HB.out) | (go_at_call 73; with_reducible refine (CL.out _ HB.out).mono ?_; rintro e w2 ⟨rfl, hb2⟩; (try clear t0 t1 t2 t3 t4 t5 t6 t7 t8 t9 t10 t11 t12 t13 t14 t15 t16 t17 t18 t19 t20 t21 t22 t23 t24); replace HB := Lib.hid (HB.out.trans (hb2.mono HB.out.size)); clear hb2; obtain ⟨t0, t1, t2, t3, t4, t5, t6, t7, t8, t9, t10, t11, t12, t13, t14, t15, t16, t17, t18, t19, t20, t21, t22, t23, t24⟩ := HD.out _ HB.out))
    clear t14 t15 t16 t17 t18 t19 t20 t21 t22 t23 t24
    obtain ⟨s0, s1, s2, s3, s4, s5, s6, s7, s8, s9, s10⟩ := HS.out _ HB.out
    have KN := Lib.hid (bkB K1.out HB.out (by omega))
    have BN := Lib.hid (HH.out _ HB.out)
    have g0 := bkC (v := .string ⟨#[]⟩) KN.out 0 rfl
    have g1 := bkC (v := .string ⟨#[]⟩) KN.out 1 rfl
    have g2 := bkC (v := .int .i64 0) KN.out 2 rfl
    have g3 := bkC (v := .int .i64 0) KN.out 3 rfl
    have g4 := bkC (v := .int .i64 0) KN.out 4 rfl
    have g5 := bkC (v := .int .i64 0) KN.out 5 rfl
    have g6 := bkC (v := .int .i64 0) KN.out 6 rfl
    have g7 := bkC (v := .int .i64 0) KN.out 7 rfl
    have g8 := bkC (v := .int .i64 0) KN.out 8 rfl
    have g9 := bkC (v := .int .i64 0) KN.out 9 rfl
    have g10 := bkC (v := .int .i64 0) KN.out 10 rfl
    have gz := bkF KN.out
    go_wp2
    refine bodyPost_ret (v := .tuple #[.agg #[.string A.id, .string A.holder, .int .i64 A.low, .int .i64 A.high, .int .i64 A.area.west, .int .i64 A.area.south, .int .i64 A.area.east, .int .i64 A.area.north, .int .i64 A.from_, .int .i64 A.until_, .int .i64 A.power], .int .i64 0]) (by simp [results, Tryz.results22, go_sem, *]) rfl ?_
    exact ⟨by rw [HE.out], (bset (bset (bset (bset (bset (bset (bset (bset (bset (bset (bset BN.out (by omega) 0 _) (by omega) 1 _) (by omega) 2 _) (by omega) 3 _) (by omega) 4 _) (by omega) 5 _) (by omega) 6 _) (by omega) 7 _) (by omega) 8 _) (by omega) 9 _) (by omega) 10 _)⟩
set_option maxHeartbeats 8000000 in
set_option maxRecDepth 100000 in
theorem iLicenceOf_any (p : DPlan) (nm : ByteArray) (v3 v4 v5 v6 v7 v8 v9 v10 v11 v12 : Value) (w : World) (h : PlanRd w.heap.size w p v3 v4 v5 v6 v7 v8 v9 v10 v11 v12) (hs : sizL p.tr ≤ 1099511627776) (hk : p.ok) :
    Calls Tryz.prog 23 #[.agg #[.int .i64 p.terrain.step, .int .i64 p.terrain.width, .int .i64 p.terrain.height, v3, v4, v5, v6, v7, v8, v9, v10, v11, v12, .int .i64 p.day], .string nm] w fun e w' => e = .returned (.tuple #[.agg #[.string (licR p nm).1.id, .string (licR p nm).1.holder, .int .i64 (licR p nm).1.low, .int .i64 (licR p nm).1.high, .int .i64 (licR p nm).1.area.west, .int .i64 (licR p nm).1.area.south, .int .i64 (licR p nm).1.area.east, .int .i64 (licR p nm).1.area.north, .int .i64 (licR p nm).1.from_, .int .i64 (licR p nm).1.until_, .int .i64 (licR p nm).1.power], .int .i64 (licR p nm).2]) ∧ Below w.heap.size w w' := by
  have H := Lib.hid h
  clear h
  have Z := Lib.hid (PlanSz.of hs)
  obtain ⟨a6, k6, e6, _, _, hcl6⟩ := DSector.rd H.out.r6
  subst e6
  have HCL := Lib.hid hcl6
  clear hcl6
  obtain ⟨W0, hW0, b0, z0, k0, k1⟩ := boxes2 w #[.int .i64 p.terrain.step, .int .i64 p.terrain.width, .int .i64 p.terrain.height, v3, v4, v5, .slice a6 p.network.sectors.length k6, v7, v8, v9, v10, v11, v12, .int .i64 p.day] 53 #[.string ⟨#[]⟩, .string ⟨#[]⟩, .int .i64 0, .int .i64 0, .int .i64 0, .int .i64 0, .int .i64 0, .int .i64 0, .int .i64 0, .int .i64 0, .int .i64 0] 72
  have HW0 := Lib.hid hW0
  clear hW0
  have B0 := Lib.hid b0
  clear b0
  have K0 := Lib.hid k0
  clear k0
  have K1 := Lib.hid k1
  clear k1
  have HD : Hid (∀ W : World, Below W0.heap.size W0 W → (W.cell? ⟨w.heap.size, 0, none⟩ = some (.int .i64 p.terrain.step) ∧ W.cell? ⟨w.heap.size, 1, none⟩ = some (.int .i64 p.terrain.width) ∧ W.cell? ⟨w.heap.size, 2, none⟩ = some (.int .i64 p.terrain.height) ∧ W.cell? ⟨w.heap.size, 3, none⟩ = some (v3) ∧ W.cell? ⟨w.heap.size, 4, none⟩ = some (v4) ∧ W.cell? ⟨w.heap.size, 5, none⟩ = some (v5) ∧ W.cell? ⟨w.heap.size, 6, none⟩ = some (.slice a6 p.network.sectors.length k6) ∧ W.cell? ⟨w.heap.size, 7, none⟩ = some (v7) ∧ W.cell? ⟨w.heap.size, 8, none⟩ = some (v8) ∧ W.cell? ⟨w.heap.size, 9, none⟩ = some (v9) ∧ W.cell? ⟨w.heap.size, 10, none⟩ = some (v10) ∧ W.cell? ⟨w.heap.size, 11, none⟩ = some (v11) ∧ W.cell? ⟨w.heap.size, 12, none⟩ = some (v12) ∧ W.cell? ⟨w.heap.size, 13, none⟩ = some (.int .i64 p.day) ∧ W.cell? ⟨w.heap.size + 1, 0, none⟩ = some (.string ⟨#[]⟩) ∧ W.cell? ⟨w.heap.size + 1, 1, none⟩ = some (.string ⟨#[]⟩) ∧ W.cell? ⟨w.heap.size + 1, 2, none⟩ = some (.int .i64 0) ∧ W.cell? ⟨w.heap.size + 1, 3, none⟩ = some (.int .i64 0) ∧ W.cell? ⟨w.heap.size + 1, 4, none⟩ = some (.int .i64 0) ∧ W.cell? ⟨w.heap.size + 1, 5, none⟩ = some (.int .i64 0) ∧ W.cell? ⟨w.heap.size + 1, 6, none⟩ = some (.int .i64 0) ∧ W.cell? ⟨w.heap.size + 1, 7, none⟩ = some (.int .i64 0) ∧ W.cell? ⟨w.heap.size + 1, 8, none⟩ = some (.int .i64 0) ∧ W.cell? ⟨w.heap.size + 1, 9, none⟩ = some (.int .i64 0) ∧ W.cell? ⟨w.heap.size + 1, 10, none⟩ = some (.int .i64 0))) := fun W hW => ⟨bkC (bkB K0.out hW (by omega)) 0 rfl, bkC (bkB K0.out hW (by omega)) 1 rfl, bkC (bkB K0.out hW (by omega)) 2 rfl, bkC (bkB K0.out hW (by omega)) 3 rfl, bkC (bkB K0.out hW (by omega)) 4 rfl, bkC (bkB K0.out hW (by omega)) 5 rfl, bkC (bkB K0.out hW (by omega)) 6 rfl, bkC (bkB K0.out hW (by omega)) 7 rfl, bkC (bkB K0.out hW (by omega)) 8 rfl, bkC (bkB K0.out hW (by omega)) 9 rfl, bkC (bkB K0.out hW (by omega)) 10 rfl, bkC (bkB K0.out hW (by omega)) 11 rfl, bkC (bkB K0.out hW (by omega)) 12 rfl, bkC (bkB K0.out hW (by omega)) 13 rfl, bkC (bkB K1.out hW (by omega)) 0 rfl, bkC (bkB K1.out hW (by omega)) 1 rfl, bkC (bkB K1.out hW (by omega)) 2 rfl, bkC (bkB K1.out hW (by omega)) 3 rfl, bkC (bkB K1.out hW (by omega)) 4 rfl, bkC (bkB K1.out hW (by omega)) 5 rfl, bkC (bkB K1.out hW (by omega)) 6 rfl, bkC (bkB K1.out hW (by omega)) 7 rfl, bkC (bkB K1.out hW (by omega)) 8 rfl, bkC (bkB K1.out hW (by omega)) 9 rfl, bkC (bkB K1.out hW (by omega)) 10 rfl⟩
  have HB : Hid (Below W0.heap.size W0 W0) := Below.refl _ _
  have HH : Hid (∀ W : World, Below W0.heap.size W0 W → Below w.heap.size w W) := fun W hW => B0.out.trans (hW.mono (by omega))
  have CP : Hid (∀ W : World, Below W0.heap.size W0 W → Calls Tryz.prog 71 #[.agg #[.int .i64 p.terrain.step, .int .i64 p.terrain.width, .int .i64 p.terrain.height, v3, v4, v5, .slice a6 p.network.sectors.length k6, v7, v8, v9, v10, v11, v12, .int .i64 p.day], .string nm] W fun e w' => e = .returned (.tuple #[.int .i64 (codeP p nm).1, .int .i64 (codeP p nm).2]) ∧ Below W.heap.size W w') := fun W hW => planCode_any p nm v3 v4 v5 _ v7 v8 v9 v10 v11 v12 W ((H.out.below (HH.out W hW)).mono (HH.out W hW).size) hs hk
  rcases codeP_cases p nm with hcp | hcp | ⟨hp, hi0, hcp⟩
  · have HE : Hid (licR p nm = (zeroL, 1)) := by show _ = _; unfold licR; rw [hcp]; rfl
    rw [hcp] at CP
    clear hcp
    go_enter Tryz.func23, Tryz.ntmps23
    go_upto_region 1 with (fail)
    rw [HW0.out]
    obtain ⟨t0, t1, t2, t3, t4, t5, t6, t7, t8, t9, t10, t11, t12, t13, t14, t15, t16, t17, t18, t19, t20, t21, t22, t23, t24⟩ := HD.out _ HB.out
    go_upto_region 3 with (go_at_call 71; with_reducible refine (CP.out _ HB.out).mono ?_; rintro e w2 ⟨rfl, hb2⟩; (try clear t0 t1 t2 t3 t4 t5 t6 t7 t8 t9 t10 t11 t12 t13 t14 t15 t16 t17 t18 t19 t20 t21 t22 t23 t24); replace HB := Lib.hid (HB.out.trans (hb2.mono HB.out.size)); clear hb2; obtain ⟨t0, t1, t2, t3, t4, t5, t6, t7, t8, t9, t10, t11, t12, t13, t14, t15, t16, t17, t18, t19, t20, t21, t22, t23, t24⟩ := HD.out _ HB.out)
    clear t14 t15 t16 t17 t18 t19 t20 t21 t22 t23 t24
    have KN := Lib.hid (bkB K1.out HB.out (by omega))
    have BN := Lib.hid (HH.out _ HB.out)
    have g0 := bkC (v := .string ⟨#[]⟩) KN.out 0 rfl
    have g1 := bkC (v := .string ⟨#[]⟩) KN.out 1 rfl
    have g2 := bkC (v := .int .i64 0) KN.out 2 rfl
    have g3 := bkC (v := .int .i64 0) KN.out 3 rfl
    have g4 := bkC (v := .int .i64 0) KN.out 4 rfl
    have g5 := bkC (v := .int .i64 0) KN.out 5 rfl
    have g6 := bkC (v := .int .i64 0) KN.out 6 rfl
    have g7 := bkC (v := .int .i64 0) KN.out 7 rfl
    have g8 := bkC (v := .int .i64 0) KN.out 8 rfl
    have g9 := bkC (v := .int .i64 0) KN.out 9 rfl
    have g10 := bkC (v := .int .i64 0) KN.out 10 rfl
    have gz := bkF KN.out
    go_wp2
    refine bodyPost_ret (v := .tuple #[.agg #[.string ⟨#[]⟩, .string ⟨#[]⟩, .int .i64 0, .int .i64 0, .int .i64 0, .int .i64 0, .int .i64 0, .int .i64 0, .int .i64 0, .int .i64 0, .int .i64 0], .int .i64 1]) (by simp [results, Tryz.results23, go_sem, *]) rfl ?_
    exact ⟨by rw [HE.out]; rfl, (bset (bset (bset (bset (bset (bset (bset (bset (bset (bset (bset BN.out (by omega) 0 _) (by omega) 1 _) (by omega) 2 _) (by omega) 3 _) (by omega) 4 _) (by omega) 5 _) (by omega) 6 _) (by omega) 7 _) (by omega) 8 _) (by omega) 9 _) (by omega) 10 _)⟩
  · have HE : Hid (licR p nm = (zeroL, 3)) := by show _ = _; unfold licR; rw [hcp]; rfl
    rw [hcp] at CP
    clear hcp
    go_enter Tryz.func23, Tryz.ntmps23
    go_upto_region 1 with (fail)
    rw [HW0.out]
    obtain ⟨t0, t1, t2, t3, t4, t5, t6, t7, t8, t9, t10, t11, t12, t13, t14, t15, t16, t17, t18, t19, t20, t21, t22, t23, t24⟩ := HD.out _ HB.out
    go_upto_region 3 with (go_at_call 71; with_reducible refine (CP.out _ HB.out).mono ?_; rintro e w2 ⟨rfl, hb2⟩; (try clear t0 t1 t2 t3 t4 t5 t6 t7 t8 t9 t10 t11 t12 t13 t14 t15 t16 t17 t18 t19 t20 t21 t22 t23 t24); replace HB := Lib.hid (HB.out.trans (hb2.mono HB.out.size)); clear hb2; obtain ⟨t0, t1, t2, t3, t4, t5, t6, t7, t8, t9, t10, t11, t12, t13, t14, t15, t16, t17, t18, t19, t20, t21, t22, t23, t24⟩ := HD.out _ HB.out)
    clear t14 t15 t16 t17 t18 t19 t20 t21 t22 t23 t24
    have KN := Lib.hid (bkB K1.out HB.out (by omega))
    have BN := Lib.hid (HH.out _ HB.out)
    have g0 := bkC (v := .string ⟨#[]⟩) KN.out 0 rfl
    have g1 := bkC (v := .string ⟨#[]⟩) KN.out 1 rfl
    have g2 := bkC (v := .int .i64 0) KN.out 2 rfl
    have g3 := bkC (v := .int .i64 0) KN.out 3 rfl
    have g4 := bkC (v := .int .i64 0) KN.out 4 rfl
    have g5 := bkC (v := .int .i64 0) KN.out 5 rfl
    have g6 := bkC (v := .int .i64 0) KN.out 6 rfl
    have g7 := bkC (v := .int .i64 0) KN.out 7 rfl
    have g8 := bkC (v := .int .i64 0) KN.out 8 rfl
    have g9 := bkC (v := .int .i64 0) KN.out 9 rfl
    have g10 := bkC (v := .int .i64 0) KN.out 10 rfl
    have gz := bkF KN.out
    go_wp2
    refine bodyPost_ret (v := .tuple #[.agg #[.string ⟨#[]⟩, .string ⟨#[]⟩, .int .i64 0, .int .i64 0, .int .i64 0, .int .i64 0, .int .i64 0, .int .i64 0, .int .i64 0, .int .i64 0, .int .i64 0], .int .i64 3]) (by simp [results, Tryz.results23, go_sem, *]) rfl ?_
    exact ⟨by rw [HE.out]; rfl, (bset (bset (bset (bset (bset (bset (bset (bset (bset (bset (bset BN.out (by omega) 0 _) (by omega) 1 _) (by omega) 2 _) (by omega) 3 _) (by omega) 4 _) (by omega) 5 _) (by omega) 6 _) (by omega) 7 _) (by omega) 8 _) (by omega) 9 _) (by omega) 10 _)⟩
  · have HE0 : Hid (licR p nm = if 0 ≤ licIdx p (secN p nm) then (gLicence p.licences (licIdx p (secN p nm)).toNat, 0) else (zeroL, 6)) := by show _ = _; unfold licR; rw [hcp]; rfl
    rw [hcp] at CP
    clear hcp
    obtain ⟨hl, hlc⟩ := idxSector_lt _ _ hi0
    have hx : secN p nm = gSector p.network.sectors (idxSector p.network.sectors nm).toNat := rfl
    rw [← hlc] at CP
    generalize (idxSector p.network.sectors nm).toNat = k at *
    have hsec := planB_sector hp hl
    rw [← hx] at hsec
    clear hlc hi0
    have i1 : (0 : Int) ≤ (k : Int) := by omega
    have i2 : (k : Int) < (p.network.sectors.length : Int) := by omega
    obtain ⟨bs, os, es, hbs, hat6⟩ := HCL.out (Nat.lt_of_le_of_lt (Nat.zero_le _) hl)
    subst es
    obtain ⟨x0, x1, x2, x3, x4, x5, x6, x7, x8⟩ := hat6 k hl
    rw [gSector_eq hl, ← hx] at x0 x1 x2 x3 x4 x5 x6 x7 x8
    clear hx hat6
    have CLR : Hid (∀ W : World, Below W0.heap.size W0 W → Calls Tryz.prog 74 #[.agg #[.int .i64 p.terrain.step, .int .i64 p.terrain.width, .int .i64 p.terrain.height, v3, v4, v5, .slice (some ⟨bs, os, none⟩) p.network.sectors.length k6, v7, v8, v9, v10, v11, v12, .int .i64 p.day], .agg #[.string (secN p nm).name, .string (secN p nm).site, .string (secN p nm).antenna, .string (secN p nm).radio, .string (secN p nm).band, .int .i64 (secN p nm).azimuth, .int .i64 (secN p nm).tilt, .int .i64 (secN p nm).above, .int .i64 (secN p nm).channel]] W fun e w' => ∃ (A : DLicence) (ok : Bool), e = .returned (.tuple #[.agg #[.string A.id, .string A.holder, .int .i64 A.low, .int .i64 A.high, .int .i64 A.area.west, .int .i64 A.area.south, .int .i64 A.area.east, .int .i64 A.area.north, .int .i64 A.from_, .int .i64 A.until_, .int .i64 A.power], .bool ok]) ∧ ((0 ≤ licIdx p (secN p nm) ∧ A = gLicence p.licences (licIdx p (secN p nm)).toNat ∧ ok = true) ∨ (licIdx p (secN p nm) = -1 ∧ A = zeroL ∧ ok = false)) ∧ Below W.heap.size W w') := fun W hW => (licenceOf_any p (secN p nm) v3 v4 v5 _ v7 v8 v9 v10 v11 v12 W ((H.out.below (HH.out W hW)).mono (HH.out W hW).size) hs hk hp hsec.1 hsec.2).mono fun e w' h => by
      obtain ⟨hh, hb⟩ := h
      rcases hh with ⟨a1, a2, rfl⟩ | ⟨a1, rfl⟩
      · exact ⟨_, _, rfl, Or.inl ⟨a1, rfl, rfl⟩, hb⟩
      · exact ⟨zeroL, _, rfl, Or.inr ⟨a1, rfl, rfl⟩, hb⟩
    generalize licIdx p (secN p nm) = li at *
    generalize secN p nm = x at *
    clear hsec
    have HX : Hid (∀ W : World, Below W0.heap.size W0 W → (W.cell? ⟨bs, os + k * 9, none⟩ = some (.string x.name) ∧ W.cell? ⟨bs, os + k * 9 + 1, none⟩ = some (.string x.site) ∧ W.cell? ⟨bs, os + k * 9 + 2, none⟩ = some (.string x.antenna) ∧ W.cell? ⟨bs, os + k * 9 + 3, none⟩ = some (.string x.radio) ∧ W.cell? ⟨bs, os + k * 9 + 4, none⟩ = some (.string x.band) ∧ W.cell? ⟨bs, os + k * 9 + 5, none⟩ = some (.int .i64 x.azimuth) ∧ W.cell? ⟨bs, os + k * 9 + 6, none⟩ = some (.int .i64 x.tilt) ∧ W.cell? ⟨bs, os + k * 9 + 7, none⟩ = some (.int .i64 x.above) ∧ W.cell? ⟨bs, os + k * 9 + 8, none⟩ = some (.int .i64 x.channel))) := fun W hW => ⟨(bat (HH.out W hW) bs _ hbs).trans x0, (bat (HH.out W hW) bs _ hbs).trans x1, (bat (HH.out W hW) bs _ hbs).trans x2, (bat (HH.out W hW) bs _ hbs).trans x3, (bat (HH.out W hW) bs _ hbs).trans x4, (bat (HH.out W hW) bs _ hbs).trans x5, (bat (HH.out W hW) bs _ hbs).trans x6, (bat (HH.out W hW) bs _ hbs).trans x7, (bat (HH.out W hW) bs _ hbs).trans x8⟩
    clear x0 x1 x2 x3 x4 x5 x6 x7 x8
    have HDP : Hid (∀ W : World, Below W0.heap.size W0 W → (W.cell? ⟨w.heap.size, 0, none⟩ = some (.int .i64 p.terrain.step) ∧ W.cell? ⟨w.heap.size, 1, none⟩ = some (.int .i64 p.terrain.width) ∧ W.cell? ⟨w.heap.size, 2, none⟩ = some (.int .i64 p.terrain.height) ∧ W.cell? ⟨w.heap.size, 3, none⟩ = some (v3) ∧ W.cell? ⟨w.heap.size, 4, none⟩ = some (v4) ∧ W.cell? ⟨w.heap.size, 5, none⟩ = some (v5) ∧ W.cell? ⟨w.heap.size, 6, none⟩ = some (.slice (some ⟨bs, os, none⟩) p.network.sectors.length k6) ∧ W.cell? ⟨w.heap.size, 7, none⟩ = some (v7) ∧ W.cell? ⟨w.heap.size, 8, none⟩ = some (v8) ∧ W.cell? ⟨w.heap.size, 9, none⟩ = some (v9) ∧ W.cell? ⟨w.heap.size, 10, none⟩ = some (v10) ∧ W.cell? ⟨w.heap.size, 11, none⟩ = some (v11) ∧ W.cell? ⟨w.heap.size, 12, none⟩ = some (v12) ∧ W.cell? ⟨w.heap.size, 13, none⟩ = some (.int .i64 p.day))) := fun W hW => by
      obtain ⟨t0, t1, t2, t3, t4, t5, t6, t7, t8, t9, t10, t11, t12, t13, t14, t15, t16, t17, t18, t19, t20, t21, t22, t23, t24⟩ := HD.out W hW
      exact ⟨t0, t1, t2, t3, t4, t5, t6, t7, t8, t9, t10, t11, t12, t13⟩
    go_enter Tryz.func23, Tryz.ntmps23
    go_upto_region 1 with (fail)
    rw [HW0.out]
    obtain ⟨t0, t1, t2, t3, t4, t5, t6, t7, t8, t9, t10, t11, t12, t13, t14, t15, t16, t17, t18, t19, t20, t21, t22, t23, t24⟩ := HD.out _ HB.out
    go_upto_region 4 with (go_at_call 71; with_reducible refine (CP.out _ HB.out).mono ?_; rintro e w2 ⟨rfl, hb2⟩; (try clear t0 t1 t2 t3 t4 t5 t6 t7 t8 t9 t10 t11 t12 t13 t14 t15 t16 t17 t18 t19 t20 t21 t22 t23 t24); replace HB := Lib.hid (HB.out.trans (hb2.mono HB.out.size)); clear hb2; obtain ⟨t0, t1, t2, t3, t4, t5, t6, t7, t8, t9, t10, t11, t12, t13, t14, t15, t16, t17, t18, t19, t20, t21, t22, t23, t24⟩ := HD.out _ HB.out)
    clear t0 t1 t2 t3 t4 t5 t6 t7 t8 t9 t10 t11 t12 t13 t14 t15 t16 t17 t18 t19 t20 t21 t22 t23 t24
    have HKB : Hid (∀ W : World, Below w2.heap.size w2 W → ((W.cell? ⟨w.heap.size, 0, none⟩ = some (.int .i64 p.terrain.step) ∧ W.cell? ⟨w.heap.size, 1, none⟩ = some (.int .i64 p.terrain.width) ∧ W.cell? ⟨w.heap.size, 2, none⟩ = some (.int .i64 p.terrain.height) ∧ W.cell? ⟨w.heap.size, 3, none⟩ = some (v3) ∧ W.cell? ⟨w.heap.size, 4, none⟩ = some (v4) ∧ W.cell? ⟨w.heap.size, 5, none⟩ = some (v5) ∧ W.cell? ⟨w.heap.size, 6, none⟩ = some (.slice (some ⟨bs, os, none⟩) p.network.sectors.length k6) ∧ W.cell? ⟨w.heap.size, 7, none⟩ = some (v7) ∧ W.cell? ⟨w.heap.size, 8, none⟩ = some (v8) ∧ W.cell? ⟨w.heap.size, 9, none⟩ = some (v9) ∧ W.cell? ⟨w.heap.size, 10, none⟩ = some (v10) ∧ W.cell? ⟨w.heap.size, 11, none⟩ = some (v11) ∧ W.cell? ⟨w.heap.size, 12, none⟩ = some (v12) ∧ W.cell? ⟨w.heap.size, 13, none⟩ = some (.int .i64 p.day)) ∧ (W.cell? ⟨bs, os + k * 9, none⟩ = some (.string x.name) ∧ W.cell? ⟨bs, os + k * 9 + 1, none⟩ = some (.string x.site) ∧ W.cell? ⟨bs, os + k * 9 + 2, none⟩ = some (.string x.antenna) ∧ W.cell? ⟨bs, os + k * 9 + 3, none⟩ = some (.string x.radio) ∧ W.cell? ⟨bs, os + k * 9 + 4, none⟩ = some (.string x.band) ∧ W.cell? ⟨bs, os + k * 9 + 5, none⟩ = some (.int .i64 x.azimuth) ∧ W.cell? ⟨bs, os + k * 9 + 6, none⟩ = some (.int .i64 x.tilt) ∧ W.cell? ⟨bs, os + k * 9 + 7, none⟩ = some (.int .i64 x.above) ∧ W.cell? ⟨bs, os + k * 9 + 8, none⟩ = some (.int .i64 x.channel)))) := fun W hW => ⟨HDP.out W (HB.out.trans (hW.mono HB.out.size)), HX.out W (HB.out.trans (hW.mono HB.out.size))⟩
    have zz := HB.out.size
    have BBd : Hid (Below w2.heap.size w2 w2.drew) := below_drew1 w2
    go_cut [8, 9] (fun s8 s9 wx => ∃ (hb : Nat) (A : DLicence) (ok : Bool), s8 = .pointer (some ⟨hb, 0, none⟩) ∧ s9 = .bool ok ∧ wx.heap[hb]? = some (.cells #[.string A.id, .string A.holder, .int .i64 A.low, .int .i64 A.high, .int .i64 A.area.west, .int .i64 A.area.south, .int .i64 A.area.east, .int .i64 A.area.north, .int .i64 A.from_, .int .i64 A.until_, .int .i64 A.power] 72 (0, 0)) ∧ w2.heap.size ≤ hb ∧ hb < wx.heap.size ∧ Below w2.heap.size w2 wx ∧ ((0 ≤ li ∧ A = gLicence p.licences (li).toNat ∧ ok = true) ∨ (li = -1 ∧ A = zeroL ∧ ok = false)))
    case first =>
      refine wp_region_tree 14 (.read 0 (.read 1 (.read 2 (.read 3 (.read 4 (.read 5 (.read 6 (.two 7 11 (.read 8 (.read 9 (.read 10 (.one 11 (.one 12 (.read 13 .nil)))))) (.one 7 (.read 8 (.read 9 (.read 10 (.one 12 (.read 13 .nil)))))))))))))) (fun W => ((W.cell? ⟨w.heap.size, 0, none⟩ = some (.int .i64 p.terrain.step) ∧ W.cell? ⟨w.heap.size, 1, none⟩ = some (.int .i64 p.terrain.width) ∧ W.cell? ⟨w.heap.size, 2, none⟩ = some (.int .i64 p.terrain.height) ∧ W.cell? ⟨w.heap.size, 3, none⟩ = some (v3) ∧ W.cell? ⟨w.heap.size, 4, none⟩ = some (v4) ∧ W.cell? ⟨w.heap.size, 5, none⟩ = some (v5) ∧ W.cell? ⟨w.heap.size, 6, none⟩ = some (.slice (some ⟨bs, os, none⟩) p.network.sectors.length k6) ∧ W.cell? ⟨w.heap.size, 7, none⟩ = some (v7) ∧ W.cell? ⟨w.heap.size, 8, none⟩ = some (v8) ∧ W.cell? ⟨w.heap.size, 9, none⟩ = some (v9) ∧ W.cell? ⟨w.heap.size, 10, none⟩ = some (v10) ∧ W.cell? ⟨w.heap.size, 11, none⟩ = some (v11) ∧ W.cell? ⟨w.heap.size, 12, none⟩ = some (v12) ∧ W.cell? ⟨w.heap.size, 13, none⟩ = some (.int .i64 p.day)) ∧ (W.cell? ⟨bs, os + k * 9, none⟩ = some (.string x.name) ∧ W.cell? ⟨bs, os + k * 9 + 1, none⟩ = some (.string x.site) ∧ W.cell? ⟨bs, os + k * 9 + 2, none⟩ = some (.string x.antenna) ∧ W.cell? ⟨bs, os + k * 9 + 3, none⟩ = some (.string x.radio) ∧ W.cell? ⟨bs, os + k * 9 + 4, none⟩ = some (.string x.band) ∧ W.cell? ⟨bs, os + k * 9 + 5, none⟩ = some (.int .i64 x.azimuth) ∧ W.cell? ⟨bs, os + k * 9 + 6, none⟩ = some (.int .i64 x.tilt) ∧ W.cell? ⟨bs, os + k * 9 + 7, none⟩ = some (.int .i64 x.above) ∧ W.cell? ⟨bs, os + k * 9 + 8, none⟩ = some (.int .i64 x.channel)))) (by kernel_rfl) (by kernel_rfl) (HKB.out _ BBd.out) ?_
      have zd : w2.heap.size ≤ w2.drew.heap.size := Nat.le_refl _
      generalize w2.drew = Y at *
      refine wpTree_read (v := ?_) rfl (fun _ _ _ h => h) ?_ ?_
      rotate_left
      · (intro W hSW; (try dsimp only at hSW); (go_simp <;> with_reducible rfl))
      (try simp only [Act.put, List.setIfInBounds_toArray, List.set_cons_zero, List.set_cons_succ])
      refine wpTree_read (v := ?_) rfl (fun _ _ _ h => h) ?_ ?_
      rotate_left
      · (intro W hSW; (try dsimp only at hSW); (go_simp <;> with_reducible rfl))
      (try simp only [Act.put, List.setIfInBounds_toArray, List.set_cons_zero, List.set_cons_succ])
      refine wpTree_read (v := ?_) rfl (fun _ _ _ h => h) ?_ ?_
      rotate_left
      · (intro W hSW; (try dsimp only at hSW); (go_simp <;> with_reducible rfl))
      (try simp only [Act.put, List.setIfInBounds_toArray, List.set_cons_zero, List.set_cons_succ])
      refine wpTree_read (v := ?_) rfl (fun _ _ _ h => h) ?_ ?_
      rotate_left
      · (intro W hSW; (try dsimp only at hSW); (go_simp <;> with_reducible rfl))
      (try simp only [Act.put, List.setIfInBounds_toArray, List.set_cons_zero, List.set_cons_succ])
      refine wpTree_read (v := ?_) rfl (fun _ _ _ h => h) ?_ ?_
      rotate_left
      · (intro W hSW; (try dsimp only at hSW); (go_simp <;> with_reducible rfl))
      (try simp only [Act.put, List.setIfInBounds_toArray, List.set_cons_zero, List.set_cons_succ])
      refine wpTree_read (v := ?_) rfl (fun _ _ _ h => h) ?_ ?_
      rotate_left
      · (intro W hSW; (try dsimp only at hSW); (go_simp <;> with_reducible rfl))
      (try simp only [Act.put, List.setIfInBounds_toArray, List.set_cons_zero, List.set_cons_succ])
      refine wpTree_read (v := ?_) rfl (fun _ _ _ h => h) ?_ ?_
      rotate_left
      · (intro W hSW; (try dsimp only at hSW); (go_simp <;> with_reducible rfl))
      (try simp only [Act.put, List.setIfInBounds_toArray, List.set_cons_zero, List.set_cons_succ])
      refine wpTree_two ?_ ?_
      · refine stepT_mk rfl (fun K hK => ?_)
        go_simp
        refine (CLR.out _ (HB.out.trans (BBd.out.mono HB.out.size))).mono ?_
        rintro e Y1 ⟨A, ok, rfl, hlr, hb1⟩
        have HLR := Lib.hid hlr
        clear hlr
        refine hK.out _ _ (HKB.out _ (BBd.out.trans (hb1.mono (by omega)))) ?_
        clear hK K
        (try simp only [Act.put, List.setIfInBounds_toArray, List.set_cons_zero, List.set_cons_succ])
        have bs1 : Y.heap.size ≤ Y1.heap.size := hb1.size
        have BY1 := Lib.hid (BBd.out.trans (hb1.mono (by omega)))
        clear hb1
        refine wpTree_read (v := ?_) rfl (fun _ _ _ h => h) ?_ ?_
        rotate_left
        · (intro W hSW; (try dsimp only at hSW); (go_simp <;> with_reducible rfl))
        (try simp only [Act.put, List.setIfInBounds_toArray, List.set_cons_zero, List.set_cons_succ])
        refine wpTree_read (v := ?_) rfl (fun _ _ _ h => h) ?_ ?_
        rotate_left
        · (intro W hSW; (try dsimp only at hSW); (go_simp <;> with_reducible rfl))
        (try simp only [Act.put, List.setIfInBounds_toArray, List.set_cons_zero, List.set_cons_succ])
        refine wpTree_read (v := ?_) rfl (fun _ _ _ h => h) ?_ ?_
        rotate_left
        · (intro W hSW; (try dsimp only at hSW); (go_simp <;> with_reducible rfl))
        (try simp only [Act.put, List.setIfInBounds_toArray, List.set_cons_zero, List.set_cons_succ])
        refine wpTree_one ?_
        refine stepT_mk rfl (fun K hK => ?_)
        go_simp
        have hb2 : Below Y1.heap.size Y1 (Y1.alloc (.cells #[.string ⟨#[]⟩, .string ⟨#[]⟩, .int .i64 0, .int .i64 0, .int .i64 0, .int .i64 0, .int .i64 0, .int .i64 0, .int .i64 0, .int .i64 0, .int .i64 0] 72)) := below_alloc _ _
        have kk2 := Lib.hid (bkN Y1 #[.string ⟨#[]⟩, .string ⟨#[]⟩, .int .i64 0, .int .i64 0, .int .i64 0, .int .i64 0, .int .i64 0, .int .i64 0, .int .i64 0, .int .i64 0, .int .i64 0] 72)
        have zl2 : Y1.heap.size + 1 ≤ (Y1.alloc (.cells #[.string ⟨#[]⟩, .string ⟨#[]⟩, .int .i64 0, .int .i64 0, .int .i64 0, .int .i64 0, .int .i64 0, .int .i64 0, .int .i64 0, .int .i64 0, .int .i64 0] 72)).heap.size := by simp
        refine hK.out _ _ (HKB.out _ (BY1.out.trans (hb2.mono (by omega)))) ?_
        clear hK K
        (try simp only [Act.put, List.setIfInBounds_toArray, List.set_cons_zero, List.set_cons_succ])
        generalize (Y1.alloc (.cells #[.string ⟨#[]⟩, .string ⟨#[]⟩, .int .i64 0, .int .i64 0, .int .i64 0, .int .i64 0, .int .i64 0, .int .i64 0, .int .i64 0, .int .i64 0, .int .i64 0] 72)) = Y2 at *
        have bs2 : Y1.heap.size ≤ Y2.heap.size := hb2.size
        have BY2 := Lib.hid (BY1.out.trans (hb2.mono (by omega)))
        clear hb2
        refine wpTree_one ?_
        refine stepT_mk rfl (fun K hK => ?_)
        have g0 := bkC (v := .string ⟨#[]⟩) kk2.out 0 rfl
        have g1 := bkC (v := .string ⟨#[]⟩) kk2.out 1 rfl
        have g2 := bkC (v := .int .i64 0) kk2.out 2 rfl
        have g3 := bkC (v := .int .i64 0) kk2.out 3 rfl
        have g4 := bkC (v := .int .i64 0) kk2.out 4 rfl
        have g5 := bkC (v := .int .i64 0) kk2.out 5 rfl
        have g6 := bkC (v := .int .i64 0) kk2.out 6 rfl
        have g7 := bkC (v := .int .i64 0) kk2.out 7 rfl
        have g8 := bkC (v := .int .i64 0) kk2.out 8 rfl
        have g9 := bkC (v := .int .i64 0) kk2.out 9 rfl
        have g10 := bkC (v := .int .i64 0) kk2.out 10 rfl
        have fz := bkF kk2.out
        have kf_ : ((((((((((((Y2.setCell ⟨Y1.heap.size, 0, none⟩ (.string A.id)).setCell ⟨Y1.heap.size, 1, none⟩ (.string A.holder)).setCell ⟨Y1.heap.size, 2, none⟩ (.int .i64 A.low)).setCell ⟨Y1.heap.size, 3, none⟩ (.int .i64 A.high)).setCell ⟨Y1.heap.size, 4, none⟩ (.int .i64 A.area.west)).setCell ⟨Y1.heap.size, 5, none⟩ (.int .i64 A.area.south)).setCell ⟨Y1.heap.size, 6, none⟩ (.int .i64 A.area.east)).setCell ⟨Y1.heap.size, 7, none⟩ (.int .i64 A.area.north)).setCell ⟨Y1.heap.size, 8, none⟩ (.int .i64 A.from_)).setCell ⟨Y1.heap.size, 9, none⟩ (.int .i64 A.until_)).setCell ⟨Y1.heap.size, 10, none⟩ (.int .i64 A.power))).heap[Y1.heap.size]? = some (.cells #[.string A.id, .string A.holder, .int .i64 A.low, .int .i64 A.high, .int .i64 A.area.west, .int .i64 A.area.south, .int .i64 A.area.east, .int .i64 A.area.north, .int .i64 A.from_, .int .i64 A.until_, .int .i64 A.power] 72 (0, 0)) := by
          have h_ := (bkS (bkS (bkS (bkS (bkS (bkS (bkS (bkS (bkS (bkS (bkS kk2.out 0 (.string A.id)) 1 (.string A.holder)) 2 (.int .i64 A.low)) 3 (.int .i64 A.high)) 4 (.int .i64 A.area.west)) 5 (.int .i64 A.area.south)) 6 (.int .i64 A.area.east)) 7 (.int .i64 A.area.north)) 8 (.int .i64 A.from_)) 9 (.int .i64 A.until_)) 10 (.int .i64 A.power))
          simpa using h_
        have KF := Lib.hid kf_
        clear kf_
        have BF := Lib.hid ((bset (b := Y1.heap.size) (bset (b := Y1.heap.size) (bset (b := Y1.heap.size) (bset (b := Y1.heap.size) (bset (b := Y1.heap.size) (bset (b := Y1.heap.size) (bset (b := Y1.heap.size) (bset (b := Y1.heap.size) (bset (b := Y1.heap.size) (bset (b := Y1.heap.size) (bset (b := Y1.heap.size) BY2.out (by omega) 0 (.string A.id)) (by omega) 1 (.string A.holder)) (by omega) 2 (.int .i64 A.low)) (by omega) 3 (.int .i64 A.high)) (by omega) 4 (.int .i64 A.area.west)) (by omega) 5 (.int .i64 A.area.south)) (by omega) 6 (.int .i64 A.area.east)) (by omega) 7 (.int .i64 A.area.north)) (by omega) 8 (.int .i64 A.from_)) (by omega) 9 (.int .i64 A.until_)) (by omega) 10 (.int .i64 A.power)))
        have zs : Y2.heap.size ≤ ((((((((((((Y2.setCell ⟨Y1.heap.size, 0, none⟩ (.string A.id)).setCell ⟨Y1.heap.size, 1, none⟩ (.string A.holder)).setCell ⟨Y1.heap.size, 2, none⟩ (.int .i64 A.low)).setCell ⟨Y1.heap.size, 3, none⟩ (.int .i64 A.high)).setCell ⟨Y1.heap.size, 4, none⟩ (.int .i64 A.area.west)).setCell ⟨Y1.heap.size, 5, none⟩ (.int .i64 A.area.south)).setCell ⟨Y1.heap.size, 6, none⟩ (.int .i64 A.area.east)).setCell ⟨Y1.heap.size, 7, none⟩ (.int .i64 A.area.north)).setCell ⟨Y1.heap.size, 8, none⟩ (.int .i64 A.from_)).setCell ⟨Y1.heap.size, 9, none⟩ (.int .i64 A.until_)).setCell ⟨Y1.heap.size, 10, none⟩ (.int .i64 A.power))).heap.size := by simp only [size_setCell]; omega
        go_simp
        refine hK.out _ _ (HKB.out _ BF.out) ?_
        clear hK K fz g0 g1 g2 g3 g4 g5 g6 g7 g8 g9 g10
        (try simp only [Act.put, List.setIfInBounds_toArray, List.set_cons_zero, List.set_cons_succ])
        generalize (((((((((((Y2.setCell ⟨Y1.heap.size, 0, none⟩ (.string A.id)).setCell ⟨Y1.heap.size, 1, none⟩ (.string A.holder)).setCell ⟨Y1.heap.size, 2, none⟩ (.int .i64 A.low)).setCell ⟨Y1.heap.size, 3, none⟩ (.int .i64 A.high)).setCell ⟨Y1.heap.size, 4, none⟩ (.int .i64 A.area.west)).setCell ⟨Y1.heap.size, 5, none⟩ (.int .i64 A.area.south)).setCell ⟨Y1.heap.size, 6, none⟩ (.int .i64 A.area.east)).setCell ⟨Y1.heap.size, 7, none⟩ (.int .i64 A.area.north)).setCell ⟨Y1.heap.size, 8, none⟩ (.int .i64 A.from_)).setCell ⟨Y1.heap.size, 9, none⟩ (.int .i64 A.until_)).setCell ⟨Y1.heap.size, 10, none⟩ (.int .i64 A.power)) = Y3 at *
        refine wpTree_read (v := ?_) rfl (fun _ _ _ h => h) ?_ ?_
        rotate_left
        · (intro W hSW; (try dsimp only at hSW); (go_simp <;> with_reducible rfl))
        (try simp only [Act.put, List.setIfInBounds_toArray, List.set_cons_zero, List.set_cons_succ])
        refine wpTree_nil ?_
        simp only [List.drop_succ_cons, List.drop_zero]
        go_wp2_with fail
        go_meet
        exact ⟨_, A, ok, rfl, rfl, KF.out, by omega, by omega, BF.out, HLR.out⟩
      · refine stepT_mk rfl (fun K hK => ?_)
        go_simp
        have hb4 : Below Y.heap.size Y (Y.alloc (.cells #[.string ⟨#[]⟩, .string ⟨#[]⟩, .int .i64 0, .int .i64 0, .int .i64 0, .int .i64 0, .int .i64 0, .int .i64 0, .int .i64 0, .int .i64 0, .int .i64 0] 72)) := below_alloc _ _
        have kk4 := Lib.hid (bkN Y #[.string ⟨#[]⟩, .string ⟨#[]⟩, .int .i64 0, .int .i64 0, .int .i64 0, .int .i64 0, .int .i64 0, .int .i64 0, .int .i64 0, .int .i64 0, .int .i64 0] 72)
        have zl4 : Y.heap.size + 1 ≤ (Y.alloc (.cells #[.string ⟨#[]⟩, .string ⟨#[]⟩, .int .i64 0, .int .i64 0, .int .i64 0, .int .i64 0, .int .i64 0, .int .i64 0, .int .i64 0, .int .i64 0, .int .i64 0] 72)).heap.size := by simp
        refine hK.out _ _ (HKB.out _ (BBd.out.trans (hb4.mono (by omega)))) ?_
        clear hK K
        (try simp only [Act.put, List.setIfInBounds_toArray, List.set_cons_zero, List.set_cons_succ])
        generalize (Y.alloc (.cells #[.string ⟨#[]⟩, .string ⟨#[]⟩, .int .i64 0, .int .i64 0, .int .i64 0, .int .i64 0, .int .i64 0, .int .i64 0, .int .i64 0, .int .i64 0, .int .i64 0] 72)) = Y4 at *
        have bs4 : Y.heap.size ≤ Y4.heap.size := hb4.size
        have BY4 := Lib.hid (BBd.out.trans (hb4.mono (by omega)))
        clear hb4
        refine wpTree_one ?_
        refine stepT_mk rfl (fun K hK => ?_)
        go_simp
        refine (CLR.out _ (HB.out.trans (BY4.out.mono HB.out.size))).mono ?_
        rintro e Y5 ⟨A, ok, rfl, hlr, hb5⟩
        have HLR := Lib.hid hlr
        clear hlr
        refine hK.out _ _ (HKB.out _ (BY4.out.trans (hb5.mono (by omega)))) ?_
        clear hK K
        (try simp only [Act.put, List.setIfInBounds_toArray, List.set_cons_zero, List.set_cons_succ])
        have bs5 : Y4.heap.size ≤ Y5.heap.size := hb5.size
        have BY5 := Lib.hid (BY4.out.trans (hb5.mono (by omega)))
        have kh5 := Lib.hid (bkB kk4.out hb5 (by omega))
        clear hb5
        refine wpTree_read (v := ?_) rfl (fun _ _ _ h => h) ?_ ?_
        rotate_left
        · (intro W hSW; (try dsimp only at hSW); (go_simp <;> with_reducible rfl))
        (try simp only [Act.put, List.setIfInBounds_toArray, List.set_cons_zero, List.set_cons_succ])
        refine wpTree_read (v := ?_) rfl (fun _ _ _ h => h) ?_ ?_
        rotate_left
        · (intro W hSW; (try dsimp only at hSW); (go_simp <;> with_reducible rfl))
        (try simp only [Act.put, List.setIfInBounds_toArray, List.set_cons_zero, List.set_cons_succ])
        refine wpTree_read (v := ?_) rfl (fun _ _ _ h => h) ?_ ?_
        rotate_left
        · (intro W hSW; (try dsimp only at hSW); (go_simp <;> with_reducible rfl))
        (try simp only [Act.put, List.setIfInBounds_toArray, List.set_cons_zero, List.set_cons_succ])
        refine wpTree_one ?_
        refine stepT_mk rfl (fun K hK => ?_)
        have g0 := bkC (v := .string ⟨#[]⟩) kh5.out 0 rfl
        have g1 := bkC (v := .string ⟨#[]⟩) kh5.out 1 rfl
        have g2 := bkC (v := .int .i64 0) kh5.out 2 rfl
        have g3 := bkC (v := .int .i64 0) kh5.out 3 rfl
        have g4 := bkC (v := .int .i64 0) kh5.out 4 rfl
        have g5 := bkC (v := .int .i64 0) kh5.out 5 rfl
        have g6 := bkC (v := .int .i64 0) kh5.out 6 rfl
        have g7 := bkC (v := .int .i64 0) kh5.out 7 rfl
        have g8 := bkC (v := .int .i64 0) kh5.out 8 rfl
        have g9 := bkC (v := .int .i64 0) kh5.out 9 rfl
        have g10 := bkC (v := .int .i64 0) kh5.out 10 rfl
        have fz := bkF kh5.out
        have kf_ : ((((((((((((Y5.setCell ⟨Y.heap.size, 0, none⟩ (.string A.id)).setCell ⟨Y.heap.size, 1, none⟩ (.string A.holder)).setCell ⟨Y.heap.size, 2, none⟩ (.int .i64 A.low)).setCell ⟨Y.heap.size, 3, none⟩ (.int .i64 A.high)).setCell ⟨Y.heap.size, 4, none⟩ (.int .i64 A.area.west)).setCell ⟨Y.heap.size, 5, none⟩ (.int .i64 A.area.south)).setCell ⟨Y.heap.size, 6, none⟩ (.int .i64 A.area.east)).setCell ⟨Y.heap.size, 7, none⟩ (.int .i64 A.area.north)).setCell ⟨Y.heap.size, 8, none⟩ (.int .i64 A.from_)).setCell ⟨Y.heap.size, 9, none⟩ (.int .i64 A.until_)).setCell ⟨Y.heap.size, 10, none⟩ (.int .i64 A.power))).heap[Y.heap.size]? = some (.cells #[.string A.id, .string A.holder, .int .i64 A.low, .int .i64 A.high, .int .i64 A.area.west, .int .i64 A.area.south, .int .i64 A.area.east, .int .i64 A.area.north, .int .i64 A.from_, .int .i64 A.until_, .int .i64 A.power] 72 (0, 0)) := by
          have h_ := (bkS (bkS (bkS (bkS (bkS (bkS (bkS (bkS (bkS (bkS (bkS kh5.out 0 (.string A.id)) 1 (.string A.holder)) 2 (.int .i64 A.low)) 3 (.int .i64 A.high)) 4 (.int .i64 A.area.west)) 5 (.int .i64 A.area.south)) 6 (.int .i64 A.area.east)) 7 (.int .i64 A.area.north)) 8 (.int .i64 A.from_)) 9 (.int .i64 A.until_)) 10 (.int .i64 A.power))
          simpa using h_
        have KF := Lib.hid kf_
        clear kf_
        have BF := Lib.hid ((bset (b := Y.heap.size) (bset (b := Y.heap.size) (bset (b := Y.heap.size) (bset (b := Y.heap.size) (bset (b := Y.heap.size) (bset (b := Y.heap.size) (bset (b := Y.heap.size) (bset (b := Y.heap.size) (bset (b := Y.heap.size) (bset (b := Y.heap.size) (bset (b := Y.heap.size) BY5.out (by omega) 0 (.string A.id)) (by omega) 1 (.string A.holder)) (by omega) 2 (.int .i64 A.low)) (by omega) 3 (.int .i64 A.high)) (by omega) 4 (.int .i64 A.area.west)) (by omega) 5 (.int .i64 A.area.south)) (by omega) 6 (.int .i64 A.area.east)) (by omega) 7 (.int .i64 A.area.north)) (by omega) 8 (.int .i64 A.from_)) (by omega) 9 (.int .i64 A.until_)) (by omega) 10 (.int .i64 A.power)))
        have zs : Y5.heap.size ≤ ((((((((((((Y5.setCell ⟨Y.heap.size, 0, none⟩ (.string A.id)).setCell ⟨Y.heap.size, 1, none⟩ (.string A.holder)).setCell ⟨Y.heap.size, 2, none⟩ (.int .i64 A.low)).setCell ⟨Y.heap.size, 3, none⟩ (.int .i64 A.high)).setCell ⟨Y.heap.size, 4, none⟩ (.int .i64 A.area.west)).setCell ⟨Y.heap.size, 5, none⟩ (.int .i64 A.area.south)).setCell ⟨Y.heap.size, 6, none⟩ (.int .i64 A.area.east)).setCell ⟨Y.heap.size, 7, none⟩ (.int .i64 A.area.north)).setCell ⟨Y.heap.size, 8, none⟩ (.int .i64 A.from_)).setCell ⟨Y.heap.size, 9, none⟩ (.int .i64 A.until_)).setCell ⟨Y.heap.size, 10, none⟩ (.int .i64 A.power))).heap.size := by simp only [size_setCell]; omega
        go_simp
        refine hK.out _ _ (HKB.out _ BF.out) ?_
        clear hK K fz g0 g1 g2 g3 g4 g5 g6 g7 g8 g9 g10
        (try simp only [Act.put, List.setIfInBounds_toArray, List.set_cons_zero, List.set_cons_succ])
        generalize (((((((((((Y5.setCell ⟨Y.heap.size, 0, none⟩ (.string A.id)).setCell ⟨Y.heap.size, 1, none⟩ (.string A.holder)).setCell ⟨Y.heap.size, 2, none⟩ (.int .i64 A.low)).setCell ⟨Y.heap.size, 3, none⟩ (.int .i64 A.high)).setCell ⟨Y.heap.size, 4, none⟩ (.int .i64 A.area.west)).setCell ⟨Y.heap.size, 5, none⟩ (.int .i64 A.area.south)).setCell ⟨Y.heap.size, 6, none⟩ (.int .i64 A.area.east)).setCell ⟨Y.heap.size, 7, none⟩ (.int .i64 A.area.north)).setCell ⟨Y.heap.size, 8, none⟩ (.int .i64 A.from_)).setCell ⟨Y.heap.size, 9, none⟩ (.int .i64 A.until_)).setCell ⟨Y.heap.size, 10, none⟩ (.int .i64 A.power)) = Y6 at *
        refine wpTree_read (v := ?_) rfl (fun _ _ _ h => h) ?_ ?_
        rotate_left
        · (intro W hSW; (try dsimp only at hSW); (go_simp <;> with_reducible rfl))
        (try simp only [Act.put, List.setIfInBounds_toArray, List.set_cons_zero, List.set_cons_succ])
        refine wpTree_nil ?_
        simp only [List.drop_succ_cons, List.drop_zero]
        go_wp2_with fail
        go_meet
        exact ⟨_, A, ok, rfl, rfl, KF.out, by omega, by omega, BF.out, HLR.out⟩
    obtain ⟨hb, A, ok, rfl, rfl, kh, hlo, hhi, hbW, hlr⟩ := hcut
    generalize wc = w3 at *
    have KH := Lib.hid kh
    have HB3 := Lib.hid (HB.out.trans (hbW.mono HB.out.size))
    have HLR := Lib.hid hlr
    clear kh hbW hlr HKB BBd
    have y0 := bkC (v := .string A.id) KH.out 0 rfl
    have y1 := bkC (v := .string A.holder) KH.out 1 rfl
    have y2 := bkC (v := .int .i64 A.low) KH.out 2 rfl
    have y3 := bkC (v := .int .i64 A.high) KH.out 3 rfl
    have y4 := bkC (v := .int .i64 A.area.west) KH.out 4 rfl
    have y5 := bkC (v := .int .i64 A.area.south) KH.out 5 rfl
    have y6 := bkC (v := .int .i64 A.area.east) KH.out 6 rfl
    have y7 := bkC (v := .int .i64 A.area.north) KH.out 7 rfl
    have y8 := bkC (v := .int .i64 A.from_) KH.out 8 rfl
    have y9 := bkC (v := .int .i64 A.until_) KH.out 9 rfl
    have y10 := bkC (v := .int .i64 A.power) KH.out 10 rfl
    have KN := Lib.hid (bkB K1.out HB3.out (by omega))
    have BN := Lib.hid (HH.out _ HB3.out)
    have g0 := bkC (v := .string ⟨#[]⟩) KN.out 0 rfl
    have g1 := bkC (v := .string ⟨#[]⟩) KN.out 1 rfl
    have g2 := bkC (v := .int .i64 0) KN.out 2 rfl
    have g3 := bkC (v := .int .i64 0) KN.out 3 rfl
    have g4 := bkC (v := .int .i64 0) KN.out 4 rfl
    have g5 := bkC (v := .int .i64 0) KN.out 5 rfl
    have g6 := bkC (v := .int .i64 0) KN.out 6 rfl
    have g7 := bkC (v := .int .i64 0) KN.out 7 rfl
    have g8 := bkC (v := .int .i64 0) KN.out 8 rfl
    have g9 := bkC (v := .int .i64 0) KN.out 9 rfl
    have g10 := bkC (v := .int .i64 0) KN.out 10 rfl
    have gz := bkF KN.out
    rcases HLR.out with ⟨a1, a2, rfl⟩ | ⟨a1, a2, rfl⟩
    case inr =>
      have HE : Hid (licR p nm = (zeroL, 6)) := by show _ = _; rw [HE0.out, a1]; rfl
      clear a1 a2 HLR
      go_wp2
      refine bodyPost_ret (v := .tuple #[.agg #[.string ⟨#[]⟩, .string ⟨#[]⟩, .int .i64 0, .int .i64 0, .int .i64 0, .int .i64 0, .int .i64 0, .int .i64 0, .int .i64 0, .int .i64 0, .int .i64 0], .int .i64 6]) (by simp [results, Tryz.results23, go_sem, *]) rfl ?_
      exact ⟨by rw [HE.out]; rfl, (bset (bset (bset (bset (bset (bset (bset (bset (bset (bset (bset BN.out (by omega) 0 _) (by omega) 1 _) (by omega) 2 _) (by omega) 3 _) (by omega) 4 _) (by omega) 5 _) (by omega) 6 _) (by omega) 7 _) (by omega) 8 _) (by omega) 9 _) (by omega) 10 _)⟩
    have HE : Hid (licR p nm = (A, 0)) := by show _ = _; rw [HE0.out, if_pos a1, a2]
    clear a1 a2 HLR
    go_wp2
    refine bodyPost_ret (v := .tuple #[.agg #[.string A.id, .string A.holder, .int .i64 A.low, .int .i64 A.high, .int .i64 A.area.west, .int .i64 A.area.south, .int .i64 A.area.east, .int .i64 A.area.north, .int .i64 A.from_, .int .i64 A.until_, .int .i64 A.power], .int .i64 0]) (by simp [results, Tryz.results23, go_sem, *]) rfl ?_
    exact ⟨by rw [HE.out], (bset (bset (bset (bset (bset (bset (bset (bset (bset (bset (bset BN.out (by omega) 0 _) (by omega) 1 _) (by omega) 2 _) (by omega) 3 _) (by omega) 4 _) (by omega) 5 _) (by omega) 6 _) (by omega) 7 _) (by omega) 8 _) (by omega) 9 _) (by omega) 10 _)⟩
theorem sLicenceOf_std (p : DPlan) (nm : ByteArray) (vp3 vp4 vp5 vp6 vp7 vp8 vp9 vp10 vp11 vp12 : Value) (w : World) (rp3 : Rd w.heap.size w (intsT p.terrain.heights) vp3) (rp4 : Rd w.heap.size w (intsT p.terrain.clutter) vp4) (rp5 : Rd w.heap.size w (DSite.sT p.network.sites) vp5) (rp6 : Rd w.heap.size w (DSector.sT p.network.sectors) vp6) (rp7 : Rd w.heap.size w (DAntenna.sT p.network.antennas) vp7) (rp8 : Rd w.heap.size w (DRadio.sT p.network.radios) vp8) (rp9 : Rd w.heap.size w (DBand.sT p.bands) vp9) (rp10 : Rd w.heap.size w (DLicence.sT p.licences) vp10) (rp11 : Rd w.heap.size w (DProtected.sT p.protected_) vp11) (rp12 : Rd w.heap.size w (intssT p.apart) vp12) (hs_p : sizL p.tr ≤ 1048576) (hk_p : p.ok) (hs_nm : nm.size ≤ 1048576) :
    Calls Tryz.prog 22 #[.agg #[.int .i64 p.terrain.step, .int .i64 p.terrain.width, .int .i64 p.terrain.height, vp3, vp4, vp5, vp6, vp7, vp8, vp9, vp10, vp11, vp12, .int .i64 p.day], .string nm] w (fun e w' => e = .returned (.tuple #[.agg #[.string (licR p nm).1.id, .string (licR p nm).1.holder, .int .i64 (licR p nm).1.low, .int .i64 (licR p nm).1.high, .int .i64 (licR p nm).1.area.west, .int .i64 (licR p nm).1.area.south, .int .i64 (licR p nm).1.area.east, .int .i64 (licR p nm).1.area.north, .int .i64 (licR p nm).1.from_, .int .i64 (licR p nm).1.until_, .int .i64 (licR p nm).1.power], .int .i64 (licR p nm).2]) ∧ Below w.heap.size w w') := sLicenceOf_any p nm vp3 vp4 vp5 vp6 vp7 vp8 vp9 vp10 vp11 vp12 w ⟨rp3, rp4, rp5, rp6, rp7, rp8, rp9, rp10, rp11, rp12⟩ (by omega) hk_p
theorem iLicenceOf_std (p : DPlan) (nm : ByteArray) (vp3 vp4 vp5 vp6 vp7 vp8 vp9 vp10 vp11 vp12 : Value) (w : World) (rp3 : Rd w.heap.size w (intsT p.terrain.heights) vp3) (rp4 : Rd w.heap.size w (intsT p.terrain.clutter) vp4) (rp5 : Rd w.heap.size w (DSite.sT p.network.sites) vp5) (rp6 : Rd w.heap.size w (DSector.sT p.network.sectors) vp6) (rp7 : Rd w.heap.size w (DAntenna.sT p.network.antennas) vp7) (rp8 : Rd w.heap.size w (DRadio.sT p.network.radios) vp8) (rp9 : Rd w.heap.size w (DBand.sT p.bands) vp9) (rp10 : Rd w.heap.size w (DLicence.sT p.licences) vp10) (rp11 : Rd w.heap.size w (DProtected.sT p.protected_) vp11) (rp12 : Rd w.heap.size w (intssT p.apart) vp12) (hs_p : sizL p.tr ≤ 1048576) (hk_p : p.ok) (hs_nm : nm.size ≤ 1048576) :
    Calls Tryz.prog 23 #[.agg #[.int .i64 p.terrain.step, .int .i64 p.terrain.width, .int .i64 p.terrain.height, vp3, vp4, vp5, vp6, vp7, vp8, vp9, vp10, vp11, vp12, .int .i64 p.day], .string nm] w (fun e w' => e = .returned (.tuple #[.agg #[.string (licR p nm).1.id, .string (licR p nm).1.holder, .int .i64 (licR p nm).1.low, .int .i64 (licR p nm).1.high, .int .i64 (licR p nm).1.area.west, .int .i64 (licR p nm).1.area.south, .int .i64 (licR p nm).1.area.east, .int .i64 (licR p nm).1.area.north, .int .i64 (licR p nm).1.from_, .int .i64 (licR p nm).1.until_, .int .i64 (licR p nm).1.power], .int .i64 (licR p nm).2]) ∧ Below w.heap.size w w') := iLicenceOf_any p nm vp3 vp4 vp5 vp6 vp7 vp8 vp9 vp10 vp11 vp12 w ⟨rp3, rp4, rp5, rp6, rp7, rp8, rp9, rp10, rp11, rp12⟩ (by omega) hk_p
end Go.Proofs.YtlfkdhakibagaaaGreat
