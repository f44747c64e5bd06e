/- Contracts: bands are valid, for the program and for the reference. Conditions: bounded lengths. -/
import Derived.Test.YtlfkdhakibagaaaGreatPl1
import Derived.Test.YtlfkdhakibagaaaGreatBlk
namespace Go.Proofs.YtlfkdhakibagaaaGreat
open Go.RowKit
set_option linter.unusedVariables false
set_option linter.unusedSimpArgs false

def cntB (x : DBand) : Int := (x.high - x.low).tdiv x.raster
def bandB (x : DBand) : Bool := nameB x.name && (inB x.low 1 100000000 && (inB x.high x.low 100000000 && (inB x.raster 1 100000 && (inB (cntB x) 1 1000 && ((x.duplex == 0) || inB x.duplex (x.high - x.low) (100000000 - x.high))))))
def bandS (x : DBand) : Bool := nameB x.name && (inB x.low 1 100000000 && (inB x.high 1 100000000 && (inB x.raster 1 100000 && (inB x.duplex 0 100000000 && (inB (cntB x) 1 1000 && ((x.duplex == 0) || (decide (x.high - x.low ≤ x.duplex) && decide (x.high + x.duplex ≤ 100000000))))))))
theorem cntB_of {x : DBand} (h : 0 ≤ x.high - x.low) : cntB x = (x.high - x.low) / x.raster := Int.tdiv_eq_ediv_of_nonneg h
theorem bandS_eq (x : DBand) : bandS x = bandB x := by
  unfold bandS bandB
  rw [Bool.eq_iff_iff]
  simp only [inB, Bool.and_eq_true, Bool.or_eq_true, decide_eq_true_eq, beq_iff_eq]
  constructor
  · rintro ⟨h0, h1, h2, h3, h4, h5, h6⟩
    have h7 : x.low ≤ x.high := by
      rcases Int.lt_or_le x.high x.low with hl | hl
      · have : cntB x ≤ 0 := by
          unfold cntB
          have e : x.high - x.low = -(x.low - x.high) := by omega
          rw [e, Int.neg_tdiv]
          have : 0 ≤ (x.low - x.high).tdiv x.raster := Int.tdiv_nonneg (by omega) (by omega)
          omega
        omega
      · exact hl
    exact ⟨h0, h1, ⟨h7, h2.2⟩, h3, h5, h6.imp id (fun h => ⟨h.1, by omega⟩)⟩
  · rintro ⟨h0, h1, h2, h3, h5, h6⟩
    refine ⟨h0, h1, ⟨by omega, h2.2⟩, h3, ?_, h5, h6.imp id (fun h => ⟨h.1, by omega⟩)⟩
    rcases h6 with h6 | h6 <;> omega
theorem count_any (x : DBand) (h1 : 1 ≤ x.low) (h2 : x.low ≤ 100000000) (h3 : 1 ≤ x.high) (h4 : x.high ≤ 100000000) (h5 : 1 ≤ x.raster) (h6 : x.raster ≤ 100000) (h7 : x.low ≤ x.high) (w : World) :
    Calls Tryz.prog 171 #[.agg #[.string x.name, .int .i64 x.low, .int .i64 x.high, .int .i64 x.raster, .int .i64 x.duplex]] w fun e w' => e = .returned (.int .i64 (cntB x)) ∧ Below w.heap.size w w' := by
  have h8 : 0 ≤ x.high - x.low := by omega
  have HC := Lib.hid (cntB_of h8)
  go_enter Tryz.func171, Tryz.ntmps171
  go_wp2
  go_ret
  exact ⟨by rw [HC.out]; rfl, (Below.refl _ _).alloc (Nat.le_refl _) _⟩
set_option maxHeartbeats 1000000 in
theorem l15Count_any (x : DBand) (h1 : 1 ≤ x.low) (h2 : x.low ≤ 100000000) (h3 : 1 ≤ x.high) (h4 : x.high ≤ 100000000) (h5 : 1 ≤ x.raster) (h6 : x.raster ≤ 100000) (b off : Nat) (w : World) (c0 : w.cell? ⟨b, off, none⟩ = some (.string x.name)) (c1 : w.cell? ⟨b, off + 1, none⟩ = some (.int .i64 x.low)) (c2 : w.cell? ⟨b, off + 2, none⟩ = some (.int .i64 x.high)) (c3 : w.cell? ⟨b, off + 3, none⟩ = some (.int .i64 x.raster)) (c4 : w.cell? ⟨b, off + 4, none⟩ = some (.int .i64 x.duplex)) :
    Calls Tryz.prog 185 #[.pointer (some ⟨b, off, none⟩)] w fun e w' => e = .returned (.int .i64 (cntB x)) ∧ Below w.heap.size w w' := by
  by_cases h8 : 0 ≤ x.high - x.low
  · have HC := Lib.hid (cntB_of h8)
    have hbl := cell_lt c0
    dsimp only at hbl
    go_enter Tryz.func185, Tryz.ntmps185
    go_upto_region 1 with (fail)
    go_quiet (fail)
    go_wp2
    go_ret
    exact ⟨by rw [HC.out]; rfl, below_drewN (Below.refl _ _) _⟩
  · have h9 : x.high - x.low ≤ -1 := by omega
    have h10 : -100000000 ≤ x.high - x.low := by omega
    have HC : Hid (cntB x = (x.high - x.low).tdiv x.raster) := rfl
    go_enter Tryz.func185, Tryz.ntmps185
    go_upto_region 1 with (fail)
    go_quiet (fail)
    go_wp2
    go_ret
    exact ⟨by rw [HC.out]; rfl, below_drewN (Below.refl _ _) _⟩
set_option maxHeartbeats 2000000 in
set_option maxRecDepth 100000 in
theorem validBand_any (x : DBand) (k0 : x.name.size ≤ maxLen) (w : World) :
    Calls Tryz.prog 116 #[.agg #[.string x.name, .int .i64 x.low, .int .i64 x.high, .int .i64 x.raster, .int .i64 x.duplex]] w fun e w' => e = .returned (.bool (bandB x)) ∧ Below w.heap.size w w' := by
  have B0 : Hid (Below w.heap.size w (w.alloc (.cells #[.string x.name, .int .i64 x.low, .int .i64 x.high, .int .i64 x.raster, .int .i64 x.duplex] 82))) := (Below.alloc (Below.refl _ _) (by first | exact Nat.le_refl _ | (simp; done) | (simp; omega)) _)
  have HD : Hid (∀ W : World, Below (w.alloc (.cells #[.string x.name, .int .i64 x.low, .int .i64 x.high, .int .i64 x.raster, .int .i64 x.duplex] 82)).heap.size (w.alloc (.cells #[.string x.name, .int .i64 x.low, .int .i64 x.high, .int .i64 x.raster, .int .i64 x.duplex] 82)) W → (W.cell? ⟨w.heap.size, 0, none⟩ = some (.string x.name) ∧ W.cell? ⟨w.heap.size, 1, none⟩ = some (.int .i64 x.low) ∧ W.cell? ⟨w.heap.size, 2, none⟩ = some (.int .i64 x.high) ∧ W.cell? ⟨w.heap.size, 3, none⟩ = some (.int .i64 x.raster) ∧ W.cell? ⟨w.heap.size, 4, none⟩ = some (.int .i64 x.duplex))) := fun W hW => ⟨by rw [hW.cell (p := ⟨w.heap.size, 0, none⟩) (by first | (simp; done) | (simp; omega))]; simp [go_sem], by rw [hW.cell (p := ⟨w.heap.size, 1, none⟩) (by first | (simp; done) | (simp; omega))]; simp [go_sem], by rw [hW.cell (p := ⟨w.heap.size, 2, none⟩) (by first | (simp; done) | (simp; omega))]; simp [go_sem], by rw [hW.cell (p := ⟨w.heap.size, 3, none⟩) (by first | (simp; done) | (simp; omega))]; simp [go_sem], by rw [hW.cell (p := ⟨w.heap.size, 4, none⟩) (by first | (simp; done) | (simp; omega))]; simp [go_sem]⟩
  have HB : Hid (Below (w.alloc (.cells #[.string x.name, .int .i64 x.low, .int .i64 x.high, .int .i64 x.raster, .int .i64 x.duplex] 82)).heap.size (w.alloc (.cells #[.string x.name, .int .i64 x.low, .int .i64 x.high, .int .i64 x.raster, .int .i64 x.duplex] 82)) (w.alloc (.cells #[.string x.name, .int .i64 x.low, .int .i64 x.high, .int .i64 x.raster, .int .i64 x.duplex] 82))) := Below.refl _ _
  by_cases h0 : nameB x.name = true
  case neg =>
    replace h0 : nameB x.name = false := Bool.eq_false_iff.2 h0
    have HE : Hid (bandB x = false) := by show _ = _; unfold bandB; simp only [h0, Bool.and_false, Bool.false_and, Bool.and_true, Bool.true_and, Bool.and_self, Bool.or_false, Bool.false_or, Bool.or_true, Bool.true_or, Bool.or_self, Bool.not_true, Bool.not_false]
    go_enter Tryz.func116, Tryz.ntmps116
    go_wp2_with (first | (go_at_call 165; refine (isName_any _ _ (by assumption)).mono ?_; rintro e w1 ⟨rfl, rfl⟩) | (go_at_call 122; refine (within_any _ _ _ _).mono ?_; rintro e w1 ⟨rfl, rfl⟩) | (go_at_call 171; refine (count_any x (by omega) (by omega) (by omega) (by omega) (by omega) (by omega) (by omega) _).mono ?_; rintro e w2 ⟨rfl, hb2⟩; (try clear t0 t1 t2 t3 t4); replace HB := Lib.hid (HB.out.trans (hb2.mono HB.out.size)); clear hb2; obtain ⟨t0, t1, t2, t3, t4⟩ := HD.out _ HB.out))
    go_ret
    exact ⟨by rw [HE.out]; rfl, by exact B0.out.trans (HB.out.mono (by first | exact Nat.le_refl _ | (simp; done) | (simp; omega)))⟩
  by_cases h1 : inB x.low 1 100000000 = true
  case neg =>
    replace h1 : inB x.low 1 100000000 = false := Bool.eq_false_iff.2 h1
    have HE : Hid (bandB x = false) := by show _ = _; unfold bandB; simp only [h0, h1, Bool.and_false, Bool.false_and, Bool.and_true, Bool.true_and, Bool.and_self, Bool.or_false, Bool.false_or, Bool.or_true, Bool.true_or, Bool.or_self, Bool.not_true, Bool.not_false]
    go_enter Tryz.func116, Tryz.ntmps116
    go_wp2_with (first | (go_at_call 165; refine (isName_any _ _ (by assumption)).mono ?_; rintro e w1 ⟨rfl, rfl⟩) | (go_at_call 122; refine (within_any _ _ _ _).mono ?_; rintro e w1 ⟨rfl, rfl⟩) | (go_at_call 171; refine (count_any x (by omega) (by omega) (by omega) (by omega) (by omega) (by omega) (by omega) _).mono ?_; rintro e w2 ⟨rfl, hb2⟩; (try clear t0 t1 t2 t3 t4); replace HB := Lib.hid (HB.out.trans (hb2.mono HB.out.size)); clear hb2; obtain ⟨t0, t1, t2, t3, t4⟩ := HD.out _ HB.out))
    go_ret
    exact ⟨by rw [HE.out]; rfl, by exact B0.out.trans (HB.out.mono (by first | exact Nat.le_refl _ | (simp; done) | (simp; omega)))⟩
  obtain ⟨hah1, hbh1⟩ := inB_true.1 h1
  by_cases h2 : inB x.high x.low 100000000 = true
  case neg =>
    replace h2 : inB x.high x.low 100000000 = false := Bool.eq_false_iff.2 h2
    have HE : Hid (bandB x = false) := by show _ = _; unfold bandB; simp only [h0, h1, h2, Bool.and_false, Bool.false_and, Bool.and_true, Bool.true_and, Bool.and_self, Bool.or_false, Bool.false_or, Bool.or_true, Bool.true_or, Bool.or_self, Bool.not_true, Bool.not_false]
    go_enter Tryz.func116, Tryz.ntmps116
    go_wp2_with (first | (go_at_call 165; refine (isName_any _ _ (by assumption)).mono ?_; rintro e w1 ⟨rfl, rfl⟩) | (go_at_call 122; refine (within_any _ _ _ _).mono ?_; rintro e w1 ⟨rfl, rfl⟩) | (go_at_call 171; refine (count_any x (by omega) (by omega) (by omega) (by omega) (by omega) (by omega) (by omega) _).mono ?_; rintro e w2 ⟨rfl, hb2⟩; (try clear t0 t1 t2 t3 t4); replace HB := Lib.hid (HB.out.trans (hb2.mono HB.out.size)); clear hb2; obtain ⟨t0, t1, t2, t3, t4⟩ := HD.out _ HB.out))
    go_ret
    exact ⟨by rw [HE.out]; rfl, by exact B0.out.trans (HB.out.mono (by first | exact Nat.le_refl _ | (simp; done) | (simp; omega)))⟩
  obtain ⟨hah2, hbh2⟩ := inB_true.1 h2
  by_cases h3 : inB x.raster 1 100000 = true
  case neg =>
    replace h3 : inB x.raster 1 100000 = false := Bool.eq_false_iff.2 h3
    have HE : Hid (bandB x = false) := by show _ = _; unfold bandB; simp only [h0, h1, h2, h3, Bool.and_false, Bool.false_and, Bool.and_true, Bool.true_and, Bool.and_self, Bool.or_false, Bool.false_or, Bool.or_true, Bool.true_or, Bool.or_self, Bool.not_true, Bool.not_false]
    go_enter Tryz.func116, Tryz.ntmps116
    go_wp2_with (first | (go_at_call 165; refine (isName_any _ _ (by assumption)).mono ?_; rintro e w1 ⟨rfl, rfl⟩) | (go_at_call 122; refine (within_any _ _ _ _).mono ?_; rintro e w1 ⟨rfl, rfl⟩) | (go_at_call 171; refine (count_any x (by omega) (by omega) (by omega) (by omega) (by omega) (by omega) (by omega) _).mono ?_; rintro e w2 ⟨rfl, hb2⟩; (try clear t0 t1 t2 t3 t4); replace HB := Lib.hid (HB.out.trans (hb2.mono HB.out.size)); clear hb2; obtain ⟨t0, t1, t2, t3, t4⟩ := HD.out _ HB.out))
    go_ret
    exact ⟨by rw [HE.out]; rfl, by exact B0.out.trans (HB.out.mono (by first | exact Nat.le_refl _ | (simp; done) | (simp; omega)))⟩
  obtain ⟨hah3, hbh3⟩ := inB_true.1 h3
  by_cases h4 : inB (cntB x) 1 1000 = true
  case neg =>
    replace h4 : inB (cntB x) 1 1000 = false := Bool.eq_false_iff.2 h4
    have HE : Hid (bandB x = false) := by show _ = _; unfold bandB; simp only [h0, h1, h2, h3, h4, Bool.and_false, Bool.false_and, Bool.and_true, Bool.true_and, Bool.and_self, Bool.or_false, Bool.false_or, Bool.or_true, Bool.true_or, Bool.or_self, Bool.not_true, Bool.not_false]
    go_enter Tryz.func116, Tryz.ntmps116
    go_wp2_with (first | (go_at_call 165; refine (isName_any _ _ (by assumption)).mono ?_; rintro e w1 ⟨rfl, rfl⟩) | (go_at_call 122; refine (within_any _ _ _ _).mono ?_; rintro e w1 ⟨rfl, rfl⟩) | (go_at_call 171; refine (count_any x (by omega) (by omega) (by omega) (by omega) (by omega) (by omega) (by omega) _).mono ?_; rintro e w2 ⟨rfl, hb2⟩; (try clear t0 t1 t2 t3 t4); replace HB := Lib.hid (HB.out.trans (hb2.mono HB.out.size)); clear hb2; obtain ⟨t0, t1, t2, t3, t4⟩ := HD.out _ HB.out))
    go_ret
    exact ⟨by rw [HE.out]; rfl, by exact B0.out.trans (HB.out.mono (by first | exact Nat.le_refl _ | (simp; done) | (simp; omega)))⟩
  by_cases h5 : (x.duplex == 0) = true
  case neg =>
    replace h5 : (x.duplex == 0) = false := Bool.eq_false_iff.2 h5
    by_cases h6 : inB x.duplex (x.high - x.low) (100000000 - x.high) = true
    case neg =>
      replace h6 : inB x.duplex (x.high - x.low) (100000000 - x.high) = false := Bool.eq_false_iff.2 h6
      have HE : Hid (bandB x = false) := by show _ = _; unfold bandB; simp only [h0, h1, h2, h3, h4, h5, h6, Bool.and_false, Bool.false_and, Bool.and_true, Bool.true_and, Bool.and_self, Bool.or_false, Bool.false_or, Bool.or_true, Bool.true_or, Bool.or_self, Bool.not_true, Bool.not_false]
      go_enter Tryz.func116, Tryz.ntmps116
      go_wp2_with (first | (go_at_call 165; refine (isName_any _ _ (by assumption)).mono ?_; rintro e w1 ⟨rfl, rfl⟩) | (go_at_call 122; refine (within_any _ _ _ _).mono ?_; rintro e w1 ⟨rfl, rfl⟩) | (go_at_call 171; refine (count_any x (by omega) (by omega) (by omega) (by omega) (by omega) (by omega) (by omega) _).mono ?_; rintro e w2 ⟨rfl, hb2⟩; (try clear t0 t1 t2 t3 t4); replace HB := Lib.hid (HB.out.trans (hb2.mono HB.out.size)); clear hb2; obtain ⟨t0, t1, t2, t3, t4⟩ := HD.out _ HB.out))
      go_ret
      exact ⟨by rw [HE.out]; rfl, by exact B0.out.trans (HB.out.mono (by first | exact Nat.le_refl _ | (simp; done) | (simp; omega)))⟩
    have HE : Hid (bandB x = true) := by show _ = _; unfold bandB; simp only [h0, h1, h2, h3, h4, h5, h6, Bool.and_false, Bool.false_and, Bool.and_true, Bool.true_and, Bool.and_self, Bool.or_false, Bool.false_or, Bool.or_true, Bool.true_or, Bool.or_self, Bool.not_true, Bool.not_false]
    go_enter Tryz.func116, Tryz.ntmps116
    go_wp2_with (first | (go_at_call 165; refine (isName_any _ _ (by assumption)).mono ?_; rintro e w1 ⟨rfl, rfl⟩) | (go_at_call 122; refine (within_any _ _ _ _).mono ?_; rintro e w1 ⟨rfl, rfl⟩) | (go_at_call 171; refine (count_any x (by omega) (by omega) (by omega) (by omega) (by omega) (by omega) (by omega) _).mono ?_; rintro e w2 ⟨rfl, hb2⟩; (try clear t0 t1 t2 t3 t4); replace HB := Lib.hid (HB.out.trans (hb2.mono HB.out.size)); clear hb2; obtain ⟨t0, t1, t2, t3, t4⟩ := HD.out _ HB.out))
    go_ret
    exact ⟨by rw [HE.out]; rfl, by exact B0.out.trans (HB.out.mono (by first | exact Nat.le_refl _ | (simp; done) | (simp; omega)))⟩
  have HE : Hid (bandB x = true) := by show _ = _; unfold bandB; simp only [h0, h1, h2, h3, h4, h5, Bool.and_false, Bool.false_and, Bool.and_true, Bool.true_and, Bool.and_self, Bool.or_false, Bool.false_or, Bool.or_true, Bool.true_or, Bool.or_self, Bool.not_true, Bool.not_false]
  go_enter Tryz.func116, Tryz.ntmps116
  go_wp2_with (first | (go_at_call 165; refine (isName_any _ _ (by assumption)).mono ?_; rintro e w1 ⟨rfl, rfl⟩) | (go_at_call 122; refine (within_any _ _ _ _).mono ?_; rintro e w1 ⟨rfl, rfl⟩) | (go_at_call 171; refine (count_any x (by omega) (by omega) (by omega) (by omega) (by omega) (by omega) (by omega) _).mono ?_; rintro e w2 ⟨rfl, hb2⟩; (try clear t0 t1 t2 t3 t4); replace HB := Lib.hid (HB.out.trans (hb2.mono HB.out.size)); clear hb2; obtain ⟨t0, t1, t2, t3, t4⟩ := HD.out _ HB.out))
  go_ret
  exact ⟨by rw [HE.out]; rfl, by exact B0.out.trans (HB.out.mono (by first | exact Nat.le_refl _ | (simp; done) | (simp; omega)))⟩
set_option maxHeartbeats 2000000 in
set_option maxRecDepth 100000 in
theorem l15Ok_any (x : DBand) (b off : Nat) (w : World) (c0 : w.cell? ⟨b, off, none⟩ = some (.string x.name)) (c1 : w.cell? ⟨b, off + 1, none⟩ = some (.int .i64 x.low)) (c2 : w.cell? ⟨b, off + 2, none⟩ = some (.int .i64 x.high)) (c3 : w.cell? ⟨b, off + 3, none⟩ = some (.int .i64 x.raster)) (c4 : w.cell? ⟨b, off + 4, none⟩ = some (.int .i64 x.duplex)) (k0 : x.name.size ≤ maxLen) :
    Calls Tryz.prog 155 #[.pointer (some ⟨b, off, none⟩)] w fun e w' => e = .returned (.bool (bandS x)) ∧ Below w.heap.size w w' := by
  have hbl := cell_lt c0
  dsimp only at hbl
  have B0 : Hid (Below w.heap.size w w) := Below.refl _ _
  have HD : Hid (∀ W : World, Below w.heap.size w W → (W.cell? ⟨b, off, none⟩ = some (.string x.name) ∧ W.cell? ⟨b, off + 1, none⟩ = some (.int .i64 x.low) ∧ W.cell? ⟨b, off + 2, none⟩ = some (.int .i64 x.high) ∧ W.cell? ⟨b, off + 3, none⟩ = some (.int .i64 x.raster) ∧ W.cell? ⟨b, off + 4, none⟩ = some (.int .i64 x.duplex))) := fun W hW => ⟨(hW.cell (p := ⟨b, off, none⟩) (cell_lt c0)).trans c0, (hW.cell (p := ⟨b, off + 1, none⟩) (cell_lt c1)).trans c1, (hW.cell (p := ⟨b, off + 2, none⟩) (cell_lt c2)).trans c2, (hW.cell (p := ⟨b, off + 3, none⟩) (cell_lt c3)).trans c3, (hW.cell (p := ⟨b, off + 4, none⟩) (cell_lt c4)).trans c4⟩
  have HB : Hid (Below w.heap.size w w) := Below.refl _ _
  by_cases h0 : nameB x.name = true
  case neg =>
    replace h0 : nameB x.name = false := Bool.eq_false_iff.2 h0
    have HE : Hid (bandS x = false) := by show _ = _; unfold bandS; simp only [h0, Bool.and_false, Bool.false_and, Bool.and_true, Bool.true_and, Bool.and_self, Bool.or_false, Bool.false_or, Bool.or_true, Bool.true_or, Bool.or_self, Bool.not_true, Bool.not_false]
    go_enter Tryz.func155, Tryz.ntmps155
    go_wp2_with (first | (go_at_call 196; refine (l01Name_any _ _ (by assumption)).mono ?_; rintro e w1 ⟨rfl, rfl⟩) | (go_at_call 150; refine (l00In_any _ _ _ _).mono ?_; rintro e w1 ⟨rfl, rfl⟩) | (go_at_call 185; refine (l15Count_any x (by omega) (by omega) (by omega) (by omega) (by omega) (by omega) b off _ c0 c1 c2 c3 c4).mono ?_; rintro e w2 ⟨rfl, hb2⟩; (try clear t0 t1 t2 t3 t4); replace HB := Lib.hid (HB.out.trans (hb2.mono HB.out.size)); clear hb2; obtain ⟨t0, t1, t2, t3, t4⟩ := HD.out _ HB.out))
    have BEE := Lib.hid (B0.out.trans (HB.out.mono (Nat.le_refl _)))
    go_ret
    exact ⟨by rw [HE.out]; rfl, by exact BEE.out⟩
  by_cases h1 : inB x.low 1 100000000 = true
  case neg =>
    replace h1 : inB x.low 1 100000000 = false := Bool.eq_false_iff.2 h1
    have HE : Hid (bandS x = false) := by show _ = _; unfold bandS; simp only [h0, h1, Bool.and_false, Bool.false_and, Bool.and_true, Bool.true_and, Bool.and_self, Bool.or_false, Bool.false_or, Bool.or_true, Bool.true_or, Bool.or_self, Bool.not_true, Bool.not_false]
    go_enter Tryz.func155, Tryz.ntmps155
    go_wp2_with (first | (go_at_call 196; refine (l01Name_any _ _ (by assumption)).mono ?_; rintro e w1 ⟨rfl, rfl⟩) | (go_at_call 150; refine (l00In_any _ _ _ _).mono ?_; rintro e w1 ⟨rfl, rfl⟩) | (go_at_call 185; refine (l15Count_any x (by omega) (by omega) (by omega) (by omega) (by omega) (by omega) b off _ c0 c1 c2 c3 c4).mono ?_; rintro e w2 ⟨rfl, hb2⟩; (try clear t0 t1 t2 t3 t4); replace HB := Lib.hid (HB.out.trans (hb2.mono HB.out.size)); clear hb2; obtain ⟨t0, t1, t2, t3, t4⟩ := HD.out _ HB.out))
    have BEE := Lib.hid (B0.out.trans (HB.out.mono (Nat.le_refl _)))
    go_ret
    exact ⟨by rw [HE.out]; rfl, by exact BEE.out⟩
  obtain ⟨hah1, hbh1⟩ := inB_true.1 h1
  by_cases h2 : inB x.high 1 100000000 = true
  case neg =>
    replace h2 : inB x.high 1 100000000 = false := Bool.eq_false_iff.2 h2
    have HE : Hid (bandS x = false) := by show _ = _; unfold bandS; simp only [h0, h1, h2, Bool.and_false, Bool.false_and, Bool.and_true, Bool.true_and, Bool.and_self, Bool.or_false, Bool.false_or, Bool.or_true, Bool.true_or, Bool.or_self, Bool.not_true, Bool.not_false]
    go_enter Tryz.func155, Tryz.ntmps155
    go_wp2_with (first | (go_at_call 196; refine (l01Name_any _ _ (by assumption)).mono ?_; rintro e w1 ⟨rfl, rfl⟩) | (go_at_call 150; refine (l00In_any _ _ _ _).mono ?_; rintro e w1 ⟨rfl, rfl⟩) | (go_at_call 185; refine (l15Count_any x (by omega) (by omega) (by omega) (by omega) (by omega) (by omega) b off _ c0 c1 c2 c3 c4).mono ?_; rintro e w2 ⟨rfl, hb2⟩; (try clear t0 t1 t2 t3 t4); replace HB := Lib.hid (HB.out.trans (hb2.mono HB.out.size)); clear hb2; obtain ⟨t0, t1, t2, t3, t4⟩ := HD.out _ HB.out))
    have BEE := Lib.hid (B0.out.trans (HB.out.mono (Nat.le_refl _)))
    go_ret
    exact ⟨by rw [HE.out]; rfl, by exact BEE.out⟩
  obtain ⟨hah2, hbh2⟩ := inB_true.1 h2
  by_cases h3 : inB x.raster 1 100000 = true
  case neg =>
    replace h3 : inB x.raster 1 100000 = false := Bool.eq_false_iff.2 h3
    have HE : Hid (bandS x = false) := by show _ = _; unfold bandS; simp only [h0, h1, h2, h3, Bool.and_false, Bool.false_and, Bool.and_true, Bool.true_and, Bool.and_self, Bool.or_false, Bool.false_or, Bool.or_true, Bool.true_or, Bool.or_self, Bool.not_true, Bool.not_false]
    go_enter Tryz.func155, Tryz.ntmps155
    go_wp2_with (first | (go_at_call 196; refine (l01Name_any _ _ (by assumption)).mono ?_; rintro e w1 ⟨rfl, rfl⟩) | (go_at_call 150; refine (l00In_any _ _ _ _).mono ?_; rintro e w1 ⟨rfl, rfl⟩) | (go_at_call 185; refine (l15Count_any x (by omega) (by omega) (by omega) (by omega) (by omega) (by omega) b off _ c0 c1 c2 c3 c4).mono ?_; rintro e w2 ⟨rfl, hb2⟩; (try clear t0 t1 t2 t3 t4); replace HB := Lib.hid (HB.out.trans (hb2.mono HB.out.size)); clear hb2; obtain ⟨t0, t1, t2, t3, t4⟩ := HD.out _ HB.out))
    have BEE := Lib.hid (B0.out.trans (HB.out.mono (Nat.le_refl _)))
    go_ret
    exact ⟨by rw [HE.out]; rfl, by exact BEE.out⟩
  obtain ⟨hah3, hbh3⟩ := inB_true.1 h3
  by_cases h4 : inB x.duplex 0 100000000 = true
  case neg =>
    replace h4 : inB x.duplex 0 100000000 = false := Bool.eq_false_iff.2 h4
    have HE : Hid (bandS x = false) := by show _ = _; unfold bandS; simp only [h0, h1, h2, h3, h4, Bool.and_false, Bool.false_and, Bool.and_true, Bool.true_and, Bool.and_self, Bool.or_false, Bool.false_or, Bool.or_true, Bool.true_or, Bool.or_self, Bool.not_true, Bool.not_false]
    go_enter Tryz.func155, Tryz.ntmps155
    go_wp2_with (first | (go_at_call 196; refine (l01Name_any _ _ (by assumption)).mono ?_; rintro e w1 ⟨rfl, rfl⟩) | (go_at_call 150; refine (l00In_any _ _ _ _).mono ?_; rintro e w1 ⟨rfl, rfl⟩) | (go_at_call 185; refine (l15Count_any x (by omega) (by omega) (by omega) (by omega) (by omega) (by omega) b off _ c0 c1 c2 c3 c4).mono ?_; rintro e w2 ⟨rfl, hb2⟩; (try clear t0 t1 t2 t3 t4); replace HB := Lib.hid (HB.out.trans (hb2.mono HB.out.size)); clear hb2; obtain ⟨t0, t1, t2, t3, t4⟩ := HD.out _ HB.out))
    have BEE := Lib.hid (B0.out.trans (HB.out.mono (Nat.le_refl _)))
    go_ret
    exact ⟨by rw [HE.out]; rfl, by exact BEE.out⟩
  obtain ⟨hah4, hbh4⟩ := inB_true.1 h4
  by_cases h5 : inB (cntB x) 1 1000 = true
  case neg =>
    replace h5 : inB (cntB x) 1 1000 = false := Bool.eq_false_iff.2 h5
    have HE : Hid (bandS x = false) := by show _ = _; unfold bandS; simp only [h0, h1, h2, h3, h4, h5, Bool.and_false, Bool.false_and, Bool.and_true, Bool.true_and, Bool.and_self, Bool.or_false, Bool.false_or, Bool.or_true, Bool.true_or, Bool.or_self, Bool.not_true, Bool.not_false]
    go_enter Tryz.func155, Tryz.ntmps155
    go_wp2_with (first | (go_at_call 196; refine (l01Name_any _ _ (by assumption)).mono ?_; rintro e w1 ⟨rfl, rfl⟩) | (go_at_call 150; refine (l00In_any _ _ _ _).mono ?_; rintro e w1 ⟨rfl, rfl⟩) | (go_at_call 185; refine (l15Count_any x (by omega) (by omega) (by omega) (by omega) (by omega) (by omega) b off _ c0 c1 c2 c3 c4).mono ?_; rintro e w2 ⟨rfl, hb2⟩; (try clear t0 t1 t2 t3 t4); replace HB := Lib.hid (HB.out.trans (hb2.mono HB.out.size)); clear hb2; obtain ⟨t0, t1, t2, t3, t4⟩ := HD.out _ HB.out))
    have BEE := Lib.hid (B0.out.trans (HB.out.mono (Nat.le_refl _)))
    go_ret
    exact ⟨by rw [HE.out]; rfl, by exact BEE.out⟩
  by_cases h6 : (x.duplex == 0) = true
  case neg =>
    replace h6 : (x.duplex == 0) = false := Bool.eq_false_iff.2 h6
    by_cases h7 : x.high - x.low ≤ x.duplex
    case neg =>
      have hd7 : decide (x.high - x.low ≤ x.duplex) = false := decide_eq_false h7
      replace h7 : x.duplex < x.high - x.low := by omega
      have HE : Hid (bandS x = false) := by show _ = _; unfold bandS; simp only [h0, h1, h2, h3, h4, h5, h6, hd7, Bool.and_false, Bool.false_and, Bool.and_true, Bool.true_and, Bool.and_self, Bool.or_false, Bool.false_or, Bool.or_true, Bool.true_or, Bool.or_self, Bool.not_true, Bool.not_false]
      go_enter Tryz.func155, Tryz.ntmps155
      go_upto_region 5 with (first | (go_at_call 196; refine (l01Name_any _ _ (by assumption)).mono ?_; rintro e w1 ⟨rfl, rfl⟩) | (go_at_call 150; refine (l00In_any _ _ _ _).mono ?_; rintro e w1 ⟨rfl, rfl⟩) | (go_at_call 185; refine (l15Count_any x (by omega) (by omega) (by omega) (by omega) (by omega) (by omega) b off _ c0 c1 c2 c3 c4).mono ?_; rintro e w2 ⟨rfl, hb2⟩; (try clear t0 t1 t2 t3 t4); replace HB := Lib.hid (HB.out.trans (hb2.mono HB.out.size)); clear hb2; obtain ⟨t0, t1, t2, t3, t4⟩ := HD.out _ HB.out))
      have zz := HB.out.size
      have hbl2 : b < w2.heap.size := by omega
      have oB0 := overC (w0 := w2) (show b < w2.heap.size by omega)
      refine wp_region_over w2.heap.size w2 (Below.refl _ _) (by kernel_rfl) (by kernel_rfl) ?_
      repeat (go_big_quiet_step (first | fail))
      refine wpQuiet_nil ?_
      rintro _ ⟨X, rfl⟩
      have BE := Lib.hid (over_below w2.heap.size w2 X)
      clear oB0
      generalize over w2.heap.size w2 X = W9 at *
      go_wp2
      have BEE := Lib.hid (HB.out.trans (BE.out.mono HB.out.size))
      go_ret
      exact ⟨by rw [HE.out]; rfl, by exact BEE.out⟩
    have hd7 : decide (x.high - x.low ≤ x.duplex) = true := decide_eq_true h7
    by_cases h8 : x.high + x.duplex ≤ 100000000
    case neg =>
      have hd8 : decide (x.high + x.duplex ≤ 100000000) = false := decide_eq_false h8
      replace h8 : 100000000 < x.high + x.duplex := by omega
      have HE : Hid (bandS x = false) := by show _ = _; unfold bandS; simp only [h0, h1, h2, h3, h4, h5, h6, hd7, hd8, Bool.and_false, Bool.false_and, Bool.and_true, Bool.true_and, Bool.and_self, Bool.or_false, Bool.false_or, Bool.or_true, Bool.true_or, Bool.or_self, Bool.not_true, Bool.not_false]
      go_enter Tryz.func155, Tryz.ntmps155
      go_upto_region 5 with (first | (go_at_call 196; refine (l01Name_any _ _ (by assumption)).mono ?_; rintro e w1 ⟨rfl, rfl⟩) | (go_at_call 150; refine (l00In_any _ _ _ _).mono ?_; rintro e w1 ⟨rfl, rfl⟩) | (go_at_call 185; refine (l15Count_any x (by omega) (by omega) (by omega) (by omega) (by omega) (by omega) b off _ c0 c1 c2 c3 c4).mono ?_; rintro e w2 ⟨rfl, hb2⟩; (try clear t0 t1 t2 t3 t4); replace HB := Lib.hid (HB.out.trans (hb2.mono HB.out.size)); clear hb2; obtain ⟨t0, t1, t2, t3, t4⟩ := HD.out _ HB.out))
      have zz := HB.out.size
      have hbl2 : b < w2.heap.size := by omega
      have oB0 := overC (w0 := w2) (show b < w2.heap.size by omega)
      refine wp_region_over w2.heap.size w2 (Below.refl _ _) (by kernel_rfl) (by kernel_rfl) ?_
      repeat (go_big_quiet_step (first | fail))
      refine wpQuiet_nil ?_
      rintro _ ⟨X, rfl⟩
      have BE := Lib.hid (over_below w2.heap.size w2 X)
      clear oB0
      generalize over w2.heap.size w2 X = W9 at *
      go_wp2
      have BEE := Lib.hid (HB.out.trans (BE.out.mono HB.out.size))
      go_ret
      exact ⟨by rw [HE.out]; rfl, by exact BEE.out⟩
    have hd8 : decide (x.high + x.duplex ≤ 100000000) = true := decide_eq_true h8
    have HE : Hid (bandS x = true) := by show _ = _; unfold bandS; simp only [h0, h1, h2, h3, h4, h5, h6, hd7, hd8, Bool.and_false, Bool.false_and, Bool.and_true, Bool.true_and, Bool.and_self, Bool.or_false, Bool.false_or, Bool.or_true, Bool.true_or, Bool.or_self, Bool.not_true, Bool.not_false]
    go_enter Tryz.func155, Tryz.ntmps155
    go_upto_region 5 with (first | (go_at_call 196; refine (l01Name_any _ _ (by assumption)).mono ?_; rintro e w1 ⟨rfl, rfl⟩) | (go_at_call 150; refine (l00In_any _ _ _ _).mono ?_; rintro e w1 ⟨rfl, rfl⟩) | (go_at_call 185; refine (l15Count_any x (by omega) (by omega) (by omega) (by omega) (by omega) (by omega) b off _ c0 c1 c2 c3 c4).mono ?_; rintro e w2 ⟨rfl, hb2⟩; (try clear t0 t1 t2 t3 t4); replace HB := Lib.hid (HB.out.trans (hb2.mono HB.out.size)); clear hb2; obtain ⟨t0, t1, t2, t3, t4⟩ := HD.out _ HB.out))
    have zz := HB.out.size
    have hbl2 : b < w2.heap.size := by omega
    have oB0 := overC (w0 := w2) (show b < w2.heap.size by omega)
    refine wp_region_over w2.heap.size w2 (Below.refl _ _) (by kernel_rfl) (by kernel_rfl) ?_
    repeat (go_big_quiet_step (first | fail))
    refine wpQuiet_nil ?_
    rintro _ ⟨X, rfl⟩
    have BE := Lib.hid (over_below w2.heap.size w2 X)
    clear oB0
    generalize over w2.heap.size w2 X = W9 at *
    go_wp2
    have BEE := Lib.hid (HB.out.trans (BE.out.mono HB.out.size))
    go_ret
    exact ⟨by rw [HE.out]; rfl, by exact BEE.out⟩
  have HE : Hid (bandS x = true) := by show _ = _; unfold bandS; simp only [h0, h1, h2, h3, h4, h5, h6, Bool.and_false, Bool.false_and, Bool.and_true, Bool.true_and, Bool.and_self, Bool.or_false, Bool.false_or, Bool.or_true, Bool.true_or, Bool.or_self, Bool.not_true, Bool.not_false]
  go_enter Tryz.func155, Tryz.ntmps155
  go_upto_region 5 with (first | (go_at_call 196; refine (l01Name_any _ _ (by assumption)).mono ?_; rintro e w1 ⟨rfl, rfl⟩) | (go_at_call 150; refine (l00In_any _ _ _ _).mono ?_; rintro e w1 ⟨rfl, rfl⟩) | (go_at_call 185; refine (l15Count_any x (by omega) (by omega) (by omega) (by omega) (by omega) (by omega) b off _ c0 c1 c2 c3 c4).mono ?_; rintro e w2 ⟨rfl, hb2⟩; (try clear t0 t1 t2 t3 t4); replace HB := Lib.hid (HB.out.trans (hb2.mono HB.out.size)); clear hb2; obtain ⟨t0, t1, t2, t3, t4⟩ := HD.out _ HB.out))
  have zz := HB.out.size
  have hbl2 : b < w2.heap.size := by omega
  have oB0 := overC (w0 := w2) (show b < w2.heap.size by omega)
  refine wp_region_over w2.heap.size w2 (Below.refl _ _) (by kernel_rfl) (by kernel_rfl) ?_
  repeat (go_big_quiet_step (first | fail))
  refine wpQuiet_nil ?_
  rintro _ ⟨X, rfl⟩
  have BE := Lib.hid (over_below w2.heap.size w2 X)
  clear oB0
  generalize over w2.heap.size w2 X = W9 at *
  go_wp2
  have BEE := Lib.hid (HB.out.trans (BE.out.mono HB.out.size))
  go_ret
  exact ⟨by rw [HE.out]; rfl, by exact BEE.out⟩
end Go.Proofs.YtlfkdhakibagaaaGreat
