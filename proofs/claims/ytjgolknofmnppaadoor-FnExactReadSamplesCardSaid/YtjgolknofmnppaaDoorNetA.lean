/- Contracts: points, sites and sectors are valid, for the program and for the reference. Conditions: bounded lengths. -/
import Derived.Test.YtjgolknofmnppaaDoorName
import Derived.Test.YtjgolknofmnppaaDoorTypes
namespace Go.Proofs.YtjgolknofmnppaaDoor
open Go.RowKit
set_option linter.unusedVariables false
set_option linter.unusedSimpArgs false

def pointB (p : DPoint) : Bool := inB p.x 0 200000 && inB p.y 0 200000
def siteB (x : DSite) : Bool := nameB x.name && (nameB x.holder && pointB x.place)
def sectorB (x : DSector) : Bool := nameB x.name && (nameB x.site && (nameB x.antenna && (nameB x.radio && (nameB x.band && (inB x.azimuth 0 359 && (inB x.tilt 0 30 && (inB x.above 1 3000 && inB x.channel (-1) 999)))))))
set_option maxHeartbeats 1000000 in
theorem validPoint_any (p : DPoint) (w : World) :
    Calls Tryd.prog 84 #[.agg #[.int .i64 p.x, .int .i64 p.y]] w fun e w' => e = .returned (.bool (pointB p)) ∧ Below w.heap.size w w' := by
  by_cases h0 : inB p.x 0 200000 = true
  · skip
    by_cases h1 : inB p.y 0 200000 = true
    · skip
      have HE : Hid (pointB p = true) := by show _ = _; unfold pointB; simp only [h0, h1, Bool.and_false, Bool.false_and, Bool.and_true, Bool.true_and, Bool.and_self]
      go_enter Tryd.func84, Tryd.ntmps84
      go_wp2_with (first | (go_at_call 65; refine (within_any _ _ _ _).mono ?_; rintro e w1 ⟨rfl, rfl⟩))
      go_ret
      exact ⟨by rw [HE.out]; rfl, by exact (Below.refl _ _).alloc (Nat.le_refl _) _⟩
    · replace h1 : inB p.y 0 200000 = false := Bool.eq_false_iff.2 h1
      have HE : Hid (pointB p = false) := by show _ = _; unfold pointB; simp only [h0, h1, Bool.and_false, Bool.false_and, Bool.and_true, Bool.true_and, Bool.and_self]
      go_enter Tryd.func84, Tryd.ntmps84
      go_wp2_with (first | (go_at_call 65; refine (within_any _ _ _ _).mono ?_; rintro e w1 ⟨rfl, rfl⟩))
      go_ret
      exact ⟨by rw [HE.out]; rfl, by exact (Below.refl _ _).alloc (Nat.le_refl _) _⟩
  · replace h0 : inB p.x 0 200000 = false := Bool.eq_false_iff.2 h0
    have HE : Hid (pointB p = false) := by show _ = _; unfold pointB; simp only [h0, Bool.and_false, Bool.false_and, Bool.and_true, Bool.true_and, Bool.and_self]
    go_enter Tryd.func84, Tryd.ntmps84
    go_wp2_with (first | (go_at_call 65; refine (within_any _ _ _ _).mono ?_; rintro e w1 ⟨rfl, rfl⟩))
    go_ret
    exact ⟨by rw [HE.out]; rfl, by exact (Below.refl _ _).alloc (Nat.le_refl _) _⟩
set_option maxHeartbeats 1000000 in
theorem l03Ok_any (p : DPoint) (w : World) :
    Calls Tryd.prog 60 #[.agg #[.int .i64 p.x, .int .i64 p.y]] w fun e w' => e = .returned (.bool (pointB p)) ∧ Below w.heap.size w w' := by
  by_cases h0 : inB p.x 0 200000 = true
  · skip
    by_cases h1 : inB p.y 0 200000 = true
    · skip
      have HE : Hid (pointB p = true) := by show _ = _; unfold pointB; simp only [h0, h1, Bool.and_false, Bool.false_and, Bool.and_true, Bool.true_and, Bool.and_self]
      go_enter Tryd.func60, Tryd.ntmps60
      go_wp2_with (first | (go_at_call 55; refine (l00In_any _ _ _ _).mono ?_; rintro e w1 ⟨rfl, rfl⟩))
      go_ret
      exact ⟨by rw [HE.out]; rfl, by exact (Below.refl _ _).alloc (Nat.le_refl _) _⟩
    · replace h1 : inB p.y 0 200000 = false := Bool.eq_false_iff.2 h1
      have HE : Hid (pointB p = false) := by show _ = _; unfold pointB; simp only [h0, h1, Bool.and_false, Bool.false_and, Bool.and_true, Bool.true_and, Bool.and_self]
      go_enter Tryd.func60, Tryd.ntmps60
      go_wp2_with (first | (go_at_call 55; refine (l00In_any _ _ _ _).mono ?_; rintro e w1 ⟨rfl, rfl⟩))
      go_ret
      exact ⟨by rw [HE.out]; rfl, by exact (Below.refl _ _).alloc (Nat.le_refl _) _⟩
  · replace h0 : inB p.x 0 200000 = false := Bool.eq_false_iff.2 h0
    have HE : Hid (pointB p = false) := by show _ = _; unfold pointB; simp only [h0, Bool.and_false, Bool.false_and, Bool.and_true, Bool.true_and, Bool.and_self]
    go_enter Tryd.func60, Tryd.ntmps60
    go_wp2_with (first | (go_at_call 55; refine (l00In_any _ _ _ _).mono ?_; rintro e w1 ⟨rfl, rfl⟩))
    go_ret
    exact ⟨by rw [HE.out]; rfl, by exact (Below.refl _ _).alloc (Nat.le_refl _) _⟩
set_option maxHeartbeats 1000000 in
theorem siteValid_any (x : DSite) (k0 : x.name.size ≤ maxLen) (k1 : x.holder.size ≤ maxLen) (w : World) :
    Calls Tryd.prog 62 #[.agg #[.string x.name, .string x.holder, .int .i64 x.place.x, .int .i64 x.place.y]] w fun e w' => e = .returned (.bool (siteB x)) ∧ Below w.heap.size w w' := by
  by_cases h0 : nameB x.name = true
  · skip
    by_cases h1 : nameB x.holder = true
    · skip
      by_cases h2 : pointB x.place = true
      · skip
        have HE : Hid (siteB x = true) := by show _ = _; unfold siteB; simp only [h0, h1, h2, Bool.and_false, Bool.false_and, Bool.and_true, Bool.true_and, Bool.and_self]
        go_enter Tryd.func62, Tryd.ntmps62
        go_wp2_with (first | (go_at_call 83; refine (isName_any _ _ (by assumption)).mono ?_; rintro e w1 ⟨rfl, rfl⟩) | (go_at_call 84; refine (validPoint_any x.place _).mono ?_; rintro e w2 ⟨rfl, hb2⟩))
        go_ret
        exact ⟨by rw [HE.out]; rfl, by first | exact (Below.refl _ _).alloc (Nat.le_refl _) _ | exact ((Below.refl _ _).alloc (Nat.le_refl _) _).trans (hb2.mono (by simp))⟩
      · replace h2 : pointB x.place = false := Bool.eq_false_iff.2 h2
        have HE : Hid (siteB x = false) := by show _ = _; unfold siteB; simp only [h0, h1, h2, Bool.and_false, Bool.false_and, Bool.and_true, Bool.true_and, Bool.and_self]
        go_enter Tryd.func62, Tryd.ntmps62
        go_wp2_with (first | (go_at_call 83; refine (isName_any _ _ (by assumption)).mono ?_; rintro e w1 ⟨rfl, rfl⟩) | (go_at_call 84; refine (validPoint_any x.place _).mono ?_; rintro e w2 ⟨rfl, hb2⟩))
        go_ret
        exact ⟨by rw [HE.out]; rfl, by first | exact (Below.refl _ _).alloc (Nat.le_refl _) _ | exact ((Below.refl _ _).alloc (Nat.le_refl _) _).trans (hb2.mono (by simp))⟩
    · replace h1 : nameB x.holder = false := Bool.eq_false_iff.2 h1
      have HE : Hid (siteB x = false) := by show _ = _; unfold siteB; simp only [h0, h1, Bool.and_false, Bool.false_and, Bool.and_true, Bool.true_and, Bool.and_self]
      go_enter Tryd.func62, Tryd.ntmps62
      go_wp2_with (first | (go_at_call 83; refine (isName_any _ _ (by assumption)).mono ?_; rintro e w1 ⟨rfl, rfl⟩) | (go_at_call 84; refine (validPoint_any x.place _).mono ?_; rintro e w2 ⟨rfl, hb2⟩))
      go_ret
      exact ⟨by rw [HE.out]; rfl, by first | exact (Below.refl _ _).alloc (Nat.le_refl _) _ | exact ((Below.refl _ _).alloc (Nat.le_refl _) _).trans (hb2.mono (by simp))⟩
  · replace h0 : nameB x.name = false := Bool.eq_false_iff.2 h0
    have HE : Hid (siteB x = false) := by show _ = _; unfold siteB; simp only [h0, Bool.and_false, Bool.false_and, Bool.and_true, Bool.true_and, Bool.and_self]
    go_enter Tryd.func62, Tryd.ntmps62
    go_wp2_with (first | (go_at_call 83; refine (isName_any _ _ (by assumption)).mono ?_; rintro e w1 ⟨rfl, rfl⟩) | (go_at_call 84; refine (validPoint_any x.place _).mono ?_; rintro e w2 ⟨rfl, hb2⟩))
    go_ret
    exact ⟨by rw [HE.out]; rfl, by first | exact (Below.refl _ _).alloc (Nat.le_refl _) _ | exact ((Below.refl _ _).alloc (Nat.le_refl _) _).trans (hb2.mono (by simp))⟩
set_option maxHeartbeats 1000000 in
theorem l14Site_any (x : DSite) (b off : Nat) (w : World) (c0 : w.cell? ⟨b, off, none⟩ = some (.string x.name)) (c1 : w.cell? ⟨b, off + 1, none⟩ = some (.string x.holder)) (c2 : w.cell? ⟨b, off + 2, none⟩ = some (.int .i64 x.place.x)) (c3 : w.cell? ⟨b, off + 3, none⟩ = some (.int .i64 x.place.y)) (k0 : x.name.size ≤ maxLen) (k1 : x.holder.size ≤ maxLen) :
    Calls Tryd.prog 35 #[.pointer (some ⟨b, off, none⟩)] w fun e w' => e = .returned (.bool (siteB x)) ∧ Below w.heap.size w w' := by
  by_cases h0 : nameB x.name = true
  · skip
    by_cases h1 : nameB x.holder = true
    · skip
      by_cases h2 : pointB x.place = true
      · skip
        have HE : Hid (siteB x = true) := by show _ = _; unfold siteB; simp only [h0, h1, h2, Bool.and_false, Bool.false_and, Bool.and_true, Bool.true_and, Bool.and_self]
        go_enter Tryd.func35, Tryd.ntmps35
        go_wp2_with (first | (go_at_call 56; refine (l01Name_any _ _ (by assumption)).mono ?_; rintro e w1 ⟨rfl, rfl⟩) | (go_at_call 60; refine (l03Ok_any x.place _).mono ?_; rintro e w2 ⟨rfl, hb2⟩))
        go_ret
        exact ⟨by rw [HE.out]; rfl, by first | exact Below.refl _ _ | exact hb2⟩
      · replace h2 : pointB x.place = false := Bool.eq_false_iff.2 h2
        have HE : Hid (siteB x = false) := by show _ = _; unfold siteB; simp only [h0, h1, h2, Bool.and_false, Bool.false_and, Bool.and_true, Bool.true_and, Bool.and_self]
        go_enter Tryd.func35, Tryd.ntmps35
        go_wp2_with (first | (go_at_call 56; refine (l01Name_any _ _ (by assumption)).mono ?_; rintro e w1 ⟨rfl, rfl⟩) | (go_at_call 60; refine (l03Ok_any x.place _).mono ?_; rintro e w2 ⟨rfl, hb2⟩))
        go_ret
        exact ⟨by rw [HE.out]; rfl, by first | exact Below.refl _ _ | exact hb2⟩
    · replace h1 : nameB x.holder = false := Bool.eq_false_iff.2 h1
      have HE : Hid (siteB x = false) := by show _ = _; unfold siteB; simp only [h0, h1, Bool.and_false, Bool.false_and, Bool.and_true, Bool.true_and, Bool.and_self]
      go_enter Tryd.func35, Tryd.ntmps35
      go_wp2_with (first | (go_at_call 56; refine (l01Name_any _ _ (by assumption)).mono ?_; rintro e w1 ⟨rfl, rfl⟩) | (go_at_call 60; refine (l03Ok_any x.place _).mono ?_; rintro e w2 ⟨rfl, hb2⟩))
      go_ret
      exact ⟨by rw [HE.out]; rfl, by first | exact Below.refl _ _ | exact hb2⟩
  · replace h0 : nameB x.name = false := Bool.eq_false_iff.2 h0
    have HE : Hid (siteB x = false) := by show _ = _; unfold siteB; simp only [h0, Bool.and_false, Bool.false_and, Bool.and_true, Bool.true_and, Bool.and_self]
    go_enter Tryd.func35, Tryd.ntmps35
    go_wp2_with (first | (go_at_call 56; refine (l01Name_any _ _ (by assumption)).mono ?_; rintro e w1 ⟨rfl, rfl⟩) | (go_at_call 60; refine (l03Ok_any x.place _).mono ?_; rintro e w2 ⟨rfl, hb2⟩))
    go_ret
    exact ⟨by rw [HE.out]; rfl, by first | exact Below.refl _ _ | exact hb2⟩
set_option maxHeartbeats 4000000 in
set_option maxRecDepth 100000 in
theorem sectorValid_any (x : DSector) (k0 : x.name.size ≤ maxLen) (k1 : x.site.size ≤ maxLen) (k2 : x.antenna.size ≤ maxLen) (k3 : x.radio.size ≤ maxLen) (k4 : x.band.size ≤ maxLen) (w : World) :
    Calls Tryd.prog 58 #[.agg #[.string x.name, .string x.site, .string x.antenna, .string x.radio, .string x.band, .int .i64 x.azimuth, .int .i64 x.tilt, .int .i64 x.above, .int .i64 x.channel]] w fun e w' => e = .returned (.bool (sectorB x)) ∧ Below w.heap.size w w' := by
  by_cases h0 : nameB x.name = true
  · skip
    by_cases h1 : nameB x.site = true
    · skip
      by_cases h2 : nameB x.antenna = true
      · skip
        by_cases h3 : nameB x.radio = true
        · skip
          by_cases h4 : nameB x.band = true
          · skip
            by_cases h5 : inB x.azimuth 0 359 = true
            · skip
              by_cases h6 : inB x.tilt 0 30 = true
              · skip
                by_cases h7 : inB x.above 1 3000 = true
                · skip
                  by_cases h8 : inB x.channel (-1) 999 = true
                  · skip
                    have HE : Hid (sectorB x = true) := by show _ = _; unfold sectorB; simp only [h0, h1, h2, h3, h4, h5, h6, h7, h8, Bool.and_false, Bool.false_and, Bool.and_true, Bool.true_and, Bool.and_self]
                    go_enter Tryd.func58, Tryd.ntmps58
                    go_wp2_with (first | (go_at_call 83; refine (isName_any _ _ (by assumption)).mono ?_; rintro e w1 ⟨rfl, rfl⟩) | (go_at_call 65; refine (within_any _ _ _ _).mono ?_; rintro e w1 ⟨rfl, rfl⟩))
                    go_ret
                    exact ⟨by rw [HE.out]; rfl, by exact (Below.refl _ _).alloc (Nat.le_refl _) _⟩
                  · replace h8 : inB x.channel (-1) 999 = false := Bool.eq_false_iff.2 h8
                    have HE : Hid (sectorB x = false) := by show _ = _; unfold sectorB; simp only [h0, h1, h2, h3, h4, h5, h6, h7, h8, Bool.and_false, Bool.false_and, Bool.and_true, Bool.true_and, Bool.and_self]
                    go_enter Tryd.func58, Tryd.ntmps58
                    go_wp2_with (first | (go_at_call 83; refine (isName_any _ _ (by assumption)).mono ?_; rintro e w1 ⟨rfl, rfl⟩) | (go_at_call 65; refine (within_any _ _ _ _).mono ?_; rintro e w1 ⟨rfl, rfl⟩))
                    go_ret
                    exact ⟨by rw [HE.out]; rfl, by exact (Below.refl _ _).alloc (Nat.le_refl _) _⟩
                · replace h7 : inB x.above 1 3000 = false := Bool.eq_false_iff.2 h7
                  have HE : Hid (sectorB x = false) := by show _ = _; unfold sectorB; simp only [h0, h1, h2, h3, h4, h5, h6, h7, Bool.and_false, Bool.false_and, Bool.and_true, Bool.true_and, Bool.and_self]
                  go_enter Tryd.func58, Tryd.ntmps58
                  go_wp2_with (first | (go_at_call 83; refine (isName_any _ _ (by assumption)).mono ?_; rintro e w1 ⟨rfl, rfl⟩) | (go_at_call 65; refine (within_any _ _ _ _).mono ?_; rintro e w1 ⟨rfl, rfl⟩))
                  go_ret
                  exact ⟨by rw [HE.out]; rfl, by exact (Below.refl _ _).alloc (Nat.le_refl _) _⟩
              · replace h6 : inB x.tilt 0 30 = false := Bool.eq_false_iff.2 h6
                have HE : Hid (sectorB x = false) := by show _ = _; unfold sectorB; simp only [h0, h1, h2, h3, h4, h5, h6, Bool.and_false, Bool.false_and, Bool.and_true, Bool.true_and, Bool.and_self]
                go_enter Tryd.func58, Tryd.ntmps58
                go_wp2_with (first | (go_at_call 83; refine (isName_any _ _ (by assumption)).mono ?_; rintro e w1 ⟨rfl, rfl⟩) | (go_at_call 65; refine (within_any _ _ _ _).mono ?_; rintro e w1 ⟨rfl, rfl⟩))
                go_ret
                exact ⟨by rw [HE.out]; rfl, by exact (Below.refl _ _).alloc (Nat.le_refl _) _⟩
            · replace h5 : inB x.azimuth 0 359 = false := Bool.eq_false_iff.2 h5
              have HE : Hid (sectorB x = false) := by show _ = _; unfold sectorB; simp only [h0, h1, h2, h3, h4, h5, Bool.and_false, Bool.false_and, Bool.and_true, Bool.true_and, Bool.and_self]
              go_enter Tryd.func58, Tryd.ntmps58
              go_wp2_with (first | (go_at_call 83; refine (isName_any _ _ (by assumption)).mono ?_; rintro e w1 ⟨rfl, rfl⟩) | (go_at_call 65; refine (within_any _ _ _ _).mono ?_; rintro e w1 ⟨rfl, rfl⟩))
              go_ret
              exact ⟨by rw [HE.out]; rfl, by exact (Below.refl _ _).alloc (Nat.le_refl _) _⟩
          · replace h4 : nameB x.band = false := Bool.eq_false_iff.2 h4
            have HE : Hid (sectorB x = false) := by show _ = _; unfold sectorB; simp only [h0, h1, h2, h3, h4, Bool.and_false, Bool.false_and, Bool.and_true, Bool.true_and, Bool.and_self]
            go_enter Tryd.func58, Tryd.ntmps58
            go_wp2_with (first | (go_at_call 83; refine (isName_any _ _ (by assumption)).mono ?_; rintro e w1 ⟨rfl, rfl⟩) | (go_at_call 65; refine (within_any _ _ _ _).mono ?_; rintro e w1 ⟨rfl, rfl⟩))
            go_ret
            exact ⟨by rw [HE.out]; rfl, by exact (Below.refl _ _).alloc (Nat.le_refl _) _⟩
        · replace h3 : nameB x.radio = false := Bool.eq_false_iff.2 h3
          have HE : Hid (sectorB x = false) := by show _ = _; unfold sectorB; simp only [h0, h1, h2, h3, Bool.and_false, Bool.false_and, Bool.and_true, Bool.true_and, Bool.and_self]
          go_enter Tryd.func58, Tryd.ntmps58
          go_wp2_with (first | (go_at_call 83; refine (isName_any _ _ (by assumption)).mono ?_; rintro e w1 ⟨rfl, rfl⟩) | (go_at_call 65; refine (within_any _ _ _ _).mono ?_; rintro e w1 ⟨rfl, rfl⟩))
          go_ret
          exact ⟨by rw [HE.out]; rfl, by exact (Below.refl _ _).alloc (Nat.le_refl _) _⟩
      · replace h2 : nameB x.antenna = false := Bool.eq_false_iff.2 h2
        have HE : Hid (sectorB x = false) := by show _ = _; unfold sectorB; simp only [h0, h1, h2, Bool.and_false, Bool.false_and, Bool.and_true, Bool.true_and, Bool.and_self]
        go_enter Tryd.func58, Tryd.ntmps58
        go_wp2_with (first | (go_at_call 83; refine (isName_any _ _ (by assumption)).mono ?_; rintro e w1 ⟨rfl, rfl⟩) | (go_at_call 65; refine (within_any _ _ _ _).mono ?_; rintro e w1 ⟨rfl, rfl⟩))
        go_ret
        exact ⟨by rw [HE.out]; rfl, by exact (Below.refl _ _).alloc (Nat.le_refl _) _⟩
    · replace h1 : nameB x.site = false := Bool.eq_false_iff.2 h1
      have HE : Hid (sectorB x = false) := by show _ = _; unfold sectorB; simp only [h0, h1, Bool.and_false, Bool.false_and, Bool.and_true, Bool.true_and, Bool.and_self]
      go_enter Tryd.func58, Tryd.ntmps58
      go_wp2_with (first | (go_at_call 83; refine (isName_any _ _ (by assumption)).mono ?_; rintro e w1 ⟨rfl, rfl⟩) | (go_at_call 65; refine (within_any _ _ _ _).mono ?_; rintro e w1 ⟨rfl, rfl⟩))
      go_ret
      exact ⟨by rw [HE.out]; rfl, by exact (Below.refl _ _).alloc (Nat.le_refl _) _⟩
  · replace h0 : nameB x.name = false := Bool.eq_false_iff.2 h0
    have HE : Hid (sectorB x = false) := by show _ = _; unfold sectorB; simp only [h0, Bool.and_false, Bool.false_and, Bool.and_true, Bool.true_and, Bool.and_self]
    go_enter Tryd.func58, Tryd.ntmps58
    go_wp2_with (first | (go_at_call 83; refine (isName_any _ _ (by assumption)).mono ?_; rintro e w1 ⟨rfl, rfl⟩) | (go_at_call 65; refine (within_any _ _ _ _).mono ?_; rintro e w1 ⟨rfl, rfl⟩))
    go_ret
    exact ⟨by rw [HE.out]; rfl, by exact (Below.refl _ _).alloc (Nat.le_refl _) _⟩
set_option maxHeartbeats 4000000 in
set_option maxRecDepth 100000 in
theorem l14Sector_any (x : DSector) (b off : Nat) (w : World) (c0 : w.cell? ⟨b, off, none⟩ = some (.string x.name)) (c1 : w.cell? ⟨b, off + 1, none⟩ = some (.string x.site)) (c2 : w.cell? ⟨b, off + 2, none⟩ = some (.string x.antenna)) (c3 : w.cell? ⟨b, off + 3, none⟩ = some (.string x.radio)) (c4 : w.cell? ⟨b, off + 4, none⟩ = some (.string x.band)) (c5 : w.cell? ⟨b, off + 5, none⟩ = some (.int .i64 x.azimuth)) (c6 : w.cell? ⟨b, off + 6, none⟩ = some (.int .i64 x.tilt)) (c7 : w.cell? ⟨b, off + 7, none⟩ = some (.int .i64 x.above)) (c8 : w.cell? ⟨b, off + 8, none⟩ = some (.int .i64 x.channel)) (k0 : x.name.size ≤ maxLen) (k1 : x.site.size ≤ maxLen) (k2 : x.antenna.size ≤ maxLen) (k3 : x.radio.size ≤ maxLen) (k4 : x.band.size ≤ maxLen) :
    Calls Tryd.prog 30 #[.pointer (some ⟨b, off, none⟩)] w fun e w' => e = .returned (.bool (sectorB x)) ∧ Below w.heap.size w w' := by
  by_cases h0 : nameB x.name = true
  · skip
    by_cases h1 : nameB x.site = true
    · skip
      by_cases h2 : nameB x.antenna = true
      · skip
        by_cases h3 : nameB x.radio = true
        · skip
          by_cases h4 : nameB x.band = true
          · skip
            by_cases h5 : inB x.azimuth 0 359 = true
            · skip
              by_cases h6 : inB x.tilt 0 30 = true
              · skip
                by_cases h7 : inB x.above 1 3000 = true
                · skip
                  by_cases h8 : inB x.channel (-1) 999 = true
                  · skip
                    have HE : Hid (sectorB x = true) := by show _ = _; unfold sectorB; simp only [h0, h1, h2, h3, h4, h5, h6, h7, h8, Bool.and_false, Bool.false_and, Bool.and_true, Bool.true_and, Bool.and_self]
                    go_enter Tryd.func30, Tryd.ntmps30
                    go_wp2_with (first | (go_at_call 56; refine (l01Name_any _ _ (by assumption)).mono ?_; rintro e w1 ⟨rfl, rfl⟩) | (go_at_call 55; refine (l00In_any _ _ _ _).mono ?_; rintro e w1 ⟨rfl, rfl⟩))
                    go_ret
                    exact ⟨by rw [HE.out]; rfl, by exact Below.refl _ _⟩
                  · replace h8 : inB x.channel (-1) 999 = false := Bool.eq_false_iff.2 h8
                    have HE : Hid (sectorB x = false) := by show _ = _; unfold sectorB; simp only [h0, h1, h2, h3, h4, h5, h6, h7, h8, Bool.and_false, Bool.false_and, Bool.and_true, Bool.true_and, Bool.and_self]
                    go_enter Tryd.func30, Tryd.ntmps30
                    go_wp2_with (first | (go_at_call 56; refine (l01Name_any _ _ (by assumption)).mono ?_; rintro e w1 ⟨rfl, rfl⟩) | (go_at_call 55; refine (l00In_any _ _ _ _).mono ?_; rintro e w1 ⟨rfl, rfl⟩))
                    go_ret
                    exact ⟨by rw [HE.out]; rfl, by exact Below.refl _ _⟩
                · replace h7 : inB x.above 1 3000 = false := Bool.eq_false_iff.2 h7
                  have HE : Hid (sectorB x = false) := by show _ = _; unfold sectorB; simp only [h0, h1, h2, h3, h4, h5, h6, h7, Bool.and_false, Bool.false_and, Bool.and_true, Bool.true_and, Bool.and_self]
                  go_enter Tryd.func30, Tryd.ntmps30
                  go_wp2_with (first | (go_at_call 56; refine (l01Name_any _ _ (by assumption)).mono ?_; rintro e w1 ⟨rfl, rfl⟩) | (go_at_call 55; refine (l00In_any _ _ _ _).mono ?_; rintro e w1 ⟨rfl, rfl⟩))
                  go_ret
                  exact ⟨by rw [HE.out]; rfl, by exact Below.refl _ _⟩
              · replace h6 : inB x.tilt 0 30 = false := Bool.eq_false_iff.2 h6
                have HE : Hid (sectorB x = false) := by show _ = _; unfold sectorB; simp only [h0, h1, h2, h3, h4, h5, h6, Bool.and_false, Bool.false_and, Bool.and_true, Bool.true_and, Bool.and_self]
                go_enter Tryd.func30, Tryd.ntmps30
                go_wp2_with (first | (go_at_call 56; refine (l01Name_any _ _ (by assumption)).mono ?_; rintro e w1 ⟨rfl, rfl⟩) | (go_at_call 55; refine (l00In_any _ _ _ _).mono ?_; rintro e w1 ⟨rfl, rfl⟩))
                go_ret
                exact ⟨by rw [HE.out]; rfl, by exact Below.refl _ _⟩
            · replace h5 : inB x.azimuth 0 359 = false := Bool.eq_false_iff.2 h5
              have HE : Hid (sectorB x = false) := by show _ = _; unfold sectorB; simp only [h0, h1, h2, h3, h4, h5, Bool.and_false, Bool.false_and, Bool.and_true, Bool.true_and, Bool.and_self]
              go_enter Tryd.func30, Tryd.ntmps30
              go_wp2_with (first | (go_at_call 56; refine (l01Name_any _ _ (by assumption)).mono ?_; rintro e w1 ⟨rfl, rfl⟩) | (go_at_call 55; refine (l00In_any _ _ _ _).mono ?_; rintro e w1 ⟨rfl, rfl⟩))
              go_ret
              exact ⟨by rw [HE.out]; rfl, by exact Below.refl _ _⟩
          · replace h4 : nameB x.band = false := Bool.eq_false_iff.2 h4
            have HE : Hid (sectorB x = false) := by show _ = _; unfold sectorB; simp only [h0, h1, h2, h3, h4, Bool.and_false, Bool.false_and, Bool.and_true, Bool.true_and, Bool.and_self]
            go_enter Tryd.func30, Tryd.ntmps30
            go_wp2_with (first | (go_at_call 56; refine (l01Name_any _ _ (by assumption)).mono ?_; rintro e w1 ⟨rfl, rfl⟩) | (go_at_call 55; refine (l00In_any _ _ _ _).mono ?_; rintro e w1 ⟨rfl, rfl⟩))
            go_ret
            exact ⟨by rw [HE.out]; rfl, by exact Below.refl _ _⟩
        · replace h3 : nameB x.radio = false := Bool.eq_false_iff.2 h3
          have HE : Hid (sectorB x = false) := by show _ = _; unfold sectorB; simp only [h0, h1, h2, h3, Bool.and_false, Bool.false_and, Bool.and_true, Bool.true_and, Bool.and_self]
          go_enter Tryd.func30, Tryd.ntmps30
          go_wp2_with (first | (go_at_call 56; refine (l01Name_any _ _ (by assumption)).mono ?_; rintro e w1 ⟨rfl, rfl⟩) | (go_at_call 55; refine (l00In_any _ _ _ _).mono ?_; rintro e w1 ⟨rfl, rfl⟩))
          go_ret
          exact ⟨by rw [HE.out]; rfl, by exact Below.refl _ _⟩
      · replace h2 : nameB x.antenna = false := Bool.eq_false_iff.2 h2
        have HE : Hid (sectorB x = false) := by show _ = _; unfold sectorB; simp only [h0, h1, h2, Bool.and_false, Bool.false_and, Bool.and_true, Bool.true_and, Bool.and_self]
        go_enter Tryd.func30, Tryd.ntmps30
        go_wp2_with (first | (go_at_call 56; refine (l01Name_any _ _ (by assumption)).mono ?_; rintro e w1 ⟨rfl, rfl⟩) | (go_at_call 55; refine (l00In_any _ _ _ _).mono ?_; rintro e w1 ⟨rfl, rfl⟩))
        go_ret
        exact ⟨by rw [HE.out]; rfl, by exact Below.refl _ _⟩
    · replace h1 : nameB x.site = false := Bool.eq_false_iff.2 h1
      have HE : Hid (sectorB x = false) := by show _ = _; unfold sectorB; simp only [h0, h1, Bool.and_false, Bool.false_and, Bool.and_true, Bool.true_and, Bool.and_self]
      go_enter Tryd.func30, Tryd.ntmps30
      go_wp2_with (first | (go_at_call 56; refine (l01Name_any _ _ (by assumption)).mono ?_; rintro e w1 ⟨rfl, rfl⟩) | (go_at_call 55; refine (l00In_any _ _ _ _).mono ?_; rintro e w1 ⟨rfl, rfl⟩))
      go_ret
      exact ⟨by rw [HE.out]; rfl, by exact Below.refl _ _⟩
  · replace h0 : nameB x.name = false := Bool.eq_false_iff.2 h0
    have HE : Hid (sectorB x = false) := by show _ = _; unfold sectorB; simp only [h0, Bool.and_false, Bool.false_and, Bool.and_true, Bool.true_and, Bool.and_self]
    go_enter Tryd.func30, Tryd.ntmps30
    go_wp2_with (first | (go_at_call 56; refine (l01Name_any _ _ (by assumption)).mono ?_; rintro e w1 ⟨rfl, rfl⟩) | (go_at_call 55; refine (l00In_any _ _ _ _).mono ?_; rintro e w1 ⟨rfl, rfl⟩))
    go_ret
    exact ⟨by rw [HE.out]; rfl, by exact Below.refl _ _⟩
end Go.Proofs.YtjgolknofmnppaaDoor
