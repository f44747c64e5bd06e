/- Contracts: EndOf, for the program and for the reference. Conditions: bounded sizes. -/
import Derived.Test.YtefefgamiaganaaNetG
import Derived.Deep.RegionHeld3
namespace Go.Proofs.Ytefefgamiaganaa
open Go.RowKit
set_option linter.unusedVariables false
set_option linter.unusedSimpArgs false


def endR (n : DNetwork) (x : DSector) : DEnd := ⟨(gSite n.sites (idxSite n.sites x.site).toNat).place, x.above⟩
set_option maxHeartbeats 4000000 in
set_option maxRecDepth 100000 in
theorem iEnd_any (n : DNetwork) (x : DSector) (v0 v1 v2 v3 : Value) (w : World) (r0 : Rd w.heap.size w (DSite.sT n.sites) v0) (l0 : n.sites.length ≤ 1099511627776) (k : Nat) (hk : k < n.sites.length) (hi : idxSite n.sites x.site = (k : Int)) :
    Calls Try.prog 54 #[.agg #[v0, v1, v2, v3], .agg #[.string x.name, .string x.site, .string x.antenna, .string x.radio, .string x.band, .int .i64 x.azimuth, .int .i64 x.tilt, .int .i64 x.above, .int .i64 x.channel]] w fun e w' => e = .returned (.agg #[.int .i64 (endR n x).place.x, .int .i64 (endR n x).place.y, .int .i64 (endR n x).above]) ∧ Below w.heap.size w w' := by
  have b0 : Below w.heap.size w (((w.alloc (.cells #[v0, v1, v2, v3] 40)).alloc (.cells #[.string x.name, .string x.site, .string x.antenna, .string x.radio, .string x.band, .int .i64 x.azimuth, .int .i64 x.tilt, .int .i64 x.above, .int .i64 x.channel] 46)).alloc (.cells #[.int .i64 0, .int .i64 0, .int .i64 0] 51)) := ((((Below.refl _ _).alloc (Nat.le_refl _) _).alloc (by first | (simp; done) | (simp; omega)) _).alloc (by first | (simp; done) | (simp; omega)) _)
  have z0 : (((w.alloc (.cells #[v0, v1, v2, v3] 40)).alloc (.cells #[.string x.name, .string x.site, .string x.antenna, .string x.radio, .string x.band, .int .i64 x.azimuth, .int .i64 x.tilt, .int .i64 x.above, .int .i64 x.channel] 46)).alloc (.cells #[.int .i64 0, .int .i64 0, .int .i64 0] 51)).heap.size = w.heap.size + 3 := by simp
  have HE : Hid (endR n x = ⟨(gSite n.sites k).place, x.above⟩) := by show _ = _; unfold endR; rw [hi, Int.toNat_natCast]
  have HS : Hid (∀ W : World, Below w.heap.size w W → Calls Try.prog 44 #[.agg #[v0, v1, v2, v3], .string x.site] W fun e w' => e = .returned (.int .i64 (k : Int)) ∧ Below W.heap.size W w') := fun W hW => by
    have := siteNamed_any n.sites x.site v0 v1 v2 v3 w.heap.size W (r0.below hW) hW.size l0
    rw [hi] at this
    exact this
  obtain ⟨a, c, e, _, _, hcl⟩ := DSite.rd r0
  obtain ⟨b, off, ea, hbl, hat⟩ := hcl (by omega)
  subst ea e
  obtain ⟨_, _, s2, s3⟩ := hat k hk
  rw [gSite_eq hk] at s2 s3
  have i1 : (0 : Int) ≤ (k : Int) := by omega
  have i2 : (k : Int) < (n.sites.length : Int) := by omega
  clear hcl hat r0 hi
  generalize gSite n.sites k = X at *
  go_enter Try.func54, Try.ntmps54
  go_wp2
  have f0 : (((w.alloc (.cells #[(.slice (some ⟨b, off, none⟩) n.sites.length c), v1, v2, v3] 40)).alloc (.cells #[.string x.name, .string x.site, .string x.antenna, .string x.radio, .string x.band, .int .i64 x.azimuth, .int .i64 x.tilt, .int .i64 x.above, .int .i64 x.channel] 46)).alloc (.cells #[.int .i64 0, .int .i64 0, .int .i64 0] 51)).cell? ⟨w.heap.size, 0, none⟩ = some (.slice (some ⟨b, off, none⟩) n.sites.length c) := by simp [go_sem]
  have f1 : (((w.alloc (.cells #[(.slice (some ⟨b, off, none⟩) n.sites.length c), v1, v2, v3] 40)).alloc (.cells #[.string x.name, .string x.site, .string x.antenna, .string x.radio, .string x.band, .int .i64 x.azimuth, .int .i64 x.tilt, .int .i64 x.above, .int .i64 x.channel] 46)).alloc (.cells #[.int .i64 0, .int .i64 0, .int .i64 0] 51)).cell? ⟨w.heap.size, 1, none⟩ = some v1 := by simp [go_sem]
  have f2 : (((w.alloc (.cells #[(.slice (some ⟨b, off, none⟩) n.sites.length c), v1, v2, v3] 40)).alloc (.cells #[.string x.name, .string x.site, .string x.antenna, .string x.radio, .string x.band, .int .i64 x.azimuth, .int .i64 x.tilt, .int .i64 x.above, .int .i64 x.channel] 46)).alloc (.cells #[.int .i64 0, .int .i64 0, .int .i64 0] 51)).cell? ⟨w.heap.size, 2, none⟩ = some v2 := by simp [go_sem]
  have f3 : (((w.alloc (.cells #[(.slice (some ⟨b, off, none⟩) n.sites.length c), v1, v2, v3] 40)).alloc (.cells #[.string x.name, .string x.site, .string x.antenna, .string x.radio, .string x.band, .int .i64 x.azimuth, .int .i64 x.tilt, .int .i64 x.above, .int .i64 x.channel] 46)).alloc (.cells #[.int .i64 0, .int .i64 0, .int .i64 0] 51)).cell? ⟨w.heap.size, 3, none⟩ = some v3 := by simp [go_sem]
  have g1 : (((w.alloc (.cells #[(.slice (some ⟨b, off, none⟩) n.sites.length c), v1, v2, v3] 40)).alloc (.cells #[.string x.name, .string x.site, .string x.antenna, .string x.radio, .string x.band, .int .i64 x.azimuth, .int .i64 x.tilt, .int .i64 x.above, .int .i64 x.channel] 46)).alloc (.cells #[.int .i64 0, .int .i64 0, .int .i64 0] 51)).cell? ⟨w.heap.size + 1, 1, none⟩ = some (.string x.site) := by simp [go_sem]
  have g7 : (((w.alloc (.cells #[(.slice (some ⟨b, off, none⟩) n.sites.length c), v1, v2, v3] 40)).alloc (.cells #[.string x.name, .string x.site, .string x.antenna, .string x.radio, .string x.band, .int .i64 x.azimuth, .int .i64 x.tilt, .int .i64 x.above, .int .i64 x.channel] 46)).alloc (.cells #[.int .i64 0, .int .i64 0, .int .i64 0] 51)).cell? ⟨w.heap.size + 1, 7, none⟩ = some (.int .i64 x.above) := by simp [go_sem]
  have h0 : (((w.alloc (.cells #[(.slice (some ⟨b, off, none⟩) n.sites.length c), v1, v2, v3] 40)).alloc (.cells #[.string x.name, .string x.site, .string x.antenna, .string x.radio, .string x.band, .int .i64 x.azimuth, .int .i64 x.tilt, .int .i64 x.above, .int .i64 x.channel] 46)).alloc (.cells #[.int .i64 0, .int .i64 0, .int .i64 0] 51)).cell? ⟨w.heap.size + 1 + 1, 0, none⟩ = some (.int .i64 0) := by simp [go_sem]
  have h1 : (((w.alloc (.cells #[(.slice (some ⟨b, off, none⟩) n.sites.length c), v1, v2, v3] 40)).alloc (.cells #[.string x.name, .string x.site, .string x.antenna, .string x.radio, .string x.band, .int .i64 x.azimuth, .int .i64 x.tilt, .int .i64 x.above, .int .i64 x.channel] 46)).alloc (.cells #[.int .i64 0, .int .i64 0, .int .i64 0] 51)).cell? ⟨w.heap.size + 1 + 1, 1, none⟩ = some (.int .i64 0) := by simp [go_sem]
  have h2 : (((w.alloc (.cells #[(.slice (some ⟨b, off, none⟩) n.sites.length c), v1, v2, v3] 40)).alloc (.cells #[.string x.name, .string x.site, .string x.antenna, .string x.radio, .string x.band, .int .i64 x.azimuth, .int .i64 x.tilt, .int .i64 x.above, .int .i64 x.channel] 46)).alloc (.cells #[.int .i64 0, .int .i64 0, .int .i64 0] 51)).cell? ⟨w.heap.size + 1 + 1, 2, none⟩ = some (.int .i64 0) := by simp [go_sem]
  have hz : ∀ o, (((w.alloc (.cells #[(.slice (some ⟨b, off, none⟩) n.sites.length c), v1, v2, v3] 40)).alloc (.cells #[.string x.name, .string x.site, .string x.antenna, .string x.radio, .string x.band, .int .i64 x.azimuth, .int .i64 x.tilt, .int .i64 x.above, .int .i64 x.channel] 46)).alloc (.cells #[.int .i64 0, .int .i64 0, .int .i64 0] 51)).frozen? ⟨w.heap.size + 1 + 1, o, none⟩ = false := by intro o; simp [go_sem]
  have t2 := (bat b0 b _ hbl).trans s2
  have t3 := (bat b0 b _ hbl).trans s3
  generalize (((w.alloc (.cells #[(.slice (some ⟨b, off, none⟩) n.sites.length c), v1, v2, v3] 40)).alloc (.cells #[.string x.name, .string x.site, .string x.antenna, .string x.radio, .string x.band, .int .i64 x.azimuth, .int .i64 x.tilt, .int .i64 x.above, .int .i64 x.channel] 46)).alloc (.cells #[.int .i64 0, .int .i64 0, .int .i64 0] 51)) = W1 at *
  have B0 := Lib.hid b0
  have hcf : W1.cell? ⟨w.heap.size, 0, none⟩ = some (.slice (some ⟨b, off, none⟩) n.sites.length c) ∧ W1.cell? ⟨w.heap.size, 1, none⟩ = some v1 ∧ W1.cell? ⟨w.heap.size, 2, none⟩ = some v2 ∧ W1.cell? ⟨w.heap.size, 3, none⟩ = some v3 ∧ W1.cell? ⟨w.heap.size + 1, 1, none⟩ = some (.string x.site) ∧ W1.cell? ⟨w.heap.size + 1, 7, none⟩ = some (.int .i64 x.above) ∧ W1.cell? ⟨b, off + k * 4 + 2, none⟩ = some (.int .i64 X.place.x) ∧ W1.cell? ⟨b, off + k * 4 + 3, none⟩ = some (.int .i64 X.place.y) := ⟨f0, f1, f2, f3, g1, g7, t2, t3⟩
  clear b0
  have nb : b ≠ w.heap.size + 1 + 1 := by omega
  go_region_held3 (fun W => W.cell? ⟨w.heap.size, 0, none⟩ = some (.slice (some ⟨b, off, none⟩) n.sites.length c) ∧ W.cell? ⟨w.heap.size, 1, none⟩ = some v1 ∧ W.cell? ⟨w.heap.size, 2, none⟩ = some v2 ∧ W.cell? ⟨w.heap.size, 3, none⟩ = some v3 ∧ W.cell? ⟨w.heap.size + 1, 1, none⟩ = some (.string x.site) ∧ W.cell? ⟨w.heap.size + 1, 7, none⟩ = some (.int .i64 x.above) ∧ W.cell? ⟨b, off + k * 4 + 2, none⟩ = some (.int .i64 X.place.x) ∧ W.cell? ⟨b, off + k * 4 + 3, none⟩ = some (.int .i64 X.place.y)) (first | exact hcf | (refine ⟨?_, ?_, ?_, ?_, ?_, ?_, ?_, ?_⟩ <;> simp [go_sem, *])) (first | (go_at_call 44; refine (HS.out _ B0.out.drew).mono ?_; rintro e w2 ⟨rfl, hb2⟩; obtain ⟨qn2, _, yn2⟩ := bcellAt hb2 (b := w.heap.size) (by show w.heap.size < W1.heap.size; omega); obtain ⟨qx2, _, yx2⟩ := bcellAt hb2 (b := w.heap.size + 1) (by show w.heap.size + 1 < W1.heap.size; omega); obtain ⟨qe2, qf2, ye2⟩ := bcellAt hb2 (b := w.heap.size + 1 + 1) (by show w.heap.size + 1 + 1 < W1.heap.size; omega); obtain ⟨qb2, _, yb2⟩ := bcellAt hb2 (b := b) (by show b < W1.heap.size; omega)))
  have B2 := Lib.hid (B0.out.drew.trans (hb2.mono B0.out.size))
  clear hb2
  go_wp2
  refine bodyPost_ret (v := .agg #[.int .i64 X.place.x, .int .i64 X.place.y, .int .i64 x.above]) (by simp [results, Try.results54, go_sem, *]) rfl ?_
  rw [HE.out]
  exact ⟨rfl, ((B2.out.setCell (p := ⟨w.heap.size + 1 + 1, 0, none⟩) (by show w.heap.size ≤ w.heap.size + 1 + 1; omega) _).setCell (p := ⟨w.heap.size + 1 + 1, 1, none⟩) (by show w.heap.size ≤ w.heap.size + 1 + 1; omega) _).setCell (p := ⟨w.heap.size + 1 + 1, 2, none⟩) (by show w.heap.size ≤ w.heap.size + 1 + 1; omega) _⟩
set_option maxHeartbeats 4000000 in
set_option maxRecDepth 100000 in
theorem l14End_any (n : DNetwork) (v0 v1 : Value) (bp q : Nat) (w : World) (r0 : Rd w.heap.size w (DSite.sT n.sites) v0) (r1 : Rd w.heap.size w (DSector.sT n.sectors) v1) (hbp : bp < w.heap.size) (p0 : w.cell? ⟨bp, 0, none⟩ = some v0) (p1 : w.cell? ⟨bp, 1, none⟩ = some v1) (l0 : n.sites.length ≤ 1099511627776) (l1 : n.sectors.length ≤ 1099511627776) (hq : q < n.sectors.length) (k : Nat) (hk : k < n.sites.length) (hi : idxSite n.sites (gSector n.sectors q).site = (k : Int)) :
    Calls Try.prog 53 #[.pointer (some ⟨bp, 0, none⟩), .int .i64 (q : Int)] w fun e w' => e = .returned (.agg #[.int .i64 (endR n (gSector n.sectors q)).place.x, .int .i64 (endR n (gSector n.sectors q)).place.y, .int .i64 (endR n (gSector n.sectors q)).above]) ∧ Below w.heap.size w w' := by
  have b0 : Below w.heap.size w (w.alloc (.cells #[.int .i64 0, .int .i64 0, .int .i64 0] 51)) := (Below.refl _ _).alloc (Nat.le_refl _) _
  have z0 : (w.alloc (.cells #[.int .i64 0, .int .i64 0, .int .i64 0] 51)).heap.size = w.heap.size + 1 := by simp
  have HE : Hid (endR n (gSector n.sectors q) = ⟨(gSite n.sites k).place, (gSector n.sectors q).above⟩) := by show _ = _; unfold endR; rw [hi, Int.toNat_natCast]
  have HS : Hid (∀ W : World, Below w.heap.size w W → Calls Try.prog 39 #[.pointer (some ⟨bp, 0, none⟩), .string (gSector n.sectors q).site] W fun e w' => e = .returned (.int .i64 (k : Int)) ∧ W = w') := fun W hW => by
    have := l14FindSite_any n.sites (gSector n.sectors q).site v0 bp w.heap.size W (r0.below hW) hW.size ((bat hW bp 0 hbp).trans p0) l0
    rw [hi] at this
    exact this
  obtain ⟨a, c, e, _, _, hcl⟩ := DSite.rd r0
  obtain ⟨b, off, ea, hbl, hat⟩ := hcl (by omega)
  subst ea e
  obtain ⟨a', c', e', _, _, hcl'⟩ := DSector.rd r1
  obtain ⟨b', off', ea', hbl', hat'⟩ := hcl' (by omega)
  subst ea' e'
  obtain ⟨_, _, s2, s3⟩ := hat k hk
  obtain ⟨_, u1, _, _, _, _, _, u7, _⟩ := hat' q hq
  rw [gSite_eq hk] at s2 s3
  rw [gSector_eq hq] at u1 u7
  have i1 : (0 : Int) ≤ (k : Int) := by omega
  have i2 : (k : Int) < (n.sites.length : Int) := by omega
  have j1 : (0 : Int) ≤ (q : Int) := by omega
  have j2 : (q : Int) < (n.sectors.length : Int) := by omega
  clear hcl hat r0 hi hcl' hat' r1
  generalize gSite n.sites k = X at *
  generalize gSector n.sectors q = x at *
  go_enter Try.func53, Try.ntmps53
  go_wp2
  have f0 := (bat b0 bp 0 hbp).trans p0
  have f1 := (bat b0 bp 1 hbp).trans p1
  have g1 := (bat b0 b' _ hbl').trans u1
  have g7 := (bat b0 b' _ hbl').trans u7
  have t2 := (bat b0 b _ hbl).trans s2
  have t3 := (bat b0 b _ hbl).trans s3
  have h0 : (w.alloc (.cells #[.int .i64 0, .int .i64 0, .int .i64 0] 51)).cell? ⟨w.heap.size, 0, none⟩ = some (.int .i64 0) := by simp [go_sem]
  have h1 : (w.alloc (.cells #[.int .i64 0, .int .i64 0, .int .i64 0] 51)).cell? ⟨w.heap.size, 1, none⟩ = some (.int .i64 0) := by simp [go_sem]
  have h2 : (w.alloc (.cells #[.int .i64 0, .int .i64 0, .int .i64 0] 51)).cell? ⟨w.heap.size, 2, none⟩ = some (.int .i64 0) := by simp [go_sem]
  have hz : ∀ o, (w.alloc (.cells #[.int .i64 0, .int .i64 0, .int .i64 0] 51)).frozen? ⟨w.heap.size, o, none⟩ = false := by intro o; simp [go_sem]
  generalize w.alloc (.cells #[.int .i64 0, .int .i64 0, .int .i64 0] 51) = W1 at *
  have B0 := Lib.hid b0
  have hcf : W1.cell? ⟨bp, 0, none⟩ = some (.slice (some ⟨b, off, none⟩) n.sites.length c) ∧ W1.cell? ⟨b', off' + q * 9 + 1, none⟩ = some (.string x.site) ∧ W1.cell? ⟨b', off' + q * 9 + 7, none⟩ = some (.int .i64 x.above) ∧ W1.cell? ⟨b, off + k * 4 + 2, none⟩ = some (.int .i64 X.place.x) ∧ W1.cell? ⟨b, off + k * 4 + 3, none⟩ = some (.int .i64 X.place.y) := ⟨f0, g1, g7, t2, t3⟩
  clear b0 p0 p1 u1 u7 s2 s3
  have nb : b ≠ w.heap.size := by omega
  have nb' : b' ≠ w.heap.size := by omega
  have np : bp ≠ w.heap.size := by omega
  go_region_held3 (fun W => W.cell? ⟨bp, 0, none⟩ = some (.slice (some ⟨b, off, none⟩) n.sites.length c) ∧ W.cell? ⟨b', off' + q * 9 + 1, none⟩ = some (.string x.site) ∧ W.cell? ⟨b', off' + q * 9 + 7, none⟩ = some (.int .i64 x.above) ∧ W.cell? ⟨b, off + k * 4 + 2, none⟩ = some (.int .i64 X.place.x) ∧ W.cell? ⟨b, off + k * 4 + 3, none⟩ = some (.int .i64 X.place.y)) (first | exact hcf | (refine ⟨?_, ?_, ?_, ?_, ?_⟩ <;> simp [go_sem, *])) (first | (go_at_call 39; refine (HS.out _ B0.out.drew).mono ?_; rintro e w2 ⟨rfl, rfl⟩))
  have B2 := Lib.hid B0.out.drew
  go_wp2
  refine bodyPost_ret (v := .agg #[.int .i64 X.place.x, .int .i64 X.place.y, .int .i64 x.above]) (by simp [results, Try.results53, go_sem, *]) rfl ?_
  rw [HE.out]
  refine ⟨rfl, ?_⟩
  exact ((B0.out.setCell (p := ⟨w.heap.size, 0, none⟩) (by show w.heap.size ≤ w.heap.size; omega) _).setCell (p := ⟨w.heap.size, 1, none⟩) (by show w.heap.size ≤ w.heap.size; omega) _).setCell (p := ⟨w.heap.size, 2, none⟩) (by show w.heap.size ≤ w.heap.size; omega) _ |>.drew
theorem site_of_sector {n : DNetwork} (h : netB n = true) {q : Nat} (hq : q < n.sectors.length) : ∃ k, ∃ hk : k < n.sites.length, idxSite n.sites (gSector n.sectors q).site = (k : Int) := by
  have h8 : rowOk (fun x => sectorB x && refersB n x) ltSector n.sectors = true := by
    rw [netB_eq] at h
    simp only [Bool.and_eq_true] at h
    exact h.2.2.2.2
  have := rowOk_ok h8 hq
  rw [gSector_eq hq] at this
  have h2 : refersB n (gSector n.sectors q) = true := by simpa using (Bool.and_eq_true_iff.1 this).2
  unfold refersB at h2
  rw [Bool.and_eq_true, decide_eq_true_iff] at h2
  rcases firstIdx_cases' (fun y : DSite => eqS y.name (gSector n.sectors q).site) n.sites with ⟨hi, _⟩ | ⟨k, hk, hi, _, _⟩
  · have := h2.1
    unfold idxSite at this
    rw [hi] at this
    omega
  · exact ⟨k, hk, hi⟩
set_option maxHeartbeats 8000000 in
set_option maxRecDepth 100000 in
theorem iEndOf_std (n : DNetwork) (nm : ByteArray) (vn0 vn1 vn2 vn3 : Value) (w : World) (rn0 : Rd w.heap.size w (DSite.sT n.sites) vn0) (rn1 : Rd w.heap.size w (DSector.sT n.sectors) vn1) (rn2 : Rd w.heap.size w (DAntenna.sT n.antennas) vn2) (rn3 : Rd w.heap.size w (DRadio.sT n.radios) vn3) (hs_n : sizL n.tr ≤ 1048576) (hk_n : n.ok) (hs_nm : nm.size ≤ 1048576) :
    Calls Try.prog 19 #[.agg #[vn0, vn1, vn2, vn3], .string nm] w (fun e w' => e = .returned (.tuple #[.agg #[.int .i64 (pickR n (fun k => endR n (gSector n.sectors k)) ⟨⟨0, 0⟩, 0⟩ (idxSector n.sectors nm)).1.place.x, .int .i64 (pickR n (fun k => endR n (gSector n.sectors k)) ⟨⟨0, 0⟩, 0⟩ (idxSector n.sectors nm)).1.place.y, .int .i64 (pickR n (fun k => endR n (gSector n.sectors k)) ⟨⟨0, 0⟩, 0⟩ (idxSector n.sectors nm)).1.above], .int .i64 (pickR n (fun k => endR n (gSector n.sectors k)) ⟨⟨0, 0⟩, 0⟩ (idxSector n.sectors nm)).2]) ∧ Below w.heap.size w w') := by
  have hq := DNetwork.siz_tr n
  rw [DSite.siz_s, DSector.siz_s, DAntenna.siz_s, DRadio.siz_s] at hq
  obtain ⟨A0, C0, e0, _, _, _⟩ := DSite.rd rn0
  obtain ⟨A1, C1, e1, _, _, _⟩ := DSector.rd rn1
  obtain ⟨A2, C2, e2, _, _, _⟩ := DAntenna.rd rn2
  obtain ⟨A3, C3, e3, _, _, _⟩ := DRadio.rd rn3
  subst e0 e1 e2 e3
  have b0 : Below w.heap.size w ((w.alloc (.cells #[.slice A0 n.sites.length C0, .slice A1 n.sectors.length C1, .slice A2 n.antennas.length C2, .slice A3 n.radios.length C3] 40)).alloc (.cells #[.int .i64 0, .int .i64 0, .int .i64 0] 51)) := (((Below.refl _ _).alloc (Nat.le_refl _) _).alloc (by first | (simp; done) | (simp; omega)) _)
  have y0 : w.heap.size + 2 ≤ ((w.alloc (.cells #[.slice A0 n.sites.length C0, .slice A1 n.sectors.length C1, .slice A2 n.antennas.length C2, .slice A3 n.radios.length C3] 40)).alloc (.cells #[.int .i64 0, .int .i64 0, .int .i64 0] 51)).heap.size := by first | (simp; done) | (simp; omega)
  have HI := Lib.hid (sectorNamed_any n.sectors nm (.slice A0 n.sites.length C0) (.slice A1 n.sectors.length C1) (.slice A2 n.antennas.length C2) (.slice A3 n.radios.length C3) w.heap.size ((w.alloc (.cells #[.slice A0 n.sites.length C0, .slice A1 n.sectors.length C1, .slice A2 n.antennas.length C2, .slice A3 n.radios.length C3] 40)).alloc (.cells #[.int .i64 0, .int .i64 0, .int .i64 0] 51)) (rn1.below b0) (by omega) (by omega))
  have HV : Hid (∀ W : World, Below w.heap.size w W → Calls Try.prog 45 #[.agg #[.slice A0 n.sites.length C0, .slice A1 n.sectors.length C1, .slice A2 n.antennas.length C2, .slice A3 n.radios.length C3]] W fun e w' => e = .returned (.bool (netB n)) ∧ Below W.heap.size W w') := fun W hW => validNetwork_any n _ _ _ _ W ((rn0.below hW).mono hW.size) ((rn1.below hW).mono hW.size) ((rn2.below hW).mono hW.size) ((rn3.below hW).mono hW.size) (by omega) hk_n
  have HN : Hid (∀ (W : World) (x : DSector) (k : Nat), Below w.heap.size w W → k < n.sites.length → idxSite n.sites x.site = (k : Int) → Calls Try.prog 54 #[.agg #[.slice A0 n.sites.length C0, .slice A1 n.sectors.length C1, .slice A2 n.antennas.length C2, .slice A3 n.radios.length C3], .agg #[.string x.name, .string x.site, .string x.antenna, .string x.radio, .string x.band, .int .i64 x.azimuth, .int .i64 x.tilt, .int .i64 x.above, .int .i64 x.channel]] W fun e w' => e = .returned (.agg #[.int .i64 (endR n x).place.x, .int .i64 (endR n x).place.y, .int .i64 (endR n x).above]) ∧ Below W.heap.size W w') := fun W x k hW hk hi => iEnd_any n x _ _ _ _ W ((rn0.below hW).mono hW.size) (by omega) k hk hi
  have B0 := Lib.hid b0
  have HR := Lib.hid rn1
  clear b0 rn0 rn1 rn2 rn3
  by_cases hv : netB n = true
  · rcases firstIdx_cases' (fun x : DSector => eqS x.name nm) n.sectors with ⟨hi, _⟩ | ⟨k, hk, hi, _, _⟩
    · have HE := Lib.hid (pickR_none (f := fun k => endR n (gSector n.sectors k)) (z := ⟨⟨0, 0⟩, 0⟩) (i := idxSector n.sectors nm) hv hi)
      rw [show idxSector n.sectors nm = -1 from hi] at HI
      clear hi
      go_enter Try.func19, Try.ntmps19
      go_wp2_with fail
      refine (HI.out).mono ?_
      rintro e w1 ⟨rfl, hb1⟩
      obtain ⟨qa1, _, ya1⟩ := bcellAt hb1 (b := w.heap.size) (by omega)
      obtain ⟨qb1, qf1, yb1⟩ := bcellAt hb1 (b := w.heap.size + 1) (by omega)
      have B1 := Lib.hid (B0.out.trans (hb1.mono B0.out.size))
      clear hb1
      go_wp2_with fail
      refine (HV.out _ B1.out).mono ?_
      rintro e w2 ⟨rfl, hb2⟩
      obtain ⟨qa2, _, ya2⟩ := bcellAt hb2 (b := w.heap.size) ya1
      obtain ⟨qb2, qf2, yb2⟩ := bcellAt hb2 (b := w.heap.size + 1) yb1
      have B2 := Lib.hid (B1.out.trans (hb2.mono B1.out.size))
      clear hb2
      go_wp2
      refine bodyPost_ret (v := .tuple #[.agg #[.int .i64 0, .int .i64 0, .int .i64 0], .int .i64 3]) (by simp [results, Try.results19, go_sem, *]) rfl ?_
      rw [HE.out]
      exact ⟨rfl, (((B2.out.setCell (p := ⟨w.heap.size + 1, 0, none⟩) (by show w.heap.size ≤ w.heap.size + 1; omega) _).setCell (p := ⟨w.heap.size + 1, 1, none⟩) (by show w.heap.size ≤ w.heap.size + 1; omega) _).setCell (p := ⟨w.heap.size + 1, 2, none⟩) (by show w.heap.size ≤ w.heap.size + 1; omega) _)⟩
    · have HE := Lib.hid (pickR_some (f := fun k => endR n (gSector n.sectors k)) (z := ⟨⟨0, 0⟩, 0⟩) (i := idxSector n.sectors nm) hv hi)
      rw [show idxSector n.sectors nm = (k : Int) from hi] at HI
      clear hi
      obtain ⟨ks, hks, his⟩ := site_of_sector hv hk
      obtain ⟨a', c', e', _, _, hcl⟩ := DSector.rd HR.out
      injection e' with e1 _ e3
      subst e1 e3
      obtain ⟨b, off, ea, hbl, hat⟩ := hcl (by omega)
      subst ea
      obtain ⟨s0, s1, s2, s3, s4, s5, s6, s7, s8⟩ := hat k hk
      rw [gSector_eq hk] at s0 s1 s2 s3 s4 s5 s6 s7 s8
      clear hat hcl
      go_enter Try.func19, Try.ntmps19
      go_wp2_with fail
      refine (HI.out).mono ?_
      rintro e w1 ⟨rfl, hb1⟩
      obtain ⟨qa1, _, ya1⟩ := bcellAt hb1 (b := w.heap.size) (by omega)
      obtain ⟨qb1, qf1, yb1⟩ := bcellAt hb1 (b := w.heap.size + 1) (by omega)
      have B1 := Lib.hid (B0.out.trans (hb1.mono B0.out.size))
      clear hb1
      go_wp2_with fail
      refine (HV.out _ B1.out).mono ?_
      rintro e w2 ⟨rfl, hb2⟩
      obtain ⟨qa2, _, ya2⟩ := bcellAt hb2 (b := w.heap.size) ya1
      obtain ⟨qb2, qf2, yb2⟩ := bcellAt hb2 (b := w.heap.size + 1) yb1
      have B2 := Lib.hid (B1.out.trans (hb2.mono B1.out.size))
      clear hb2
      rw [← bat B2.out b _ hbl] at s0 s1 s2 s3 s4 s5 s6 s7 s8
      have i1 : (0 : Int) ≤ (k : Int) := by omega
      have i2 : (k : Int) < (n.sectors.length : Int) := by omega
      have yb : b < w2.heap.size := by have := B2.out.size; omega
      generalize gSector n.sectors k = x at *
      have HEN := Lib.hid (HN.out w2.drew x ks B2.out.drew hks his)
      generalize hX : endR n x = X at *
      go_wp2
      have hcf : w2.cell? ⟨w.heap.size, 0, none⟩ = some (.slice A0 n.sites.length C0) ∧ w2.cell? ⟨w.heap.size, 1, none⟩ = some (.slice (some ⟨b, off, none⟩) n.sectors.length C1) ∧ w2.cell? ⟨w.heap.size, 2, none⟩ = some (.slice A2 n.antennas.length C2) ∧ w2.cell? ⟨w.heap.size, 3, none⟩ = some (.slice A3 n.radios.length C3) ∧ w2.cell? ⟨b, off + k * 9, none⟩ = some (.string x.name) ∧ w2.cell? ⟨b, off + k * 9 + 1, none⟩ = some (.string x.site) ∧ w2.cell? ⟨b, off + k * 9 + 2, none⟩ = some (.string x.antenna) ∧ w2.cell? ⟨b, off + k * 9 + 3, none⟩ = some (.string x.radio) ∧ w2.cell? ⟨b, off + k * 9 + 4, none⟩ = some (.string x.band) ∧ w2.cell? ⟨b, off + k * 9 + 5, none⟩ = some (.int .i64 x.azimuth) ∧ w2.cell? ⟨b, off + k * 9 + 6, none⟩ = some (.int .i64 x.tilt) ∧ w2.cell? ⟨b, off + k * 9 + 7, none⟩ = some (.int .i64 x.above) ∧ w2.cell? ⟨b, off + k * 9 + 8, none⟩ = some (.int .i64 x.channel) := ⟨by rw [qa2, qa1]; simp [go_sem], by rw [qa2, qa1]; simp [go_sem], by rw [qa2, qa1]; simp [go_sem], by rw [qa2, qa1]; simp [go_sem], s0, s1, s2, s3, s4, s5, s6, s7, s8⟩
      go_region_held3 (fun W => W.cell? ⟨w.heap.size, 0, none⟩ = some (.slice A0 n.sites.length C0) ∧ W.cell? ⟨w.heap.size, 1, none⟩ = some (.slice (some ⟨b, off, none⟩) n.sectors.length C1) ∧ W.cell? ⟨w.heap.size, 2, none⟩ = some (.slice A2 n.antennas.length C2) ∧ W.cell? ⟨w.heap.size, 3, none⟩ = some (.slice A3 n.radios.length C3) ∧ W.cell? ⟨b, off + k * 9, none⟩ = some (.string x.name) ∧ W.cell? ⟨b, off + k * 9 + 1, none⟩ = some (.string x.site) ∧ W.cell? ⟨b, off + k * 9 + 2, none⟩ = some (.string x.antenna) ∧ W.cell? ⟨b, off + k * 9 + 3, none⟩ = some (.string x.radio) ∧ W.cell? ⟨b, off + k * 9 + 4, none⟩ = some (.string x.band) ∧ W.cell? ⟨b, off + k * 9 + 5, none⟩ = some (.int .i64 x.azimuth) ∧ W.cell? ⟨b, off + k * 9 + 6, none⟩ = some (.int .i64 x.tilt) ∧ W.cell? ⟨b, off + k * 9 + 7, none⟩ = some (.int .i64 x.above) ∧ W.cell? ⟨b, off + k * 9 + 8, none⟩ = some (.int .i64 x.channel)) (first | exact hcf | (refine ⟨?_, ?_, ?_, ?_, ?_, ?_, ?_, ?_, ?_, ?_, ?_, ?_, ?_⟩ <;> simp [go_sem, *])) (first | (go_at_call 54; refine (HEN.out).mono ?_; rintro e w4 ⟨rfl, hb4⟩; obtain ⟨qa4, _, ya4⟩ := bcellAt hb4 (b := w.heap.size) (by show w.heap.size < w2.heap.size; omega); obtain ⟨qb4, qf4, yb4⟩ := bcellAt hb4 (b := w.heap.size + 1) (by show w.heap.size + 1 < w2.heap.size; omega); obtain ⟨qc4, _, yc4⟩ := bcellAt hb4 (b := b) (by show b < w2.heap.size; omega); have nb : b ≠ w.heap.size + 1 := by omega))
      have B4 := Lib.hid (B2.out.drew.trans (hb4.mono B2.out.size))
      clear hb4
      go_wp2
      refine bodyPost_ret (v := .tuple #[.agg #[.int .i64 X.place.x, .int .i64 X.place.y, .int .i64 X.above], .int .i64 0]) (by simp [results, Try.results19, go_sem, *]) rfl ?_
      rw [HE.out]
      exact ⟨rfl, (((B4.out.setCell (p := ⟨w.heap.size + 1, 0, none⟩) (by show w.heap.size ≤ w.heap.size + 1; omega) _).setCell (p := ⟨w.heap.size + 1, 1, none⟩) (by show w.heap.size ≤ w.heap.size + 1; omega) _).setCell (p := ⟨w.heap.size + 1, 2, none⟩) (by show w.heap.size ≤ w.heap.size + 1; omega) _)⟩
  · replace hv : netB n = false := Bool.eq_false_iff.2 hv
    have HE := Lib.hid (pickR_bad (f := fun k => endR n (gSector n.sectors k)) (z := ⟨⟨0, 0⟩, 0⟩) (i := idxSector n.sectors nm) hv)
    go_enter Try.func19, Try.ntmps19
    go_wp2_with fail
    refine (HI.out).mono ?_
    rintro e w1 ⟨rfl, hb1⟩
    obtain ⟨qa1, _, ya1⟩ := bcellAt hb1 (b := w.heap.size) (by omega)
    obtain ⟨qb1, qf1, yb1⟩ := bcellAt hb1 (b := w.heap.size + 1) (by omega)
    have B1 := Lib.hid (B0.out.trans (hb1.mono B0.out.size))
    clear hb1
    go_wp2_with fail
    refine (HV.out _ B1.out).mono ?_
    rintro e w2 ⟨rfl, hb2⟩
    obtain ⟨qa2, _, ya2⟩ := bcellAt hb2 (b := w.heap.size) ya1
    obtain ⟨qb2, qf2, yb2⟩ := bcellAt hb2 (b := w.heap.size + 1) yb1
    have B2 := Lib.hid (B1.out.trans (hb2.mono B1.out.size))
    clear hb2
    go_wp2
    refine bodyPost_ret (v := .tuple #[.agg #[.int .i64 0, .int .i64 0, .int .i64 0], .int .i64 1]) (by simp [results, Try.results19, go_sem, *]) rfl ?_
    rw [HE.out]
    exact ⟨rfl, (((B2.out.setCell (p := ⟨w.heap.size + 1, 0, none⟩) (by show w.heap.size ≤ w.heap.size + 1; omega) _).setCell (p := ⟨w.heap.size + 1, 1, none⟩) (by show w.heap.size ≤ w.heap.size + 1; omega) _).setCell (p := ⟨w.heap.size + 1, 2, none⟩) (by show w.heap.size ≤ w.heap.size + 1; omega) _)⟩
set_option maxHeartbeats 8000000 in
set_option maxRecDepth 100000 in
theorem sEndOf_std (n : DNetwork) (nm : ByteArray) (vn0 vn1 vn2 vn3 : Value) (w : World) (rn0 : Rd w.heap.size w (DSite.sT n.sites) vn0) (rn1 : Rd w.heap.size w (DSector.sT n.sectors) vn1) (rn2 : Rd w.heap.size w (DAntenna.sT n.antennas) vn2) (rn3 : Rd w.heap.size w (DRadio.sT n.radios) vn3) (hs_n : sizL n.tr ≤ 1048576) (hk_n : n.ok) (hs_nm : nm.size ≤ 1048576) :
    Calls Try.prog 18 #[.agg #[vn0, vn1, vn2, vn3], .string nm] w (fun e w' => e = .returned (.tuple #[.agg #[.int .i64 (pickR n (fun k => endR n (gSector n.sectors k)) ⟨⟨0, 0⟩, 0⟩ (idxSector n.sectors nm)).1.place.x, .int .i64 (pickR n (fun k => endR n (gSector n.sectors k)) ⟨⟨0, 0⟩, 0⟩ (idxSector n.sectors nm)).1.place.y, .int .i64 (pickR n (fun k => endR n (gSector n.sectors k)) ⟨⟨0, 0⟩, 0⟩ (idxSector n.sectors nm)).1.above], .int .i64 (pickR n (fun k => endR n (gSector n.sectors k)) ⟨⟨0, 0⟩, 0⟩ (idxSector n.sectors nm)).2]) ∧ Below w.heap.size w w') := by
  have hq := DNetwork.siz_tr n
  rw [DSite.siz_s, DSector.siz_s, DAntenna.siz_s, DRadio.siz_s] at hq
  obtain ⟨A0, C0, e0, _, _, _⟩ := DSite.rd rn0
  obtain ⟨A1, C1, e1, _, _, _⟩ := DSector.rd rn1
  obtain ⟨A2, C2, e2, _, _, _⟩ := DAntenna.rd rn2
  obtain ⟨A3, C3, e3, _, _, _⟩ := DRadio.rd rn3
  subst e0 e1 e2 e3
  have b0 : Below w.heap.size w ((w.alloc (.cells #[.slice A0 n.sites.length C0, .slice A1 n.sectors.length C1, .slice A2 n.antennas.length C2, .slice A3 n.radios.length C3] 40)).alloc (.cells #[.int .i64 0, .int .i64 0, .int .i64 0] 51)) := (((Below.refl _ _).alloc (Nat.le_refl _) _).alloc (by first | (simp; done) | (simp; omega)) _)
  have y0 : w.heap.size + 2 ≤ ((w.alloc (.cells #[.slice A0 n.sites.length C0, .slice A1 n.sectors.length C1, .slice A2 n.antennas.length C2, .slice A3 n.radios.length C3] 40)).alloc (.cells #[.int .i64 0, .int .i64 0, .int .i64 0] 51)).heap.size := by first | (simp; done) | (simp; omega)
  have HV := Lib.hid (l14Ok_any n _ _ _ _ w.heap.size ((w.alloc (.cells #[.slice A0 n.sites.length C0, .slice A1 n.sectors.length C1, .slice A2 n.antennas.length C2, .slice A3 n.radios.length C3] 40)).alloc (.cells #[.int .i64 0, .int .i64 0, .int .i64 0] 51)) ((rn0.below b0).mono b0.size) ((rn1.below b0).mono b0.size) ((rn2.below b0).mono b0.size) ((rn3.below b0).mono b0.size) (by omega) (by simp [go_sem]) (by simp [go_sem]) (by simp [go_sem]) (by simp [go_sem]) (by omega) hk_n)
  have HI : Hid (∀ W : World, Below w.heap.size w W → W.cell? ⟨w.heap.size, 1, none⟩ = some (.slice A1 n.sectors.length C1) → Calls Try.prog 51 #[.pointer (some ⟨w.heap.size, 0, none⟩), .string nm] W fun e w' => e = .returned (.int .i64 (idxSector n.sectors nm)) ∧ W = w') := fun W hW hc => l14Find_any n.sectors nm _ w.heap.size w.heap.size W (rn1.below hW) hW.size hc (by omega)
  have HN : Hid (∀ (W : World) (j k : Nat), Below w.heap.size w W → w.heap.size < W.heap.size → W.cell? ⟨w.heap.size, 0, none⟩ = some (.slice A0 n.sites.length C0) → W.cell? ⟨w.heap.size, 1, none⟩ = some (.slice A1 n.sectors.length C1) → j < n.sectors.length → k < n.sites.length → idxSite n.sites (gSector n.sectors j).site = (k : Int) → Calls Try.prog 53 #[.pointer (some ⟨w.heap.size, 0, none⟩), .int .i64 (j : Int)] W fun e w' => e = .returned (.agg #[.int .i64 (endR n (gSector n.sectors j)).place.x, .int .i64 (endR n (gSector n.sectors j)).place.y, .int .i64 (endR n (gSector n.sectors j)).above]) ∧ Below W.heap.size W w') := fun W j k hW hz h0 h1 hj hk hi => l14End_any n _ _ w.heap.size j W ((rn0.below hW).mono hW.size) ((rn1.below hW).mono hW.size) hz h0 h1 (by omega) (by omega) hj k hk hi
  have B0 := Lib.hid b0
  have HR := Lib.hid rn1
  clear b0 rn0 rn1 rn2 rn3
  by_cases hv : netB n = true
  · rcases firstIdx_cases' (fun x : DSector => eqS x.name nm) n.sectors with ⟨hi, _⟩ | ⟨k, hk, hi, _, _⟩
    · have HE := Lib.hid (pickR_none (f := fun k => endR n (gSector n.sectors k)) (z := ⟨⟨0, 0⟩, 0⟩) (i := idxSector n.sectors nm) hv hi)
      rw [show idxSector n.sectors nm = -1 from hi] at HI
      clear hi
      go_enter Try.func18, Try.ntmps18
      go_wp2_with fail
      refine (HV.out).mono ?_
      rintro e w2 ⟨rfl, hb2⟩
      obtain ⟨qa2, _, ya2⟩ := bcellAt hb2 (b := w.heap.size) (by omega)
      obtain ⟨qb2, qf2, yb2⟩ := bcellAt hb2 (b := w.heap.size + 1) (by omega)
      have B2 := Lib.hid (B0.out.trans (hb2.mono B0.out.size))
      clear hb2
      have t0 : w2.cell? ⟨w.heap.size, 0, none⟩ = some (.slice A0 n.sites.length C0) := by rw [qa2]; simp [go_sem]
      have t1 : w2.cell? ⟨w.heap.size, 1, none⟩ = some (.slice A1 n.sectors.length C1) := by rw [qa2]; simp [go_sem]
      go_wp2_with fail
      refine (HI.out _ B2.out t1).mono ?_
      rintro e w3 ⟨rfl, rfl⟩
      go_wp2
      refine bodyPost_ret (v := .tuple #[.agg #[.int .i64 0, .int .i64 0, .int .i64 0], .int .i64 3]) (by simp [results, Try.results18, go_sem, *]) rfl ?_
      rw [HE.out]
      exact ⟨rfl, (((B2.out.setCell (p := ⟨w.heap.size + 1, 0, none⟩) (by show w.heap.size ≤ w.heap.size + 1; omega) _).setCell (p := ⟨w.heap.size + 1, 1, none⟩) (by show w.heap.size ≤ w.heap.size + 1; omega) _).setCell (p := ⟨w.heap.size + 1, 2, none⟩) (by show w.heap.size ≤ w.heap.size + 1; omega) _)⟩
    · have HE := Lib.hid (pickR_some (f := fun k => endR n (gSector n.sectors k)) (z := ⟨⟨0, 0⟩, 0⟩) (i := idxSector n.sectors nm) hv hi)
      rw [show idxSector n.sectors nm = (k : Int) from hi] at HI
      clear hi
      obtain ⟨ks, hks, his⟩ := site_of_sector hv hk
      go_enter Try.func18, Try.ntmps18
      go_wp2_with fail
      refine (HV.out).mono ?_
      rintro e w2 ⟨rfl, hb2⟩
      obtain ⟨qa2, _, ya2⟩ := bcellAt hb2 (b := w.heap.size) (by omega)
      obtain ⟨qb2, qf2, yb2⟩ := bcellAt hb2 (b := w.heap.size + 1) (by omega)
      have B2 := Lib.hid (B0.out.trans (hb2.mono B0.out.size))
      clear hb2
      have t0 : w2.cell? ⟨w.heap.size, 0, none⟩ = some (.slice A0 n.sites.length C0) := by rw [qa2]; simp [go_sem]
      have t1 : w2.cell? ⟨w.heap.size, 1, none⟩ = some (.slice A1 n.sectors.length C1) := by rw [qa2]; simp [go_sem]
      go_wp2_with fail
      refine (HI.out _ B2.out t1).mono ?_
      rintro e w3 ⟨rfl, rfl⟩
      have HEN := Lib.hid (HN.out w2 k ks B2.out ya2 t0 t1 hk hks his)
      have i1 : (0 : Int) ≤ (k : Int) := by omega
      generalize endR n (gSector n.sectors k) = X at *
      go_wp2_with fail
      refine (HEN.out).mono ?_
      rintro e w4 ⟨rfl, hb4⟩
      obtain ⟨qb4, qf4, yb4⟩ := bcellAt hb4 (b := w.heap.size + 1) yb2
      have B4 := Lib.hid (B2.out.trans (hb4.mono B2.out.size))
      clear hb4
      go_wp2
      refine bodyPost_ret (v := .tuple #[.agg #[.int .i64 X.place.x, .int .i64 X.place.y, .int .i64 X.above], .int .i64 0]) (by simp [results, Try.results18, go_sem, *]) rfl ?_
      rw [HE.out]
      exact ⟨rfl, (((B4.out.setCell (p := ⟨w.heap.size + 1, 0, none⟩) (by show w.heap.size ≤ w.heap.size + 1; omega) _).setCell (p := ⟨w.heap.size + 1, 1, none⟩) (by show w.heap.size ≤ w.heap.size + 1; omega) _).setCell (p := ⟨w.heap.size + 1, 2, none⟩) (by show w.heap.size ≤ w.heap.size + 1; omega) _)⟩
  · replace hv : netB n = false := Bool.eq_false_iff.2 hv
    have HE := Lib.hid (pickR_bad (f := fun k => endR n (gSector n.sectors k)) (z := ⟨⟨0, 0⟩, 0⟩) (i := idxSector n.sectors nm) hv)
    go_enter Try.func18, Try.ntmps18
    go_wp2_with fail
    refine (HV.out).mono ?_
    rintro e w2 ⟨rfl, hb2⟩
    obtain ⟨qa2, _, ya2⟩ := bcellAt hb2 (b := w.heap.size) (by omega)
    obtain ⟨qb2, qf2, yb2⟩ := bcellAt hb2 (b := w.heap.size + 1) (by omega)
    have B2 := Lib.hid (B0.out.trans (hb2.mono B0.out.size))
    clear hb2
    go_wp2
    refine bodyPost_ret (v := .tuple #[.agg #[.int .i64 0, .int .i64 0, .int .i64 0], .int .i64 1]) (by simp [results, Try.results18, go_sem, *]) rfl ?_
    rw [HE.out]
    exact ⟨rfl, (((B2.out.setCell (p := ⟨w.heap.size + 1, 0, none⟩) (by show w.heap.size ≤ w.heap.size + 1; omega) _).setCell (p := ⟨w.heap.size + 1, 1, none⟩) (by show w.heap.size ≤ w.heap.size + 1; omega) _).setCell (p := ⟨w.heap.size + 1, 2, none⟩) (by show w.heap.size ≤ w.heap.size + 1; omega) _)⟩
end Go.Proofs.Ytefefgamiaganaa
