/- Contracts: SiteNamed and SectorNamed. Conditions: bounded sizes. -/
import Derived.Test.YtefefgamiaganaaNetF
namespace Go.Proofs.Ytefefgamiaganaa
open Go.RowKit
set_option linter.unusedVariables false
set_option linter.unusedSimpArgs false


theorem firstIdx_cases' {α : Type} (p : α → Bool) (l : List α) : (firstIdx' p l = -1 ∧ l.any p = false) ∨ ∃ i, ∃ h : i < l.length, firstIdx' p l = (i : Int) ∧ p l[i] = true ∧ (l.take i).any p = false := by
  unfold firstIdx'
  cases h : l.findIdx? p with
  | none =>
    left
    refine ⟨rfl, ?_⟩
    rw [List.any_eq_false]
    intro x hx
    have := List.findIdx?_eq_none_iff.1 h x hx
    simp [this]
  | some i =>
    right
    obtain ⟨hi, hp, hlt⟩ := List.findIdx?_eq_some_iff_getElem.1 h
    refine ⟨i, hi, rfl, hp, ?_⟩
    rw [List.any_eq_false]
    intro x hx
    obtain ⟨j, hj, rfl⟩ := List.mem_take_iff_getElem.1 hx
    have := hlt j (by omega)
    simpa using this
/-- the element that has been found, or a code -/
def pickR {α : Type} (n : DNetwork) (f : Nat → α) (z : α) (i : Int) : α × Int := if netB n = true then (if 0 ≤ i then (f i.toNat, 0) else (z, 3)) else (z, 1)
theorem pickR_bad {α : Type} {n : DNetwork} {f : Nat → α} {z : α} {i : Int} (h : netB n = false) : pickR n f z i = (z, 1) := by unfold pickR; rw [if_neg (by simp [h])]
theorem pickR_none {α : Type} {n : DNetwork} {f : Nat → α} {z : α} {i : Int} (h : netB n = true) (hi : i = -1) : pickR n f z i = (z, 3) := by unfold pickR; rw [if_pos h, if_neg (by omega)]
theorem pickR_some {α : Type} {n : DNetwork} {f : Nat → α} {z : α} {i : Int} {k : Nat} (h : netB n = true) (hi : i = (k : Int)) : pickR n f z i = (f k, 0) := by unfold pickR; rw [if_pos h, if_pos (by omega), hi, Int.toNat_natCast]

set_option maxHeartbeats 4000000 in
set_option maxRecDepth 100000 in
theorem iSiteNamed_std (n : DNetwork) (nm : ByteArray) (vn0 vn1 vn2 vn3 : Value) (w : World) (rn0 : Rd w.heap.size w (DSite.sT n.sites) vn0) (rn1 : Rd w.heap.size w (DSector.sT n.sectors) vn1) (rn2 : Rd w.heap.size w (DAntenna.sT n.antennas) vn2) (rn3 : Rd w.heap.size w (DRadio.sT n.radios) vn3) (hs_n : sizL n.tr ≤ 1048576) (hk_n : n.ok) (hs_nm : nm.size ≤ 1048576) :
    Calls Try.prog 12 #[.agg #[vn0, vn1, vn2, vn3], .string nm] w (fun e w' => e = .returned (.tuple #[.agg #[.string (pickR n (gSite n.sites) ⟨⟨#[]⟩, ⟨#[]⟩, ⟨0, 0⟩⟩ (idxSite n.sites nm)).1.name, .string (pickR n (gSite n.sites) ⟨⟨#[]⟩, ⟨#[]⟩, ⟨0, 0⟩⟩ (idxSite n.sites nm)).1.holder, .int .i64 (pickR n (gSite n.sites) ⟨⟨#[]⟩, ⟨#[]⟩, ⟨0, 0⟩⟩ (idxSite n.sites nm)).1.place.x, .int .i64 (pickR n (gSite n.sites) ⟨⟨#[]⟩, ⟨#[]⟩, ⟨0, 0⟩⟩ (idxSite n.sites nm)).1.place.y], .int .i64 (pickR n (gSite n.sites) ⟨⟨#[]⟩, ⟨#[]⟩, ⟨0, 0⟩⟩ (idxSite n.sites nm)).2]) ∧ Below w.heap.size w w') := by
  have hq := DNetwork.siz_tr n
  rw [DSite.siz_s, DSector.siz_s, DAntenna.siz_s, DRadio.siz_s] at hq
  obtain ⟨A0, C0, e0, _, _, _⟩ := DSite.rd rn0
  obtain ⟨A1, C1, e1, _, _, _⟩ := DSector.rd rn1
  obtain ⟨A2, C2, e2, _, _, _⟩ := DAntenna.rd rn2
  obtain ⟨A3, C3, e3, _, _, _⟩ := DRadio.rd rn3
  subst e0 e1 e2 e3
  have b0 : Below w.heap.size w ((w.alloc (.cells #[.slice A0 n.sites.length C0, .slice A1 n.sectors.length C1, .slice A2 n.antennas.length C2, .slice A3 n.radios.length C3] 40)).alloc (.cells #[.string ⟨#[]⟩, .string ⟨#[]⟩, .int .i64 0, .int .i64 0] 32)) := (((Below.refl _ _).alloc (Nat.le_refl _) _).alloc (by first | (simp; done) | (simp; omega)) _)
  have y0 : w.heap.size + 2 ≤ ((w.alloc (.cells #[.slice A0 n.sites.length C0, .slice A1 n.sectors.length C1, .slice A2 n.antennas.length C2, .slice A3 n.radios.length C3] 40)).alloc (.cells #[.string ⟨#[]⟩, .string ⟨#[]⟩, .int .i64 0, .int .i64 0] 32)).heap.size := by first | (simp; done) | (simp; omega)
  have HI := Lib.hid (siteNamed_any n.sites nm (.slice A0 n.sites.length C0) (.slice A1 n.sectors.length C1) (.slice A2 n.antennas.length C2) (.slice A3 n.radios.length C3) w.heap.size ((w.alloc (.cells #[.slice A0 n.sites.length C0, .slice A1 n.sectors.length C1, .slice A2 n.antennas.length C2, .slice A3 n.radios.length C3] 40)).alloc (.cells #[.string ⟨#[]⟩, .string ⟨#[]⟩, .int .i64 0, .int .i64 0] 32)) (rn0.below b0) (by omega) (by omega))
  have HV : Hid (∀ W : World, Below w.heap.size w W → Calls Try.prog 45 #[.agg #[.slice A0 n.sites.length C0, .slice A1 n.sectors.length C1, .slice A2 n.antennas.length C2, .slice A3 n.radios.length C3]] W fun e w' => e = .returned (.bool (netB n)) ∧ Below W.heap.size W w') := fun W hW => validNetwork_any n _ _ _ _ W ((rn0.below hW).mono hW.size) ((rn1.below hW).mono hW.size) ((rn2.below hW).mono hW.size) ((rn3.below hW).mono hW.size) (by omega) hk_n
  have B0 := Lib.hid b0
  have HR := Lib.hid rn0
  clear b0 rn0 rn1 rn2 rn3
  by_cases hv : netB n = true
  · skip
    rcases firstIdx_cases' (fun x : DSite => eqS x.name nm) n.sites with ⟨hi, _⟩ | ⟨k, hk, hi, _, _⟩
    · have HE := Lib.hid (pickR_none (f := gSite n.sites) (z := ⟨⟨#[]⟩, ⟨#[]⟩, ⟨0, 0⟩⟩) (i := idxSite n.sites nm) hv hi)
      rw [show idxSite n.sites nm = -1 from hi] at HI
      clear hi
      go_enter Try.func12, Try.ntmps12
      go_wp2_with fail
      refine (HI.out).mono ?_
      rintro e w1 ⟨rfl, hb1⟩
      obtain ⟨qa1, _, ya1⟩ := bcellAt hb1 (b := w.heap.size) (by omega)
      obtain ⟨qb1, qf1, yb1⟩ := bcellAt hb1 (b := w.heap.size + 1) (by omega)
      have B1 := Lib.hid (B0.out.trans (hb1.mono B0.out.size))
      clear hb1
      go_wp2_with fail
      refine (HV.out _ B1.out).mono ?_
      rintro e w2 ⟨rfl, hb2⟩
      obtain ⟨qa2, _, ya2⟩ := bcellAt hb2 (b := w.heap.size) ya1
      obtain ⟨qb2, qf2, yb2⟩ := bcellAt hb2 (b := w.heap.size + 1) yb1
      have B2 := Lib.hid (B1.out.trans (hb2.mono B1.out.size))
      clear hb2
      go_wp2
      refine bodyPost_ret (v := .tuple #[.agg #[.string ⟨#[]⟩, .string ⟨#[]⟩, .int .i64 0, .int .i64 0], .int .i64 3]) (by simp [results, Try.results12, go_sem, *]) rfl ?_
      rw [HE.out]
      exact ⟨rfl, ((((B2.out.setCell (p := ⟨w.heap.size + 1, 0, none⟩) (by show w.heap.size ≤ w.heap.size + 1; omega) _).setCell (p := ⟨w.heap.size + 1, 1, none⟩) (by show w.heap.size ≤ w.heap.size + 1; omega) _).setCell (p := ⟨w.heap.size + 1, 2, none⟩) (by show w.heap.size ≤ w.heap.size + 1; omega) _).setCell (p := ⟨w.heap.size + 1, 3, none⟩) (by show w.heap.size ≤ w.heap.size + 1; omega) _)⟩
    · have HE := Lib.hid (pickR_some (f := gSite n.sites) (z := ⟨⟨#[]⟩, ⟨#[]⟩, ⟨0, 0⟩⟩) (i := idxSite n.sites nm) hv hi)
      rw [show idxSite n.sites nm = (k : Int) from hi] at HI
      clear hi
      obtain ⟨a', c', e', _, _, hcl⟩ := DSite.rd HR.out
      injection e' with e1 _ e3
      subst e1 e3
      obtain ⟨b, off, ea, hbl, hat⟩ := hcl (by omega)
      subst ea
      obtain ⟨s0, s1, s2, s3⟩ := hat k hk
      rw [gSite_eq hk] at s0 s1 s2 s3
      clear hat hcl
      go_enter Try.func12, Try.ntmps12
      go_wp2_with fail
      refine (HI.out).mono ?_
      rintro e w1 ⟨rfl, hb1⟩
      obtain ⟨qa1, _, ya1⟩ := bcellAt hb1 (b := w.heap.size) (by omega)
      obtain ⟨qb1, qf1, yb1⟩ := bcellAt hb1 (b := w.heap.size + 1) (by omega)
      have B1 := Lib.hid (B0.out.trans (hb1.mono B0.out.size))
      clear hb1
      go_wp2_with fail
      refine (HV.out _ B1.out).mono ?_
      rintro e w2 ⟨rfl, hb2⟩
      obtain ⟨qa2, _, ya2⟩ := bcellAt hb2 (b := w.heap.size) ya1
      obtain ⟨qb2, qf2, yb2⟩ := bcellAt hb2 (b := w.heap.size + 1) yb1
      have B2 := Lib.hid (B1.out.trans (hb2.mono B1.out.size))
      clear hb2
      rw [← bat B2.out b _ hbl] at s0 s1 s2 s3
      have i1 : (0 : Int) ≤ (k : Int) := by omega
      have i2 : (k : Int) < (n.sites.length : Int) := by omega
      have yb : b < w2.heap.size := by have := B2.out.size; omega
      generalize gSite n.sites k = X at *
      go_wp2
      refine bodyPost_ret (v := .tuple #[.agg #[.string X.name, .string X.holder, .int .i64 X.place.x, .int .i64 X.place.y], .int .i64 0]) (by simp [results, Try.results12, go_sem, *]) rfl ?_
      rw [HE.out]
      exact ⟨rfl, ((((B2.out.setCell (p := ⟨w.heap.size + 1, 0, none⟩) (by show w.heap.size ≤ w.heap.size + 1; omega) _).setCell (p := ⟨w.heap.size + 1, 1, none⟩) (by show w.heap.size ≤ w.heap.size + 1; omega) _).setCell (p := ⟨w.heap.size + 1, 2, none⟩) (by show w.heap.size ≤ w.heap.size + 1; omega) _).setCell (p := ⟨w.heap.size + 1, 3, none⟩) (by show w.heap.size ≤ w.heap.size + 1; omega) _)⟩
  · replace hv : netB n = false := Bool.eq_false_iff.2 hv
    have HE := Lib.hid (pickR_bad (f := gSite n.sites) (z := ⟨⟨#[]⟩, ⟨#[]⟩, ⟨0, 0⟩⟩) (i := idxSite n.sites nm) hv)
    go_enter Try.func12, Try.ntmps12
    go_wp2_with fail
    refine (HI.out).mono ?_
    rintro e w1 ⟨rfl, hb1⟩
    obtain ⟨qa1, _, ya1⟩ := bcellAt hb1 (b := w.heap.size) (by omega)
    obtain ⟨qb1, qf1, yb1⟩ := bcellAt hb1 (b := w.heap.size + 1) (by omega)
    have B1 := Lib.hid (B0.out.trans (hb1.mono B0.out.size))
    clear hb1
    go_wp2_with fail
    refine (HV.out _ B1.out).mono ?_
    rintro e w2 ⟨rfl, hb2⟩
    obtain ⟨qa2, _, ya2⟩ := bcellAt hb2 (b := w.heap.size) ya1
    obtain ⟨qb2, qf2, yb2⟩ := bcellAt hb2 (b := w.heap.size + 1) yb1
    have B2 := Lib.hid (B1.out.trans (hb2.mono B1.out.size))
    clear hb2
    go_wp2
    refine bodyPost_ret (v := .tuple #[.agg #[.string ⟨#[]⟩, .string ⟨#[]⟩, .int .i64 0, .int .i64 0], .int .i64 1]) (by simp [results, Try.results12, go_sem, *]) rfl ?_
    rw [HE.out]
    exact ⟨rfl, ((((B2.out.setCell (p := ⟨w.heap.size + 1, 0, none⟩) (by show w.heap.size ≤ w.heap.size + 1; omega) _).setCell (p := ⟨w.heap.size + 1, 1, none⟩) (by show w.heap.size ≤ w.heap.size + 1; omega) _).setCell (p := ⟨w.heap.size + 1, 2, none⟩) (by show w.heap.size ≤ w.heap.size + 1; omega) _).setCell (p := ⟨w.heap.size + 1, 3, none⟩) (by show w.heap.size ≤ w.heap.size + 1; omega) _)⟩
set_option maxHeartbeats 4000000 in
set_option maxRecDepth 100000 in
theorem sSiteNamed_std (n : DNetwork) (nm : ByteArray) (vn0 vn1 vn2 vn3 : Value) (w : World) (rn0 : Rd w.heap.size w (DSite.sT n.sites) vn0) (rn1 : Rd w.heap.size w (DSector.sT n.sectors) vn1) (rn2 : Rd w.heap.size w (DAntenna.sT n.antennas) vn2) (rn3 : Rd w.heap.size w (DRadio.sT n.radios) vn3) (hs_n : sizL n.tr ≤ 1048576) (hk_n : n.ok) (hs_nm : nm.size ≤ 1048576) :
    Calls Try.prog 10 #[.agg #[vn0, vn1, vn2, vn3], .string nm] w (fun e w' => e = .returned (.tuple #[.agg #[.string (pickR n (gSite n.sites) ⟨⟨#[]⟩, ⟨#[]⟩, ⟨0, 0⟩⟩ (idxSite n.sites nm)).1.name, .string (pickR n (gSite n.sites) ⟨⟨#[]⟩, ⟨#[]⟩, ⟨0, 0⟩⟩ (idxSite n.sites nm)).1.holder, .int .i64 (pickR n (gSite n.sites) ⟨⟨#[]⟩, ⟨#[]⟩, ⟨0, 0⟩⟩ (idxSite n.sites nm)).1.place.x, .int .i64 (pickR n (gSite n.sites) ⟨⟨#[]⟩, ⟨#[]⟩, ⟨0, 0⟩⟩ (idxSite n.sites nm)).1.place.y], .int .i64 (pickR n (gSite n.sites) ⟨⟨#[]⟩, ⟨#[]⟩, ⟨0, 0⟩⟩ (idxSite n.sites nm)).2]) ∧ Below w.heap.size w w') := by
  have hq := DNetwork.siz_tr n
  rw [DSite.siz_s, DSector.siz_s, DAntenna.siz_s, DRadio.siz_s] at hq
  obtain ⟨A0, C0, e0, _, _, _⟩ := DSite.rd rn0
  obtain ⟨A1, C1, e1, _, _, _⟩ := DSector.rd rn1
  obtain ⟨A2, C2, e2, _, _, _⟩ := DAntenna.rd rn2
  obtain ⟨A3, C3, e3, _, _, _⟩ := DRadio.rd rn3
  subst e0 e1 e2 e3
  have b0 : Below w.heap.size w ((w.alloc (.cells #[.slice A0 n.sites.length C0, .slice A1 n.sectors.length C1, .slice A2 n.antennas.length C2, .slice A3 n.radios.length C3] 40)).alloc (.cells #[.string ⟨#[]⟩, .string ⟨#[]⟩, .int .i64 0, .int .i64 0] 32)) := (((Below.refl _ _).alloc (Nat.le_refl _) _).alloc (by first | (simp; done) | (simp; omega)) _)
  have y0 : w.heap.size + 2 ≤ ((w.alloc (.cells #[.slice A0 n.sites.length C0, .slice A1 n.sectors.length C1, .slice A2 n.antennas.length C2, .slice A3 n.radios.length C3] 40)).alloc (.cells #[.string ⟨#[]⟩, .string ⟨#[]⟩, .int .i64 0, .int .i64 0] 32)).heap.size := by first | (simp; done) | (simp; omega)
  have HV := Lib.hid (l14Ok_any n _ _ _ _ w.heap.size ((w.alloc (.cells #[.slice A0 n.sites.length C0, .slice A1 n.sectors.length C1, .slice A2 n.antennas.length C2, .slice A3 n.radios.length C3] 40)).alloc (.cells #[.string ⟨#[]⟩, .string ⟨#[]⟩, .int .i64 0, .int .i64 0] 32)) ((rn0.below b0).mono b0.size) ((rn1.below b0).mono b0.size) ((rn2.below b0).mono b0.size) ((rn3.below b0).mono b0.size) (by omega) (by simp [go_sem]) (by simp [go_sem]) (by simp [go_sem]) (by simp [go_sem]) (by omega) hk_n)
  have HI : Hid (∀ W : World, Below w.heap.size w W → W.cell? ⟨w.heap.size, 0, none⟩ = some (.slice A0 n.sites.length C0) → Calls Try.prog 39 #[.pointer (some ⟨w.heap.size, 0, none⟩), .string nm] W fun e w' => e = .returned (.int .i64 (idxSite n.sites nm)) ∧ W = w') := fun W hW hc => l14FindSite_any n.sites nm _ w.heap.size w.heap.size W (rn0.below hW) hW.size hc (by omega)
  have B0 := Lib.hid b0
  have HR := Lib.hid rn0
  clear b0 rn0 rn1 rn2 rn3
  by_cases hv : netB n = true
  · skip
    rcases firstIdx_cases' (fun x : DSite => eqS x.name nm) n.sites with ⟨hi, _⟩ | ⟨k, hk, hi, _, _⟩
    · have HE := Lib.hid (pickR_none (f := gSite n.sites) (z := ⟨⟨#[]⟩, ⟨#[]⟩, ⟨0, 0⟩⟩) (i := idxSite n.sites nm) hv hi)
      rw [show idxSite n.sites nm = -1 from hi] at HI
      clear hi
      go_enter Try.func10, Try.ntmps10
      go_wp2_with fail
      refine (HV.out).mono ?_
      rintro e w2 ⟨rfl, hb2⟩
      obtain ⟨qa2, _, ya2⟩ := bcellAt hb2 (b := w.heap.size) (by omega)
      obtain ⟨qb2, qf2, yb2⟩ := bcellAt hb2 (b := w.heap.size + 1) (by omega)
      have B2 := Lib.hid (B0.out.trans (hb2.mono B0.out.size))
      clear hb2
      have t0 : w2.cell? ⟨w.heap.size, 0, none⟩ = some (.slice A0 n.sites.length C0) := by rw [qa2]; simp [go_sem]
      go_wp2_with fail
      refine (HI.out _ B2.out t0).mono ?_
      rintro e w3 ⟨rfl, rfl⟩
      go_wp2
      refine bodyPost_ret (v := .tuple #[.agg #[.string ⟨#[]⟩, .string ⟨#[]⟩, .int .i64 0, .int .i64 0], .int .i64 3]) (by simp [results, Try.results10, go_sem, *]) rfl ?_
      rw [HE.out]
      exact ⟨rfl, ((((B2.out.setCell (p := ⟨w.heap.size + 1, 0, none⟩) (by show w.heap.size ≤ w.heap.size + 1; omega) _).setCell (p := ⟨w.heap.size + 1, 1, none⟩) (by show w.heap.size ≤ w.heap.size + 1; omega) _).setCell (p := ⟨w.heap.size + 1, 2, none⟩) (by show w.heap.size ≤ w.heap.size + 1; omega) _).setCell (p := ⟨w.heap.size + 1, 3, none⟩) (by show w.heap.size ≤ w.heap.size + 1; omega) _)⟩
    · have HE := Lib.hid (pickR_some (f := gSite n.sites) (z := ⟨⟨#[]⟩, ⟨#[]⟩, ⟨0, 0⟩⟩) (i := idxSite n.sites nm) hv hi)
      rw [show idxSite n.sites nm = (k : Int) from hi] at HI
      clear hi
      obtain ⟨a', c', e', _, _, hcl⟩ := DSite.rd HR.out
      injection e' with e1 _ e3
      subst e1 e3
      obtain ⟨b, off, ea, hbl, hat⟩ := hcl (by omega)
      subst ea
      obtain ⟨s0, s1, s2, s3⟩ := hat k hk
      rw [gSite_eq hk] at s0 s1 s2 s3
      clear hat hcl
      go_enter Try.func10, Try.ntmps10
      go_wp2_with fail
      refine (HV.out).mono ?_
      rintro e w2 ⟨rfl, hb2⟩
      obtain ⟨qa2, _, ya2⟩ := bcellAt hb2 (b := w.heap.size) (by omega)
      obtain ⟨qb2, qf2, yb2⟩ := bcellAt hb2 (b := w.heap.size + 1) (by omega)
      have B2 := Lib.hid (B0.out.trans (hb2.mono B0.out.size))
      clear hb2
      have t0 : w2.cell? ⟨w.heap.size, 0, none⟩ = some (.slice (some ⟨b, off, none⟩) n.sites.length C0) := by rw [qa2]; simp [go_sem]
      go_wp2_with fail
      refine (HI.out _ B2.out t0).mono ?_
      rintro e w3 ⟨rfl, rfl⟩
      rw [← bat B2.out b _ hbl] at s0 s1 s2 s3
      have i1 : (0 : Int) ≤ (k : Int) := by omega
      have i2 : (k : Int) < (n.sites.length : Int) := by omega
      have yb : b < w2.heap.size := by have := B2.out.size; omega
      generalize gSite n.sites k = X at *
      go_wp2
      refine bodyPost_ret (v := .tuple #[.agg #[.string X.name, .string X.holder, .int .i64 X.place.x, .int .i64 X.place.y], .int .i64 0]) (by simp [results, Try.results10, go_sem, *]) rfl ?_
      rw [HE.out]
      exact ⟨rfl, ((((B2.out.setCell (p := ⟨w.heap.size + 1, 0, none⟩) (by show w.heap.size ≤ w.heap.size + 1; omega) _).setCell (p := ⟨w.heap.size + 1, 1, none⟩) (by show w.heap.size ≤ w.heap.size + 1; omega) _).setCell (p := ⟨w.heap.size + 1, 2, none⟩) (by show w.heap.size ≤ w.heap.size + 1; omega) _).setCell (p := ⟨w.heap.size + 1, 3, none⟩) (by show w.heap.size ≤ w.heap.size + 1; omega) _)⟩
  · replace hv : netB n = false := Bool.eq_false_iff.2 hv
    have HE := Lib.hid (pickR_bad (f := gSite n.sites) (z := ⟨⟨#[]⟩, ⟨#[]⟩, ⟨0, 0⟩⟩) (i := idxSite n.sites nm) hv)
    go_enter Try.func10, Try.ntmps10
    go_wp2_with fail
    refine (HV.out).mono ?_
    rintro e w2 ⟨rfl, hb2⟩
    obtain ⟨qa2, _, ya2⟩ := bcellAt hb2 (b := w.heap.size) (by omega)
    obtain ⟨qb2, qf2, yb2⟩ := bcellAt hb2 (b := w.heap.size + 1) (by omega)
    have B2 := Lib.hid (B0.out.trans (hb2.mono B0.out.size))
    clear hb2
    go_wp2
    refine bodyPost_ret (v := .tuple #[.agg #[.string ⟨#[]⟩, .string ⟨#[]⟩, .int .i64 0, .int .i64 0], .int .i64 1]) (by simp [results, Try.results10, go_sem, *]) rfl ?_
    rw [HE.out]
    exact ⟨rfl, ((((B2.out.setCell (p := ⟨w.heap.size + 1, 0, none⟩) (by show w.heap.size ≤ w.heap.size + 1; omega) _).setCell (p := ⟨w.heap.size + 1, 1, none⟩) (by show w.heap.size ≤ w.heap.size + 1; omega) _).setCell (p := ⟨w.heap.size + 1, 2, none⟩) (by show w.heap.size ≤ w.heap.size + 1; omega) _).setCell (p := ⟨w.heap.size + 1, 3, none⟩) (by show w.heap.size ≤ w.heap.size + 1; omega) _)⟩
set_option maxHeartbeats 4000000 in
set_option maxRecDepth 100000 in
theorem iSectorNamed_std (n : DNetwork) (nm : ByteArray) (vn0 vn1 vn2 vn3 : Value) (w : World) (rn0 : Rd w.heap.size w (DSite.sT n.sites) vn0) (rn1 : Rd w.heap.size w (DSector.sT n.sectors) vn1) (rn2 : Rd w.heap.size w (DAntenna.sT n.antennas) vn2) (rn3 : Rd w.heap.size w (DRadio.sT n.radios) vn3) (hs_n : sizL n.tr ≤ 1048576) (hk_n : n.ok) (hs_nm : nm.size ≤ 1048576) :
    Calls Try.prog 16 #[.agg #[vn0, vn1, vn2, vn3], .string nm] w (fun e w' => e = .returned (.tuple #[.agg #[.string (pickR n (gSector n.sectors) ⟨⟨#[]⟩, ⟨#[]⟩, ⟨#[]⟩, ⟨#[]⟩, ⟨#[]⟩, 0, 0, 0, 0⟩ (idxSector n.sectors nm)).1.name, .string (pickR n (gSector n.sectors) ⟨⟨#[]⟩, ⟨#[]⟩, ⟨#[]⟩, ⟨#[]⟩, ⟨#[]⟩, 0, 0, 0, 0⟩ (idxSector n.sectors nm)).1.site, .string (pickR n (gSector n.sectors) ⟨⟨#[]⟩, ⟨#[]⟩, ⟨#[]⟩, ⟨#[]⟩, ⟨#[]⟩, 0, 0, 0, 0⟩ (idxSector n.sectors nm)).1.antenna, .string (pickR n (gSector n.sectors) ⟨⟨#[]⟩, ⟨#[]⟩, ⟨#[]⟩, ⟨#[]⟩, ⟨#[]⟩, 0, 0, 0, 0⟩ (idxSector n.sectors nm)).1.radio, .string (pickR n (gSector n.sectors) ⟨⟨#[]⟩, ⟨#[]⟩, ⟨#[]⟩, ⟨#[]⟩, ⟨#[]⟩, 0, 0, 0, 0⟩ (idxSector n.sectors nm)).1.band, .int .i64 (pickR n (gSector n.sectors) ⟨⟨#[]⟩, ⟨#[]⟩, ⟨#[]⟩, ⟨#[]⟩, ⟨#[]⟩, 0, 0, 0, 0⟩ (idxSector n.sectors nm)).1.azimuth, .int .i64 (pickR n (gSector n.sectors) ⟨⟨#[]⟩, ⟨#[]⟩, ⟨#[]⟩, ⟨#[]⟩, ⟨#[]⟩, 0, 0, 0, 0⟩ (idxSector n.sectors nm)).1.tilt, .int .i64 (pickR n (gSector n.sectors) ⟨⟨#[]⟩, ⟨#[]⟩, ⟨#[]⟩, ⟨#[]⟩, ⟨#[]⟩, 0, 0, 0, 0⟩ (idxSector n.sectors nm)).1.above, .int .i64 (pickR n (gSector n.sectors) ⟨⟨#[]⟩, ⟨#[]⟩, ⟨#[]⟩, ⟨#[]⟩, ⟨#[]⟩, 0, 0, 0, 0⟩ (idxSector n.sectors nm)).1.channel], .int .i64 (pickR n (gSector n.sectors) ⟨⟨#[]⟩, ⟨#[]⟩, ⟨#[]⟩, ⟨#[]⟩, ⟨#[]⟩, 0, 0, 0, 0⟩ (idxSector n.sectors nm)).2]) ∧ Below w.heap.size w w') := by
  have hq := DNetwork.siz_tr n
  rw [DSite.siz_s, DSector.siz_s, DAntenna.siz_s, DRadio.siz_s] at hq
  obtain ⟨A0, C0, e0, _, _, _⟩ := DSite.rd rn0
  obtain ⟨A1, C1, e1, _, _, _⟩ := DSector.rd rn1
  obtain ⟨A2, C2, e2, _, _, _⟩ := DAntenna.rd rn2
  obtain ⟨A3, C3, e3, _, _, _⟩ := DRadio.rd rn3
  subst e0 e1 e2 e3
  have b0 : Below w.heap.size w ((w.alloc (.cells #[.slice A0 n.sites.length C0, .slice A1 n.sectors.length C1, .slice A2 n.antennas.length C2, .slice A3 n.radios.length C3] 40)).alloc (.cells #[.string ⟨#[]⟩, .string ⟨#[]⟩, .string ⟨#[]⟩, .string ⟨#[]⟩, .string ⟨#[]⟩, .int .i64 0, .int .i64 0, .int .i64 0, .int .i64 0] 46)) := (((Below.refl _ _).alloc (Nat.le_refl _) _).alloc (by first | (simp; done) | (simp; omega)) _)
  have y0 : w.heap.size + 2 ≤ ((w.alloc (.cells #[.slice A0 n.sites.length C0, .slice A1 n.sectors.length C1, .slice A2 n.antennas.length C2, .slice A3 n.radios.length C3] 40)).alloc (.cells #[.string ⟨#[]⟩, .string ⟨#[]⟩, .string ⟨#[]⟩, .string ⟨#[]⟩, .string ⟨#[]⟩, .int .i64 0, .int .i64 0, .int .i64 0, .int .i64 0] 46)).heap.size := by first | (simp; done) | (simp; omega)
  have HI := Lib.hid (sectorNamed_any n.sectors nm (.slice A0 n.sites.length C0) (.slice A1 n.sectors.length C1) (.slice A2 n.antennas.length C2) (.slice A3 n.radios.length C3) w.heap.size ((w.alloc (.cells #[.slice A0 n.sites.length C0, .slice A1 n.sectors.length C1, .slice A2 n.antennas.length C2, .slice A3 n.radios.length C3] 40)).alloc (.cells #[.string ⟨#[]⟩, .string ⟨#[]⟩, .string ⟨#[]⟩, .string ⟨#[]⟩, .string ⟨#[]⟩, .int .i64 0, .int .i64 0, .int .i64 0, .int .i64 0] 46)) (rn1.below b0) (by omega) (by omega))
  have HV : Hid (∀ W : World, Below w.heap.size w W → Calls Try.prog 45 #[.agg #[.slice A0 n.sites.length C0, .slice A1 n.sectors.length C1, .slice A2 n.antennas.length C2, .slice A3 n.radios.length C3]] W fun e w' => e = .returned (.bool (netB n)) ∧ Below W.heap.size W w') := fun W hW => validNetwork_any n _ _ _ _ W ((rn0.below hW).mono hW.size) ((rn1.below hW).mono hW.size) ((rn2.below hW).mono hW.size) ((rn3.below hW).mono hW.size) (by omega) hk_n
  have B0 := Lib.hid b0
  have HR := Lib.hid rn1
  clear b0 rn0 rn1 rn2 rn3
  by_cases hv : netB n = true
  · skip
    rcases firstIdx_cases' (fun x : DSector => eqS x.name nm) n.sectors with ⟨hi, _⟩ | ⟨k, hk, hi, _, _⟩
    · have HE := Lib.hid (pickR_none (f := gSector n.sectors) (z := ⟨⟨#[]⟩, ⟨#[]⟩, ⟨#[]⟩, ⟨#[]⟩, ⟨#[]⟩, 0, 0, 0, 0⟩) (i := idxSector n.sectors nm) hv hi)
      rw [show idxSector n.sectors nm = -1 from hi] at HI
      clear hi
      go_enter Try.func16, Try.ntmps16
      go_wp2_with fail
      refine (HI.out).mono ?_
      rintro e w1 ⟨rfl, hb1⟩
      obtain ⟨qa1, _, ya1⟩ := bcellAt hb1 (b := w.heap.size) (by omega)
      obtain ⟨qb1, qf1, yb1⟩ := bcellAt hb1 (b := w.heap.size + 1) (by omega)
      have B1 := Lib.hid (B0.out.trans (hb1.mono B0.out.size))
      clear hb1
      go_wp2_with fail
      refine (HV.out _ B1.out).mono ?_
      rintro e w2 ⟨rfl, hb2⟩
      obtain ⟨qa2, _, ya2⟩ := bcellAt hb2 (b := w.heap.size) ya1
      obtain ⟨qb2, qf2, yb2⟩ := bcellAt hb2 (b := w.heap.size + 1) yb1
      have B2 := Lib.hid (B1.out.trans (hb2.mono B1.out.size))
      clear hb2
      go_wp2
      refine bodyPost_ret (v := .tuple #[.agg #[.string ⟨#[]⟩, .string ⟨#[]⟩, .string ⟨#[]⟩, .string ⟨#[]⟩, .string ⟨#[]⟩, .int .i64 0, .int .i64 0, .int .i64 0, .int .i64 0], .int .i64 3]) (by simp [results, Try.results16, go_sem, *]) rfl ?_
      rw [HE.out]
      exact ⟨rfl, (((((((((B2.out.setCell (p := ⟨w.heap.size + 1, 0, none⟩) (by show w.heap.size ≤ w.heap.size + 1; omega) _).setCell (p := ⟨w.heap.size + 1, 1, none⟩) (by show w.heap.size ≤ w.heap.size + 1; omega) _).setCell (p := ⟨w.heap.size + 1, 2, none⟩) (by show w.heap.size ≤ w.heap.size + 1; omega) _).setCell (p := ⟨w.heap.size + 1, 3, none⟩) (by show w.heap.size ≤ w.heap.size + 1; omega) _).setCell (p := ⟨w.heap.size + 1, 4, none⟩) (by show w.heap.size ≤ w.heap.size + 1; omega) _).setCell (p := ⟨w.heap.size + 1, 5, none⟩) (by show w.heap.size ≤ w.heap.size + 1; omega) _).setCell (p := ⟨w.heap.size + 1, 6, none⟩) (by show w.heap.size ≤ w.heap.size + 1; omega) _).setCell (p := ⟨w.heap.size + 1, 7, none⟩) (by show w.heap.size ≤ w.heap.size + 1; omega) _).setCell (p := ⟨w.heap.size + 1, 8, none⟩) (by show w.heap.size ≤ w.heap.size + 1; omega) _)⟩
    · have HE := Lib.hid (pickR_some (f := gSector n.sectors) (z := ⟨⟨#[]⟩, ⟨#[]⟩, ⟨#[]⟩, ⟨#[]⟩, ⟨#[]⟩, 0, 0, 0, 0⟩) (i := idxSector n.sectors nm) hv hi)
      rw [show idxSector n.sectors nm = (k : Int) from hi] at HI
      clear hi
      obtain ⟨a', c', e', _, _, hcl⟩ := DSector.rd HR.out
      injection e' with e1 _ e3
      subst e1 e3
      obtain ⟨b, off, ea, hbl, hat⟩ := hcl (by omega)
      subst ea
      obtain ⟨s0, s1, s2, s3, s4, s5, s6, s7, s8⟩ := hat k hk
      rw [gSector_eq hk] at s0 s1 s2 s3 s4 s5 s6 s7 s8
      clear hat hcl
      go_enter Try.func16, Try.ntmps16
      go_wp2_with fail
      refine (HI.out).mono ?_
      rintro e w1 ⟨rfl, hb1⟩
      obtain ⟨qa1, _, ya1⟩ := bcellAt hb1 (b := w.heap.size) (by omega)
      obtain ⟨qb1, qf1, yb1⟩ := bcellAt hb1 (b := w.heap.size + 1) (by omega)
      have B1 := Lib.hid (B0.out.trans (hb1.mono B0.out.size))
      clear hb1
      go_wp2_with fail
      refine (HV.out _ B1.out).mono ?_
      rintro e w2 ⟨rfl, hb2⟩
      obtain ⟨qa2, _, ya2⟩ := bcellAt hb2 (b := w.heap.size) ya1
      obtain ⟨qb2, qf2, yb2⟩ := bcellAt hb2 (b := w.heap.size + 1) yb1
      have B2 := Lib.hid (B1.out.trans (hb2.mono B1.out.size))
      clear hb2
      rw [← bat B2.out b _ hbl] at s0 s1 s2 s3 s4 s5 s6 s7 s8
      have i1 : (0 : Int) ≤ (k : Int) := by omega
      have i2 : (k : Int) < (n.sectors.length : Int) := by omega
      have yb : b < w2.heap.size := by have := B2.out.size; omega
      generalize gSector n.sectors k = X at *
      go_wp2
      refine bodyPost_ret (v := .tuple #[.agg #[.string X.name, .string X.site, .string X.antenna, .string X.radio, .string X.band, .int .i64 X.azimuth, .int .i64 X.tilt, .int .i64 X.above, .int .i64 X.channel], .int .i64 0]) (by simp [results, Try.results16, go_sem, *]) rfl ?_
      rw [HE.out]
      exact ⟨rfl, (((((((((B2.out.setCell (p := ⟨w.heap.size + 1, 0, none⟩) (by show w.heap.size ≤ w.heap.size + 1; omega) _).setCell (p := ⟨w.heap.size + 1, 1, none⟩) (by show w.heap.size ≤ w.heap.size + 1; omega) _).setCell (p := ⟨w.heap.size + 1, 2, none⟩) (by show w.heap.size ≤ w.heap.size + 1; omega) _).setCell (p := ⟨w.heap.size + 1, 3, none⟩) (by show w.heap.size ≤ w.heap.size + 1; omega) _).setCell (p := ⟨w.heap.size + 1, 4, none⟩) (by show w.heap.size ≤ w.heap.size + 1; omega) _).setCell (p := ⟨w.heap.size + 1, 5, none⟩) (by show w.heap.size ≤ w.heap.size + 1; omega) _).setCell (p := ⟨w.heap.size + 1, 6, none⟩) (by show w.heap.size ≤ w.heap.size + 1; omega) _).setCell (p := ⟨w.heap.size + 1, 7, none⟩) (by show w.heap.size ≤ w.heap.size + 1; omega) _).setCell (p := ⟨w.heap.size + 1, 8, none⟩) (by show w.heap.size ≤ w.heap.size + 1; omega) _)⟩
  · replace hv : netB n = false := Bool.eq_false_iff.2 hv
    have HE := Lib.hid (pickR_bad (f := gSector n.sectors) (z := ⟨⟨#[]⟩, ⟨#[]⟩, ⟨#[]⟩, ⟨#[]⟩, ⟨#[]⟩, 0, 0, 0, 0⟩) (i := idxSector n.sectors nm) hv)
    go_enter Try.func16, Try.ntmps16
    go_wp2_with fail
    refine (HI.out).mono ?_
    rintro e w1 ⟨rfl, hb1⟩
    obtain ⟨qa1, _, ya1⟩ := bcellAt hb1 (b := w.heap.size) (by omega)
    obtain ⟨qb1, qf1, yb1⟩ := bcellAt hb1 (b := w.heap.size + 1) (by omega)
    have B1 := Lib.hid (B0.out.trans (hb1.mono B0.out.size))
    clear hb1
    go_wp2_with fail
    refine (HV.out _ B1.out).mono ?_
    rintro e w2 ⟨rfl, hb2⟩
    obtain ⟨qa2, _, ya2⟩ := bcellAt hb2 (b := w.heap.size) ya1
    obtain ⟨qb2, qf2, yb2⟩ := bcellAt hb2 (b := w.heap.size + 1) yb1
    have B2 := Lib.hid (B1.out.trans (hb2.mono B1.out.size))
    clear hb2
    go_wp2
    refine bodyPost_ret (v := .tuple #[.agg #[.string ⟨#[]⟩, .string ⟨#[]⟩, .string ⟨#[]⟩, .string ⟨#[]⟩, .string ⟨#[]⟩, .int .i64 0, .int .i64 0, .int .i64 0, .int .i64 0], .int .i64 1]) (by simp [results, Try.results16, go_sem, *]) rfl ?_
    rw [HE.out]
    exact ⟨rfl, (((((((((B2.out.setCell (p := ⟨w.heap.size + 1, 0, none⟩) (by show w.heap.size ≤ w.heap.size + 1; omega) _).setCell (p := ⟨w.heap.size + 1, 1, none⟩) (by show w.heap.size ≤ w.heap.size + 1; omega) _).setCell (p := ⟨w.heap.size + 1, 2, none⟩) (by show w.heap.size ≤ w.heap.size + 1; omega) _).setCell (p := ⟨w.heap.size + 1, 3, none⟩) (by show w.heap.size ≤ w.heap.size + 1; omega) _).setCell (p := ⟨w.heap.size + 1, 4, none⟩) (by show w.heap.size ≤ w.heap.size + 1; omega) _).setCell (p := ⟨w.heap.size + 1, 5, none⟩) (by show w.heap.size ≤ w.heap.size + 1; omega) _).setCell (p := ⟨w.heap.size + 1, 6, none⟩) (by show w.heap.size ≤ w.heap.size + 1; omega) _).setCell (p := ⟨w.heap.size + 1, 7, none⟩) (by show w.heap.size ≤ w.heap.size + 1; omega) _).setCell (p := ⟨w.heap.size + 1, 8, none⟩) (by show w.heap.size ≤ w.heap.size + 1; omega) _)⟩
set_option maxHeartbeats 4000000 in
set_option maxRecDepth 100000 in
theorem sSectorNamed_std (n : DNetwork) (nm : ByteArray) (vn0 vn1 vn2 vn3 : Value) (w : World) (rn0 : Rd w.heap.size w (DSite.sT n.sites) vn0) (rn1 : Rd w.heap.size w (DSector.sT n.sectors) vn1) (rn2 : Rd w.heap.size w (DAntenna.sT n.antennas) vn2) (rn3 : Rd w.heap.size w (DRadio.sT n.radios) vn3) (hs_n : sizL n.tr ≤ 1048576) (hk_n : n.ok) (hs_nm : nm.size ≤ 1048576) :
    Calls Try.prog 15 #[.agg #[vn0, vn1, vn2, vn3], .string nm] w (fun e w' => e = .returned (.tuple #[.agg #[.string (pickR n (gSector n.sectors) ⟨⟨#[]⟩, ⟨#[]⟩, ⟨#[]⟩, ⟨#[]⟩, ⟨#[]⟩, 0, 0, 0, 0⟩ (idxSector n.sectors nm)).1.name, .string (pickR n (gSector n.sectors) ⟨⟨#[]⟩, ⟨#[]⟩, ⟨#[]⟩, ⟨#[]⟩, ⟨#[]⟩, 0, 0, 0, 0⟩ (idxSector n.sectors nm)).1.site, .string (pickR n (gSector n.sectors) ⟨⟨#[]⟩, ⟨#[]⟩, ⟨#[]⟩, ⟨#[]⟩, ⟨#[]⟩, 0, 0, 0, 0⟩ (idxSector n.sectors nm)).1.antenna, .string (pickR n (gSector n.sectors) ⟨⟨#[]⟩, ⟨#[]⟩, ⟨#[]⟩, ⟨#[]⟩, ⟨#[]⟩, 0, 0, 0, 0⟩ (idxSector n.sectors nm)).1.radio, .string (pickR n (gSector n.sectors) ⟨⟨#[]⟩, ⟨#[]⟩, ⟨#[]⟩, ⟨#[]⟩, ⟨#[]⟩, 0, 0, 0, 0⟩ (idxSector n.sectors nm)).1.band, .int .i64 (pickR n (gSector n.sectors) ⟨⟨#[]⟩, ⟨#[]⟩, ⟨#[]⟩, ⟨#[]⟩, ⟨#[]⟩, 0, 0, 0, 0⟩ (idxSector n.sectors nm)).1.azimuth, .int .i64 (pickR n (gSector n.sectors) ⟨⟨#[]⟩, ⟨#[]⟩, ⟨#[]⟩, ⟨#[]⟩, ⟨#[]⟩, 0, 0, 0, 0⟩ (idxSector n.sectors nm)).1.tilt, .int .i64 (pickR n (gSector n.sectors) ⟨⟨#[]⟩, ⟨#[]⟩, ⟨#[]⟩, ⟨#[]⟩, ⟨#[]⟩, 0, 0, 0, 0⟩ (idxSector n.sectors nm)).1.above, .int .i64 (pickR n (gSector n.sectors) ⟨⟨#[]⟩, ⟨#[]⟩, ⟨#[]⟩, ⟨#[]⟩, ⟨#[]⟩, 0, 0, 0, 0⟩ (idxSector n.sectors nm)).1.channel], .int .i64 (pickR n (gSector n.sectors) ⟨⟨#[]⟩, ⟨#[]⟩, ⟨#[]⟩, ⟨#[]⟩, ⟨#[]⟩, 0, 0, 0, 0⟩ (idxSector n.sectors nm)).2]) ∧ Below w.heap.size w w') := by
  have hq := DNetwork.siz_tr n
  rw [DSite.siz_s, DSector.siz_s, DAntenna.siz_s, DRadio.siz_s] at hq
  obtain ⟨A0, C0, e0, _, _, _⟩ := DSite.rd rn0
  obtain ⟨A1, C1, e1, _, _, _⟩ := DSector.rd rn1
  obtain ⟨A2, C2, e2, _, _, _⟩ := DAntenna.rd rn2
  obtain ⟨A3, C3, e3, _, _, _⟩ := DRadio.rd rn3
  subst e0 e1 e2 e3
  have b0 : Below w.heap.size w ((w.alloc (.cells #[.slice A0 n.sites.length C0, .slice A1 n.sectors.length C1, .slice A2 n.antennas.length C2, .slice A3 n.radios.length C3] 40)).alloc (.cells #[.string ⟨#[]⟩, .string ⟨#[]⟩, .string ⟨#[]⟩, .string ⟨#[]⟩, .string ⟨#[]⟩, .int .i64 0, .int .i64 0, .int .i64 0, .int .i64 0] 46)) := (((Below.refl _ _).alloc (Nat.le_refl _) _).alloc (by first | (simp; done) | (simp; omega)) _)
  have y0 : w.heap.size + 2 ≤ ((w.alloc (.cells #[.slice A0 n.sites.length C0, .slice A1 n.sectors.length C1, .slice A2 n.antennas.length C2, .slice A3 n.radios.length C3] 40)).alloc (.cells #[.string ⟨#[]⟩, .string ⟨#[]⟩, .string ⟨#[]⟩, .string ⟨#[]⟩, .string ⟨#[]⟩, .int .i64 0, .int .i64 0, .int .i64 0, .int .i64 0] 46)).heap.size := by first | (simp; done) | (simp; omega)
  have HV := Lib.hid (l14Ok_any n _ _ _ _ w.heap.size ((w.alloc (.cells #[.slice A0 n.sites.length C0, .slice A1 n.sectors.length C1, .slice A2 n.antennas.length C2, .slice A3 n.radios.length C3] 40)).alloc (.cells #[.string ⟨#[]⟩, .string ⟨#[]⟩, .string ⟨#[]⟩, .string ⟨#[]⟩, .string ⟨#[]⟩, .int .i64 0, .int .i64 0, .int .i64 0, .int .i64 0] 46)) ((rn0.below b0).mono b0.size) ((rn1.below b0).mono b0.size) ((rn2.below b0).mono b0.size) ((rn3.below b0).mono b0.size) (by omega) (by simp [go_sem]) (by simp [go_sem]) (by simp [go_sem]) (by simp [go_sem]) (by omega) hk_n)
  have HI : Hid (∀ W : World, Below w.heap.size w W → W.cell? ⟨w.heap.size, 1, none⟩ = some (.slice A1 n.sectors.length C1) → Calls Try.prog 51 #[.pointer (some ⟨w.heap.size, 0, none⟩), .string nm] W fun e w' => e = .returned (.int .i64 (idxSector n.sectors nm)) ∧ W = w') := fun W hW hc => l14Find_any n.sectors nm _ w.heap.size w.heap.size W (rn1.below hW) hW.size hc (by omega)
  have B0 := Lib.hid b0
  have HR := Lib.hid rn1
  clear b0 rn0 rn1 rn2 rn3
  by_cases hv : netB n = true
  · skip
    rcases firstIdx_cases' (fun x : DSector => eqS x.name nm) n.sectors with ⟨hi, _⟩ | ⟨k, hk, hi, _, _⟩
    · have HE := Lib.hid (pickR_none (f := gSector n.sectors) (z := ⟨⟨#[]⟩, ⟨#[]⟩, ⟨#[]⟩, ⟨#[]⟩, ⟨#[]⟩, 0, 0, 0, 0⟩) (i := idxSector n.sectors nm) hv hi)
      rw [show idxSector n.sectors nm = -1 from hi] at HI
      clear hi
      go_enter Try.func15, Try.ntmps15
      go_wp2_with fail
      refine (HV.out).mono ?_
      rintro e w2 ⟨rfl, hb2⟩
      obtain ⟨qa2, _, ya2⟩ := bcellAt hb2 (b := w.heap.size) (by omega)
      obtain ⟨qb2, qf2, yb2⟩ := bcellAt hb2 (b := w.heap.size + 1) (by omega)
      have B2 := Lib.hid (B0.out.trans (hb2.mono B0.out.size))
      clear hb2
      have t1 : w2.cell? ⟨w.heap.size, 1, none⟩ = some (.slice A1 n.sectors.length C1) := by rw [qa2]; simp [go_sem]
      go_wp2_with fail
      refine (HI.out _ B2.out t1).mono ?_
      rintro e w3 ⟨rfl, rfl⟩
      go_wp2
      refine bodyPost_ret (v := .tuple #[.agg #[.string ⟨#[]⟩, .string ⟨#[]⟩, .string ⟨#[]⟩, .string ⟨#[]⟩, .string ⟨#[]⟩, .int .i64 0, .int .i64 0, .int .i64 0, .int .i64 0], .int .i64 3]) (by simp [results, Try.results15, go_sem, *]) rfl ?_
      rw [HE.out]
      exact ⟨rfl, (((((((((B2.out.setCell (p := ⟨w.heap.size + 1, 0, none⟩) (by show w.heap.size ≤ w.heap.size + 1; omega) _).setCell (p := ⟨w.heap.size + 1, 1, none⟩) (by show w.heap.size ≤ w.heap.size + 1; omega) _).setCell (p := ⟨w.heap.size + 1, 2, none⟩) (by show w.heap.size ≤ w.heap.size + 1; omega) _).setCell (p := ⟨w.heap.size + 1, 3, none⟩) (by show w.heap.size ≤ w.heap.size + 1; omega) _).setCell (p := ⟨w.heap.size + 1, 4, none⟩) (by show w.heap.size ≤ w.heap.size + 1; omega) _).setCell (p := ⟨w.heap.size + 1, 5, none⟩) (by show w.heap.size ≤ w.heap.size + 1; omega) _).setCell (p := ⟨w.heap.size + 1, 6, none⟩) (by show w.heap.size ≤ w.heap.size + 1; omega) _).setCell (p := ⟨w.heap.size + 1, 7, none⟩) (by show w.heap.size ≤ w.heap.size + 1; omega) _).setCell (p := ⟨w.heap.size + 1, 8, none⟩) (by show w.heap.size ≤ w.heap.size + 1; omega) _)⟩
    · have HE := Lib.hid (pickR_some (f := gSector n.sectors) (z := ⟨⟨#[]⟩, ⟨#[]⟩, ⟨#[]⟩, ⟨#[]⟩, ⟨#[]⟩, 0, 0, 0, 0⟩) (i := idxSector n.sectors nm) hv hi)
      rw [show idxSector n.sectors nm = (k : Int) from hi] at HI
      clear hi
      obtain ⟨a', c', e', _, _, hcl⟩ := DSector.rd HR.out
      injection e' with e1 _ e3
      subst e1 e3
      obtain ⟨b, off, ea, hbl, hat⟩ := hcl (by omega)
      subst ea
      obtain ⟨s0, s1, s2, s3, s4, s5, s6, s7, s8⟩ := hat k hk
      rw [gSector_eq hk] at s0 s1 s2 s3 s4 s5 s6 s7 s8
      clear hat hcl
      go_enter Try.func15, Try.ntmps15
      go_wp2_with fail
      refine (HV.out).mono ?_
      rintro e w2 ⟨rfl, hb2⟩
      obtain ⟨qa2, _, ya2⟩ := bcellAt hb2 (b := w.heap.size) (by omega)
      obtain ⟨qb2, qf2, yb2⟩ := bcellAt hb2 (b := w.heap.size + 1) (by omega)
      have B2 := Lib.hid (B0.out.trans (hb2.mono B0.out.size))
      clear hb2
      have t1 : w2.cell? ⟨w.heap.size, 1, none⟩ = some (.slice (some ⟨b, off, none⟩) n.sectors.length C1) := by rw [qa2]; simp [go_sem]
      go_wp2_with fail
      refine (HI.out _ B2.out t1).mono ?_
      rintro e w3 ⟨rfl, rfl⟩
      rw [← bat B2.out b _ hbl] at s0 s1 s2 s3 s4 s5 s6 s7 s8
      have i1 : (0 : Int) ≤ (k : Int) := by omega
      have i2 : (k : Int) < (n.sectors.length : Int) := by omega
      have yb : b < w2.heap.size := by have := B2.out.size; omega
      generalize gSector n.sectors k = X at *
      go_wp2
      refine bodyPost_ret (v := .tuple #[.agg #[.string X.name, .string X.site, .string X.antenna, .string X.radio, .string X.band, .int .i64 X.azimuth, .int .i64 X.tilt, .int .i64 X.above, .int .i64 X.channel], .int .i64 0]) (by simp [results, Try.results15, go_sem, *]) rfl ?_
      rw [HE.out]
      exact ⟨rfl, (((((((((B2.out.setCell (p := ⟨w.heap.size + 1, 0, none⟩) (by show w.heap.size ≤ w.heap.size + 1; omega) _).setCell (p := ⟨w.heap.size + 1, 1, none⟩) (by show w.heap.size ≤ w.heap.size + 1; omega) _).setCell (p := ⟨w.heap.size + 1, 2, none⟩) (by show w.heap.size ≤ w.heap.size + 1; omega) _).setCell (p := ⟨w.heap.size + 1, 3, none⟩) (by show w.heap.size ≤ w.heap.size + 1; omega) _).setCell (p := ⟨w.heap.size + 1, 4, none⟩) (by show w.heap.size ≤ w.heap.size + 1; omega) _).setCell (p := ⟨w.heap.size + 1, 5, none⟩) (by show w.heap.size ≤ w.heap.size + 1; omega) _).setCell (p := ⟨w.heap.size + 1, 6, none⟩) (by show w.heap.size ≤ w.heap.size + 1; omega) _).setCell (p := ⟨w.heap.size + 1, 7, none⟩) (by show w.heap.size ≤ w.heap.size + 1; omega) _).setCell (p := ⟨w.heap.size + 1, 8, none⟩) (by show w.heap.size ≤ w.heap.size + 1; omega) _)⟩
  · replace hv : netB n = false := Bool.eq_false_iff.2 hv
    have HE := Lib.hid (pickR_bad (f := gSector n.sectors) (z := ⟨⟨#[]⟩, ⟨#[]⟩, ⟨#[]⟩, ⟨#[]⟩, ⟨#[]⟩, 0, 0, 0, 0⟩) (i := idxSector n.sectors nm) hv)
    go_enter Try.func15, Try.ntmps15
    go_wp2_with fail
    refine (HV.out).mono ?_
    rintro e w2 ⟨rfl, hb2⟩
    obtain ⟨qa2, _, ya2⟩ := bcellAt hb2 (b := w.heap.size) (by omega)
    obtain ⟨qb2, qf2, yb2⟩ := bcellAt hb2 (b := w.heap.size + 1) (by omega)
    have B2 := Lib.hid (B0.out.trans (hb2.mono B0.out.size))
    clear hb2
    go_wp2
    refine bodyPost_ret (v := .tuple #[.agg #[.string ⟨#[]⟩, .string ⟨#[]⟩, .string ⟨#[]⟩, .string ⟨#[]⟩, .string ⟨#[]⟩, .int .i64 0, .int .i64 0, .int .i64 0, .int .i64 0], .int .i64 1]) (by simp [results, Try.results15, go_sem, *]) rfl ?_
    rw [HE.out]
    exact ⟨rfl, (((((((((B2.out.setCell (p := ⟨w.heap.size + 1, 0, none⟩) (by show w.heap.size ≤ w.heap.size + 1; omega) _).setCell (p := ⟨w.heap.size + 1, 1, none⟩) (by show w.heap.size ≤ w.heap.size + 1; omega) _).setCell (p := ⟨w.heap.size + 1, 2, none⟩) (by show w.heap.size ≤ w.heap.size + 1; omega) _).setCell (p := ⟨w.heap.size + 1, 3, none⟩) (by show w.heap.size ≤ w.heap.size + 1; omega) _).setCell (p := ⟨w.heap.size + 1, 4, none⟩) (by show w.heap.size ≤ w.heap.size + 1; omega) _).setCell (p := ⟨w.heap.size + 1, 5, none⟩) (by show w.heap.size ≤ w.heap.size + 1; omega) _).setCell (p := ⟨w.heap.size + 1, 6, none⟩) (by show w.heap.size ≤ w.heap.size + 1; omega) _).setCell (p := ⟨w.heap.size + 1, 7, none⟩) (by show w.heap.size ≤ w.heap.size + 1; omega) _).setCell (p := ⟨w.heap.size + 1, 8, none⟩) (by show w.heap.size ≤ w.heap.size + 1; omega) _)⟩
end Go.Proofs.Ytefefgamiaganaa
