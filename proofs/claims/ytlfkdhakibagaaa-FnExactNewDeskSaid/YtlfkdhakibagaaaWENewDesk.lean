/- The walk of the law FnExactNewDesk: it returns true. -/
import Derived.Test.YtlfkdhakibagaaaNewE
import Derived.Test.YtlfkdhakibagaaaMDesk
import Derived.Deep.RegionHeld3
namespace Go.Proofs.Ytlfkdhakibagaaa.fnExactNewDesk
open Go.RowKit
set_option linter.unusedVariables false
theorem siz_new : sizL newDesk.tr ≤ 100000 := by
  have e : sizL newDesk.tr = 200 := by decide +kernel
  omega
theorem cnt_new (n : DDesk) (h : n = newDesk) : cnt (intsT n.plan.terrain.heights) + cnt (intsT n.plan.terrain.clutter) + cnt (DSite.sT n.plan.network.sites) + cnt (DSector.sT n.plan.network.sectors) + cnt (DAntenna.sT n.plan.network.antennas) + cnt (DRadio.sT n.plan.network.radios) + cnt (DBand.sT n.plan.bands) + cnt (DLicence.sT n.plan.licences) + cnt (DProtected.sT n.plan.protected_) + cnt (intssT n.plan.apart) + cnt (DRequest.sT n.requests) ≤ 100000 := by
  subst h
  have e : cnt (intsT newDesk.plan.terrain.heights) + cnt (intsT newDesk.plan.terrain.clutter) + cnt (DSite.sT newDesk.plan.network.sites) + cnt (DSector.sT newDesk.plan.network.sectors) + cnt (DAntenna.sT newDesk.plan.network.antennas) + cnt (DRadio.sT newDesk.plan.network.radios) + cnt (DBand.sT newDesk.plan.bands) + cnt (DLicence.sT newDesk.plan.licences) + cnt (DProtected.sT newDesk.plan.protected_) + cnt (intssT newDesk.plan.apart) + cnt (DRequest.sT newDesk.requests) = 200 := by decide +kernel
  omega
set_option maxHeartbeats 4000000 in
set_option maxRecDepth 100000 in
theorem walk  (w : World)   :
    Calls Try.prog 3 #[] w fun e w' => e = .returned (.bool true) ∧ Below w.heap.size w w' := by
  have hRs := siz_new
  have hRc := cnt_new newDesk rfl
  have BB0 : Hid (Below w.heap.size w w) := Below.refl _ _
  generalize hR : newDesk = R at *
  have HR := Lib.hid hR
  clear hR
  have HS : Hid (∀ (W : World), Calls Try.prog 4 #[] W (fun e w' => ∃ a0_3 c0_3 a0_4 c0_4 a0_5 c0_5 a0_6 c0_6 a0_7 c0_7 a0_8 c0_8 a0_9 c0_9 a0_10 c0_10 a0_11 c0_11 a0_12 c0_12 a0_14 c0_14 fp0, e = .returned (.agg #[.int .i64 R.plan.terrain.step, .int .i64 R.plan.terrain.width, .int .i64 R.plan.terrain.height, .slice a0_3 R.plan.terrain.heights.length c0_3, .slice a0_4 R.plan.terrain.clutter.length c0_4, .slice a0_5 R.plan.network.sites.length c0_5, .slice a0_6 R.plan.network.sectors.length c0_6, .slice a0_7 R.plan.network.antennas.length c0_7, .slice a0_8 R.plan.network.radios.length c0_8, .slice a0_9 R.plan.bands.length c0_9, .slice a0_10 R.plan.licences.length c0_10, .slice a0_11 R.plan.protected_.length c0_11, .slice a0_12 R.plan.apart.length c0_12, .int .i64 R.plan.day, .slice a0_14 R.requests.length c0_14]) ∧ Below W.heap.size W w' ∧ OwnV w' R.tr [.int .i64 R.plan.terrain.step, .int .i64 R.plan.terrain.width, .int .i64 R.plan.terrain.height, .slice a0_3 R.plan.terrain.heights.length c0_3, .slice a0_4 R.plan.terrain.clutter.length c0_4, .slice a0_5 R.plan.network.sites.length c0_5, .slice a0_6 R.plan.network.sectors.length c0_6, .slice a0_7 R.plan.network.antennas.length c0_7, .slice a0_8 R.plan.network.radios.length c0_8, .slice a0_9 R.plan.bands.length c0_9, .slice a0_10 R.plan.licences.length c0_10, .slice a0_11 R.plan.protected_.length c0_11, .slice a0_12 R.plan.apart.length c0_12, .int .i64 R.plan.day, .slice a0_14 R.requests.length c0_14] fp0 ∧ In W.heap.size w'.heap.size fp0)) := fun W    => by rw [← HR.out]; exact sNewDesk_std   W  
  have HI : Hid (∀ (W : World), Calls Try.prog 5 #[] W (fun e w' => ∃ a0_3 c0_3 a0_4 c0_4 a0_5 c0_5 a0_6 c0_6 a0_7 c0_7 a0_8 c0_8 a0_9 c0_9 a0_10 c0_10 a0_11 c0_11 a0_12 c0_12 a0_14 c0_14 fp0, e = .returned (.agg #[.int .i64 R.plan.terrain.step, .int .i64 R.plan.terrain.width, .int .i64 R.plan.terrain.height, .slice a0_3 R.plan.terrain.heights.length c0_3, .slice a0_4 R.plan.terrain.clutter.length c0_4, .slice a0_5 R.plan.network.sites.length c0_5, .slice a0_6 R.plan.network.sectors.length c0_6, .slice a0_7 R.plan.network.antennas.length c0_7, .slice a0_8 R.plan.network.radios.length c0_8, .slice a0_9 R.plan.bands.length c0_9, .slice a0_10 R.plan.licences.length c0_10, .slice a0_11 R.plan.protected_.length c0_11, .slice a0_12 R.plan.apart.length c0_12, .int .i64 R.plan.day, .slice a0_14 R.requests.length c0_14]) ∧ Below W.heap.size W w' ∧ OwnV w' R.tr [.int .i64 R.plan.terrain.step, .int .i64 R.plan.terrain.width, .int .i64 R.plan.terrain.height, .slice a0_3 R.plan.terrain.heights.length c0_3, .slice a0_4 R.plan.terrain.clutter.length c0_4, .slice a0_5 R.plan.network.sites.length c0_5, .slice a0_6 R.plan.network.sectors.length c0_6, .slice a0_7 R.plan.network.antennas.length c0_7, .slice a0_8 R.plan.network.radios.length c0_8, .slice a0_9 R.plan.bands.length c0_9, .slice a0_10 R.plan.licences.length c0_10, .slice a0_11 R.plan.protected_.length c0_11, .slice a0_12 R.plan.apart.length c0_12, .int .i64 R.plan.day, .slice a0_14 R.requests.length c0_14] fp0 ∧ In W.heap.size w'.heap.size fp0)) := fun W    => by rw [← HR.out]; exact iNewDesk_std   W  
  go_enter Try.func3, Try.ntmps3
  go_wp2_with fail
  refine (HS.out _   ).mono ?_
  rintro e w1 ⟨as03, cs03, as04, cs04, as05, cs05, as06, cs06, as07, cs07, as08, cs08, as09, cs09, as010, cs010, as011, cs011, as012, cs012, as014, cs014, fs0, rfl, hb1, ov1, iv1⟩
  have hbb1 : Below w.heap.size w w1 := hb1
  have z1 := hbb1.size
  have BB1 := Lib.hid (BB0.out.trans (hbb1.mono (by omega)))
  clear hbb1
  obtain ⟨g1_0, r1_0, e1_0, p1_0, ov1_0, d1_0⟩ := OwnV.uncons ov1
  obtain ⟨_, hz1_0⟩ := Rep_lit.1 p1_0.rep
  subst hz1_0
  obtain ⟨g1_1, r1_1, e1_1, p1_1, ov1_1, d1_1⟩ := OwnV.uncons ov1_0
  obtain ⟨_, hz1_1⟩ := Rep_lit.1 p1_1.rep
  subst hz1_1
  obtain ⟨g1_2, r1_2, e1_2, p1_2, ov1_2, d1_2⟩ := OwnV.uncons ov1_1
  obtain ⟨_, hz1_2⟩ := Rep_lit.1 p1_2.rep
  subst hz1_2
  obtain ⟨g1_3, r1_3, e1_3, p1_3, ov1_3, d1_3⟩ := OwnV.uncons ov1_2
  obtain ⟨g1_4, r1_4, e1_4, p1_4, ov1_4, d1_4⟩ := OwnV.uncons ov1_3
  obtain ⟨g1_5, r1_5, e1_5, p1_5, ov1_5, d1_5⟩ := OwnV.uncons ov1_4
  obtain ⟨g1_6, r1_6, e1_6, p1_6, ov1_6, d1_6⟩ := OwnV.uncons ov1_5
  obtain ⟨g1_7, r1_7, e1_7, p1_7, ov1_7, d1_7⟩ := OwnV.uncons ov1_6
  obtain ⟨g1_8, r1_8, e1_8, p1_8, ov1_8, d1_8⟩ := OwnV.uncons ov1_7
  obtain ⟨g1_9, r1_9, e1_9, p1_9, ov1_9, d1_9⟩ := OwnV.uncons ov1_8
  obtain ⟨g1_10, r1_10, e1_10, p1_10, ov1_10, d1_10⟩ := OwnV.uncons ov1_9
  obtain ⟨g1_11, r1_11, e1_11, p1_11, ov1_11, d1_11⟩ := OwnV.uncons ov1_10
  obtain ⟨g1_12, r1_12, e1_12, p1_12, ov1_12, d1_12⟩ := OwnV.uncons ov1_11
  obtain ⟨g1_13, r1_13, e1_13, p1_13, ov1_13, d1_13⟩ := OwnV.uncons ov1_12
  obtain ⟨_, hz1_13⟩ := Rep_lit.1 p1_13.rep
  subst hz1_13
  obtain ⟨g1_14, r1_14, e1_14, p1_14, ov1_14, d1_14⟩ := OwnV.uncons ov1_13
  have iw1 := iv1.mono (lo' := w.heap.size + 0) (by first | omega | (simp; done) | (simp; omega)) (Nat.le_refl _)
  have hnil1 := ov1_14.rep
  change r1_14 = [] at hnil1
  subst hnil1
  subst e1_14
  subst e1_13
  subst e1_12
  subst e1_11
  subst e1_10
  subst e1_9
  subst e1_8
  subst e1_7
  subst e1_6
  subst e1_5
  subst e1_4
  subst e1_3
  subst e1_2
  subst e1_1
  subst e1_0
  have is03 : In _ _ g1_3 := fun y hy => iw1 y (by simp [hy])
  have os03_1 := Lib.hid p1_3
  have is04 : In _ _ g1_4 := fun y hy => iw1 y (by simp [hy])
  have os04_1 := Lib.hid p1_4
  have is05 : In _ _ g1_5 := fun y hy => iw1 y (by simp [hy])
  have os05_1 := Lib.hid p1_5
  have is06 : In _ _ g1_6 := fun y hy => iw1 y (by simp [hy])
  have os06_1 := Lib.hid p1_6
  have is07 : In _ _ g1_7 := fun y hy => iw1 y (by simp [hy])
  have os07_1 := Lib.hid p1_7
  have is08 : In _ _ g1_8 := fun y hy => iw1 y (by simp [hy])
  have os08_1 := Lib.hid p1_8
  have is09 : In _ _ g1_9 := fun y hy => iw1 y (by simp [hy])
  have os09_1 := Lib.hid p1_9
  have is010 : In _ _ g1_10 := fun y hy => iw1 y (by simp [hy])
  have os010_1 := Lib.hid p1_10
  have is011 : In _ _ g1_11 := fun y hy => iw1 y (by simp [hy])
  have os011_1 := Lib.hid p1_11
  have is012 : In _ _ g1_12 := fun y hy => iw1 y (by simp [hy])
  have os012_1 := Lib.hid p1_12
  have is014 : In _ _ g1_14 := fun y hy => iw1 y (by simp [hy])
  have os014_1 := Lib.hid p1_14
  have djs03_4 : ∀ y ∈ g1_3, y ∉ g1_4 := fun y hy e => d1_3 y hy (by simp [e])
  have djs03_5 : ∀ y ∈ g1_3, y ∉ g1_5 := fun y hy e => d1_3 y hy (by simp [e])
  have djs03_6 : ∀ y ∈ g1_3, y ∉ g1_6 := fun y hy e => d1_3 y hy (by simp [e])
  have djs03_7 : ∀ y ∈ g1_3, y ∉ g1_7 := fun y hy e => d1_3 y hy (by simp [e])
  have djs03_8 : ∀ y ∈ g1_3, y ∉ g1_8 := fun y hy e => d1_3 y hy (by simp [e])
  have djs03_9 : ∀ y ∈ g1_3, y ∉ g1_9 := fun y hy e => d1_3 y hy (by simp [e])
  have djs03_10 : ∀ y ∈ g1_3, y ∉ g1_10 := fun y hy e => d1_3 y hy (by simp [e])
  have djs03_11 : ∀ y ∈ g1_3, y ∉ g1_11 := fun y hy e => d1_3 y hy (by simp [e])
  have djs03_12 : ∀ y ∈ g1_3, y ∉ g1_12 := fun y hy e => d1_3 y hy (by simp [e])
  have djs03_14 : ∀ y ∈ g1_3, y ∉ g1_14 := fun y hy e => d1_3 y hy (by simp [e])
  have djs04_5 : ∀ y ∈ g1_4, y ∉ g1_5 := fun y hy e => d1_4 y hy (by simp [e])
  have djs04_6 : ∀ y ∈ g1_4, y ∉ g1_6 := fun y hy e => d1_4 y hy (by simp [e])
  have djs04_7 : ∀ y ∈ g1_4, y ∉ g1_7 := fun y hy e => d1_4 y hy (by simp [e])
  have djs04_8 : ∀ y ∈ g1_4, y ∉ g1_8 := fun y hy e => d1_4 y hy (by simp [e])
  have djs04_9 : ∀ y ∈ g1_4, y ∉ g1_9 := fun y hy e => d1_4 y hy (by simp [e])
  have djs04_10 : ∀ y ∈ g1_4, y ∉ g1_10 := fun y hy e => d1_4 y hy (by simp [e])
  have djs04_11 : ∀ y ∈ g1_4, y ∉ g1_11 := fun y hy e => d1_4 y hy (by simp [e])
  have djs04_12 : ∀ y ∈ g1_4, y ∉ g1_12 := fun y hy e => d1_4 y hy (by simp [e])
  have djs04_14 : ∀ y ∈ g1_4, y ∉ g1_14 := fun y hy e => d1_4 y hy (by simp [e])
  have djs05_6 : ∀ y ∈ g1_5, y ∉ g1_6 := fun y hy e => d1_5 y hy (by simp [e])
  have djs05_7 : ∀ y ∈ g1_5, y ∉ g1_7 := fun y hy e => d1_5 y hy (by simp [e])
  have djs05_8 : ∀ y ∈ g1_5, y ∉ g1_8 := fun y hy e => d1_5 y hy (by simp [e])
  have djs05_9 : ∀ y ∈ g1_5, y ∉ g1_9 := fun y hy e => d1_5 y hy (by simp [e])
  have djs05_10 : ∀ y ∈ g1_5, y ∉ g1_10 := fun y hy e => d1_5 y hy (by simp [e])
  have djs05_11 : ∀ y ∈ g1_5, y ∉ g1_11 := fun y hy e => d1_5 y hy (by simp [e])
  have djs05_12 : ∀ y ∈ g1_5, y ∉ g1_12 := fun y hy e => d1_5 y hy (by simp [e])
  have djs05_14 : ∀ y ∈ g1_5, y ∉ g1_14 := fun y hy e => d1_5 y hy (by simp [e])
  have djs06_7 : ∀ y ∈ g1_6, y ∉ g1_7 := fun y hy e => d1_6 y hy (by simp [e])
  have djs06_8 : ∀ y ∈ g1_6, y ∉ g1_8 := fun y hy e => d1_6 y hy (by simp [e])
  have djs06_9 : ∀ y ∈ g1_6, y ∉ g1_9 := fun y hy e => d1_6 y hy (by simp [e])
  have djs06_10 : ∀ y ∈ g1_6, y ∉ g1_10 := fun y hy e => d1_6 y hy (by simp [e])
  have djs06_11 : ∀ y ∈ g1_6, y ∉ g1_11 := fun y hy e => d1_6 y hy (by simp [e])
  have djs06_12 : ∀ y ∈ g1_6, y ∉ g1_12 := fun y hy e => d1_6 y hy (by simp [e])
  have djs06_14 : ∀ y ∈ g1_6, y ∉ g1_14 := fun y hy e => d1_6 y hy (by simp [e])
  have djs07_8 : ∀ y ∈ g1_7, y ∉ g1_8 := fun y hy e => d1_7 y hy (by simp [e])
  have djs07_9 : ∀ y ∈ g1_7, y ∉ g1_9 := fun y hy e => d1_7 y hy (by simp [e])
  have djs07_10 : ∀ y ∈ g1_7, y ∉ g1_10 := fun y hy e => d1_7 y hy (by simp [e])
  have djs07_11 : ∀ y ∈ g1_7, y ∉ g1_11 := fun y hy e => d1_7 y hy (by simp [e])
  have djs07_12 : ∀ y ∈ g1_7, y ∉ g1_12 := fun y hy e => d1_7 y hy (by simp [e])
  have djs07_14 : ∀ y ∈ g1_7, y ∉ g1_14 := fun y hy e => d1_7 y hy (by simp [e])
  have djs08_9 : ∀ y ∈ g1_8, y ∉ g1_9 := fun y hy e => d1_8 y hy (by simp [e])
  have djs08_10 : ∀ y ∈ g1_8, y ∉ g1_10 := fun y hy e => d1_8 y hy (by simp [e])
  have djs08_11 : ∀ y ∈ g1_8, y ∉ g1_11 := fun y hy e => d1_8 y hy (by simp [e])
  have djs08_12 : ∀ y ∈ g1_8, y ∉ g1_12 := fun y hy e => d1_8 y hy (by simp [e])
  have djs08_14 : ∀ y ∈ g1_8, y ∉ g1_14 := fun y hy e => d1_8 y hy (by simp [e])
  have djs09_10 : ∀ y ∈ g1_9, y ∉ g1_10 := fun y hy e => d1_9 y hy (by simp [e])
  have djs09_11 : ∀ y ∈ g1_9, y ∉ g1_11 := fun y hy e => d1_9 y hy (by simp [e])
  have djs09_12 : ∀ y ∈ g1_9, y ∉ g1_12 := fun y hy e => d1_9 y hy (by simp [e])
  have djs09_14 : ∀ y ∈ g1_9, y ∉ g1_14 := fun y hy e => d1_9 y hy (by simp [e])
  have djs010_11 : ∀ y ∈ g1_10, y ∉ g1_11 := fun y hy e => d1_10 y hy (by simp [e])
  have djs010_12 : ∀ y ∈ g1_10, y ∉ g1_12 := fun y hy e => d1_10 y hy (by simp [e])
  have djs010_14 : ∀ y ∈ g1_10, y ∉ g1_14 := fun y hy e => d1_10 y hy (by simp [e])
  have djs011_12 : ∀ y ∈ g1_11, y ∉ g1_12 := fun y hy e => d1_11 y hy (by simp [e])
  have djs011_14 : ∀ y ∈ g1_11, y ∉ g1_14 := fun y hy e => d1_11 y hy (by simp [e])
  have djs012_14 : ∀ y ∈ g1_12, y ∉ g1_14 := fun y hy e => d1_12 y hy (by simp [e])
  clear p1_0 ov1_0 d1_0 p1_1 ov1_1 d1_1 p1_2 ov1_2 d1_2 p1_3 ov1_3 d1_3 p1_4 ov1_4 d1_4 p1_5 ov1_5 d1_5 p1_6 ov1_6 d1_6 p1_7 ov1_7 d1_7 p1_8 ov1_8 d1_8 p1_9 ov1_9 d1_9 p1_10 ov1_10 d1_10 p1_11 ov1_11 d1_11 p1_12 ov1_12 d1_12 p1_13 ov1_13 d1_13 p1_14 ov1_14 d1_14 ov1 iv1 iw1
  as_aux_lemma =>
   go_wp2_with fail
   refine (HI.out _   ).mono ?_
   rintro e w2 ⟨ag03, cg03, ag04, cg04, ag05, cg05, ag06, cg06, ag07, cg07, ag08, cg08, ag09, cg09, ag010, cg010, ag011, cg011, ag012, cg012, ag014, cg014, fg0, rfl, hb2, ov2, iv2⟩
   have hx2 : Below w1.heap.size w1 (w1.alloc (.cells #[.int .i64 R.plan.terrain.step, .int .i64 R.plan.terrain.width, .int .i64 R.plan.terrain.height, .slice as03 R.plan.terrain.heights.length cs03, .slice as04 R.plan.terrain.clutter.length cs04, .slice as05 R.plan.network.sites.length cs05, .slice as06 R.plan.network.sectors.length cs06, .slice as07 R.plan.network.antennas.length cs07, .slice as08 R.plan.network.radios.length cs08, .slice as09 R.plan.bands.length cs09, .slice as010 R.plan.licences.length cs010, .slice as011 R.plan.protected_.length cs011, .slice as012 R.plan.apart.length cs012, .int .i64 R.plan.day, .slice as014 R.requests.length cs014] 39)) := ((Below.refl _ _).alloc (Nat.le_refl _) _)
   have hbb2 : Below w1.heap.size w1 w2 := hx2.trans (hb2.mono (by first | (simp; done) | (simp; omega)))
   have z2 := hbb2.size
   obtain ⟨qS02, _, yS02⟩ := bcellAt hb2 (b := w1.heap.size) (by first | omega | (simp; done) | (simp; omega))
   have BB2 := Lib.hid (BB1.out.trans (hbb2.mono (by omega)))
   have os03_2 := Lib.hid (os03_1.out.below is03 (by omega) hbb2)
   have os04_2 := Lib.hid (os04_1.out.below is04 (by omega) hbb2)
   have os05_2 := Lib.hid (os05_1.out.below is05 (by omega) hbb2)
   have os06_2 := Lib.hid (os06_1.out.below is06 (by omega) hbb2)
   have os07_2 := Lib.hid (os07_1.out.below is07 (by omega) hbb2)
   have os08_2 := Lib.hid (os08_1.out.below is08 (by omega) hbb2)
   have os09_2 := Lib.hid (os09_1.out.below is09 (by omega) hbb2)
   have os010_2 := Lib.hid (os010_1.out.below is010 (by omega) hbb2)
   have os011_2 := Lib.hid (os011_1.out.below is011 (by omega) hbb2)
   have os012_2 := Lib.hid (os012_1.out.below is012 (by omega) hbb2)
   have os014_2 := Lib.hid (os014_1.out.below is014 (by omega) hbb2)
   clear hx2
   clear hb2 hbb2
   obtain ⟨g2_0, r2_0, e2_0, p2_0, ov2_0, d2_0⟩ := OwnV.uncons ov2
   obtain ⟨_, hz2_0⟩ := Rep_lit.1 p2_0.rep
   subst hz2_0
   obtain ⟨g2_1, r2_1, e2_1, p2_1, ov2_1, d2_1⟩ := OwnV.uncons ov2_0
   obtain ⟨_, hz2_1⟩ := Rep_lit.1 p2_1.rep
   subst hz2_1
   obtain ⟨g2_2, r2_2, e2_2, p2_2, ov2_2, d2_2⟩ := OwnV.uncons ov2_1
   obtain ⟨_, hz2_2⟩ := Rep_lit.1 p2_2.rep
   subst hz2_2
   obtain ⟨g2_3, r2_3, e2_3, p2_3, ov2_3, d2_3⟩ := OwnV.uncons ov2_2
   obtain ⟨g2_4, r2_4, e2_4, p2_4, ov2_4, d2_4⟩ := OwnV.uncons ov2_3
   obtain ⟨g2_5, r2_5, e2_5, p2_5, ov2_5, d2_5⟩ := OwnV.uncons ov2_4
   obtain ⟨g2_6, r2_6, e2_6, p2_6, ov2_6, d2_6⟩ := OwnV.uncons ov2_5
   obtain ⟨g2_7, r2_7, e2_7, p2_7, ov2_7, d2_7⟩ := OwnV.uncons ov2_6
   obtain ⟨g2_8, r2_8, e2_8, p2_8, ov2_8, d2_8⟩ := OwnV.uncons ov2_7
   obtain ⟨g2_9, r2_9, e2_9, p2_9, ov2_9, d2_9⟩ := OwnV.uncons ov2_8
   obtain ⟨g2_10, r2_10, e2_10, p2_10, ov2_10, d2_10⟩ := OwnV.uncons ov2_9
   obtain ⟨g2_11, r2_11, e2_11, p2_11, ov2_11, d2_11⟩ := OwnV.uncons ov2_10
   obtain ⟨g2_12, r2_12, e2_12, p2_12, ov2_12, d2_12⟩ := OwnV.uncons ov2_11
   obtain ⟨g2_13, r2_13, e2_13, p2_13, ov2_13, d2_13⟩ := OwnV.uncons ov2_12
   obtain ⟨_, hz2_13⟩ := Rep_lit.1 p2_13.rep
   subst hz2_13
   obtain ⟨g2_14, r2_14, e2_14, p2_14, ov2_14, d2_14⟩ := OwnV.uncons ov2_13
   have iw2 := iv2.mono (lo' := w1.heap.size + 1) (by first | omega | (simp; done) | (simp; omega)) (Nat.le_refl _)
   have hnil2 := ov2_14.rep
   change r2_14 = [] at hnil2
   subst hnil2
   subst e2_14
   subst e2_13
   subst e2_12
   subst e2_11
   subst e2_10
   subst e2_9
   subst e2_8
   subst e2_7
   subst e2_6
   subst e2_5
   subst e2_4
   subst e2_3
   subst e2_2
   subst e2_1
   subst e2_0
   have ig03 : In _ _ g2_3 := fun y hy => iw2 y (by simp [hy])
   have og03_2 := Lib.hid p2_3
   have ig04 : In _ _ g2_4 := fun y hy => iw2 y (by simp [hy])
   have og04_2 := Lib.hid p2_4
   have ig05 : In _ _ g2_5 := fun y hy => iw2 y (by simp [hy])
   have og05_2 := Lib.hid p2_5
   have ig06 : In _ _ g2_6 := fun y hy => iw2 y (by simp [hy])
   have og06_2 := Lib.hid p2_6
   have ig07 : In _ _ g2_7 := fun y hy => iw2 y (by simp [hy])
   have og07_2 := Lib.hid p2_7
   have ig08 : In _ _ g2_8 := fun y hy => iw2 y (by simp [hy])
   have og08_2 := Lib.hid p2_8
   have ig09 : In _ _ g2_9 := fun y hy => iw2 y (by simp [hy])
   have og09_2 := Lib.hid p2_9
   have ig010 : In _ _ g2_10 := fun y hy => iw2 y (by simp [hy])
   have og010_2 := Lib.hid p2_10
   have ig011 : In _ _ g2_11 := fun y hy => iw2 y (by simp [hy])
   have og011_2 := Lib.hid p2_11
   have ig012 : In _ _ g2_12 := fun y hy => iw2 y (by simp [hy])
   have og012_2 := Lib.hid p2_12
   have ig014 : In _ _ g2_14 := fun y hy => iw2 y (by simp [hy])
   have og014_2 := Lib.hid p2_14
   have djg03_4 : ∀ y ∈ g2_3, y ∉ g2_4 := fun y hy e => d2_3 y hy (by simp [e])
   have djg03_5 : ∀ y ∈ g2_3, y ∉ g2_5 := fun y hy e => d2_3 y hy (by simp [e])
   have djg03_6 : ∀ y ∈ g2_3, y ∉ g2_6 := fun y hy e => d2_3 y hy (by simp [e])
   have djg03_7 : ∀ y ∈ g2_3, y ∉ g2_7 := fun y hy e => d2_3 y hy (by simp [e])
   have djg03_8 : ∀ y ∈ g2_3, y ∉ g2_8 := fun y hy e => d2_3 y hy (by simp [e])
   have djg03_9 : ∀ y ∈ g2_3, y ∉ g2_9 := fun y hy e => d2_3 y hy (by simp [e])
   have djg03_10 : ∀ y ∈ g2_3, y ∉ g2_10 := fun y hy e => d2_3 y hy (by simp [e])
   have djg03_11 : ∀ y ∈ g2_3, y ∉ g2_11 := fun y hy e => d2_3 y hy (by simp [e])
   have djg03_12 : ∀ y ∈ g2_3, y ∉ g2_12 := fun y hy e => d2_3 y hy (by simp [e])
   have djg03_14 : ∀ y ∈ g2_3, y ∉ g2_14 := fun y hy e => d2_3 y hy (by simp [e])
   have djg04_5 : ∀ y ∈ g2_4, y ∉ g2_5 := fun y hy e => d2_4 y hy (by simp [e])
   have djg04_6 : ∀ y ∈ g2_4, y ∉ g2_6 := fun y hy e => d2_4 y hy (by simp [e])
   have djg04_7 : ∀ y ∈ g2_4, y ∉ g2_7 := fun y hy e => d2_4 y hy (by simp [e])
   have djg04_8 : ∀ y ∈ g2_4, y ∉ g2_8 := fun y hy e => d2_4 y hy (by simp [e])
   have djg04_9 : ∀ y ∈ g2_4, y ∉ g2_9 := fun y hy e => d2_4 y hy (by simp [e])
   have djg04_10 : ∀ y ∈ g2_4, y ∉ g2_10 := fun y hy e => d2_4 y hy (by simp [e])
   have djg04_11 : ∀ y ∈ g2_4, y ∉ g2_11 := fun y hy e => d2_4 y hy (by simp [e])
   have djg04_12 : ∀ y ∈ g2_4, y ∉ g2_12 := fun y hy e => d2_4 y hy (by simp [e])
   have djg04_14 : ∀ y ∈ g2_4, y ∉ g2_14 := fun y hy e => d2_4 y hy (by simp [e])
   have djg05_6 : ∀ y ∈ g2_5, y ∉ g2_6 := fun y hy e => d2_5 y hy (by simp [e])
   have djg05_7 : ∀ y ∈ g2_5, y ∉ g2_7 := fun y hy e => d2_5 y hy (by simp [e])
   have djg05_8 : ∀ y ∈ g2_5, y ∉ g2_8 := fun y hy e => d2_5 y hy (by simp [e])
   have djg05_9 : ∀ y ∈ g2_5, y ∉ g2_9 := fun y hy e => d2_5 y hy (by simp [e])
   have djg05_10 : ∀ y ∈ g2_5, y ∉ g2_10 := fun y hy e => d2_5 y hy (by simp [e])
   have djg05_11 : ∀ y ∈ g2_5, y ∉ g2_11 := fun y hy e => d2_5 y hy (by simp [e])
   have djg05_12 : ∀ y ∈ g2_5, y ∉ g2_12 := fun y hy e => d2_5 y hy (by simp [e])
   have djg05_14 : ∀ y ∈ g2_5, y ∉ g2_14 := fun y hy e => d2_5 y hy (by simp [e])
   have djg06_7 : ∀ y ∈ g2_6, y ∉ g2_7 := fun y hy e => d2_6 y hy (by simp [e])
   have djg06_8 : ∀ y ∈ g2_6, y ∉ g2_8 := fun y hy e => d2_6 y hy (by simp [e])
   have djg06_9 : ∀ y ∈ g2_6, y ∉ g2_9 := fun y hy e => d2_6 y hy (by simp [e])
   have djg06_10 : ∀ y ∈ g2_6, y ∉ g2_10 := fun y hy e => d2_6 y hy (by simp [e])
   have djg06_11 : ∀ y ∈ g2_6, y ∉ g2_11 := fun y hy e => d2_6 y hy (by simp [e])
   have djg06_12 : ∀ y ∈ g2_6, y ∉ g2_12 := fun y hy e => d2_6 y hy (by simp [e])
   have djg06_14 : ∀ y ∈ g2_6, y ∉ g2_14 := fun y hy e => d2_6 y hy (by simp [e])
   have djg07_8 : ∀ y ∈ g2_7, y ∉ g2_8 := fun y hy e => d2_7 y hy (by simp [e])
   have djg07_9 : ∀ y ∈ g2_7, y ∉ g2_9 := fun y hy e => d2_7 y hy (by simp [e])
   have djg07_10 : ∀ y ∈ g2_7, y ∉ g2_10 := fun y hy e => d2_7 y hy (by simp [e])
   have djg07_11 : ∀ y ∈ g2_7, y ∉ g2_11 := fun y hy e => d2_7 y hy (by simp [e])
   have djg07_12 : ∀ y ∈ g2_7, y ∉ g2_12 := fun y hy e => d2_7 y hy (by simp [e])
   have djg07_14 : ∀ y ∈ g2_7, y ∉ g2_14 := fun y hy e => d2_7 y hy (by simp [e])
   have djg08_9 : ∀ y ∈ g2_8, y ∉ g2_9 := fun y hy e => d2_8 y hy (by simp [e])
   have djg08_10 : ∀ y ∈ g2_8, y ∉ g2_10 := fun y hy e => d2_8 y hy (by simp [e])
   have djg08_11 : ∀ y ∈ g2_8, y ∉ g2_11 := fun y hy e => d2_8 y hy (by simp [e])
   have djg08_12 : ∀ y ∈ g2_8, y ∉ g2_12 := fun y hy e => d2_8 y hy (by simp [e])
   have djg08_14 : ∀ y ∈ g2_8, y ∉ g2_14 := fun y hy e => d2_8 y hy (by simp [e])
   have djg09_10 : ∀ y ∈ g2_9, y ∉ g2_10 := fun y hy e => d2_9 y hy (by simp [e])
   have djg09_11 : ∀ y ∈ g2_9, y ∉ g2_11 := fun y hy e => d2_9 y hy (by simp [e])
   have djg09_12 : ∀ y ∈ g2_9, y ∉ g2_12 := fun y hy e => d2_9 y hy (by simp [e])
   have djg09_14 : ∀ y ∈ g2_9, y ∉ g2_14 := fun y hy e => d2_9 y hy (by simp [e])
   have djg010_11 : ∀ y ∈ g2_10, y ∉ g2_11 := fun y hy e => d2_10 y hy (by simp [e])
   have djg010_12 : ∀ y ∈ g2_10, y ∉ g2_12 := fun y hy e => d2_10 y hy (by simp [e])
   have djg010_14 : ∀ y ∈ g2_10, y ∉ g2_14 := fun y hy e => d2_10 y hy (by simp [e])
   have djg011_12 : ∀ y ∈ g2_11, y ∉ g2_12 := fun y hy e => d2_11 y hy (by simp [e])
   have djg011_14 : ∀ y ∈ g2_11, y ∉ g2_14 := fun y hy e => d2_11 y hy (by simp [e])
   have djg012_14 : ∀ y ∈ g2_12, y ∉ g2_14 := fun y hy e => d2_12 y hy (by simp [e])
   clear p2_0 ov2_0 d2_0 p2_1 ov2_1 d2_1 p2_2 ov2_2 d2_2 p2_3 ov2_3 d2_3 p2_4 ov2_4 d2_4 p2_5 ov2_5 d2_5 p2_6 ov2_6 d2_6 p2_7 ov2_7 d2_7 p2_8 ov2_8 d2_8 p2_9 ov2_9 d2_9 p2_10 ov2_10 d2_10 p2_11 ov2_11 d2_11 p2_12 ov2_12 d2_12 p2_13 ov2_13 d2_13 p2_14 ov2_14 d2_14 ov2 iv2 iw2
   as_aux_lemma =>
    go_wp2_with fail
    refine ((eq_Desk R _ _ _ _ _ _ _ _ _ _ _ _ _ _ _ _ _ _ _ _ _ _ (w2.alloc (.cells #[.int .i64 R.plan.terrain.step, .int .i64 R.plan.terrain.width, .int .i64 R.plan.terrain.height, .slice ag03 R.plan.terrain.heights.length cg03, .slice ag04 R.plan.terrain.clutter.length cg04, .slice ag05 R.plan.network.sites.length cg05, .slice ag06 R.plan.network.sectors.length cg06, .slice ag07 R.plan.network.antennas.length cg07, .slice ag08 R.plan.network.radios.length cg08, .slice ag09 R.plan.bands.length cg09, .slice ag010 R.plan.licences.length cg010, .slice ag011 R.plan.protected_.length cg011, .slice ag012 R.plan.apart.length cg012, .int .i64 R.plan.day, .slice ag014 R.requests.length cg014] 39)).heap.size _ (((og03_2.out.below ig03 (by omega) ((Below.refl _ _).alloc (Nat.le_refl _) _)).rd ig03).mono (by first | omega | (simp; done) | (simp; omega))) (((os03_2.out.below is03 (by omega) ((Below.refl _ _).alloc (Nat.le_refl _) _)).rd is03).mono (by first | omega | (simp; done) | (simp; omega))) (((og04_2.out.below ig04 (by omega) ((Below.refl _ _).alloc (Nat.le_refl _) _)).rd ig04).mono (by first | omega | (simp; done) | (simp; omega))) (((os04_2.out.below is04 (by omega) ((Below.refl _ _).alloc (Nat.le_refl _) _)).rd is04).mono (by first | omega | (simp; done) | (simp; omega))) (((og05_2.out.below ig05 (by omega) ((Below.refl _ _).alloc (Nat.le_refl _) _)).rd ig05).mono (by first | omega | (simp; done) | (simp; omega))) (((os05_2.out.below is05 (by omega) ((Below.refl _ _).alloc (Nat.le_refl _) _)).rd is05).mono (by first | omega | (simp; done) | (simp; omega))) (((og06_2.out.below ig06 (by omega) ((Below.refl _ _).alloc (Nat.le_refl _) _)).rd ig06).mono (by first | omega | (simp; done) | (simp; omega))) (((os06_2.out.below is06 (by omega) ((Below.refl _ _).alloc (Nat.le_refl _) _)).rd is06).mono (by first | omega | (simp; done) | (simp; omega))) (((og07_2.out.below ig07 (by omega) ((Below.refl _ _).alloc (Nat.le_refl _) _)).rd ig07).mono (by first | omega | (simp; done) | (simp; omega))) (((os07_2.out.below is07 (by omega) ((Below.refl _ _).alloc (Nat.le_refl _) _)).rd is07).mono (by first | omega | (simp; done) | (simp; omega))) (((og08_2.out.below ig08 (by omega) ((Below.refl _ _).alloc (Nat.le_refl _) _)).rd ig08).mono (by first | omega | (simp; done) | (simp; omega))) (((os08_2.out.below is08 (by omega) ((Below.refl _ _).alloc (Nat.le_refl _) _)).rd is08).mono (by first | omega | (simp; done) | (simp; omega))) (((og09_2.out.below ig09 (by omega) ((Below.refl _ _).alloc (Nat.le_refl _) _)).rd ig09).mono (by first | omega | (simp; done) | (simp; omega))) (((os09_2.out.below is09 (by omega) ((Below.refl _ _).alloc (Nat.le_refl _) _)).rd is09).mono (by first | omega | (simp; done) | (simp; omega))) (((og010_2.out.below ig010 (by omega) ((Below.refl _ _).alloc (Nat.le_refl _) _)).rd ig010).mono (by first | omega | (simp; done) | (simp; omega))) (((os010_2.out.below is010 (by omega) ((Below.refl _ _).alloc (Nat.le_refl _) _)).rd is010).mono (by first | omega | (simp; done) | (simp; omega))) (((og011_2.out.below ig011 (by omega) ((Below.refl _ _).alloc (Nat.le_refl _) _)).rd ig011).mono (by first | omega | (simp; done) | (simp; omega))) (((os011_2.out.below is011 (by omega) ((Below.refl _ _).alloc (Nat.le_refl _) _)).rd is011).mono (by first | omega | (simp; done) | (simp; omega))) (((og012_2.out.below ig012 (by omega) ((Below.refl _ _).alloc (Nat.le_refl _) _)).rd ig012).mono (by first | omega | (simp; done) | (simp; omega))) (((os012_2.out.below is012 (by omega) ((Below.refl _ _).alloc (Nat.le_refl _) _)).rd is012).mono (by first | omega | (simp; done) | (simp; omega))) (((og014_2.out.below ig014 (by omega) ((Below.refl _ _).alloc (Nat.le_refl _) _)).rd ig014).mono (by first | omega | (simp; done) | (simp; omega))) (((os014_2.out.below is014 (by omega) ((Below.refl _ _).alloc (Nat.le_refl _) _)).rd is014).mono (by first | omega | (simp; done) | (simp; omega))) (Nat.le_refl _) (by omega))).mono ?_
    rintro e w3 ⟨rfl, hb3⟩
    have hx3 : Below w2.heap.size w2 (w2.alloc (.cells #[.int .i64 R.plan.terrain.step, .int .i64 R.plan.terrain.width, .int .i64 R.plan.terrain.height, .slice ag03 R.plan.terrain.heights.length cg03, .slice ag04 R.plan.terrain.clutter.length cg04, .slice ag05 R.plan.network.sites.length cg05, .slice ag06 R.plan.network.sectors.length cg06, .slice ag07 R.plan.network.antennas.length cg07, .slice ag08 R.plan.network.radios.length cg08, .slice ag09 R.plan.bands.length cg09, .slice ag010 R.plan.licences.length cg010, .slice ag011 R.plan.protected_.length cg011, .slice ag012 R.plan.apart.length cg012, .int .i64 R.plan.day, .slice ag014 R.requests.length cg014] 39)) := ((Below.refl _ _).alloc (Nat.le_refl _) _)
    have hbb3 : Below w2.heap.size w2 w3 := hx3.trans (hb3.mono (by first | (simp; done) | (simp; omega)))
    have z3 := hbb3.size
    obtain ⟨qS03, _, yS03⟩ := bcellAt hb3 (b := w1.heap.size) (by first | omega | (simp; done) | (simp; omega))
    obtain ⟨qG03, _, yG03⟩ := bcellAt hb3 (b := w2.heap.size) (by first | omega | (simp; done) | (simp; omega))
    have BB3 := Lib.hid (BB2.out.trans (hbb3.mono (by omega)))
    have os03_3 := Lib.hid (os03_2.out.below is03 (by omega) hbb3)
    have os04_3 := Lib.hid (os04_2.out.below is04 (by omega) hbb3)
    have os05_3 := Lib.hid (os05_2.out.below is05 (by omega) hbb3)
    have os06_3 := Lib.hid (os06_2.out.below is06 (by omega) hbb3)
    have os07_3 := Lib.hid (os07_2.out.below is07 (by omega) hbb3)
    have os08_3 := Lib.hid (os08_2.out.below is08 (by omega) hbb3)
    have os09_3 := Lib.hid (os09_2.out.below is09 (by omega) hbb3)
    have os010_3 := Lib.hid (os010_2.out.below is010 (by omega) hbb3)
    have os011_3 := Lib.hid (os011_2.out.below is011 (by omega) hbb3)
    have os012_3 := Lib.hid (os012_2.out.below is012 (by omega) hbb3)
    have os014_3 := Lib.hid (os014_2.out.below is014 (by omega) hbb3)
    have og03_3 := Lib.hid (og03_2.out.below ig03 (by omega) hbb3)
    have og04_3 := Lib.hid (og04_2.out.below ig04 (by omega) hbb3)
    have og05_3 := Lib.hid (og05_2.out.below ig05 (by omega) hbb3)
    have og06_3 := Lib.hid (og06_2.out.below ig06 (by omega) hbb3)
    have og07_3 := Lib.hid (og07_2.out.below ig07 (by omega) hbb3)
    have og08_3 := Lib.hid (og08_2.out.below ig08 (by omega) hbb3)
    have og09_3 := Lib.hid (og09_2.out.below ig09 (by omega) hbb3)
    have og010_3 := Lib.hid (og010_2.out.below ig010 (by omega) hbb3)
    have og011_3 := Lib.hid (og011_2.out.below ig011 (by omega) hbb3)
    have og012_3 := Lib.hid (og012_2.out.below ig012 (by omega) hbb3)
    have og014_3 := Lib.hid (og014_2.out.below ig014 (by omega) hbb3)
    clear hx3
    clear hb3 hbb3
    as_aux_lemma =>
     go_wp2_with fail
     refine (mark_Desk R _ _ _ _ _ _ _ _ _ _ _ g2_3 g2_4 g2_5 g2_6 g2_7 g2_8 g2_9 g2_10 g2_11 g2_12 g2_14 (1) _ _ _ _ _ _ _ _ _ _ _ _ _ _ _ _ _ _ _ _ _ _ _ og03_3.out ig03 (by first | omega | (simp; done) | (simp; omega)) og04_3.out ig04 (by first | omega | (simp; done) | (simp; omega)) og05_3.out ig05 (by first | omega | (simp; done) | (simp; omega)) og06_3.out ig06 (by first | omega | (simp; done) | (simp; omega)) og07_3.out ig07 (by first | omega | (simp; done) | (simp; omega)) og08_3.out ig08 (by first | omega | (simp; done) | (simp; omega)) og09_3.out ig09 (by first | omega | (simp; done) | (simp; omega)) og010_3.out ig010 (by first | omega | (simp; done) | (simp; omega)) og011_3.out ig011 (by first | omega | (simp; done) | (simp; omega)) og012_3.out ig012 (by first | omega | (simp; done) | (simp; omega)) og014_3.out ig014 (by first | omega | (simp; done) | (simp; omega)) djg03_4 djg03_5 djg03_6 djg03_7 djg03_8 djg03_9 djg03_10 djg03_11 djg03_12 djg03_14 djg04_5 djg04_6 djg04_7 djg04_8 djg04_9 djg04_10 djg04_11 djg04_12 djg04_14 djg05_6 djg05_7 djg05_8 djg05_9 djg05_10 djg05_11 djg05_12 djg05_14 djg06_7 djg06_8 djg06_9 djg06_10 djg06_11 djg06_12 djg06_14 djg07_8 djg07_9 djg07_10 djg07_11 djg07_12 djg07_14 djg08_9 djg08_10 djg08_11 djg08_12 djg08_14 djg09_10 djg09_11 djg09_12 djg09_14 djg010_11 djg010_12 djg010_14 djg011_12 djg011_14 djg012_14 (by omega) (by omega) (by omega)).mono ?_
     rintro e w4 ⟨rfl, mg03, mg04, mg05, mg06, mg07, mg08, mg09, mg010, mg011, mg012, mg014, hc4⟩
     have hcc4 : Chg (g2_3 ++ g2_4 ++ g2_5 ++ g2_6 ++ g2_7 ++ g2_8 ++ g2_9 ++ g2_10 ++ g2_11 ++ g2_12 ++ g2_14) w3 w4 := hc4
     have z4 := hcc4.size
     have IA4 := Lib.hid ((((((((((ig03.append ig04).append ig05).append ig06).append ig07).append ig08).append ig09).append ig010).append ig011).append ig012).append ig014)
     have hkS04 := hc4.block (w1.heap.size) (by first | omega | (simp; done) | (simp; omega)) (fun e => by have h2 := IA4.out _ e; omega)
     have qS04 : ∀ o, w4.cell? ⟨w1.heap.size, o, none⟩ = _ := fun o => World.cell?_of_block (a := ⟨w1.heap.size, o, none⟩) hkS04
     have yS04 : w1.heap.size < w4.heap.size := by first | omega | (have := hc4.size; simp at this; omega)
     clear hkS04
     have hkG04 := hc4.block (w2.heap.size) (by first | omega | (simp; done) | (simp; omega)) (fun e => by have h2 := IA4.out _ e; omega)
     have qG04 : ∀ o, w4.cell? ⟨w2.heap.size, o, none⟩ = _ := fun o => World.cell?_of_block (a := ⟨w2.heap.size, o, none⟩) hkG04
     have yG04 : w2.heap.size < w4.heap.size := by first | omega | (have := hc4.size; simp at this; omega)
     clear hkG04
     have BB4 := Lib.hid (BB3.out.trans (hcc4.below (by omega) (fun x hx => by have h2 := IA4.out x hx; omega)))
     have os03_4 := Lib.hid (os03_3.out.chg is03 (by omega) hcc4 (fun x hx e => by have hx0 := is03 x hx; have h2 := IA4.out x e; omega))
     have os04_4 := Lib.hid (os04_3.out.chg is04 (by omega) hcc4 (fun x hx e => by have hx0 := is04 x hx; have h2 := IA4.out x e; omega))
     have os05_4 := Lib.hid (os05_3.out.chg is05 (by omega) hcc4 (fun x hx e => by have hx0 := is05 x hx; have h2 := IA4.out x e; omega))
     have os06_4 := Lib.hid (os06_3.out.chg is06 (by omega) hcc4 (fun x hx e => by have hx0 := is06 x hx; have h2 := IA4.out x e; omega))
     have os07_4 := Lib.hid (os07_3.out.chg is07 (by omega) hcc4 (fun x hx e => by have hx0 := is07 x hx; have h2 := IA4.out x e; omega))
     have os08_4 := Lib.hid (os08_3.out.chg is08 (by omega) hcc4 (fun x hx e => by have hx0 := is08 x hx; have h2 := IA4.out x e; omega))
     have os09_4 := Lib.hid (os09_3.out.chg is09 (by omega) hcc4 (fun x hx e => by have hx0 := is09 x hx; have h2 := IA4.out x e; omega))
     have os010_4 := Lib.hid (os010_3.out.chg is010 (by omega) hcc4 (fun x hx e => by have hx0 := is010 x hx; have h2 := IA4.out x e; omega))
     have os011_4 := Lib.hid (os011_3.out.chg is011 (by omega) hcc4 (fun x hx e => by have hx0 := is011 x hx; have h2 := IA4.out x e; omega))
     have os012_4 := Lib.hid (os012_3.out.chg is012 (by omega) hcc4 (fun x hx e => by have hx0 := is012 x hx; have h2 := IA4.out x e; omega))
     have os014_4 := Lib.hid (os014_3.out.chg is014 (by omega) hcc4 (fun x hx e => by have hx0 := is014 x hx; have h2 := IA4.out x e; omega))
     clear hcc4
     have kog03_4 := Lib.hid mg03
     clear mg03
     have kog04_4 := Lib.hid mg04
     clear mg04
     have kog05_4 := Lib.hid mg05
     clear mg05
     have kog06_4 := Lib.hid mg06
     clear mg06
     have kog07_4 := Lib.hid mg07
     clear mg07
     have kog08_4 := Lib.hid mg08
     clear mg08
     have kog09_4 := Lib.hid mg09
     clear mg09
     have kog010_4 := Lib.hid mg010
     clear mg010
     have kog011_4 := Lib.hid mg011
     clear mg011
     have kog012_4 := Lib.hid mg012
     clear mg012
     have kog014_4 := Lib.hid mg014
     clear mg014
     as_aux_lemma =>
      go_wp2_with fail
      refine (held_Desk R _ _ _ _ _ _ _ _ _ _ _ w4.heap.size (1) _ ((kog03_4.out.rd ig03).mono (by omega)) ((kog04_4.out.rd ig04).mono (by omega)) ((kog05_4.out.rd ig05).mono (by omega)) ((kog06_4.out.rd ig06).mono (by omega)) ((kog07_4.out.rd ig07).mono (by omega)) ((kog08_4.out.rd ig08).mono (by omega)) ((kog09_4.out.rd ig09).mono (by omega)) ((kog010_4.out.rd ig010).mono (by omega)) ((kog011_4.out.rd ig011).mono (by omega)) ((kog012_4.out.rd ig012).mono (by omega)) ((kog014_4.out.rd ig014).mono (by omega)) (Nat.le_refl _) (by omega) (by omega) (by omega)).mono ?_
      rintro e w5 ⟨rfl, hb5⟩
      have hbb5 : Below w4.heap.size w4 w5 := hb5
      have z5 := hbb5.size
      obtain ⟨qS05, _, yS05⟩ := bcellAt hb5 (b := w1.heap.size) (by first | omega | (simp; done) | (simp; omega))
      obtain ⟨qG05, _, yG05⟩ := bcellAt hb5 (b := w2.heap.size) (by first | omega | (simp; done) | (simp; omega))
      have BB5 := Lib.hid (BB4.out.trans (hbb5.mono (by omega)))
      have os03_5 := Lib.hid (os03_4.out.below is03 (by omega) hbb5)
      have os04_5 := Lib.hid (os04_4.out.below is04 (by omega) hbb5)
      have os05_5 := Lib.hid (os05_4.out.below is05 (by omega) hbb5)
      have os06_5 := Lib.hid (os06_4.out.below is06 (by omega) hbb5)
      have os07_5 := Lib.hid (os07_4.out.below is07 (by omega) hbb5)
      have os08_5 := Lib.hid (os08_4.out.below is08 (by omega) hbb5)
      have os09_5 := Lib.hid (os09_4.out.below is09 (by omega) hbb5)
      have os010_5 := Lib.hid (os010_4.out.below is010 (by omega) hbb5)
      have os011_5 := Lib.hid (os011_4.out.below is011 (by omega) hbb5)
      have os012_5 := Lib.hid (os012_4.out.below is012 (by omega) hbb5)
      have os014_5 := Lib.hid (os014_4.out.below is014 (by omega) hbb5)
      have kog03_5 := Lib.hid (kog03_4.out.below ig03 (by omega) hbb5)
      have kog04_5 := Lib.hid (kog04_4.out.below ig04 (by omega) hbb5)
      have kog05_5 := Lib.hid (kog05_4.out.below ig05 (by omega) hbb5)
      have kog06_5 := Lib.hid (kog06_4.out.below ig06 (by omega) hbb5)
      have kog07_5 := Lib.hid (kog07_4.out.below ig07 (by omega) hbb5)
      have kog08_5 := Lib.hid (kog08_4.out.below ig08 (by omega) hbb5)
      have kog09_5 := Lib.hid (kog09_4.out.below ig09 (by omega) hbb5)
      have kog010_5 := Lib.hid (kog010_4.out.below ig010 (by omega) hbb5)
      have kog011_5 := Lib.hid (kog011_4.out.below ig011 (by omega) hbb5)
      have kog012_5 := Lib.hid (kog012_4.out.below ig012 (by omega) hbb5)
      have kog014_5 := Lib.hid (kog014_4.out.below ig014 (by omega) hbb5)
      clear hbb5
      as_aux_lemma =>
       go_wp2_with fail
       refine (HI.out _   ).mono ?_
       rintro e w6 ⟨ah03, ch03, ah04, ch04, ah05, ch05, ah06, ch06, ah07, ch07, ah08, ch08, ah09, ch09, ah010, ch010, ah011, ch011, ah012, ch012, ah014, ch014, fh0, rfl, hb6, ov6, iv6⟩
       have hbb6 : Below w5.heap.size w5 w6 := hb6
       have z6 := hbb6.size
       obtain ⟨qS06, _, yS06⟩ := bcellAt hb6 (b := w1.heap.size) (by first | omega | (simp; done) | (simp; omega))
       obtain ⟨qG06, _, yG06⟩ := bcellAt hb6 (b := w2.heap.size) (by first | omega | (simp; done) | (simp; omega))
       have BB6 := Lib.hid (BB5.out.trans (hbb6.mono (by omega)))
       have os03_6 := Lib.hid (os03_5.out.below is03 (by omega) hbb6)
       have os04_6 := Lib.hid (os04_5.out.below is04 (by omega) hbb6)
       have os05_6 := Lib.hid (os05_5.out.below is05 (by omega) hbb6)
       have os06_6 := Lib.hid (os06_5.out.below is06 (by omega) hbb6)
       have os07_6 := Lib.hid (os07_5.out.below is07 (by omega) hbb6)
       have os08_6 := Lib.hid (os08_5.out.below is08 (by omega) hbb6)
       have os09_6 := Lib.hid (os09_5.out.below is09 (by omega) hbb6)
       have os010_6 := Lib.hid (os010_5.out.below is010 (by omega) hbb6)
       have os011_6 := Lib.hid (os011_5.out.below is011 (by omega) hbb6)
       have os012_6 := Lib.hid (os012_5.out.below is012 (by omega) hbb6)
       have os014_6 := Lib.hid (os014_5.out.below is014 (by omega) hbb6)
       have kog03_6 := Lib.hid (kog03_5.out.below ig03 (by omega) hbb6)
       have kog04_6 := Lib.hid (kog04_5.out.below ig04 (by omega) hbb6)
       have kog05_6 := Lib.hid (kog05_5.out.below ig05 (by omega) hbb6)
       have kog06_6 := Lib.hid (kog06_5.out.below ig06 (by omega) hbb6)
       have kog07_6 := Lib.hid (kog07_5.out.below ig07 (by omega) hbb6)
       have kog08_6 := Lib.hid (kog08_5.out.below ig08 (by omega) hbb6)
       have kog09_6 := Lib.hid (kog09_5.out.below ig09 (by omega) hbb6)
       have kog010_6 := Lib.hid (kog010_5.out.below ig010 (by omega) hbb6)
       have kog011_6 := Lib.hid (kog011_5.out.below ig011 (by omega) hbb6)
       have kog012_6 := Lib.hid (kog012_5.out.below ig012 (by omega) hbb6)
       have kog014_6 := Lib.hid (kog014_5.out.below ig014 (by omega) hbb6)
       clear hbb6
       obtain ⟨g6_0, r6_0, e6_0, p6_0, ov6_0, d6_0⟩ := OwnV.uncons ov6
       obtain ⟨_, hz6_0⟩ := Rep_lit.1 p6_0.rep
       subst hz6_0
       obtain ⟨g6_1, r6_1, e6_1, p6_1, ov6_1, d6_1⟩ := OwnV.uncons ov6_0
       obtain ⟨_, hz6_1⟩ := Rep_lit.1 p6_1.rep
       subst hz6_1
       obtain ⟨g6_2, r6_2, e6_2, p6_2, ov6_2, d6_2⟩ := OwnV.uncons ov6_1
       obtain ⟨_, hz6_2⟩ := Rep_lit.1 p6_2.rep
       subst hz6_2
       obtain ⟨g6_3, r6_3, e6_3, p6_3, ov6_3, d6_3⟩ := OwnV.uncons ov6_2
       obtain ⟨g6_4, r6_4, e6_4, p6_4, ov6_4, d6_4⟩ := OwnV.uncons ov6_3
       obtain ⟨g6_5, r6_5, e6_5, p6_5, ov6_5, d6_5⟩ := OwnV.uncons ov6_4
       obtain ⟨g6_6, r6_6, e6_6, p6_6, ov6_6, d6_6⟩ := OwnV.uncons ov6_5
       obtain ⟨g6_7, r6_7, e6_7, p6_7, ov6_7, d6_7⟩ := OwnV.uncons ov6_6
       obtain ⟨g6_8, r6_8, e6_8, p6_8, ov6_8, d6_8⟩ := OwnV.uncons ov6_7
       obtain ⟨g6_9, r6_9, e6_9, p6_9, ov6_9, d6_9⟩ := OwnV.uncons ov6_8
       obtain ⟨g6_10, r6_10, e6_10, p6_10, ov6_10, d6_10⟩ := OwnV.uncons ov6_9
       obtain ⟨g6_11, r6_11, e6_11, p6_11, ov6_11, d6_11⟩ := OwnV.uncons ov6_10
       obtain ⟨g6_12, r6_12, e6_12, p6_12, ov6_12, d6_12⟩ := OwnV.uncons ov6_11
       obtain ⟨g6_13, r6_13, e6_13, p6_13, ov6_13, d6_13⟩ := OwnV.uncons ov6_12
       obtain ⟨_, hz6_13⟩ := Rep_lit.1 p6_13.rep
       subst hz6_13
       obtain ⟨g6_14, r6_14, e6_14, p6_14, ov6_14, d6_14⟩ := OwnV.uncons ov6_13
       have iw6 := iv6.mono (lo' := w5.heap.size + 0) (by first | omega | (simp; done) | (simp; omega)) (Nat.le_refl _)
       have hnil6 := ov6_14.rep
       change r6_14 = [] at hnil6
       subst hnil6
       subst e6_14
       subst e6_13
       subst e6_12
       subst e6_11
       subst e6_10
       subst e6_9
       subst e6_8
       subst e6_7
       subst e6_6
       subst e6_5
       subst e6_4
       subst e6_3
       subst e6_2
       subst e6_1
       subst e6_0
       have ih03 : In _ _ g6_3 := fun y hy => iw6 y (by simp [hy])
       have oh03_6 := Lib.hid p6_3
       have ih04 : In _ _ g6_4 := fun y hy => iw6 y (by simp [hy])
       have oh04_6 := Lib.hid p6_4
       have ih05 : In _ _ g6_5 := fun y hy => iw6 y (by simp [hy])
       have oh05_6 := Lib.hid p6_5
       have ih06 : In _ _ g6_6 := fun y hy => iw6 y (by simp [hy])
       have oh06_6 := Lib.hid p6_6
       have ih07 : In _ _ g6_7 := fun y hy => iw6 y (by simp [hy])
       have oh07_6 := Lib.hid p6_7
       have ih08 : In _ _ g6_8 := fun y hy => iw6 y (by simp [hy])
       have oh08_6 := Lib.hid p6_8
       have ih09 : In _ _ g6_9 := fun y hy => iw6 y (by simp [hy])
       have oh09_6 := Lib.hid p6_9
       have ih010 : In _ _ g6_10 := fun y hy => iw6 y (by simp [hy])
       have oh010_6 := Lib.hid p6_10
       have ih011 : In _ _ g6_11 := fun y hy => iw6 y (by simp [hy])
       have oh011_6 := Lib.hid p6_11
       have ih012 : In _ _ g6_12 := fun y hy => iw6 y (by simp [hy])
       have oh012_6 := Lib.hid p6_12
       have ih014 : In _ _ g6_14 := fun y hy => iw6 y (by simp [hy])
       have oh014_6 := Lib.hid p6_14
       have djh03_4 : ∀ y ∈ g6_3, y ∉ g6_4 := fun y hy e => d6_3 y hy (by simp [e])
       have djh03_5 : ∀ y ∈ g6_3, y ∉ g6_5 := fun y hy e => d6_3 y hy (by simp [e])
       have djh03_6 : ∀ y ∈ g6_3, y ∉ g6_6 := fun y hy e => d6_3 y hy (by simp [e])
       have djh03_7 : ∀ y ∈ g6_3, y ∉ g6_7 := fun y hy e => d6_3 y hy (by simp [e])
       have djh03_8 : ∀ y ∈ g6_3, y ∉ g6_8 := fun y hy e => d6_3 y hy (by simp [e])
       have djh03_9 : ∀ y ∈ g6_3, y ∉ g6_9 := fun y hy e => d6_3 y hy (by simp [e])
       have djh03_10 : ∀ y ∈ g6_3, y ∉ g6_10 := fun y hy e => d6_3 y hy (by simp [e])
       have djh03_11 : ∀ y ∈ g6_3, y ∉ g6_11 := fun y hy e => d6_3 y hy (by simp [e])
       have djh03_12 : ∀ y ∈ g6_3, y ∉ g6_12 := fun y hy e => d6_3 y hy (by simp [e])
       have djh03_14 : ∀ y ∈ g6_3, y ∉ g6_14 := fun y hy e => d6_3 y hy (by simp [e])
       have djh04_5 : ∀ y ∈ g6_4, y ∉ g6_5 := fun y hy e => d6_4 y hy (by simp [e])
       have djh04_6 : ∀ y ∈ g6_4, y ∉ g6_6 := fun y hy e => d6_4 y hy (by simp [e])
       have djh04_7 : ∀ y ∈ g6_4, y ∉ g6_7 := fun y hy e => d6_4 y hy (by simp [e])
       have djh04_8 : ∀ y ∈ g6_4, y ∉ g6_8 := fun y hy e => d6_4 y hy (by simp [e])
       have djh04_9 : ∀ y ∈ g6_4, y ∉ g6_9 := fun y hy e => d6_4 y hy (by simp [e])
       have djh04_10 : ∀ y ∈ g6_4, y ∉ g6_10 := fun y hy e => d6_4 y hy (by simp [e])
       have djh04_11 : ∀ y ∈ g6_4, y ∉ g6_11 := fun y hy e => d6_4 y hy (by simp [e])
       have djh04_12 : ∀ y ∈ g6_4, y ∉ g6_12 := fun y hy e => d6_4 y hy (by simp [e])
       have djh04_14 : ∀ y ∈ g6_4, y ∉ g6_14 := fun y hy e => d6_4 y hy (by simp [e])
       have djh05_6 : ∀ y ∈ g6_5, y ∉ g6_6 := fun y hy e => d6_5 y hy (by simp [e])
       have djh05_7 : ∀ y ∈ g6_5, y ∉ g6_7 := fun y hy e => d6_5 y hy (by simp [e])
       have djh05_8 : ∀ y ∈ g6_5, y ∉ g6_8 := fun y hy e => d6_5 y hy (by simp [e])
       have djh05_9 : ∀ y ∈ g6_5, y ∉ g6_9 := fun y hy e => d6_5 y hy (by simp [e])
       have djh05_10 : ∀ y ∈ g6_5, y ∉ g6_10 := fun y hy e => d6_5 y hy (by simp [e])
       have djh05_11 : ∀ y ∈ g6_5, y ∉ g6_11 := fun y hy e => d6_5 y hy (by simp [e])
       have djh05_12 : ∀ y ∈ g6_5, y ∉ g6_12 := fun y hy e => d6_5 y hy (by simp [e])
       have djh05_14 : ∀ y ∈ g6_5, y ∉ g6_14 := fun y hy e => d6_5 y hy (by simp [e])
       have djh06_7 : ∀ y ∈ g6_6, y ∉ g6_7 := fun y hy e => d6_6 y hy (by simp [e])
       have djh06_8 : ∀ y ∈ g6_6, y ∉ g6_8 := fun y hy e => d6_6 y hy (by simp [e])
       have djh06_9 : ∀ y ∈ g6_6, y ∉ g6_9 := fun y hy e => d6_6 y hy (by simp [e])
       have djh06_10 : ∀ y ∈ g6_6, y ∉ g6_10 := fun y hy e => d6_6 y hy (by simp [e])
       have djh06_11 : ∀ y ∈ g6_6, y ∉ g6_11 := fun y hy e => d6_6 y hy (by simp [e])
       have djh06_12 : ∀ y ∈ g6_6, y ∉ g6_12 := fun y hy e => d6_6 y hy (by simp [e])
       have djh06_14 : ∀ y ∈ g6_6, y ∉ g6_14 := fun y hy e => d6_6 y hy (by simp [e])
       have djh07_8 : ∀ y ∈ g6_7, y ∉ g6_8 := fun y hy e => d6_7 y hy (by simp [e])
       have djh07_9 : ∀ y ∈ g6_7, y ∉ g6_9 := fun y hy e => d6_7 y hy (by simp [e])
       have djh07_10 : ∀ y ∈ g6_7, y ∉ g6_10 := fun y hy e => d6_7 y hy (by simp [e])
       have djh07_11 : ∀ y ∈ g6_7, y ∉ g6_11 := fun y hy e => d6_7 y hy (by simp [e])
       have djh07_12 : ∀ y ∈ g6_7, y ∉ g6_12 := fun y hy e => d6_7 y hy (by simp [e])
       have djh07_14 : ∀ y ∈ g6_7, y ∉ g6_14 := fun y hy e => d6_7 y hy (by simp [e])
       have djh08_9 : ∀ y ∈ g6_8, y ∉ g6_9 := fun y hy e => d6_8 y hy (by simp [e])
       have djh08_10 : ∀ y ∈ g6_8, y ∉ g6_10 := fun y hy e => d6_8 y hy (by simp [e])
       have djh08_11 : ∀ y ∈ g6_8, y ∉ g6_11 := fun y hy e => d6_8 y hy (by simp [e])
       have djh08_12 : ∀ y ∈ g6_8, y ∉ g6_12 := fun y hy e => d6_8 y hy (by simp [e])
       have djh08_14 : ∀ y ∈ g6_8, y ∉ g6_14 := fun y hy e => d6_8 y hy (by simp [e])
       have djh09_10 : ∀ y ∈ g6_9, y ∉ g6_10 := fun y hy e => d6_9 y hy (by simp [e])
       have djh09_11 : ∀ y ∈ g6_9, y ∉ g6_11 := fun y hy e => d6_9 y hy (by simp [e])
       have djh09_12 : ∀ y ∈ g6_9, y ∉ g6_12 := fun y hy e => d6_9 y hy (by simp [e])
       have djh09_14 : ∀ y ∈ g6_9, y ∉ g6_14 := fun y hy e => d6_9 y hy (by simp [e])
       have djh010_11 : ∀ y ∈ g6_10, y ∉ g6_11 := fun y hy e => d6_10 y hy (by simp [e])
       have djh010_12 : ∀ y ∈ g6_10, y ∉ g6_12 := fun y hy e => d6_10 y hy (by simp [e])
       have djh010_14 : ∀ y ∈ g6_10, y ∉ g6_14 := fun y hy e => d6_10 y hy (by simp [e])
       have djh011_12 : ∀ y ∈ g6_11, y ∉ g6_12 := fun y hy e => d6_11 y hy (by simp [e])
       have djh011_14 : ∀ y ∈ g6_11, y ∉ g6_14 := fun y hy e => d6_11 y hy (by simp [e])
       have djh012_14 : ∀ y ∈ g6_12, y ∉ g6_14 := fun y hy e => d6_12 y hy (by simp [e])
       clear p6_0 ov6_0 d6_0 p6_1 ov6_1 d6_1 p6_2 ov6_2 d6_2 p6_3 ov6_3 d6_3 p6_4 ov6_4 d6_4 p6_5 ov6_5 d6_5 p6_6 ov6_6 d6_6 p6_7 ov6_7 d6_7 p6_8 ov6_8 d6_8 p6_9 ov6_9 d6_9 p6_10 ov6_10 d6_10 p6_11 ov6_11 d6_11 p6_12 ov6_12 d6_12 p6_13 ov6_13 d6_13 p6_14 ov6_14 d6_14 ov6 iv6 iw6
       as_aux_lemma =>
        go_wp2_with fail
        refine ((eq_Desk R _ _ _ _ _ _ _ _ _ _ _ _ _ _ _ _ _ _ _ _ _ _ (w6.alloc (.cells #[.int .i64 R.plan.terrain.step, .int .i64 R.plan.terrain.width, .int .i64 R.plan.terrain.height, .slice ah03 R.plan.terrain.heights.length ch03, .slice ah04 R.plan.terrain.clutter.length ch04, .slice ah05 R.plan.network.sites.length ch05, .slice ah06 R.plan.network.sectors.length ch06, .slice ah07 R.plan.network.antennas.length ch07, .slice ah08 R.plan.network.radios.length ch08, .slice ah09 R.plan.bands.length ch09, .slice ah010 R.plan.licences.length ch010, .slice ah011 R.plan.protected_.length ch011, .slice ah012 R.plan.apart.length ch012, .int .i64 R.plan.day, .slice ah014 R.requests.length ch014] 39)).heap.size _ (((oh03_6.out.below ih03 (by omega) ((Below.refl _ _).alloc (Nat.le_refl _) _)).rd ih03).mono (by first | omega | (simp; done) | (simp; omega))) (((os03_6.out.below is03 (by omega) ((Below.refl _ _).alloc (Nat.le_refl _) _)).rd is03).mono (by first | omega | (simp; done) | (simp; omega))) (((oh04_6.out.below ih04 (by omega) ((Below.refl _ _).alloc (Nat.le_refl _) _)).rd ih04).mono (by first | omega | (simp; done) | (simp; omega))) (((os04_6.out.below is04 (by omega) ((Below.refl _ _).alloc (Nat.le_refl _) _)).rd is04).mono (by first | omega | (simp; done) | (simp; omega))) (((oh05_6.out.below ih05 (by omega) ((Below.refl _ _).alloc (Nat.le_refl _) _)).rd ih05).mono (by first | omega | (simp; done) | (simp; omega))) (((os05_6.out.below is05 (by omega) ((Below.refl _ _).alloc (Nat.le_refl _) _)).rd is05).mono (by first | omega | (simp; done) | (simp; omega))) (((oh06_6.out.below ih06 (by omega) ((Below.refl _ _).alloc (Nat.le_refl _) _)).rd ih06).mono (by first | omega | (simp; done) | (simp; omega))) (((os06_6.out.below is06 (by omega) ((Below.refl _ _).alloc (Nat.le_refl _) _)).rd is06).mono (by first | omega | (simp; done) | (simp; omega))) (((oh07_6.out.below ih07 (by omega) ((Below.refl _ _).alloc (Nat.le_refl _) _)).rd ih07).mono (by first | omega | (simp; done) | (simp; omega))) (((os07_6.out.below is07 (by omega) ((Below.refl _ _).alloc (Nat.le_refl _) _)).rd is07).mono (by first | omega | (simp; done) | (simp; omega))) (((oh08_6.out.below ih08 (by omega) ((Below.refl _ _).alloc (Nat.le_refl _) _)).rd ih08).mono (by first | omega | (simp; done) | (simp; omega))) (((os08_6.out.below is08 (by omega) ((Below.refl _ _).alloc (Nat.le_refl _) _)).rd is08).mono (by first | omega | (simp; done) | (simp; omega))) (((oh09_6.out.below ih09 (by omega) ((Below.refl _ _).alloc (Nat.le_refl _) _)).rd ih09).mono (by first | omega | (simp; done) | (simp; omega))) (((os09_6.out.below is09 (by omega) ((Below.refl _ _).alloc (Nat.le_refl _) _)).rd is09).mono (by first | omega | (simp; done) | (simp; omega))) (((oh010_6.out.below ih010 (by omega) ((Below.refl _ _).alloc (Nat.le_refl _) _)).rd ih010).mono (by first | omega | (simp; done) | (simp; omega))) (((os010_6.out.below is010 (by omega) ((Below.refl _ _).alloc (Nat.le_refl _) _)).rd is010).mono (by first | omega | (simp; done) | (simp; omega))) (((oh011_6.out.below ih011 (by omega) ((Below.refl _ _).alloc (Nat.le_refl _) _)).rd ih011).mono (by first | omega | (simp; done) | (simp; omega))) (((os011_6.out.below is011 (by omega) ((Below.refl _ _).alloc (Nat.le_refl _) _)).rd is011).mono (by first | omega | (simp; done) | (simp; omega))) (((oh012_6.out.below ih012 (by omega) ((Below.refl _ _).alloc (Nat.le_refl _) _)).rd ih012).mono (by first | omega | (simp; done) | (simp; omega))) (((os012_6.out.below is012 (by omega) ((Below.refl _ _).alloc (Nat.le_refl _) _)).rd is012).mono (by first | omega | (simp; done) | (simp; omega))) (((oh014_6.out.below ih014 (by omega) ((Below.refl _ _).alloc (Nat.le_refl _) _)).rd ih014).mono (by first | omega | (simp; done) | (simp; omega))) (((os014_6.out.below is014 (by omega) ((Below.refl _ _).alloc (Nat.le_refl _) _)).rd is014).mono (by first | omega | (simp; done) | (simp; omega))) (Nat.le_refl _) (by omega))).mono ?_
        rintro e w7 ⟨rfl, hb7⟩
        have hx7 : Below w6.heap.size w6 (w6.alloc (.cells #[.int .i64 R.plan.terrain.step, .int .i64 R.plan.terrain.width, .int .i64 R.plan.terrain.height, .slice ah03 R.plan.terrain.heights.length ch03, .slice ah04 R.plan.terrain.clutter.length ch04, .slice ah05 R.plan.network.sites.length ch05, .slice ah06 R.plan.network.sectors.length ch06, .slice ah07 R.plan.network.antennas.length ch07, .slice ah08 R.plan.network.radios.length ch08, .slice ah09 R.plan.bands.length ch09, .slice ah010 R.plan.licences.length ch010, .slice ah011 R.plan.protected_.length ch011, .slice ah012 R.plan.apart.length ch012, .int .i64 R.plan.day, .slice ah014 R.requests.length ch014] 39)) := ((Below.refl _ _).alloc (Nat.le_refl _) _)
        have hbb7 : Below w6.heap.size w6 w7 := hx7.trans (hb7.mono (by first | (simp; done) | (simp; omega)))
        have z7 := hbb7.size
        obtain ⟨qS07, _, yS07⟩ := bcellAt hb7 (b := w1.heap.size) (by first | omega | (simp; done) | (simp; omega))
        obtain ⟨qG07, _, yG07⟩ := bcellAt hb7 (b := w2.heap.size) (by first | omega | (simp; done) | (simp; omega))
        obtain ⟨qH07, _, yH07⟩ := bcellAt hb7 (b := w6.heap.size) (by first | omega | (simp; done) | (simp; omega))
        have BB7 := Lib.hid (BB6.out.trans (hbb7.mono (by omega)))
        have os03_7 := Lib.hid (os03_6.out.below is03 (by omega) hbb7)
        have os04_7 := Lib.hid (os04_6.out.below is04 (by omega) hbb7)
        have os05_7 := Lib.hid (os05_6.out.below is05 (by omega) hbb7)
        have os06_7 := Lib.hid (os06_6.out.below is06 (by omega) hbb7)
        have os07_7 := Lib.hid (os07_6.out.below is07 (by omega) hbb7)
        have os08_7 := Lib.hid (os08_6.out.below is08 (by omega) hbb7)
        have os09_7 := Lib.hid (os09_6.out.below is09 (by omega) hbb7)
        have os010_7 := Lib.hid (os010_6.out.below is010 (by omega) hbb7)
        have os011_7 := Lib.hid (os011_6.out.below is011 (by omega) hbb7)
        have os012_7 := Lib.hid (os012_6.out.below is012 (by omega) hbb7)
        have os014_7 := Lib.hid (os014_6.out.below is014 (by omega) hbb7)
        have kog03_7 := Lib.hid (kog03_6.out.below ig03 (by omega) hbb7)
        have kog04_7 := Lib.hid (kog04_6.out.below ig04 (by omega) hbb7)
        have kog05_7 := Lib.hid (kog05_6.out.below ig05 (by omega) hbb7)
        have kog06_7 := Lib.hid (kog06_6.out.below ig06 (by omega) hbb7)
        have kog07_7 := Lib.hid (kog07_6.out.below ig07 (by omega) hbb7)
        have kog08_7 := Lib.hid (kog08_6.out.below ig08 (by omega) hbb7)
        have kog09_7 := Lib.hid (kog09_6.out.below ig09 (by omega) hbb7)
        have kog010_7 := Lib.hid (kog010_6.out.below ig010 (by omega) hbb7)
        have kog011_7 := Lib.hid (kog011_6.out.below ig011 (by omega) hbb7)
        have kog012_7 := Lib.hid (kog012_6.out.below ig012 (by omega) hbb7)
        have kog014_7 := Lib.hid (kog014_6.out.below ig014 (by omega) hbb7)
        have oh03_7 := Lib.hid (oh03_6.out.below ih03 (by omega) hbb7)
        have oh04_7 := Lib.hid (oh04_6.out.below ih04 (by omega) hbb7)
        have oh05_7 := Lib.hid (oh05_6.out.below ih05 (by omega) hbb7)
        have oh06_7 := Lib.hid (oh06_6.out.below ih06 (by omega) hbb7)
        have oh07_7 := Lib.hid (oh07_6.out.below ih07 (by omega) hbb7)
        have oh08_7 := Lib.hid (oh08_6.out.below ih08 (by omega) hbb7)
        have oh09_7 := Lib.hid (oh09_6.out.below ih09 (by omega) hbb7)
        have oh010_7 := Lib.hid (oh010_6.out.below ih010 (by omega) hbb7)
        have oh011_7 := Lib.hid (oh011_6.out.below ih011 (by omega) hbb7)
        have oh012_7 := Lib.hid (oh012_6.out.below ih012 (by omega) hbb7)
        have oh014_7 := Lib.hid (oh014_6.out.below ih014 (by omega) hbb7)
        clear hx7
        clear hb7 hbb7
        as_aux_lemma =>
         go_wp2_with fail
         refine (held_Desk R _ _ _ _ _ _ _ _ _ _ _ w7.heap.size (1) _ ((kog03_7.out.rd ig03).mono (by omega)) ((kog04_7.out.rd ig04).mono (by omega)) ((kog05_7.out.rd ig05).mono (by omega)) ((kog06_7.out.rd ig06).mono (by omega)) ((kog07_7.out.rd ig07).mono (by omega)) ((kog08_7.out.rd ig08).mono (by omega)) ((kog09_7.out.rd ig09).mono (by omega)) ((kog010_7.out.rd ig010).mono (by omega)) ((kog011_7.out.rd ig011).mono (by omega)) ((kog012_7.out.rd ig012).mono (by omega)) ((kog014_7.out.rd ig014).mono (by omega)) (Nat.le_refl _) (by omega) (by omega) (by omega)).mono ?_
         rintro e w8 ⟨rfl, hb8⟩
         have hbb8 : Below w7.heap.size w7 w8 := hb8
         have z8 := hbb8.size
         obtain ⟨qS08, _, yS08⟩ := bcellAt hb8 (b := w1.heap.size) (by first | omega | (simp; done) | (simp; omega))
         obtain ⟨qG08, _, yG08⟩ := bcellAt hb8 (b := w2.heap.size) (by first | omega | (simp; done) | (simp; omega))
         obtain ⟨qH08, _, yH08⟩ := bcellAt hb8 (b := w6.heap.size) (by first | omega | (simp; done) | (simp; omega))
         have BB8 := Lib.hid (BB7.out.trans (hbb8.mono (by omega)))
         have kog03_8 := Lib.hid (kog03_7.out.below ig03 (by omega) hbb8)
         have kog04_8 := Lib.hid (kog04_7.out.below ig04 (by omega) hbb8)
         have kog05_8 := Lib.hid (kog05_7.out.below ig05 (by omega) hbb8)
         have kog06_8 := Lib.hid (kog06_7.out.below ig06 (by omega) hbb8)
         have kog07_8 := Lib.hid (kog07_7.out.below ig07 (by omega) hbb8)
         have kog08_8 := Lib.hid (kog08_7.out.below ig08 (by omega) hbb8)
         have kog09_8 := Lib.hid (kog09_7.out.below ig09 (by omega) hbb8)
         have kog010_8 := Lib.hid (kog010_7.out.below ig010 (by omega) hbb8)
         have kog011_8 := Lib.hid (kog011_7.out.below ig011 (by omega) hbb8)
         have kog012_8 := Lib.hid (kog012_7.out.below ig012 (by omega) hbb8)
         have kog014_8 := Lib.hid (kog014_7.out.below ig014 (by omega) hbb8)
         clear hbb8
         as_aux_lemma =>
          go_wp2
          go_ret
          exact ⟨rfl, BB8.out⟩
end Go.Proofs.Ytlfkdhakibagaaa.fnExactNewDesk
