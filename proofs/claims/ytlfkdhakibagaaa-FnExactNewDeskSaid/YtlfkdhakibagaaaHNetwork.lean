/- Contracts of the laws' helpers over the type Network and slices of it. Conditions: bounded lengths. -/
import Derived.Test.YtlfkdhakibagaaaInts2
import Derived.Test.YtlfkdhakibagaaaTypes
import Derived.Test.YtlfkdhakibagaaaText
import Derived.Test.YtlfkdhakibagaaaOver
import Derived.Test.YtlfkdhakibagaaaHSite
import Derived.Test.YtlfkdhakibagaaaHSector
import Derived.Test.YtlfkdhakibagaaaHAntenna
import Derived.Test.YtlfkdhakibagaaaHRadio
namespace Go.Proofs.Ytlfkdhakibagaaa
open Go.RowKit
set_option linter.unusedVariables false

theorem DNetwork.siz_tr (x : DNetwork) : sizL x.tr = siz (DSite.sT x.sites) + siz (DSector.sT x.sectors) + siz (DAntenna.sT x.antennas) + siz (DRadio.sT x.radios) := by
  simp only [DNetwork.tr, sizL]
  omega
set_option maxHeartbeats 4000000 in
set_option maxRecDepth 100000 in
theorem eq_Network (x : DNetwork) (v0 u0 v1 u1 v2 u2 v3 u3 : Value) (B : Nat) (w : World) (h0 : Rd B w (DSite.sT x.sites) v0) (g0 : Rd B w (DSite.sT x.sites) u0) (h1 : Rd B w (DSector.sT x.sectors) v1) (g1 : Rd B w (DSector.sT x.sectors) u1) (h2 : Rd B w (DAntenna.sT x.antennas) v2) (g2 : Rd B w (DAntenna.sT x.antennas) u2) (h3 : Rd B w (DRadio.sT x.radios) v3) (g3 : Rd B w (DRadio.sT x.radios) u3) (hB : B ≤ w.heap.size) (hn : sizL x.tr ≤ 1099511627776) :
    Calls Try.prog 22 #[.agg #[v0, v1, v2, v3], .agg #[u0, u1, u2, u3]] w fun e w' => e = .returned (.bool true) ∧ Below w.heap.size w w' := by
  have hsum := DNetwork.siz_tr x
  have b0 : Below w.heap.size w ((w.alloc (.cells #[v0, v1, v2, v3] 30)).alloc (.cells #[u0, u1, u2, u3] 30)) := ((Below.refl _ _).alloc (Nat.le_refl _) _).alloc (by simp) _
  have B0 := Lib.hid b0
  have y0 : w.heap.size + 2 ≤ ((w.alloc (.cells #[v0, v1, v2, v3] 30)).alloc (.cells #[u0, u1, u2, u3] 30)).heap.size := by first | (simp; done) | (simp; omega)
  clear b0
  go_enter Try.func22, Try.ntmps22
  go_wp2_with fail
  refine (eq_SiteS x.sites v0 u0 B _ (h0.below (B0.out.mono hB)) (g0.below (B0.out.mono hB)) (by omega) (by omega)).mono ?_
  rintro e w1 ⟨rfl, hb1⟩
  obtain ⟨qa1, _, ya1⟩ := bcellAt hb1 (b := w.heap.size) (by omega)
  obtain ⟨qb1, _, yb1⟩ := bcellAt hb1 (b := w.heap.size + 1) (by omega)
  have y1 : w.heap.size + 2 ≤ w1.heap.size := by have := hb1.size; omega
  have B1 := Lib.hid (B0.out.trans (hb1.mono (by omega)))
  clear hb1
  go_wp2_with fail
  refine (eq_SectorS x.sectors v1 u1 B _ (h1.below (B1.out.mono hB)) (g1.below (B1.out.mono hB)) (by omega) (by omega)).mono ?_
  rintro e w2 ⟨rfl, hb2⟩
  obtain ⟨qa2, _, ya2⟩ := bcellAt hb2 (b := w.heap.size) (by omega)
  obtain ⟨qb2, _, yb2⟩ := bcellAt hb2 (b := w.heap.size + 1) (by omega)
  have y2 : w.heap.size + 2 ≤ w2.heap.size := by have := hb2.size; omega
  have B2 := Lib.hid (B1.out.trans (hb2.mono (by omega)))
  clear hb2
  go_wp2_with fail
  refine (eq_AntennaS x.antennas v2 u2 B _ (h2.below (B2.out.mono hB)) (g2.below (B2.out.mono hB)) (by omega) (by omega)).mono ?_
  rintro e w3 ⟨rfl, hb3⟩
  obtain ⟨qa3, _, ya3⟩ := bcellAt hb3 (b := w.heap.size) (by omega)
  obtain ⟨qb3, _, yb3⟩ := bcellAt hb3 (b := w.heap.size + 1) (by omega)
  have y3 : w.heap.size + 2 ≤ w3.heap.size := by have := hb3.size; omega
  have B3 := Lib.hid (B2.out.trans (hb3.mono (by omega)))
  clear hb3
  go_wp2_with fail
  refine (eq_RadioS x.radios v3 u3 B _ (h3.below (B3.out.mono hB)) (g3.below (B3.out.mono hB)) (by omega) (by omega)).mono ?_
  rintro e w4 ⟨rfl, hb4⟩
  obtain ⟨qa4, _, ya4⟩ := bcellAt hb4 (b := w.heap.size) (by omega)
  obtain ⟨qb4, _, yb4⟩ := bcellAt hb4 (b := w.heap.size + 1) (by omega)
  have y4 : w.heap.size + 2 ≤ w4.heap.size := by have := hb4.size; omega
  have B4 := Lib.hid (B3.out.trans (hb4.mono (by omega)))
  clear hb4
  go_wp2
  go_ret
  exact ⟨rfl, B4.out⟩
theorem DNetwork.cnt_eq (x : DNetwork) : cnt (DSite.sT x.sites) + cnt (DSector.sT x.sectors) + cnt (DAntenna.sT x.antennas) + cnt (DRadio.sT x.radios) = cnt (DSite.sT x.sites) + cnt (DSector.sT x.sectors) + cnt (DAntenna.sT x.antennas) + cnt (DRadio.sT x.radios) := rfl
set_option maxHeartbeats 4000000 in
set_option maxRecDepth 100000 in
theorem mark_Network (x : DNetwork) (v0 v1 v2 v3 : Value) (f0 f1 f2 f3 : List Nat) (k0 l0 m0 l1 m1 l2 m2 l3 m3 : Nat) (w : World) (o0 : Own w (DSite.sT x.sites) v0 f0) (i0 : In l0 m0 f0) (n0 : m0 ≤ w.heap.size) (o1 : Own w (DSector.sT x.sectors) v1 f1) (i1 : In l1 m1 f1) (n1 : m1 ≤ w.heap.size) (o2 : Own w (DAntenna.sT x.antennas) v2 f2) (i2 : In l2 m2 f2) (n2 : m2 ≤ w.heap.size) (o3 : Own w (DRadio.sT x.radios) v3 f3) (i3 : In l3 m3 f3) (n3 : m3 ≤ w.heap.size) (d0_1 : ∀ y ∈ f0, y ∉ f1) (d0_2 : ∀ y ∈ f0, y ∉ f2) (d0_3 : ∀ y ∈ f0, y ∉ f3) (d1_2 : ∀ y ∈ f1, y ∉ f2) (d1_3 : ∀ y ∈ f1, y ∉ f3) (d2_3 : ∀ y ∈ f2, y ∉ f3) (hs : sizL x.tr ≤ 1099511627776) (hk0 : k0 + cnt (DSite.sT x.sites) + cnt (DSector.sT x.sectors) + cnt (DAntenna.sT x.antennas) + cnt (DRadio.sT x.radios) ≤ 1099511627776) (hk1 : 0 < k0) :
    Calls Try.prog 29 #[.agg #[v0, v1, v2, v3], .int .i64 k0] w fun e w' => e = .returned (.int .i64 ((k0 + cnt (DSite.sT x.sites) + cnt (DSector.sT x.sectors) + cnt (DAntenna.sT x.antennas) + cnt (DRadio.sT x.radios) : Nat) : Int)) ∧ Own w' (mkT (DSite.sT x.sites) (k0)) v0 f0 ∧ Own w' (mkT (DSector.sT x.sectors) (k0 + cnt (DSite.sT x.sites))) v1 f1 ∧ Own w' (mkT (DAntenna.sT x.antennas) (k0 + cnt (DSite.sT x.sites) + cnt (DSector.sT x.sectors))) v2 f2 ∧ Own w' (mkT (DRadio.sT x.radios) (k0 + cnt (DSite.sT x.sites) + cnt (DSector.sT x.sectors) + cnt (DAntenna.sT x.antennas))) v3 f3 ∧ Chg (f0 ++ f1 ++ f2 ++ f3) w w' := by
  have hsum := DNetwork.siz_tr x
  have b0 : Below w.heap.size w (w.alloc (.cells #[v0, v1, v2, v3] 30)) := (Below.refl _ _).alloc (Nat.le_refl _) _
  have C0 := Lib.hid (Chg.of_below (fp := (f0 ++ f1 ++ f2 ++ f3)) b0)
  have y0 : w.heap.size < (w.alloc (.cells #[v0, v1, v2, v3] 30)).heap.size := by simp
  have O0_0 := Lib.hid (o0.below i0 n0 b0)
  have O0_1 := Lib.hid (o1.below i1 n1 b0)
  have O0_2 := Lib.hid (o2.below i2 n2 b0)
  have O0_3 := Lib.hid (o3.below i3 n3 b0)
  clear b0 o0 o1 o2 o3
  go_enter Try.func29, Try.ntmps29
  go_wp2_with fail
  refine (markI_SiteS x.sites v0 f0 (k0) l0 _ _ O0_0.out (i0.mono (Nat.le_refl _) (by omega)) (by omega) (by first | rfl | simp only [Int.natCast_add]) (by omega) (by omega)).mono ?_
  rintro e w1 ⟨rfl, p0, c1⟩
  have y1 : w.heap.size < w1.heap.size := by have := c1.size; omega
  have hk1c : ∀ q, w1.cell? ⟨w.heap.size, q, none⟩ = _ := fun q => World.cell?_of_block (a := ⟨w.heap.size, q, none⟩) (c1.block w.heap.size y0 (fun e => by have := (i0 _ e).2; omega))
  have C1 := Lib.hid (C0.out.trans (c1.mono (fun y hy => by simp [hy])))
  have O1_0 := Lib.hid p0
  have O1_1 := Lib.hid (O0_1.out.chg i1 (by omega) c1 (fun y hy e => d0_1 y e hy))
  have O1_2 := Lib.hid (O0_2.out.chg i2 (by omega) c1 (fun y hy e => d0_2 y e hy))
  have O1_3 := Lib.hid (O0_3.out.chg i3 (by omega) c1 (fun y hy e => d0_3 y e hy))
  clear c1 p0
  go_wp2_with fail
  refine (markI_SectorS x.sectors v1 f1 (k0 + cnt (DSite.sT x.sites)) l1 _ _ O1_1.out (i1.mono (Nat.le_refl _) (by omega)) (by omega) (by first | rfl | simp only [Int.natCast_add]) (by omega) (by omega)).mono ?_
  rintro e w2 ⟨rfl, p1, c2⟩
  have y2 : w.heap.size < w2.heap.size := by have := c2.size; omega
  have hk2c : ∀ q, w2.cell? ⟨w.heap.size, q, none⟩ = _ := fun q => World.cell?_of_block (a := ⟨w.heap.size, q, none⟩) (c2.block w.heap.size y1 (fun e => by have := (i1 _ e).2; omega))
  have C2 := Lib.hid (C1.out.trans (c2.mono (fun y hy => by simp [hy])))
  have O2_0 := Lib.hid (O1_0.out.chg i0 (by omega) c2 (fun y hy e => d0_1 y hy e))
  have O2_1 := Lib.hid p1
  have O2_2 := Lib.hid (O1_2.out.chg i2 (by omega) c2 (fun y hy e => d1_2 y e hy))
  have O2_3 := Lib.hid (O1_3.out.chg i3 (by omega) c2 (fun y hy e => d1_3 y e hy))
  clear c2 p1
  go_wp2_with fail
  refine (markI_AntennaS x.antennas v2 f2 (k0 + cnt (DSite.sT x.sites) + cnt (DSector.sT x.sectors)) l2 _ _ O2_2.out (i2.mono (Nat.le_refl _) (by omega)) (by omega) (by first | rfl | simp only [Int.natCast_add]) (by omega) (by omega)).mono ?_
  rintro e w3 ⟨rfl, p2, c3⟩
  have y3 : w.heap.size < w3.heap.size := by have := c3.size; omega
  have hk3c : ∀ q, w3.cell? ⟨w.heap.size, q, none⟩ = _ := fun q => World.cell?_of_block (a := ⟨w.heap.size, q, none⟩) (c3.block w.heap.size y2 (fun e => by have := (i2 _ e).2; omega))
  have C3 := Lib.hid (C2.out.trans (c3.mono (fun y hy => by simp [hy])))
  have O3_0 := Lib.hid (O2_0.out.chg i0 (by omega) c3 (fun y hy e => d0_2 y hy e))
  have O3_1 := Lib.hid (O2_1.out.chg i1 (by omega) c3 (fun y hy e => d1_2 y hy e))
  have O3_2 := Lib.hid p2
  have O3_3 := Lib.hid (O2_3.out.chg i3 (by omega) c3 (fun y hy e => d2_3 y e hy))
  clear c3 p2
  go_wp2_with fail
  refine (markI_RadioS x.radios v3 f3 (k0 + cnt (DSite.sT x.sites) + cnt (DSector.sT x.sectors) + cnt (DAntenna.sT x.antennas)) l3 _ _ O3_3.out (i3.mono (Nat.le_refl _) (by omega)) (by omega) (by first | rfl | simp only [Int.natCast_add]) (by omega) (by omega)).mono ?_
  rintro e w4 ⟨rfl, p3, c4⟩
  have y4 : w.heap.size < w4.heap.size := by have := c4.size; omega
  have hk4c : ∀ q, w4.cell? ⟨w.heap.size, q, none⟩ = _ := fun q => World.cell?_of_block (a := ⟨w.heap.size, q, none⟩) (c4.block w.heap.size y3 (fun e => by have := (i3 _ e).2; omega))
  have C4 := Lib.hid (C3.out.trans (c4.mono (fun y hy => by simp [hy])))
  have O4_0 := Lib.hid (O3_0.out.chg i0 (by omega) c4 (fun y hy e => d0_3 y hy e))
  have O4_1 := Lib.hid (O3_1.out.chg i1 (by omega) c4 (fun y hy e => d1_3 y hy e))
  have O4_2 := Lib.hid (O3_2.out.chg i2 (by omega) c4 (fun y hy e => d2_3 y hy e))
  have O4_3 := Lib.hid p3
  clear c4 p3
  go_wp2
  go_ret
  exact ⟨ret_int (by simp only [Int.natCast_add]), O4_0.out, O4_1.out, O4_2.out, O4_3.out, C4.out⟩
set_option maxHeartbeats 4000000 in
set_option maxRecDepth 100000 in
theorem held_Network (x : DNetwork) (v0 v1 v2 v3 : Value) (B k0 : Nat) (w : World) (h0 : Rd B w (mkT (DSite.sT x.sites) (k0)) v0) (h1 : Rd B w (mkT (DSector.sT x.sectors) (k0 + cnt (DSite.sT x.sites))) v1) (h2 : Rd B w (mkT (DAntenna.sT x.antennas) (k0 + cnt (DSite.sT x.sites) + cnt (DSector.sT x.sectors))) v2) (h3 : Rd B w (mkT (DRadio.sT x.radios) (k0 + cnt (DSite.sT x.sites) + cnt (DSector.sT x.sectors) + cnt (DAntenna.sT x.antennas))) v3) (hB : B ≤ w.heap.size) (hs : sizL x.tr ≤ 1099511627776) (hk0 : k0 + cnt (DSite.sT x.sites) + cnt (DSector.sT x.sectors) + cnt (DAntenna.sT x.antennas) + cnt (DRadio.sT x.radios) ≤ 1099511627776) (hk1 : 0 < k0) :
    Calls Try.prog 36 #[.agg #[v0, v1, v2, v3], .int .i64 k0] w fun e w' => e = .returned (.int .i64 ((k0 + cnt (DSite.sT x.sites) + cnt (DSector.sT x.sectors) + cnt (DAntenna.sT x.antennas) + cnt (DRadio.sT x.radios) : Nat) : Int)) ∧ Below w.heap.size w w' := by
  have hsum := DNetwork.siz_tr x
  have b0 : Below w.heap.size w (w.alloc (.cells #[v0, v1, v2, v3] 30)) := (Below.refl _ _).alloc (Nat.le_refl _) _
  have B0 := Lib.hid b0
  have y0 : w.heap.size < (w.alloc (.cells #[v0, v1, v2, v3] 30)).heap.size := by simp
  clear b0
  go_enter Try.func36, Try.ntmps36
  go_wp2_with fail
  refine (heldI_SiteS x.sites v0 B (k0) _ _ (h0.below (B0.out.mono hB)) (by omega) (by omega) (by first | rfl | simp only [Int.natCast_add]) (by omega) (by omega)).mono ?_
  rintro e w1 ⟨rfl, hb1⟩
  obtain ⟨q1, _, y1⟩ := bcellAt hb1 (b := w.heap.size) y0
  have B1 := Lib.hid (B0.out.trans (hb1.mono (by omega)))
  clear hb1
  go_wp2_with fail
  refine (heldI_SectorS x.sectors v1 B (k0 + cnt (DSite.sT x.sites)) _ _ (h1.below (B1.out.mono hB)) (by omega) (by omega) (by first | rfl | simp only [Int.natCast_add]) (by omega) (by omega)).mono ?_
  rintro e w2 ⟨rfl, hb2⟩
  obtain ⟨q2, _, y2⟩ := bcellAt hb2 (b := w.heap.size) y1
  have B2 := Lib.hid (B1.out.trans (hb2.mono (by omega)))
  clear hb2
  go_wp2_with fail
  refine (heldI_AntennaS x.antennas v2 B (k0 + cnt (DSite.sT x.sites) + cnt (DSector.sT x.sectors)) _ _ (h2.below (B2.out.mono hB)) (by omega) (by omega) (by first | rfl | simp only [Int.natCast_add]) (by omega) (by omega)).mono ?_
  rintro e w3 ⟨rfl, hb3⟩
  obtain ⟨q3, _, y3⟩ := bcellAt hb3 (b := w.heap.size) y2
  have B3 := Lib.hid (B2.out.trans (hb3.mono (by omega)))
  clear hb3
  go_wp2_with fail
  refine (heldI_RadioS x.radios v3 B (k0 + cnt (DSite.sT x.sites) + cnt (DSector.sT x.sectors) + cnt (DAntenna.sT x.antennas)) _ _ (h3.below (B3.out.mono hB)) (by omega) (by omega) (by first | rfl | simp only [Int.natCast_add]) (by omega) (by omega)).mono ?_
  rintro e w4 ⟨rfl, hb4⟩
  obtain ⟨q4, _, y4⟩ := bcellAt hb4 (b := w.heap.size) y3
  have B4 := Lib.hid (B3.out.trans (hb4.mono (by omega)))
  clear hb4
  go_wp2
  go_ret
  exact ⟨ret_int (by simp only [Int.natCast_add]), B4.out⟩
end Go.Proofs.Ytlfkdhakibagaaa
