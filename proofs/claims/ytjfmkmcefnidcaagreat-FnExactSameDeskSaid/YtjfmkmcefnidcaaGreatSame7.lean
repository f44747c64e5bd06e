/- SameDesk of the reference: it answers as the Bool of Same0. Conditions: bounded sizes. -/
import Derived.Test.YtjfmkmcefnidcaaGreatSame6
import Derived.Test.YtjfmkmcefnidcaaGreatHDesk
namespace Go.Proofs.YtjfmkmcefnidcaaGreat
open Go.RowKit
set_option linter.unusedVariables false
set_option linter.unusedSimpArgs false

theorem boxes4 (w : World) (c0 : Array Value) (t0 : Nat) (c1 : Array Value) (t1 : Nat) (c2 : Array Value) (t2 : Nat) (c3 : Array Value) (t3 : Nat) : ∃ W0, (((w.alloc (.cells c0 t0)).alloc (.cells c1 t1)).alloc (.cells c2 t2)).alloc (.cells c3 t3) = W0 ∧ Below w.heap.size w W0 ∧ w.heap.size + 4 ≤ W0.heap.size ∧ W0.heap[w.heap.size]? = some (.cells c0 t0 (0, 0)) ∧ W0.heap[w.heap.size + 1]? = some (.cells c1 t1 (0, 0)) ∧ W0.heap[w.heap.size + 2]? = some (.cells c2 t2 (0, 0)) ∧ W0.heap[w.heap.size + 3]? = some (.cells c3 t3 (0, 0)) := by
  obtain ⟨W, e, h1, h2, h3, h4, h5⟩ := boxes3 w c0 t0 c1 t1 c2 t2
  have hs : W.heap.size = w.heap.size + 3 := by subst e; simp
  rw [e]
  refine ⟨_, rfl, h1.alloc (by omega) _, by simp; omega, bkA h3 (by omega) _, bkA h4 (by omega) _, bkA h5 (by omega) _, ?_⟩
  have h := bkN W c3 t3
  rwa [hs] at h
structure DeskSz (d : DDesk) : Prop where
  heights : d.plan.terrain.heights.length ≤ 1099511627776
  clutter : d.plan.terrain.clutter.length ≤ 1099511627776
  sites : d.plan.network.sites.length ≤ 1099511627776
  sectors : d.plan.network.sectors.length ≤ 1099511627776
  antennas : siz (DAntenna.sT d.plan.network.antennas) ≤ 1099511627776
  radios : siz (DRadio.sT d.plan.network.radios) ≤ 1099511627776
  bands : d.plan.bands.length ≤ 1099511627776
  licences : d.plan.licences.length ≤ 1099511627776
  prot : d.plan.protected_.length ≤ 1099511627776
  apart : siz (intssT d.plan.apart) ≤ 1099511627776
  requests : d.requests.length ≤ 1099511627776
theorem DeskSz.of {d : DDesk} (h : sizL d.tr ≤ 1099511627776) : DeskSz d := by
  have h0 := DDesk.siz_tr d
  have h1 := DPlan.siz_tr d.plan
  have h2 := DTerrain.siz_tr d.plan.terrain
  have h3 := DNetwork.siz_tr d.plan.network
  rw [siz_ints, siz_ints] at h2
  rw [DSite.siz_s, DSector.siz_s] at h3
  rw [DBand.siz_s, DLicence.siz_s, DProtected.siz_s] at h1
  rw [DRequest.siz_s] at h0
  constructor <;> omega
theorem row_le (m : List (List Int)) : ∀ k (h : k < m.length), m[k].length ≤ siz (intssT m) := by
  intro k h
  rw [siz_intss]
  induction m generalizing k with
  | nil => simp at h
  | cons r m ih =>
    cases k with
    | zero => simp [sumLen]; omega
    | succ k =>
      have := ih k (by simpa using h)
      simp [sumLen] at this ⊢
      omega
set_option maxHeartbeats 16000000 in
set_option maxRecDepth 100000 in
theorem sSameDesk_any (a b : DDesk) (v3 u3 v4 u4 v5 u5 v6 u6 v7 u7 v8 u8 v9 u9 v10 u10 v11 u11 v12 u12 v14 u14 : Value) (B : Nat) (w : World) (p3 : Rd B w (intsT a.plan.terrain.heights) v3) (r3 : Rd B w (intsT b.plan.terrain.heights) u3) (p4 : Rd B w (intsT a.plan.terrain.clutter) v4) (r4 : Rd B w (intsT b.plan.terrain.clutter) u4) (p5 : Rd B w (DSite.sT a.plan.network.sites) v5) (r5 : Rd B w (DSite.sT b.plan.network.sites) u5) (p6 : Rd B w (DSector.sT a.plan.network.sectors) v6) (r6 : Rd B w (DSector.sT b.plan.network.sectors) u6) (p7 : Rd B w (DAntenna.sT a.plan.network.antennas) v7) (r7 : Rd B w (DAntenna.sT b.plan.network.antennas) u7) (p8 : Rd B w (DRadio.sT a.plan.network.radios) v8) (r8 : Rd B w (DRadio.sT b.plan.network.radios) u8) (p9 : Rd B w (DBand.sT a.plan.bands) v9) (r9 : Rd B w (DBand.sT b.plan.bands) u9) (p10 : Rd B w (DLicence.sT a.plan.licences) v10) (r10 : Rd B w (DLicence.sT b.plan.licences) u10) (p11 : Rd B w (DProtected.sT a.plan.protected_) v11) (r11 : Rd B w (DProtected.sT b.plan.protected_) u11) (p12 : Rd B w (intssT a.plan.apart) v12) (r12 : Rd B w (intssT b.plan.apart) u12) (p14 : Rd B w (DRequest.sT a.requests) v14) (r14 : Rd B w (DRequest.sT b.requests) u14) (hB : B ≤ w.heap.size) (hsa : sizL a.tr ≤ 1099511627776) (hsb : sizL b.tr ≤ 1099511627776) :
    Calls Tryz.prog 7 #[.agg #[.int .i64 a.plan.terrain.step, .int .i64 a.plan.terrain.width, .int .i64 a.plan.terrain.height, v3, v4, v5, v6, v7, v8, v9, v10, v11, v12, .int .i64 a.plan.day, v14], .agg #[.int .i64 b.plan.terrain.step, .int .i64 b.plan.terrain.width, .int .i64 b.plan.terrain.height, u3, u4, u5, u6, u7, u8, u9, u10, u11, u12, .int .i64 b.plan.day, u14]] w fun e w' => e = .returned (.bool (sameDesk a b)) ∧ Below w.heap.size w w' := by
  have ZA := Lib.hid (DeskSz.of hsa)
  have ZB := Lib.hid (DeskSz.of hsb)
  obtain ⟨av3, cv3, ev, _, _, _⟩ := Rd.ints p3
  obtain ⟨au3, cu3, eu, _, _, _⟩ := Rd.ints r3
  subst ev eu
  obtain ⟨av4, cv4, ev, _, _, _⟩ := Rd.ints p4
  obtain ⟨au4, cu4, eu, _, _, _⟩ := Rd.ints r4
  subst ev eu
  obtain ⟨av5, cv5, ev, _, _, _⟩ := DSite.rd p5
  obtain ⟨au5, cu5, eu, _, _, _⟩ := DSite.rd r5
  subst ev eu
  obtain ⟨av6, cv6, ev, _, _, _⟩ := DSector.rd p6
  obtain ⟨au6, cu6, eu, _, _, _⟩ := DSector.rd r6
  subst ev eu
  obtain ⟨av7, cv7, ev, _, _, _⟩ := DAntenna.rd p7
  obtain ⟨au7, cu7, eu, _, _, _⟩ := DAntenna.rd r7
  subst ev eu
  obtain ⟨av8, cv8, ev, _, _, _⟩ := DRadio.rd p8
  obtain ⟨au8, cu8, eu, _, _, _⟩ := DRadio.rd r8
  subst ev eu
  obtain ⟨av9, cv9, ev, _, _, _⟩ := DBand.rd p9
  obtain ⟨au9, cu9, eu, _, _, _⟩ := DBand.rd r9
  subst ev eu
  obtain ⟨av10, cv10, ev, _, _, _⟩ := DLicence.rd p10
  obtain ⟨au10, cu10, eu, _, _, _⟩ := DLicence.rd r10
  subst ev eu
  obtain ⟨av11, cv11, ev, _, _, _⟩ := DProtected.rd p11
  obtain ⟨au11, cu11, eu, _, _, _⟩ := DProtected.rd r11
  subst ev eu
  obtain ⟨av12, cv12, ev, _, _, _⟩ := Rd.intss p12
  obtain ⟨au12, cu12, eu, _, _, _⟩ := Rd.intss r12
  subst ev eu
  obtain ⟨av14, cv14, ev, _, _, _⟩ := DRequest.rd p14
  obtain ⟨au14, cu14, eu, _, _, _⟩ := DRequest.rd r14
  subst ev eu
  have PP3 := Lib.hid p3
  have RR3 := Lib.hid r3
  clear p3 r3
  have PP4 := Lib.hid p4
  have RR4 := Lib.hid r4
  clear p4 r4
  have PP5 := Lib.hid p5
  have RR5 := Lib.hid r5
  clear p5 r5
  have PP6 := Lib.hid p6
  have RR6 := Lib.hid r6
  clear p6 r6
  have PP7 := Lib.hid p7
  have RR7 := Lib.hid r7
  clear p7 r7
  have PP8 := Lib.hid p8
  have RR8 := Lib.hid r8
  clear p8 r8
  have PP9 := Lib.hid p9
  have RR9 := Lib.hid r9
  clear p9 r9
  have PP10 := Lib.hid p10
  have RR10 := Lib.hid r10
  clear p10 r10
  have PP11 := Lib.hid p11
  have RR11 := Lib.hid r11
  clear p11 r11
  have PP12 := Lib.hid p12
  have RR12 := Lib.hid r12
  clear p12 r12
  have PP14 := Lib.hid p14
  have RR14 := Lib.hid r14
  clear p14 r14
  have ibandsa : (a.plan.bands.length : Int) ≤ 1099511627776 := by have := ZA.out.bands; omega
  have ibandsb : (b.plan.bands.length : Int) ≤ 1099511627776 := by have := ZB.out.bands; omega
  have iprota : (a.plan.protected_.length : Int) ≤ 1099511627776 := by have := ZA.out.prot; omega
  have iprotb : (b.plan.protected_.length : Int) ≤ 1099511627776 := by have := ZB.out.prot; omega
  have iapa : (a.plan.apart.length : Int) ≤ 1099511627776 := by have := ZA.out.apart; rw [siz_intss] at this; omega
  have iapb : (b.plan.apart.length : Int) ≤ 1099511627776 := by have := ZB.out.apart; rw [siz_intss] at this; omega
  obtain ⟨W0, hW0, b0, z0, k0, k1, k2, k3⟩ := boxes4 w #[.int .i64 a.plan.terrain.step, .int .i64 a.plan.terrain.width, .int .i64 a.plan.terrain.height, .slice av3 a.plan.terrain.heights.length cv3, .slice av4 a.plan.terrain.clutter.length cv4, .slice av5 a.plan.network.sites.length cv5, .slice av6 a.plan.network.sectors.length cv6, .slice av7 a.plan.network.antennas.length cv7, .slice av8 a.plan.network.radios.length cv8, .slice av9 a.plan.bands.length cv9, .slice av10 a.plan.licences.length cv10, .slice av11 a.plan.protected_.length cv11, .slice av12 a.plan.apart.length cv12, .int .i64 a.plan.day, .slice av14 a.requests.length cv14] 56 #[.int .i64 b.plan.terrain.step, .int .i64 b.plan.terrain.width, .int .i64 b.plan.terrain.height, .slice au3 b.plan.terrain.heights.length cu3, .slice au4 b.plan.terrain.clutter.length cu4, .slice au5 b.plan.network.sites.length cu5, .slice au6 b.plan.network.sectors.length cu6, .slice au7 b.plan.network.antennas.length cu7, .slice au8 b.plan.network.radios.length cu8, .slice au9 b.plan.bands.length cu9, .slice au10 b.plan.licences.length cu10, .slice au11 b.plan.protected_.length cu11, .slice au12 b.plan.apart.length cu12, .int .i64 b.plan.day, .slice au14 b.requests.length cu14] 56 #[.int .i64 a.plan.terrain.step, .int .i64 a.plan.terrain.width, .int .i64 a.plan.terrain.height, .slice av3 a.plan.terrain.heights.length cv3, .slice av4 a.plan.terrain.clutter.length cv4, .slice av5 a.plan.network.sites.length cv5, .slice av6 a.plan.network.sectors.length cv6, .slice av7 a.plan.network.antennas.length cv7, .slice av8 a.plan.network.radios.length cv8, .slice av9 a.plan.bands.length cv9, .slice av10 a.plan.licences.length cv10, .slice av11 a.plan.protected_.length cv11, .slice av12 a.plan.apart.length cv12, .int .i64 a.plan.day] 53 #[.int .i64 b.plan.terrain.step, .int .i64 b.plan.terrain.width, .int .i64 b.plan.terrain.height, .slice au3 b.plan.terrain.heights.length cu3, .slice au4 b.plan.terrain.clutter.length cu4, .slice au5 b.plan.network.sites.length cu5, .slice au6 b.plan.network.sectors.length cu6, .slice au7 b.plan.network.antennas.length cu7, .slice au8 b.plan.network.radios.length cu8, .slice au9 b.plan.bands.length cu9, .slice au10 b.plan.licences.length cu10, .slice au11 b.plan.protected_.length cu11, .slice au12 b.plan.apart.length cu12, .int .i64 b.plan.day] 53
  have HW0 := Lib.hid hW0
  clear hW0
  have B0 := Lib.hid b0
  clear b0
  have K0 := Lib.hid k0
  clear k0
  have K1 := Lib.hid k1
  clear k1
  have K2 := Lib.hid k2
  clear k2
  have K3 := Lib.hid k3
  clear k3
  have HB : Hid (Below W0.heap.size W0 W0) := Below.refl _ _
  have HH : Hid (∀ W : World, Below W0.heap.size W0 W → Below w.heap.size w W) := fun W hW => B0.out.trans (hW.mono (by omega))
  have HD : Hid (∀ W : World, Below W0.heap.size W0 W → (W.cell? ⟨w.heap.size, 14, none⟩ = some (.slice av14 a.requests.length cv14) ∧ W.cell? ⟨w.heap.size + 1, 14, none⟩ = some (.slice au14 b.requests.length cu14) ∧ W.cell? ⟨w.heap.size + 2, 0, none⟩ = some (.int .i64 a.plan.terrain.step) ∧ W.cell? ⟨w.heap.size + 2, 1, none⟩ = some (.int .i64 a.plan.terrain.width) ∧ W.cell? ⟨w.heap.size + 2, 2, none⟩ = some (.int .i64 a.plan.terrain.height) ∧ W.cell? ⟨w.heap.size + 2, 3, none⟩ = some (.slice av3 a.plan.terrain.heights.length cv3) ∧ W.cell? ⟨w.heap.size + 2, 4, none⟩ = some (.slice av4 a.plan.terrain.clutter.length cv4) ∧ W.cell? ⟨w.heap.size + 2, 5, none⟩ = some (.slice av5 a.plan.network.sites.length cv5) ∧ W.cell? ⟨w.heap.size + 2, 6, none⟩ = some (.slice av6 a.plan.network.sectors.length cv6) ∧ W.cell? ⟨w.heap.size + 2, 7, none⟩ = some (.slice av7 a.plan.network.antennas.length cv7) ∧ W.cell? ⟨w.heap.size + 2, 8, none⟩ = some (.slice av8 a.plan.network.radios.length cv8) ∧ W.cell? ⟨w.heap.size + 2, 9, none⟩ = some (.slice av9 a.plan.bands.length cv9) ∧ W.cell? ⟨w.heap.size + 2, 10, none⟩ = some (.slice av10 a.plan.licences.length cv10) ∧ W.cell? ⟨w.heap.size + 2, 11, none⟩ = some (.slice av11 a.plan.protected_.length cv11) ∧ W.cell? ⟨w.heap.size + 2, 12, none⟩ = some (.slice av12 a.plan.apart.length cv12) ∧ W.cell? ⟨w.heap.size + 2, 13, none⟩ = some (.int .i64 a.plan.day) ∧ W.cell? ⟨w.heap.size + 3, 0, none⟩ = some (.int .i64 b.plan.terrain.step) ∧ W.cell? ⟨w.heap.size + 3, 1, none⟩ = some (.int .i64 b.plan.terrain.width) ∧ W.cell? ⟨w.heap.size + 3, 2, none⟩ = some (.int .i64 b.plan.terrain.height) ∧ W.cell? ⟨w.heap.size + 3, 3, none⟩ = some (.slice au3 b.plan.terrain.heights.length cu3) ∧ W.cell? ⟨w.heap.size + 3, 4, none⟩ = some (.slice au4 b.plan.terrain.clutter.length cu4) ∧ W.cell? ⟨w.heap.size + 3, 5, none⟩ = some (.slice au5 b.plan.network.sites.length cu5) ∧ W.cell? ⟨w.heap.size + 3, 6, none⟩ = some (.slice au6 b.plan.network.sectors.length cu6) ∧ W.cell? ⟨w.heap.size + 3, 7, none⟩ = some (.slice au7 b.plan.network.antennas.length cu7) ∧ W.cell? ⟨w.heap.size + 3, 8, none⟩ = some (.slice au8 b.plan.network.radios.length cu8) ∧ W.cell? ⟨w.heap.size + 3, 9, none⟩ = some (.slice au9 b.plan.bands.length cu9) ∧ W.cell? ⟨w.heap.size + 3, 10, none⟩ = some (.slice au10 b.plan.licences.length cu10) ∧ W.cell? ⟨w.heap.size + 3, 11, none⟩ = some (.slice au11 b.plan.protected_.length cu11) ∧ W.cell? ⟨w.heap.size + 3, 12, none⟩ = some (.slice au12 b.plan.apart.length cu12) ∧ W.cell? ⟨w.heap.size + 3, 13, none⟩ = some (.int .i64 b.plan.day))) := fun W hW => ⟨bkC (bkB K0.out hW (by omega)) 14 rfl, bkC (bkB K1.out hW (by omega)) 14 rfl, bkC (bkB K2.out hW (by omega)) 0 rfl, bkC (bkB K2.out hW (by omega)) 1 rfl, bkC (bkB K2.out hW (by omega)) 2 rfl, bkC (bkB K2.out hW (by omega)) 3 rfl, bkC (bkB K2.out hW (by omega)) 4 rfl, bkC (bkB K2.out hW (by omega)) 5 rfl, bkC (bkB K2.out hW (by omega)) 6 rfl, bkC (bkB K2.out hW (by omega)) 7 rfl, bkC (bkB K2.out hW (by omega)) 8 rfl, bkC (bkB K2.out hW (by omega)) 9 rfl, bkC (bkB K2.out hW (by omega)) 10 rfl, bkC (bkB K2.out hW (by omega)) 11 rfl, bkC (bkB K2.out hW (by omega)) 12 rfl, bkC (bkB K2.out hW (by omega)) 13 rfl, bkC (bkB K3.out hW (by omega)) 0 rfl, bkC (bkB K3.out hW (by omega)) 1 rfl, bkC (bkB K3.out hW (by omega)) 2 rfl, bkC (bkB K3.out hW (by omega)) 3 rfl, bkC (bkB K3.out hW (by omega)) 4 rfl, bkC (bkB K3.out hW (by omega)) 5 rfl, bkC (bkB K3.out hW (by omega)) 6 rfl, bkC (bkB K3.out hW (by omega)) 7 rfl, bkC (bkB K3.out hW (by omega)) 8 rfl, bkC (bkB K3.out hW (by omega)) 9 rfl, bkC (bkB K3.out hW (by omega)) 10 rfl, bkC (bkB K3.out hW (by omega)) 11 rfl, bkC (bkB K3.out hW (by omega)) 12 rfl, bkC (bkB K3.out hW (by omega)) 13 rfl⟩
  have C0 : Hid (∀ W : World, Below W0.heap.size W0 W → Calls Tryz.prog 23 #[.agg #[.int .i64 a.plan.terrain.step, .int .i64 a.plan.terrain.width, .int .i64 a.plan.terrain.height, .slice av3 a.plan.terrain.heights.length cv3, .slice av4 a.plan.terrain.clutter.length cv4], .agg #[.int .i64 b.plan.terrain.step, .int .i64 b.plan.terrain.width, .int .i64 b.plan.terrain.height, .slice au3 b.plan.terrain.heights.length cu3, .slice au4 b.plan.terrain.clutter.length cu4]] W fun e w' => e = .returned (.bool (sameTerrain a.plan.terrain b.plan.terrain)) ∧ Below W.heap.size W w') := fun W hW => sSameTerrain_any a.plan.terrain b.plan.terrain _ _ _ _ B W (PP3.out.below ((HH.out W hW).mono hB)) (RR3.out.below ((HH.out W hW).mono hB)) (PP4.out.below ((HH.out W hW).mono hB)) (RR4.out.below ((HH.out W hW).mono hB)) (Nat.le_trans hB (HH.out W hW).size) ZA.out.heights ZB.out.heights ZA.out.clutter ZB.out.clutter
  have C1 : Hid (∀ W : World, Below W0.heap.size W0 W → Calls Tryz.prog 24 #[.agg #[.slice av5 a.plan.network.sites.length cv5, .slice av6 a.plan.network.sectors.length cv6, .slice av7 a.plan.network.antennas.length cv7, .slice av8 a.plan.network.radios.length cv8], .agg #[.slice au5 b.plan.network.sites.length cu5, .slice au6 b.plan.network.sectors.length cu6, .slice au7 b.plan.network.antennas.length cu7, .slice au8 b.plan.network.radios.length cu8]] W fun e w' => e = .returned (.bool (sameNetwork a.plan.network b.plan.network)) ∧ Below W.heap.size W w') := fun W hW => sSameNetwork_any a.plan.network b.plan.network _ _ _ _ _ _ _ _ B W (PP5.out.below ((HH.out W hW).mono hB)) (RR5.out.below ((HH.out W hW).mono hB)) (PP6.out.below ((HH.out W hW).mono hB)) (RR6.out.below ((HH.out W hW).mono hB)) (PP7.out.below ((HH.out W hW).mono hB)) (RR7.out.below ((HH.out W hW).mono hB)) (PP8.out.below ((HH.out W hW).mono hB)) (RR8.out.below ((HH.out W hW).mono hB)) (Nat.le_trans hB (HH.out W hW).size) ZA.out.sites ZB.out.sites ZA.out.sectors ZB.out.sectors ZA.out.antennas ZB.out.antennas ZA.out.radios ZB.out.radios
  have C2 : Hid (∀ W : World, Below W0.heap.size W0 W → Calls Tryz.prog 25 #[.slice av10 a.plan.licences.length cv10, .slice au10 b.plan.licences.length cu10] W fun e w' => e = .returned (.bool (sameLicenceS a.plan.licences b.plan.licences)) ∧ Below W.heap.size W w') := fun W hW => sSameHoldings_any _ _ _ _ B W (PP10.out.below ((HH.out W hW).mono hB)) (RR10.out.below ((HH.out W hW).mono hB)) (Nat.le_trans hB (HH.out W hW).size) ZA.out.licences ZB.out.licences
  have C3 : Hid (∀ W : World, Below W0.heap.size W0 W → Calls Tryz.prog 26 #[.slice av14 a.requests.length cv14, .slice au14 b.requests.length cu14] W fun e w' => e = .returned (.bool (sameRequestS a.requests b.requests)) ∧ Below W.heap.size W w') := fun W hW => sSameRequests_any _ _ _ _ B W (PP14.out.below ((HH.out W hW).mono hB)) (RR14.out.below ((HH.out W hW).mono hB)) (Nat.le_trans hB (HH.out W hW).size) ZA.out.requests ZB.out.requests
  go_enter Tryz.func7, Tryz.ntmps7
  go_upto_region 3 with (fail)
  rw [HW0.out]
  obtain ⟨t0, t1, t2, t3, t4, t5, t6, t7, t8, t9, t10, t11, t12, t13, t14, t15, t16, t17, t18, t19, t20, t21, t22, t23, t24, t25, t26, t27, t28, t29⟩ := HD.out _ HB.out
  by_cases h0 : sameTerrain a.plan.terrain b.plan.terrain = true
  case neg =>
    replace h0 : sameTerrain a.plan.terrain b.plan.terrain = false := Bool.eq_false_iff.2 h0
    rw [h0] at C0
    have HE : Hid (sameDesk a b = false) := by show _ = _; unfold sameDesk; rw [h0]; simp
    go_wp2_with (first | (go_at_call 23; with_reducible refine (C0.out _ HB.out).mono ?_; rintro e w2 ⟨rfl, hb2⟩; (try clear t0 t1 t2 t3 t4 t5 t6 t7 t8 t9 t10 t11 t12 t13 t14 t15 t16 t17 t18 t19 t20 t21 t22 t23 t24 t25 t26 t27 t28 t29); replace HB := Lib.hid (HB.out.trans (hb2.mono HB.out.size)); clear hb2; obtain ⟨t0, t1, t2, t3, t4, t5, t6, t7, t8, t9, t10, t11, t12, t13, t14, t15, t16, t17, t18, t19, t20, t21, t22, t23, t24, t25, t26, t27, t28, t29⟩ := HD.out _ HB.out) | (go_at_call 24; with_reducible refine (C1.out _ HB.out).mono ?_; rintro e w2 ⟨rfl, hb2⟩; (try clear t0 t1 t2 t3 t4 t5 t6 t7 t8 t9 t10 t11 t12 t13 t14 t15 t16 t17 t18 t19 t20 t21 t22 t23 t24 t25 t26 t27 t28 t29); replace HB := Lib.hid (HB.out.trans (hb2.mono HB.out.size)); clear hb2; obtain ⟨t0, t1, t2, t3, t4, t5, t6, t7, t8, t9, t10, t11, t12, t13, t14, t15, t16, t17, t18, t19, t20, t21, t22, t23, t24, t25, t26, t27, t28, t29⟩ := HD.out _ HB.out) | (go_at_call 25; with_reducible refine (C2.out _ HB.out).mono ?_; rintro e w2 ⟨rfl, hb2⟩; (try clear t0 t1 t2 t3 t4 t5 t6 t7 t8 t9 t10 t11 t12 t13 t14 t15 t16 t17 t18 t19 t20 t21 t22 t23 t24 t25 t26 t27 t28 t29); replace HB := Lib.hid (HB.out.trans (hb2.mono HB.out.size)); clear hb2; obtain ⟨t0, t1, t2, t3, t4, t5, t6, t7, t8, t9, t10, t11, t12, t13, t14, t15, t16, t17, t18, t19, t20, t21, t22, t23, t24, t25, t26, t27, t28, t29⟩ := HD.out _ HB.out) | (go_at_call 26; with_reducible refine (C3.out _ HB.out).mono ?_; rintro e w2 ⟨rfl, hb2⟩; (try clear t0 t1 t2 t3 t4 t5 t6 t7 t8 t9 t10 t11 t12 t13 t14 t15 t16 t17 t18 t19 t20 t21 t22 t23 t24 t25 t26 t27 t28 t29); replace HB := Lib.hid (HB.out.trans (hb2.mono HB.out.size)); clear hb2; obtain ⟨t0, t1, t2, t3, t4, t5, t6, t7, t8, t9, t10, t11, t12, t13, t14, t15, t16, t17, t18, t19, t20, t21, t22, t23, t24, t25, t26, t27, t28, t29⟩ := HD.out _ HB.out))
    go_ret
    exact ⟨by rw [HE.out]; rfl, HH.out _ HB.out⟩
  rw [h0] at C0
  by_cases h1 : sameNetwork a.plan.network b.plan.network = true
  case neg =>
    replace h1 : sameNetwork a.plan.network b.plan.network = false := Bool.eq_false_iff.2 h1
    rw [h1] at C1
    have HE : Hid (sameDesk a b = false) := by show _ = _; unfold sameDesk; rw [h1]; simp
    go_wp2_with (first | (go_at_call 23; with_reducible refine (C0.out _ HB.out).mono ?_; rintro e w2 ⟨rfl, hb2⟩; (try clear t0 t1 t2 t3 t4 t5 t6 t7 t8 t9 t10 t11 t12 t13 t14 t15 t16 t17 t18 t19 t20 t21 t22 t23 t24 t25 t26 t27 t28 t29); replace HB := Lib.hid (HB.out.trans (hb2.mono HB.out.size)); clear hb2; obtain ⟨t0, t1, t2, t3, t4, t5, t6, t7, t8, t9, t10, t11, t12, t13, t14, t15, t16, t17, t18, t19, t20, t21, t22, t23, t24, t25, t26, t27, t28, t29⟩ := HD.out _ HB.out) | (go_at_call 24; with_reducible refine (C1.out _ HB.out).mono ?_; rintro e w2 ⟨rfl, hb2⟩; (try clear t0 t1 t2 t3 t4 t5 t6 t7 t8 t9 t10 t11 t12 t13 t14 t15 t16 t17 t18 t19 t20 t21 t22 t23 t24 t25 t26 t27 t28 t29); replace HB := Lib.hid (HB.out.trans (hb2.mono HB.out.size)); clear hb2; obtain ⟨t0, t1, t2, t3, t4, t5, t6, t7, t8, t9, t10, t11, t12, t13, t14, t15, t16, t17, t18, t19, t20, t21, t22, t23, t24, t25, t26, t27, t28, t29⟩ := HD.out _ HB.out) | (go_at_call 25; with_reducible refine (C2.out _ HB.out).mono ?_; rintro e w2 ⟨rfl, hb2⟩; (try clear t0 t1 t2 t3 t4 t5 t6 t7 t8 t9 t10 t11 t12 t13 t14 t15 t16 t17 t18 t19 t20 t21 t22 t23 t24 t25 t26 t27 t28 t29); replace HB := Lib.hid (HB.out.trans (hb2.mono HB.out.size)); clear hb2; obtain ⟨t0, t1, t2, t3, t4, t5, t6, t7, t8, t9, t10, t11, t12, t13, t14, t15, t16, t17, t18, t19, t20, t21, t22, t23, t24, t25, t26, t27, t28, t29⟩ := HD.out _ HB.out) | (go_at_call 26; with_reducible refine (C3.out _ HB.out).mono ?_; rintro e w2 ⟨rfl, hb2⟩; (try clear t0 t1 t2 t3 t4 t5 t6 t7 t8 t9 t10 t11 t12 t13 t14 t15 t16 t17 t18 t19 t20 t21 t22 t23 t24 t25 t26 t27 t28 t29); replace HB := Lib.hid (HB.out.trans (hb2.mono HB.out.size)); clear hb2; obtain ⟨t0, t1, t2, t3, t4, t5, t6, t7, t8, t9, t10, t11, t12, t13, t14, t15, t16, t17, t18, t19, t20, t21, t22, t23, t24, t25, t26, t27, t28, t29⟩ := HD.out _ HB.out))
    go_ret
    exact ⟨by rw [HE.out]; rfl, HH.out _ HB.out⟩
  rw [h1] at C1
  by_cases h2 : sameLicenceS a.plan.licences b.plan.licences = true
  case neg =>
    replace h2 : sameLicenceS a.plan.licences b.plan.licences = false := Bool.eq_false_iff.2 h2
    rw [h2] at C2
    have HE : Hid (sameDesk a b = false) := by show _ = _; unfold sameDesk; rw [h2]; simp
    go_wp2_with (first | (go_at_call 23; with_reducible refine (C0.out _ HB.out).mono ?_; rintro e w2 ⟨rfl, hb2⟩; (try clear t0 t1 t2 t3 t4 t5 t6 t7 t8 t9 t10 t11 t12 t13 t14 t15 t16 t17 t18 t19 t20 t21 t22 t23 t24 t25 t26 t27 t28 t29); replace HB := Lib.hid (HB.out.trans (hb2.mono HB.out.size)); clear hb2; obtain ⟨t0, t1, t2, t3, t4, t5, t6, t7, t8, t9, t10, t11, t12, t13, t14, t15, t16, t17, t18, t19, t20, t21, t22, t23, t24, t25, t26, t27, t28, t29⟩ := HD.out _ HB.out) | (go_at_call 24; with_reducible refine (C1.out _ HB.out).mono ?_; rintro e w2 ⟨rfl, hb2⟩; (try clear t0 t1 t2 t3 t4 t5 t6 t7 t8 t9 t10 t11 t12 t13 t14 t15 t16 t17 t18 t19 t20 t21 t22 t23 t24 t25 t26 t27 t28 t29); replace HB := Lib.hid (HB.out.trans (hb2.mono HB.out.size)); clear hb2; obtain ⟨t0, t1, t2, t3, t4, t5, t6, t7, t8, t9, t10, t11, t12, t13, t14, t15, t16, t17, t18, t19, t20, t21, t22, t23, t24, t25, t26, t27, t28, t29⟩ := HD.out _ HB.out) | (go_at_call 25; with_reducible refine (C2.out _ HB.out).mono ?_; rintro e w2 ⟨rfl, hb2⟩; (try clear t0 t1 t2 t3 t4 t5 t6 t7 t8 t9 t10 t11 t12 t13 t14 t15 t16 t17 t18 t19 t20 t21 t22 t23 t24 t25 t26 t27 t28 t29); replace HB := Lib.hid (HB.out.trans (hb2.mono HB.out.size)); clear hb2; obtain ⟨t0, t1, t2, t3, t4, t5, t6, t7, t8, t9, t10, t11, t12, t13, t14, t15, t16, t17, t18, t19, t20, t21, t22, t23, t24, t25, t26, t27, t28, t29⟩ := HD.out _ HB.out) | (go_at_call 26; with_reducible refine (C3.out _ HB.out).mono ?_; rintro e w2 ⟨rfl, hb2⟩; (try clear t0 t1 t2 t3 t4 t5 t6 t7 t8 t9 t10 t11 t12 t13 t14 t15 t16 t17 t18 t19 t20 t21 t22 t23 t24 t25 t26 t27 t28 t29); replace HB := Lib.hid (HB.out.trans (hb2.mono HB.out.size)); clear hb2; obtain ⟨t0, t1, t2, t3, t4, t5, t6, t7, t8, t9, t10, t11, t12, t13, t14, t15, t16, t17, t18, t19, t20, t21, t22, t23, t24, t25, t26, t27, t28, t29⟩ := HD.out _ HB.out))
    go_ret
    exact ⟨by rw [HE.out]; rfl, HH.out _ HB.out⟩
  rw [h2] at C2
  by_cases h3 : (a.plan.day == b.plan.day) = true
  case neg =>
    replace h3 : (a.plan.day == b.plan.day) = false := Bool.eq_false_iff.2 h3
    have nd : (a.plan.day != b.plan.day) = true := by rw [bne, h3]; rfl
    have HE : Hid (sameDesk a b = false) := by show _ = _; unfold sameDesk; rw [h3]; simp
    go_wp2_with (first | (go_at_call 23; with_reducible refine (C0.out _ HB.out).mono ?_; rintro e w2 ⟨rfl, hb2⟩; (try clear t0 t1 t2 t3 t4 t5 t6 t7 t8 t9 t10 t11 t12 t13 t14 t15 t16 t17 t18 t19 t20 t21 t22 t23 t24 t25 t26 t27 t28 t29); replace HB := Lib.hid (HB.out.trans (hb2.mono HB.out.size)); clear hb2; obtain ⟨t0, t1, t2, t3, t4, t5, t6, t7, t8, t9, t10, t11, t12, t13, t14, t15, t16, t17, t18, t19, t20, t21, t22, t23, t24, t25, t26, t27, t28, t29⟩ := HD.out _ HB.out) | (go_at_call 24; with_reducible refine (C1.out _ HB.out).mono ?_; rintro e w2 ⟨rfl, hb2⟩; (try clear t0 t1 t2 t3 t4 t5 t6 t7 t8 t9 t10 t11 t12 t13 t14 t15 t16 t17 t18 t19 t20 t21 t22 t23 t24 t25 t26 t27 t28 t29); replace HB := Lib.hid (HB.out.trans (hb2.mono HB.out.size)); clear hb2; obtain ⟨t0, t1, t2, t3, t4, t5, t6, t7, t8, t9, t10, t11, t12, t13, t14, t15, t16, t17, t18, t19, t20, t21, t22, t23, t24, t25, t26, t27, t28, t29⟩ := HD.out _ HB.out) | (go_at_call 25; with_reducible refine (C2.out _ HB.out).mono ?_; rintro e w2 ⟨rfl, hb2⟩; (try clear t0 t1 t2 t3 t4 t5 t6 t7 t8 t9 t10 t11 t12 t13 t14 t15 t16 t17 t18 t19 t20 t21 t22 t23 t24 t25 t26 t27 t28 t29); replace HB := Lib.hid (HB.out.trans (hb2.mono HB.out.size)); clear hb2; obtain ⟨t0, t1, t2, t3, t4, t5, t6, t7, t8, t9, t10, t11, t12, t13, t14, t15, t16, t17, t18, t19, t20, t21, t22, t23, t24, t25, t26, t27, t28, t29⟩ := HD.out _ HB.out) | (go_at_call 26; with_reducible refine (C3.out _ HB.out).mono ?_; rintro e w2 ⟨rfl, hb2⟩; (try clear t0 t1 t2 t3 t4 t5 t6 t7 t8 t9 t10 t11 t12 t13 t14 t15 t16 t17 t18 t19 t20 t21 t22 t23 t24 t25 t26 t27 t28 t29); replace HB := Lib.hid (HB.out.trans (hb2.mono HB.out.size)); clear hb2; obtain ⟨t0, t1, t2, t3, t4, t5, t6, t7, t8, t9, t10, t11, t12, t13, t14, t15, t16, t17, t18, t19, t20, t21, t22, t23, t24, t25, t26, t27, t28, t29⟩ := HD.out _ HB.out))
    go_ret
    exact ⟨by rw [HE.out]; rfl, HH.out _ HB.out⟩
  have nd : (a.plan.day != b.plan.day) = false := by rw [bne, h3]; rfl
  by_cases h4 : sameRequestS a.requests b.requests = true
  case neg =>
    replace h4 : sameRequestS a.requests b.requests = false := Bool.eq_false_iff.2 h4
    rw [h4] at C3
    have HE : Hid (sameDesk a b = false) := by show _ = _; unfold sameDesk; rw [h4]; simp
    go_wp2_with (first | (go_at_call 23; with_reducible refine (C0.out _ HB.out).mono ?_; rintro e w2 ⟨rfl, hb2⟩; (try clear t0 t1 t2 t3 t4 t5 t6 t7 t8 t9 t10 t11 t12 t13 t14 t15 t16 t17 t18 t19 t20 t21 t22 t23 t24 t25 t26 t27 t28 t29); replace HB := Lib.hid (HB.out.trans (hb2.mono HB.out.size)); clear hb2; obtain ⟨t0, t1, t2, t3, t4, t5, t6, t7, t8, t9, t10, t11, t12, t13, t14, t15, t16, t17, t18, t19, t20, t21, t22, t23, t24, t25, t26, t27, t28, t29⟩ := HD.out _ HB.out) | (go_at_call 24; with_reducible refine (C1.out _ HB.out).mono ?_; rintro e w2 ⟨rfl, hb2⟩; (try clear t0 t1 t2 t3 t4 t5 t6 t7 t8 t9 t10 t11 t12 t13 t14 t15 t16 t17 t18 t19 t20 t21 t22 t23 t24 t25 t26 t27 t28 t29); replace HB := Lib.hid (HB.out.trans (hb2.mono HB.out.size)); clear hb2; obtain ⟨t0, t1, t2, t3, t4, t5, t6, t7, t8, t9, t10, t11, t12, t13, t14, t15, t16, t17, t18, t19, t20, t21, t22, t23, t24, t25, t26, t27, t28, t29⟩ := HD.out _ HB.out) | (go_at_call 25; with_reducible refine (C2.out _ HB.out).mono ?_; rintro e w2 ⟨rfl, hb2⟩; (try clear t0 t1 t2 t3 t4 t5 t6 t7 t8 t9 t10 t11 t12 t13 t14 t15 t16 t17 t18 t19 t20 t21 t22 t23 t24 t25 t26 t27 t28 t29); replace HB := Lib.hid (HB.out.trans (hb2.mono HB.out.size)); clear hb2; obtain ⟨t0, t1, t2, t3, t4, t5, t6, t7, t8, t9, t10, t11, t12, t13, t14, t15, t16, t17, t18, t19, t20, t21, t22, t23, t24, t25, t26, t27, t28, t29⟩ := HD.out _ HB.out) | (go_at_call 26; with_reducible refine (C3.out _ HB.out).mono ?_; rintro e w2 ⟨rfl, hb2⟩; (try clear t0 t1 t2 t3 t4 t5 t6 t7 t8 t9 t10 t11 t12 t13 t14 t15 t16 t17 t18 t19 t20 t21 t22 t23 t24 t25 t26 t27 t28 t29); replace HB := Lib.hid (HB.out.trans (hb2.mono HB.out.size)); clear hb2; obtain ⟨t0, t1, t2, t3, t4, t5, t6, t7, t8, t9, t10, t11, t12, t13, t14, t15, t16, t17, t18, t19, t20, t21, t22, t23, t24, t25, t26, t27, t28, t29⟩ := HD.out _ HB.out))
    go_ret
    exact ⟨by rw [HE.out]; rfl, HH.out _ HB.out⟩
  rw [h4] at C3
  by_cases hl0 : a.plan.bands.length = b.plan.bands.length
  case neg =>
    have nl0 : ((a.plan.bands.length : Int) != (b.plan.bands.length : Int)) = true := by simp; omega
    have hq := sameBandS_len hl0
    clear hl0
    have HE : Hid (sameDesk a b = false) := by show _ = _; unfold sameDesk; rw [hq]; simp
    go_wp2_with (first | (go_at_call 23; with_reducible refine (C0.out _ HB.out).mono ?_; rintro e w2 ⟨rfl, hb2⟩; (try clear t0 t1 t2 t3 t4 t5 t6 t7 t8 t9 t10 t11 t12 t13 t14 t15 t16 t17 t18 t19 t20 t21 t22 t23 t24 t25 t26 t27 t28 t29); replace HB := Lib.hid (HB.out.trans (hb2.mono HB.out.size)); clear hb2; obtain ⟨t0, t1, t2, t3, t4, t5, t6, t7, t8, t9, t10, t11, t12, t13, t14, t15, t16, t17, t18, t19, t20, t21, t22, t23, t24, t25, t26, t27, t28, t29⟩ := HD.out _ HB.out) | (go_at_call 24; with_reducible refine (C1.out _ HB.out).mono ?_; rintro e w2 ⟨rfl, hb2⟩; (try clear t0 t1 t2 t3 t4 t5 t6 t7 t8 t9 t10 t11 t12 t13 t14 t15 t16 t17 t18 t19 t20 t21 t22 t23 t24 t25 t26 t27 t28 t29); replace HB := Lib.hid (HB.out.trans (hb2.mono HB.out.size)); clear hb2; obtain ⟨t0, t1, t2, t3, t4, t5, t6, t7, t8, t9, t10, t11, t12, t13, t14, t15, t16, t17, t18, t19, t20, t21, t22, t23, t24, t25, t26, t27, t28, t29⟩ := HD.out _ HB.out) | (go_at_call 25; with_reducible refine (C2.out _ HB.out).mono ?_; rintro e w2 ⟨rfl, hb2⟩; (try clear t0 t1 t2 t3 t4 t5 t6 t7 t8 t9 t10 t11 t12 t13 t14 t15 t16 t17 t18 t19 t20 t21 t22 t23 t24 t25 t26 t27 t28 t29); replace HB := Lib.hid (HB.out.trans (hb2.mono HB.out.size)); clear hb2; obtain ⟨t0, t1, t2, t3, t4, t5, t6, t7, t8, t9, t10, t11, t12, t13, t14, t15, t16, t17, t18, t19, t20, t21, t22, t23, t24, t25, t26, t27, t28, t29⟩ := HD.out _ HB.out) | (go_at_call 26; with_reducible refine (C3.out _ HB.out).mono ?_; rintro e w2 ⟨rfl, hb2⟩; (try clear t0 t1 t2 t3 t4 t5 t6 t7 t8 t9 t10 t11 t12 t13 t14 t15 t16 t17 t18 t19 t20 t21 t22 t23 t24 t25 t26 t27 t28 t29); replace HB := Lib.hid (HB.out.trans (hb2.mono HB.out.size)); clear hb2; obtain ⟨t0, t1, t2, t3, t4, t5, t6, t7, t8, t9, t10, t11, t12, t13, t14, t15, t16, t17, t18, t19, t20, t21, t22, t23, t24, t25, t26, t27, t28, t29⟩ := HD.out _ HB.out))
    go_ret
    exact ⟨by rw [HE.out]; rfl, HH.out _ HB.out⟩
  have HL0 := Lib.hid hl0
  have nl0 : ((a.plan.bands.length : Int) != (b.plan.bands.length : Int)) = false := by simp; omega
  clear hl0
  have HFT0 : Hid (sameBandS a.plan.bands b.plan.bands = false → sameDesk a b = false) := fun h => by unfold sameDesk; rw [h]; simp
  have HP0 : Hid (∀ W : World, Below W0.heap.size W0 W → (W.cell? ⟨w.heap.size + 2, 9, none⟩ = some (.slice av9 a.plan.bands.length cv9) ∧ W.cell? ⟨w.heap.size + 3, 9, none⟩ = some (.slice au9 b.plan.bands.length cu9))) := fun W hW => ⟨bkC (bkB K2.out hW (by omega)) 9 rfl, bkC (bkB K3.out hW (by omega)) 9 rfl⟩
  by_cases hl1 : a.plan.protected_.length = b.plan.protected_.length
  case neg =>
    have nl1 : ((a.plan.protected_.length : Int) != (b.plan.protected_.length : Int)) = true := by simp; omega
    have hq := sameProtectedS_len hl1
    clear hl1
    have HE : Hid (sameDesk a b = false) := by show _ = _; unfold sameDesk; rw [hq]; simp
    go_wp2_with (first | (go_at_call 23; with_reducible refine (C0.out _ HB.out).mono ?_; rintro e w2 ⟨rfl, hb2⟩; (try clear t0 t1 t2 t3 t4 t5 t6 t7 t8 t9 t10 t11 t12 t13 t14 t15 t16 t17 t18 t19 t20 t21 t22 t23 t24 t25 t26 t27 t28 t29); replace HB := Lib.hid (HB.out.trans (hb2.mono HB.out.size)); clear hb2; obtain ⟨t0, t1, t2, t3, t4, t5, t6, t7, t8, t9, t10, t11, t12, t13, t14, t15, t16, t17, t18, t19, t20, t21, t22, t23, t24, t25, t26, t27, t28, t29⟩ := HD.out _ HB.out) | (go_at_call 24; with_reducible refine (C1.out _ HB.out).mono ?_; rintro e w2 ⟨rfl, hb2⟩; (try clear t0 t1 t2 t3 t4 t5 t6 t7 t8 t9 t10 t11 t12 t13 t14 t15 t16 t17 t18 t19 t20 t21 t22 t23 t24 t25 t26 t27 t28 t29); replace HB := Lib.hid (HB.out.trans (hb2.mono HB.out.size)); clear hb2; obtain ⟨t0, t1, t2, t3, t4, t5, t6, t7, t8, t9, t10, t11, t12, t13, t14, t15, t16, t17, t18, t19, t20, t21, t22, t23, t24, t25, t26, t27, t28, t29⟩ := HD.out _ HB.out) | (go_at_call 25; with_reducible refine (C2.out _ HB.out).mono ?_; rintro e w2 ⟨rfl, hb2⟩; (try clear t0 t1 t2 t3 t4 t5 t6 t7 t8 t9 t10 t11 t12 t13 t14 t15 t16 t17 t18 t19 t20 t21 t22 t23 t24 t25 t26 t27 t28 t29); replace HB := Lib.hid (HB.out.trans (hb2.mono HB.out.size)); clear hb2; obtain ⟨t0, t1, t2, t3, t4, t5, t6, t7, t8, t9, t10, t11, t12, t13, t14, t15, t16, t17, t18, t19, t20, t21, t22, t23, t24, t25, t26, t27, t28, t29⟩ := HD.out _ HB.out) | (go_at_call 26; with_reducible refine (C3.out _ HB.out).mono ?_; rintro e w2 ⟨rfl, hb2⟩; (try clear t0 t1 t2 t3 t4 t5 t6 t7 t8 t9 t10 t11 t12 t13 t14 t15 t16 t17 t18 t19 t20 t21 t22 t23 t24 t25 t26 t27 t28 t29); replace HB := Lib.hid (HB.out.trans (hb2.mono HB.out.size)); clear hb2; obtain ⟨t0, t1, t2, t3, t4, t5, t6, t7, t8, t9, t10, t11, t12, t13, t14, t15, t16, t17, t18, t19, t20, t21, t22, t23, t24, t25, t26, t27, t28, t29⟩ := HD.out _ HB.out))
    go_ret
    exact ⟨by rw [HE.out]; rfl, HH.out _ HB.out⟩
  have HL1 := Lib.hid hl1
  have nl1 : ((a.plan.protected_.length : Int) != (b.plan.protected_.length : Int)) = false := by simp; omega
  clear hl1
  have HFT1 : Hid (sameProtectedS a.plan.protected_ b.plan.protected_ = false → sameDesk a b = false) := fun h => by unfold sameDesk; rw [h]; simp
  have HP1 : Hid (∀ W : World, Below W0.heap.size W0 W → (W.cell? ⟨w.heap.size + 2, 11, none⟩ = some (.slice av11 a.plan.protected_.length cv11) ∧ W.cell? ⟨w.heap.size + 3, 11, none⟩ = some (.slice au11 b.plan.protected_.length cu11))) := fun W hW => ⟨bkC (bkB K2.out hW (by omega)) 11 rfl, bkC (bkB K3.out hW (by omega)) 11 rfl⟩
  by_cases hl2 : a.plan.apart.length = b.plan.apart.length
  case neg =>
    have nl2 : ((a.plan.apart.length : Int) != (b.plan.apart.length : Int)) = true := by simp; omega
    have hq := sameII_len hl2
    clear hl2
    have HE : Hid (sameDesk a b = false) := by show _ = _; unfold sameDesk; rw [hq]; simp
    go_wp2_with (first | (go_at_call 23; with_reducible refine (C0.out _ HB.out).mono ?_; rintro e w2 ⟨rfl, hb2⟩; (try clear t0 t1 t2 t3 t4 t5 t6 t7 t8 t9 t10 t11 t12 t13 t14 t15 t16 t17 t18 t19 t20 t21 t22 t23 t24 t25 t26 t27 t28 t29); replace HB := Lib.hid (HB.out.trans (hb2.mono HB.out.size)); clear hb2; obtain ⟨t0, t1, t2, t3, t4, t5, t6, t7, t8, t9, t10, t11, t12, t13, t14, t15, t16, t17, t18, t19, t20, t21, t22, t23, t24, t25, t26, t27, t28, t29⟩ := HD.out _ HB.out) | (go_at_call 24; with_reducible refine (C1.out _ HB.out).mono ?_; rintro e w2 ⟨rfl, hb2⟩; (try clear t0 t1 t2 t3 t4 t5 t6 t7 t8 t9 t10 t11 t12 t13 t14 t15 t16 t17 t18 t19 t20 t21 t22 t23 t24 t25 t26 t27 t28 t29); replace HB := Lib.hid (HB.out.trans (hb2.mono HB.out.size)); clear hb2; obtain ⟨t0, t1, t2, t3, t4, t5, t6, t7, t8, t9, t10, t11, t12, t13, t14, t15, t16, t17, t18, t19, t20, t21, t22, t23, t24, t25, t26, t27, t28, t29⟩ := HD.out _ HB.out) | (go_at_call 25; with_reducible refine (C2.out _ HB.out).mono ?_; rintro e w2 ⟨rfl, hb2⟩; (try clear t0 t1 t2 t3 t4 t5 t6 t7 t8 t9 t10 t11 t12 t13 t14 t15 t16 t17 t18 t19 t20 t21 t22 t23 t24 t25 t26 t27 t28 t29); replace HB := Lib.hid (HB.out.trans (hb2.mono HB.out.size)); clear hb2; obtain ⟨t0, t1, t2, t3, t4, t5, t6, t7, t8, t9, t10, t11, t12, t13, t14, t15, t16, t17, t18, t19, t20, t21, t22, t23, t24, t25, t26, t27, t28, t29⟩ := HD.out _ HB.out) | (go_at_call 26; with_reducible refine (C3.out _ HB.out).mono ?_; rintro e w2 ⟨rfl, hb2⟩; (try clear t0 t1 t2 t3 t4 t5 t6 t7 t8 t9 t10 t11 t12 t13 t14 t15 t16 t17 t18 t19 t20 t21 t22 t23 t24 t25 t26 t27 t28 t29); replace HB := Lib.hid (HB.out.trans (hb2.mono HB.out.size)); clear hb2; obtain ⟨t0, t1, t2, t3, t4, t5, t6, t7, t8, t9, t10, t11, t12, t13, t14, t15, t16, t17, t18, t19, t20, t21, t22, t23, t24, t25, t26, t27, t28, t29⟩ := HD.out _ HB.out))
    go_ret
    exact ⟨by rw [HE.out]; rfl, HH.out _ HB.out⟩
  have HL2 := Lib.hid hl2
  have nl2 : ((a.plan.apart.length : Int) != (b.plan.apart.length : Int)) = false := by simp; omega
  clear hl2
  have HFT2 : Hid (sameII a.plan.apart b.plan.apart = false → sameDesk a b = false) := fun h => by unfold sameDesk; rw [h]; simp
  have HP2 : Hid (∀ W : World, Below W0.heap.size W0 W → (W.cell? ⟨w.heap.size + 2, 12, none⟩ = some (.slice av12 a.plan.apart.length cv12) ∧ W.cell? ⟨w.heap.size + 3, 12, none⟩ = some (.slice au12 b.plan.apart.length cu12))) := fun W hW => ⟨bkC (bkB K2.out hW (by omega)) 12 rfl, bkC (bkB K3.out hW (by omega)) 12 rfl⟩
  have HEQ : Hid (sameBandS a.plan.bands b.plan.bands = true → sameProtectedS a.plan.protected_ b.plan.protected_ = true → sameII a.plan.apart b.plan.apart = true → sameDesk a b = true) := fun e1 e2 e3 => by unfold sameDesk; rw [h0, h1, h2, h3, h4, e1, e2, e3]; rfl
  go_wp2_with (first | (go_at_call 23; with_reducible refine (C0.out _ HB.out).mono ?_; rintro e w2 ⟨rfl, hb2⟩; (try clear t0 t1 t2 t3 t4 t5 t6 t7 t8 t9 t10 t11 t12 t13 t14 t15 t16 t17 t18 t19 t20 t21 t22 t23 t24 t25 t26 t27 t28 t29); replace HB := Lib.hid (HB.out.trans (hb2.mono HB.out.size)); clear hb2; obtain ⟨t0, t1, t2, t3, t4, t5, t6, t7, t8, t9, t10, t11, t12, t13, t14, t15, t16, t17, t18, t19, t20, t21, t22, t23, t24, t25, t26, t27, t28, t29⟩ := HD.out _ HB.out) | (go_at_call 24; with_reducible refine (C1.out _ HB.out).mono ?_; rintro e w2 ⟨rfl, hb2⟩; (try clear t0 t1 t2 t3 t4 t5 t6 t7 t8 t9 t10 t11 t12 t13 t14 t15 t16 t17 t18 t19 t20 t21 t22 t23 t24 t25 t26 t27 t28 t29); replace HB := Lib.hid (HB.out.trans (hb2.mono HB.out.size)); clear hb2; obtain ⟨t0, t1, t2, t3, t4, t5, t6, t7, t8, t9, t10, t11, t12, t13, t14, t15, t16, t17, t18, t19, t20, t21, t22, t23, t24, t25, t26, t27, t28, t29⟩ := HD.out _ HB.out) | (go_at_call 25; with_reducible refine (C2.out _ HB.out).mono ?_; rintro e w2 ⟨rfl, hb2⟩; (try clear t0 t1 t2 t3 t4 t5 t6 t7 t8 t9 t10 t11 t12 t13 t14 t15 t16 t17 t18 t19 t20 t21 t22 t23 t24 t25 t26 t27 t28 t29); replace HB := Lib.hid (HB.out.trans (hb2.mono HB.out.size)); clear hb2; obtain ⟨t0, t1, t2, t3, t4, t5, t6, t7, t8, t9, t10, t11, t12, t13, t14, t15, t16, t17, t18, t19, t20, t21, t22, t23, t24, t25, t26, t27, t28, t29⟩ := HD.out _ HB.out) | (go_at_call 26; with_reducible refine (C3.out _ HB.out).mono ?_; rintro e w2 ⟨rfl, hb2⟩; (try clear t0 t1 t2 t3 t4 t5 t6 t7 t8 t9 t10 t11 t12 t13 t14 t15 t16 t17 t18 t19 t20 t21 t22 t23 t24 t25 t26 t27 t28 t29); replace HB := Lib.hid (HB.out.trans (hb2.mono HB.out.size)); clear hb2; obtain ⟨t0, t1, t2, t3, t4, t5, t6, t7, t8, t9, t10, t11, t12, t13, t14, t15, t16, t17, t18, t19, t20, t21, t22, t23, t24, t25, t26, t27, t28, t29⟩ := HD.out _ HB.out))
  clear t0 t1 t2 t3 t4 t5 t6 t7 t8 t9 t10 t11 t12 t13 t14 t15 t16 t17 t18 t19 t20 t21 t22 t23 t24 t25 t26 t27 t28 t29 nl0 nl1 nl2 nd h0 h1 h2 h3 h4
  go_loopw [7] (fun i wr => ∃ (k : Nat), k ≤ a.plan.bands.length ∧ i = .int .i64 k ∧ (∀ j (hl : j < a.plan.bands.length), j < k → sameBand a.plan.bands[j] (b.plan.bands[j]'(by have := HL0.out; omega)) = true) ∧ Below W0.heap.size W0 wr) (fun i wr => a.plan.bands.length - (intOf i).toNat)
  case atStart => exact ⟨0, Nat.zero_le _, rfl, fun j hl h => absurd h (by omega), HB.out⟩
  case round =>
    obtain ⟨k, hk, rfl, hall, hb⟩ := hrel
    have HA7 := Lib.hid hall
    have HB7 := Lib.hid hb
    have zb7 := hb.size
    clear hall hb
    have hbw := HH.out _ HB7.out
    obtain ⟨qa, qb⟩ := HP0.out _ HB7.out
    obtain ⟨aa, ca, ea, _, _, hca⟩ := DBand.rd PP9.out
    obtain ⟨ab, cb, eb, _, _, hcb⟩ := DBand.rd RR9.out
    injection ea with ea1 _ ea3
    injection eb with eb1 _ eb3
    subst ea1 ea3 eb1 eb3
    by_cases hlt : k < a.plan.bands.length
    · have hlm : k < b.plan.bands.length := by rw [← HL0.out]; exact hlt
      obtain ⟨bx, ox, ea, hbl, hat⟩ := hca (by omega)
      obtain ⟨by_, oy, eb, hbl', hat'⟩ := hcb (by omega)
      subst ea eb
      obtain ⟨s0, s1, s2, s3, s4⟩ := hat k hlt
      obtain ⟨t0, t1, t2, t3, t4⟩ := hat' k hlm
      rw [← bat hbw bx _ (by omega)] at s0 s1 s2 s3 s4
      rw [← bat hbw by_ _ (by omega)] at t0 t1 t2 t3 t4
      have j0 : (0 : Int) ≤ (k : Int) := by omega
      have j1 : (k : Int) < (a.plan.bands.length : Int) := by omega
      have j2 : (k : Int) < (b.plan.bands.length : Int) := by omega
      have hbs := hbw.size
      have y1 : bx < wr.heap.size := by omega
      have y2 : by_ < wr.heap.size := by omega
      have y3 : w.heap.size + 2 < wr.heap.size := by omega
      have y4 : w.heap.size + 3 < wr.heap.size := by omega
      clear hca hcb hat hat'
      have HF1 : Hid (sameBand a.plan.bands[k] b.plan.bands[k] = false → sameDesk a b = false) := fun h => HFT0.out (sameBandS_at hlt hlm h)
      have HT1 : Hid (sameBand a.plan.bands[k] b.plan.bands[k] = true → ∀ j (hl : j < a.plan.bands.length), j < k + 1 → sameBand a.plan.bands[j] (b.plan.bands[j]'(by have := HL0.out; omega)) = true) := fun h j hl hj => by
        by_cases e : j = k
        · subst e; exact h
        · exact HA7.out j hl (by omega)
      generalize a.plan.bands[k] = X at *
      generalize b.plan.bands[k] = Y at *
      go_upto_region 10 with (fail)
      by_cases e0 : X.name.toList = Y.name.toList
      case neg =>
        have e0b : (X.name.toList == Y.name.toList) = false := beq_eq_false_iff_ne.2 e0
        have HE := Lib.hid (HF1.out (by unfold sameBand; simp only [eqS, e0b, Bool.false_and, Bool.and_false]))
        clear e0b
        have o1 := overC (w0 := wr) y1
        have o2 := overC (w0 := wr) y2
        have o3 := overC (w0 := wr) y3
        have o4 := overC (w0 := wr) y4
        refine wp_region_over wr.heap.size wr (Below.refl _ _) (by kernel_rfl) (by kernel_rfl) ?_
        repeat (go_big_quiet_step (fail))
        refine wpQuiet_nil ?_
        rintro _ ⟨ZZ, rfl⟩
        have hX := over_below wr.heap.size wr ZZ
        clear o1 o2 o3 o4
        generalize over wr.heap.size wr ZZ = w3 at *
        have BE7 := Lib.hid (HB7.out.trans (hX.mono (by omega)))
        clear hX
        go_wp2
        go_ret
        exact ⟨by rw [HE.out]; rfl, HH.out _ BE7.out⟩
      by_cases e1 : X.low = Y.low
      case neg =>
        have e1b : (X.low == Y.low) = false := beq_eq_false_iff_ne.2 e1
        have HE := Lib.hid (HF1.out (by unfold sameBand; simp only [eqS, e1b, Bool.false_and, Bool.and_false]))
        clear e1b
        have o1 := overC (w0 := wr) y1
        have o2 := overC (w0 := wr) y2
        have o3 := overC (w0 := wr) y3
        have o4 := overC (w0 := wr) y4
        refine wp_region_over wr.heap.size wr (Below.refl _ _) (by kernel_rfl) (by kernel_rfl) ?_
        repeat (go_big_quiet_step (fail))
        refine wpQuiet_nil ?_
        rintro _ ⟨ZZ, rfl⟩
        have hX := over_below wr.heap.size wr ZZ
        clear o1 o2 o3 o4
        generalize over wr.heap.size wr ZZ = w3 at *
        have BE7 := Lib.hid (HB7.out.trans (hX.mono (by omega)))
        clear hX
        go_wp2
        go_ret
        exact ⟨by rw [HE.out]; rfl, HH.out _ BE7.out⟩
      by_cases e2 : X.high = Y.high
      case neg =>
        have e2b : (X.high == Y.high) = false := beq_eq_false_iff_ne.2 e2
        have HE := Lib.hid (HF1.out (by unfold sameBand; simp only [eqS, e2b, Bool.false_and, Bool.and_false]))
        clear e2b
        have o1 := overC (w0 := wr) y1
        have o2 := overC (w0 := wr) y2
        have o3 := overC (w0 := wr) y3
        have o4 := overC (w0 := wr) y4
        refine wp_region_over wr.heap.size wr (Below.refl _ _) (by kernel_rfl) (by kernel_rfl) ?_
        repeat (go_big_quiet_step (fail))
        refine wpQuiet_nil ?_
        rintro _ ⟨ZZ, rfl⟩
        have hX := over_below wr.heap.size wr ZZ
        clear o1 o2 o3 o4
        generalize over wr.heap.size wr ZZ = w3 at *
        have BE7 := Lib.hid (HB7.out.trans (hX.mono (by omega)))
        clear hX
        go_wp2
        go_ret
        exact ⟨by rw [HE.out]; rfl, HH.out _ BE7.out⟩
      by_cases e3 : X.raster = Y.raster
      case neg =>
        have e3b : (X.raster == Y.raster) = false := beq_eq_false_iff_ne.2 e3
        have HE := Lib.hid (HF1.out (by unfold sameBand; simp only [eqS, e3b, Bool.false_and, Bool.and_false]))
        clear e3b
        have o1 := overC (w0 := wr) y1
        have o2 := overC (w0 := wr) y2
        have o3 := overC (w0 := wr) y3
        have o4 := overC (w0 := wr) y4
        refine wp_region_over wr.heap.size wr (Below.refl _ _) (by kernel_rfl) (by kernel_rfl) ?_
        repeat (go_big_quiet_step (fail))
        refine wpQuiet_nil ?_
        rintro _ ⟨ZZ, rfl⟩
        have hX := over_below wr.heap.size wr ZZ
        clear o1 o2 o3 o4
        generalize over wr.heap.size wr ZZ = w3 at *
        have BE7 := Lib.hid (HB7.out.trans (hX.mono (by omega)))
        clear hX
        go_wp2
        go_ret
        exact ⟨by rw [HE.out]; rfl, HH.out _ BE7.out⟩
      by_cases e4 : X.duplex = Y.duplex
      case neg =>
        have e4b : (X.duplex == Y.duplex) = false := beq_eq_false_iff_ne.2 e4
        have HE := Lib.hid (HF1.out (by unfold sameBand; simp only [eqS, e4b, Bool.false_and, Bool.and_false]))
        clear e4b
        have o1 := overC (w0 := wr) y1
        have o2 := overC (w0 := wr) y2
        have o3 := overC (w0 := wr) y3
        have o4 := overC (w0 := wr) y4
        refine wp_region_over wr.heap.size wr (Below.refl _ _) (by kernel_rfl) (by kernel_rfl) ?_
        repeat (go_big_quiet_step (fail))
        refine wpQuiet_nil ?_
        rintro _ ⟨ZZ, rfl⟩
        have hX := over_below wr.heap.size wr ZZ
        clear o1 o2 o3 o4
        generalize over wr.heap.size wr ZZ = w3 at *
        have BE7 := Lib.hid (HB7.out.trans (hX.mono (by omega)))
        clear hX
        go_wp2
        go_ret
        exact ⟨by rw [HE.out]; rfl, HH.out _ BE7.out⟩
      have HE := Lib.hid (HT1.out (by unfold sameBand; simp [eqS, e0, e1, e2, e3, e4]))
      have o1 := overC (w0 := wr) y1
      have o2 := overC (w0 := wr) y2
      have o3 := overC (w0 := wr) y3
      have o4 := overC (w0 := wr) y4
      refine wp_region_over wr.heap.size wr (Below.refl _ _) (by kernel_rfl) (by kernel_rfl) ?_
      repeat (go_big_quiet_step (fail))
      refine wpQuiet_nil ?_
      rintro _ ⟨ZZ, rfl⟩
      have hX := over_below wr.heap.size wr ZZ
      clear o1 o2 o3 o4
      generalize over wr.heap.size wr ZZ = w3 at *
      have BE7 := Lib.hid (HB7.out.trans (hX.mono (by omega)))
      clear hX
      clear e0 e1 e2 e3 e4
      go_wp2
      go_roundw
      case rel => exact ⟨k + 1, by omega, by go_num, HE.out, BE7.out⟩
      case measure => simp [intOf]; omega
    · obtain rfl : k = a.plan.bands.length := by omega
      have HS7 := Lib.hid (sameBandS_all HL0.out (fun j hl => HA7.out j hl hl))
      have HB := Lib.hid HB7.out
      clear hca hcb hbw
      go_wp2
      clear qa qb
      go_loopw [8] (fun i wr => ∃ (k : Nat), k ≤ a.plan.protected_.length ∧ i = .int .i64 k ∧ (∀ j (hl : j < a.plan.protected_.length), j < k → sameProtected a.plan.protected_[j] (b.plan.protected_[j]'(by have := HL1.out; omega)) = true) ∧ Below W0.heap.size W0 wr) (fun i wr => a.plan.protected_.length - (intOf i).toNat)
      case atStart => exact ⟨0, Nat.zero_le _, rfl, fun j hl h => absurd h (by omega), HB.out⟩
      case round =>
        obtain ⟨k, hk, rfl, hall, hb⟩ := hrel
        have HA8 := Lib.hid hall
        have HB8 := Lib.hid hb
        have zb8 := hb.size
        clear hall hb
        have hbw := HH.out _ HB8.out
        obtain ⟨qa, qb⟩ := HP1.out _ HB8.out
        obtain ⟨aa, ca, ea, _, _, hca⟩ := DProtected.rd PP11.out
        obtain ⟨ab, cb, eb, _, _, hcb⟩ := DProtected.rd RR11.out
        injection ea with ea1 _ ea3
        injection eb with eb1 _ eb3
        subst ea1 ea3 eb1 eb3
        by_cases hlt : k < a.plan.protected_.length
        · have hlm : k < b.plan.protected_.length := by rw [← HL1.out]; exact hlt
          obtain ⟨bx, ox, ea, hbl, hat⟩ := hca (by omega)
          obtain ⟨by_, oy, eb, hbl', hat'⟩ := hcb (by omega)
          subst ea eb
          obtain ⟨s0, s1, s2, s3, s4, s5, s6⟩ := hat k hlt
          obtain ⟨t0, t1, t2, t3, t4, t5, t6⟩ := hat' k hlm
          rw [← bat hbw bx _ (by omega)] at s0 s1 s2 s3 s4 s5 s6
          rw [← bat hbw by_ _ (by omega)] at t0 t1 t2 t3 t4 t5 t6
          have j0 : (0 : Int) ≤ (k : Int) := by omega
          have j1 : (k : Int) < (a.plan.protected_.length : Int) := by omega
          have j2 : (k : Int) < (b.plan.protected_.length : Int) := by omega
          have hbs := hbw.size
          have y1 : bx < wr.heap.size := by omega
          have y2 : by_ < wr.heap.size := by omega
          have y3 : w.heap.size + 2 < wr.heap.size := by omega
          have y4 : w.heap.size + 3 < wr.heap.size := by omega
          clear hca hcb hat hat'
          have HF1 : Hid (sameProtected a.plan.protected_[k] b.plan.protected_[k] = false → sameDesk a b = false) := fun h => HFT1.out (sameProtectedS_at hlt hlm h)
          have HT1 : Hid (sameProtected a.plan.protected_[k] b.plan.protected_[k] = true → ∀ j (hl : j < a.plan.protected_.length), j < k + 1 → sameProtected a.plan.protected_[j] (b.plan.protected_[j]'(by have := HL1.out; omega)) = true) := fun h j hl hj => by
            by_cases e : j = k
            · subst e; exact h
            · exact HA8.out j hl (by omega)
          generalize a.plan.protected_[k] = X at *
          generalize b.plan.protected_[k] = Y at *
          go_upto_region 15 with (fail)
          by_cases e0 : X.name.toList = Y.name.toList
          case neg =>
            have e0b : (X.name.toList == Y.name.toList) = false := beq_eq_false_iff_ne.2 e0
            have HE := Lib.hid (HF1.out (by unfold sameProtected; simp only [eqS, e0b, Bool.false_and, Bool.and_false]))
            clear e0b
            have o1 := overC (w0 := wr) y1
            have o2 := overC (w0 := wr) y2
            have o3 := overC (w0 := wr) y3
            have o4 := overC (w0 := wr) y4
            refine wp_region_over wr.heap.size wr (Below.refl _ _) (by kernel_rfl) (by kernel_rfl) ?_
            repeat (go_big_quiet_step (fail))
            refine wpQuiet_nil ?_
            rintro _ ⟨ZZ, rfl⟩
            have hX := over_below wr.heap.size wr ZZ
            clear o1 o2 o3 o4
            generalize over wr.heap.size wr ZZ = w3 at *
            have BE8 := Lib.hid (HB8.out.trans (hX.mono (by omega)))
            clear hX
            go_wp2
            go_ret
            exact ⟨by rw [HE.out]; rfl, HH.out _ BE8.out⟩
          by_cases e1 : X.at_.place.x = Y.at_.place.x
          case neg =>
            have e1b : (X.at_.place.x == Y.at_.place.x) = false := beq_eq_false_iff_ne.2 e1
            have HE := Lib.hid (HF1.out (by unfold sameProtected; simp only [eqS, e1b, Bool.false_and, Bool.and_false]))
            clear e1b
            have o1 := overC (w0 := wr) y1
            have o2 := overC (w0 := wr) y2
            have o3 := overC (w0 := wr) y3
            have o4 := overC (w0 := wr) y4
            refine wp_region_over wr.heap.size wr (Below.refl _ _) (by kernel_rfl) (by kernel_rfl) ?_
            repeat (go_big_quiet_step (fail))
            refine wpQuiet_nil ?_
            rintro _ ⟨ZZ, rfl⟩
            have hX := over_below wr.heap.size wr ZZ
            clear o1 o2 o3 o4
            generalize over wr.heap.size wr ZZ = w3 at *
            have BE8 := Lib.hid (HB8.out.trans (hX.mono (by omega)))
            clear hX
            go_wp2
            go_ret
            exact ⟨by rw [HE.out]; rfl, HH.out _ BE8.out⟩
          by_cases e2 : X.at_.place.y = Y.at_.place.y
          case neg =>
            have e2b : (X.at_.place.y == Y.at_.place.y) = false := beq_eq_false_iff_ne.2 e2
            have HE := Lib.hid (HF1.out (by unfold sameProtected; simp only [eqS, e2b, Bool.false_and, Bool.and_false]))
            clear e2b
            have o1 := overC (w0 := wr) y1
            have o2 := overC (w0 := wr) y2
            have o3 := overC (w0 := wr) y3
            have o4 := overC (w0 := wr) y4
            refine wp_region_over wr.heap.size wr (Below.refl _ _) (by kernel_rfl) (by kernel_rfl) ?_
            repeat (go_big_quiet_step (fail))
            refine wpQuiet_nil ?_
            rintro _ ⟨ZZ, rfl⟩
            have hX := over_below wr.heap.size wr ZZ
            clear o1 o2 o3 o4
            generalize over wr.heap.size wr ZZ = w3 at *
            have BE8 := Lib.hid (HB8.out.trans (hX.mono (by omega)))
            clear hX
            go_wp2
            go_ret
            exact ⟨by rw [HE.out]; rfl, HH.out _ BE8.out⟩
          by_cases e3 : X.at_.above = Y.at_.above
          case neg =>
            have e3b : (X.at_.above == Y.at_.above) = false := beq_eq_false_iff_ne.2 e3
            have HE := Lib.hid (HF1.out (by unfold sameProtected; simp only [eqS, e3b, Bool.false_and, Bool.and_false]))
            clear e3b
            have o1 := overC (w0 := wr) y1
            have o2 := overC (w0 := wr) y2
            have o3 := overC (w0 := wr) y3
            have o4 := overC (w0 := wr) y4
            refine wp_region_over wr.heap.size wr (Below.refl _ _) (by kernel_rfl) (by kernel_rfl) ?_
            repeat (go_big_quiet_step (fail))
            refine wpQuiet_nil ?_
            rintro _ ⟨ZZ, rfl⟩
            have hX := over_below wr.heap.size wr ZZ
            clear o1 o2 o3 o4
            generalize over wr.heap.size wr ZZ = w3 at *
            have BE8 := Lib.hid (HB8.out.trans (hX.mono (by omega)))
            clear hX
            go_wp2
            go_ret
            exact ⟨by rw [HE.out]; rfl, HH.out _ BE8.out⟩
          by_cases e4 : X.low = Y.low
          case neg =>
            have e4b : (X.low == Y.low) = false := beq_eq_false_iff_ne.2 e4
            have HE := Lib.hid (HF1.out (by unfold sameProtected; simp only [eqS, e4b, Bool.false_and, Bool.and_false]))
            clear e4b
            have o1 := overC (w0 := wr) y1
            have o2 := overC (w0 := wr) y2
            have o3 := overC (w0 := wr) y3
            have o4 := overC (w0 := wr) y4
            refine wp_region_over wr.heap.size wr (Below.refl _ _) (by kernel_rfl) (by kernel_rfl) ?_
            repeat (go_big_quiet_step (fail))
            refine wpQuiet_nil ?_
            rintro _ ⟨ZZ, rfl⟩
            have hX := over_below wr.heap.size wr ZZ
            clear o1 o2 o3 o4
            generalize over wr.heap.size wr ZZ = w3 at *
            have BE8 := Lib.hid (HB8.out.trans (hX.mono (by omega)))
            clear hX
            go_wp2
            go_ret
            exact ⟨by rw [HE.out]; rfl, HH.out _ BE8.out⟩
          by_cases e5 : X.high = Y.high
          case neg =>
            have e5b : (X.high == Y.high) = false := beq_eq_false_iff_ne.2 e5
            have HE := Lib.hid (HF1.out (by unfold sameProtected; simp only [eqS, e5b, Bool.false_and, Bool.and_false]))
            clear e5b
            have o1 := overC (w0 := wr) y1
            have o2 := overC (w0 := wr) y2
            have o3 := overC (w0 := wr) y3
            have o4 := overC (w0 := wr) y4
            refine wp_region_over wr.heap.size wr (Below.refl _ _) (by kernel_rfl) (by kernel_rfl) ?_
            repeat (go_big_quiet_step (fail))
            refine wpQuiet_nil ?_
            rintro _ ⟨ZZ, rfl⟩
            have hX := over_below wr.heap.size wr ZZ
            clear o1 o2 o3 o4
            generalize over wr.heap.size wr ZZ = w3 at *
            have BE8 := Lib.hid (HB8.out.trans (hX.mono (by omega)))
            clear hX
            go_wp2
            go_ret
            exact ⟨by rw [HE.out]; rfl, HH.out _ BE8.out⟩
          by_cases e6 : X.limit = Y.limit
          case neg =>
            have e6b : (X.limit == Y.limit) = false := beq_eq_false_iff_ne.2 e6
            have HE := Lib.hid (HF1.out (by unfold sameProtected; simp only [eqS, e6b, Bool.false_and, Bool.and_false]))
            clear e6b
            have o1 := overC (w0 := wr) y1
            have o2 := overC (w0 := wr) y2
            have o3 := overC (w0 := wr) y3
            have o4 := overC (w0 := wr) y4
            refine wp_region_over wr.heap.size wr (Below.refl _ _) (by kernel_rfl) (by kernel_rfl) ?_
            repeat (go_big_quiet_step (fail))
            refine wpQuiet_nil ?_
            rintro _ ⟨ZZ, rfl⟩
            have hX := over_below wr.heap.size wr ZZ
            clear o1 o2 o3 o4
            generalize over wr.heap.size wr ZZ = w3 at *
            have BE8 := Lib.hid (HB8.out.trans (hX.mono (by omega)))
            clear hX
            go_wp2
            go_ret
            exact ⟨by rw [HE.out]; rfl, HH.out _ BE8.out⟩
          have HE := Lib.hid (HT1.out (by unfold sameProtected; simp [eqS, e0, e1, e2, e3, e4, e5, e6]))
          have o1 := overC (w0 := wr) y1
          have o2 := overC (w0 := wr) y2
          have o3 := overC (w0 := wr) y3
          have o4 := overC (w0 := wr) y4
          refine wp_region_over wr.heap.size wr (Below.refl _ _) (by kernel_rfl) (by kernel_rfl) ?_
          repeat (go_big_quiet_step (fail))
          refine wpQuiet_nil ?_
          rintro _ ⟨ZZ, rfl⟩
          have hX := over_below wr.heap.size wr ZZ
          clear o1 o2 o3 o4
          generalize over wr.heap.size wr ZZ = w3 at *
          have BE8 := Lib.hid (HB8.out.trans (hX.mono (by omega)))
          clear hX
          clear e0 e1 e2 e3 e4 e5 e6
          go_wp2
          go_roundw
          case rel => exact ⟨k + 1, by omega, by go_num, HE.out, BE8.out⟩
          case measure => simp [intOf]; omega
        · obtain rfl : k = a.plan.protected_.length := by omega
          have HS8 := Lib.hid (sameProtectedS_all HL1.out (fun j hl => HA8.out j hl hl))
          have HB := Lib.hid HB8.out
          clear hca hcb hbw
          go_wp2
          clear qa qb
          go_loopw [9] (fun i wr => ∃ (k : Nat), k ≤ a.plan.apart.length ∧ i = .int .i64 k ∧ (∀ j (hl : j < a.plan.apart.length), j < k → sameI a.plan.apart[j] (b.plan.apart[j]'(by have := HL2.out; omega)) = true) ∧ Below W0.heap.size W0 wr) (fun i wr => a.plan.apart.length - (intOf i).toNat)
          case atStart => exact ⟨0, Nat.zero_le _, rfl, fun j hl h => absurd h (by omega), HB.out⟩
          case round =>
            obtain ⟨k, hk, rfl, hall, hb⟩ := hrel
            have HA9 := Lib.hid hall
            have HB9 := Lib.hid hb
            have zb9 := hb.size
            clear hall hb
            have hbw := HH.out _ HB9.out
            obtain ⟨qa, qb⟩ := HP2.out _ HB9.out
            obtain ⟨aa, ca, ea, _, _, hca⟩ := Rd.intss PP12.out
            obtain ⟨ab, cb, eb, _, _, hcb⟩ := Rd.intss RR12.out
            injection ea with ea1 _ ea3
            injection eb with eb1 _ eb3
            subst ea1 ea3 eb1 eb3
            by_cases hlt : k < a.plan.apart.length
            · have hlm : k < b.plan.apart.length := by rw [← HL2.out]; exact hlt
              obtain ⟨bx, ox, ea, hbl, hat⟩ := hca (by omega)
              obtain ⟨by_, oy, eb, hbl', hat'⟩ := hcb (by omega)
              subst ea eb
              obtain ⟨su0, s0, sr0⟩ := hat k hlt
              obtain ⟨tu0, t0, tr0⟩ := hat' k hlm
              rw [← bat hbw bx _ (by omega)] at s0
              rw [← bat hbw by_ _ (by omega)] at t0
              replace sr0 := sr0.below (hbw.mono hB)
              replace tr0 := tr0.below (hbw.mono hB)
              have zB : B ≤ wr.heap.size := Nat.le_trans hB hbw.size
              have zm0 : a.plan.apart[k].length ≤ 1099511627776 := Nat.le_trans (row_le _ k hlt) ZA.out.apart
              have zn0 : b.plan.apart[k].length ≤ 1099511627776 := Nat.le_trans (row_le _ k hlm) ZB.out.apart
              have j0 : (0 : Int) ≤ (k : Int) := by omega
              have j1 : (k : Int) < (a.plan.apart.length : Int) := by omega
              have j2 : (k : Int) < (b.plan.apart.length : Int) := by omega
              have hbs := hbw.size
              have y1 : bx < wr.heap.size := by omega
              have y2 : by_ < wr.heap.size := by omega
              have y3 : w.heap.size + 2 < wr.heap.size := by omega
              have y4 : w.heap.size + 3 < wr.heap.size := by omega
              clear hca hcb hat hat'
              have HF1 : Hid (sameI a.plan.apart[k] b.plan.apart[k] = false → sameDesk a b = false) := fun h => HFT2.out (sameII_at hlt hlm h)
              have HT1 : Hid (sameI a.plan.apart[k] b.plan.apart[k] = true → ∀ j (hl : j < a.plan.apart.length), j < k + 1 → sameI a.plan.apart[j] (b.plan.apart[j]'(by have := HL2.out; omega)) = true) := fun h j hl hj => by
                by_cases e : j = k
                · subst e; exact h
                · exact HA9.out j hl (by omega)
              generalize a.plan.apart[k] = X at *
              generalize b.plan.apart[k] = Y at *
              obtain ⟨xa0, xc0, xe0, _, _, _⟩ := Rd.ints sr0
              subst xe0
              obtain ⟨ya0, yc0, ye0, _, _, _⟩ := Rd.ints tr0
              subst ye0
              have CX : Hid (∀ W : World, Below wr.heap.size wr W → Calls Tryz.prog 27 #[.slice xa0 X.length xc0, .slice ya0 Y.length yc0] W fun e w' => e = .returned (.bool (sameI X Y)) ∧ Below W.heap.size W w') := fun W hW => l00Same_any X Y _ _ B W (sr0.below (hW.mono zB)) (tr0.below (hW.mono zB)) (Nat.le_trans zB hW.size) zm0 zn0
              clear sr0 tr0
              go_upto_region 20 with (fail)
              by_cases c1 : sameI X Y = true
              case neg =>
                replace c1 : sameI X Y = false := Bool.eq_false_iff.2 c1
                rw [c1] at CX
                have HE := Lib.hid (HF1.out c1)
                have o1 := overC (w0 := wr) y1
                have o2 := overC (w0 := wr) y2
                have o3 := overC (w0 := wr) y3
                have o4 := overC (w0 := wr) y4
                refine wp_region_over wr.heap.size wr (Below.refl _ _) (by kernel_rfl) (by kernel_rfl) ?_
                repeat (go_big_quiet_step ((go_at_call 27; with_reducible exact over_left (Nat.le_refl _) (CX.out _ (over_below _ _ _)))))
                refine wpQuiet_nil ?_
                rintro _ ⟨ZZ, rfl⟩
                have hX := over_below wr.heap.size wr ZZ
                clear o1 o2 o3 o4
                generalize over wr.heap.size wr ZZ = w3 at *
                have BE9 := Lib.hid (HB9.out.trans (hX.mono (by omega)))
                clear hX
                go_wp2
                go_ret
                exact ⟨by rw [HE.out]; rfl, HH.out _ BE9.out⟩
              rw [c1] at CX
              have HE := Lib.hid (HT1.out c1)
              have o1 := overC (w0 := wr) y1
              have o2 := overC (w0 := wr) y2
              have o3 := overC (w0 := wr) y3
              have o4 := overC (w0 := wr) y4
              refine wp_region_over wr.heap.size wr (Below.refl _ _) (by kernel_rfl) (by kernel_rfl) ?_
              repeat (go_big_quiet_step ((go_at_call 27; with_reducible exact over_left (Nat.le_refl _) (CX.out _ (over_below _ _ _)))))
              refine wpQuiet_nil ?_
              rintro _ ⟨ZZ, rfl⟩
              have hX := over_below wr.heap.size wr ZZ
              clear o1 o2 o3 o4
              generalize over wr.heap.size wr ZZ = w3 at *
              have BE9 := Lib.hid (HB9.out.trans (hX.mono (by omega)))
              clear hX
              go_wp2
              go_roundw
              case rel => exact ⟨k + 1, by omega, by go_num, HE.out, BE9.out⟩
              case measure => simp [intOf]; omega
            · obtain rfl : k = a.plan.apart.length := by omega
              have HS9 := Lib.hid (sameII_all HL2.out (fun j hl => HA9.out j hl hl))
              have HB := Lib.hid HB9.out
              clear hca hcb hbw
              have HE := Lib.hid (HEQ.out HS7.out HS8.out HS9.out)
              go_wp2
              go_ret
              exact ⟨by rw [HE.out]; rfl, HH.out _ HB.out⟩
end Go.Proofs.YtjfmkmcefnidcaaGreat
