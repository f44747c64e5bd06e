/- Contracts: ApartFaults, for the program and for the reference; the sizes of its result. Conditions: bounded sizes. -/
import Derived.Test.YtjfmkmcefnidcaaGreatFaA
import Derived.Test.YtjfmkmcefnidcaaGreatOrd
import Derived.Lib.MinMax
import Derived.Deep.DeepCutAuto
namespace Go.Proofs.YtjfmkmcefnidcaaGreat
open Go.RowKit
set_option linter.unusedVariables false
set_option linter.unusedSimpArgs false
def nrB (x y : DSector) (d : Int) : Bool := eqS x.band y.band && (decide (0 ≤ x.channel) && (decide (0 ≤ y.channel) && (decide (x.channel - y.channel < d) && decide (y.channel - x.channel < d))))
def flt (x y : DSector) (d : Int) : List DFault := if nrB x y d = true then [⟨6, x.name, y.name⟩] else []
def rowF (p : DPlan) (i : Nat) : Nat → List DFault
  | 0 => []
  | m + 1 => rowF p i m ++ flt (gSector p.network.sectors i) (gSector p.network.sectors (i + 1 + m)) (gi (rowI p.apart i) (i + 1 + m))
def pairF (p : DPlan) : Nat → List DFault
  | 0 => []
  | i + 1 => pairF p i ++ rowF p i (p.network.sectors.length - (i + 1))
theorem flt_len (x y : DSector) (d : Int) : (flt x y d).length ≤ 1 := by unfold flt; split <;> simp
theorem rowF_len (p : DPlan) (i : Nat) : ∀ m, (rowF p i m).length ≤ m := by
  intro m
  induction m with
  | zero => simp [rowF]
  | succ m ih =>
    have := flt_len (gSector p.network.sectors i) (gSector p.network.sectors (i + 1 + m)) (gi (rowI p.apart i) (i + 1 + m))
    unfold rowF
    rw [List.length_append]
    omega
theorem pairF_len (p : DPlan) : ∀ i, (pairF p i).length ≤ i * p.network.sectors.length := by
  intro i
  induction i with
  | zero => simp [pairF]
  | succ i ih =>
    have := rowF_len p i (p.network.sectors.length - (i + 1))
    unfold pairF
    rw [List.length_append, Nat.succ_mul]
    omega
theorem pairs_len {p : DPlan} (hn : p.network.sectors.length ≤ 1048576) {i m : Nat} (hi : i < p.network.sectors.length) (hm : m ≤ p.network.sectors.length - (i + 1)) : (pairF p i ++ rowF p i m).length ≤ 1099511627776 := by
  have h1 := pairF_len p i
  have h2 := rowF_len p i m
  have h3 : i * p.network.sectors.length ≤ 1048575 * 1048576 := Nat.mul_le_mul (by omega) hn
  rw [List.length_append]
  omega
theorem planB_apart {p : DPlan} (h : planB p = true) : p.apart.length = p.network.sectors.length ∧ ∀ i, i < p.network.sectors.length → (rowI p.apart i).length = p.network.sectors.length := by
  unfold planB apS at h
  simp only [Bool.and_eq_true, decide_eq_true_eq, List.all_eq_true] at h
  obtain ⟨h1, h2⟩ := h.2.2.2.2.2.2
  exact ⟨h1, fun i hi => apAtS_len (h2 i (by simpa using hi))⟩
theorem planB_chan {p : DPlan} (h : planB p = true) {k : Nat} (hk : k < p.network.sectors.length) : -1 ≤ (gSector p.network.sectors k).channel ∧ (gSector p.network.sectors k).channel ≤ 999 := by
  unfold planB netB at h
  simp only [Bool.and_eq_true] at h
  rw [← gSector_eq hk]
  have := rowOk_ok h.2.1.2.2.2.2.2.2.2 hk
  rw [Bool.and_eq_true] at this
  have := this.1
  unfold sectorB at this
  simp only [Bool.and_eq_true] at this
  exact inB_true.1 this.2.2.2.2.2.2.2.2
theorem abs_any (n : Int) (h : -1099511627776 ≤ n ∧ n ≤ 1099511627776) (w : World) :
    Calls Tryz.prog 114 #[.int .i64 n] w fun e w' => e = .returned (.int .i64 (max n (-n))) ∧ w = w' := by
  obtain ⟨h1, h2⟩ := h
  go_enter Tryz.func114, Tryz.ntmps114
  go_wp2
  go_ret
  exact ⟨rfl, rfl⟩
theorem l17Near_any (a b d : Int) (ha : -1 ≤ a ∧ a ≤ 999) (hb : -1 ≤ b ∧ b ≤ 999) (w : World) :
    Calls Tryz.prog 98 #[.int .i64 a, .int .i64 b, .int .i64 d] w fun e w' => e = .returned (.bool (decide (a - b < d) && decide (b - a < d))) ∧ w = w' := by
  obtain ⟨a1, a2⟩ := ha
  obtain ⟨b1, b2⟩ := hb
  by_cases c0 : a - b < d
  case neg =>
    rw [decide_eq_false c0]
    go_enter Tryz.func98, Tryz.ntmps98
    go_wp2
    go_ret
    exact ⟨rfl, rfl⟩
  rw [decide_eq_true c0]
  by_cases c1 : b - a < d
  case neg =>
    rw [decide_eq_false c1]
    go_enter Tryz.func98, Tryz.ntmps98
    go_wp2
    go_ret
    exact ⟨rfl, rfl⟩
  rw [decide_eq_true c1]
  go_enter Tryz.func98, Tryz.ntmps98
  go_wp2
  go_ret
  exact ⟨rfl, rfl⟩
set_option maxHeartbeats 8000000 in
set_option maxRecDepth 100000 in
theorem apartFaults_any (p : DPlan) (v3 v4 v5 v6 v7 v8 v9 v10 v11 v12 : Value) (w : World) (h : PlanRd w.heap.size w p v3 v4 v5 v6 v7 v8 v9 v10 v11 v12) (hs : sizL p.tr ≤ 1099511627776) (hp : planB p = true) (hn : p.network.sectors.length ≤ 1048576) :
    Calls Tryz.prog 53 #[.agg #[.int .i64 p.terrain.step, .int .i64 p.terrain.width, .int .i64 p.terrain.height, v3, v4, v5, v6, v7, v8, v9, v10, v11, v12, .int .i64 p.day]] w fun e w' => ∃ a c fp, e = .returned (.slice a (pairF p p.network.sectors.length).length c) ∧ Below w.heap.size w w' ∧ Own w' (DFault.sT (pairF p p.network.sectors.length)) (.slice a (pairF p p.network.sectors.length).length c) fp ∧ In w.heap.size w'.heap.size fp := by
  have H := Lib.hid h
  clear h
  have Z := Lib.hid (PlanSz.of hs)
  obtain ⟨hal, hrl⟩ := planB_apart hp
  have HCH : Hid (∀ k, k < p.network.sectors.length → -1 ≤ (gSector p.network.sectors k).channel ∧ (gSector p.network.sectors k).channel ≤ 999) := fun k hk => planB_chan hp hk
  obtain ⟨a6, k6, e6, hc6, hm6, hcl6⟩ := DSector.rd H.out.r6
  subst e6
  have HCL := Lib.hid hcl6
  clear hcl6
  unfold maxLen at hm6
  have r12 := H.out.r12
  obtain ⟨aA, kA, eA, hcA, hmA, _⟩ := Rd.intss r12
  rw [eA] at r12
  have HRW := Lib.hid (fun h0 => Rd.rows r12 h0)
  clear r12
  rw [hal] at eA HRW hcA
  subst eA
  unfold maxLen at hmA
  have HRL := Lib.hid hrl
  clear hrl hal
  obtain ⟨W0, hW0, b0, z0, k0⟩ := boxes1 w #[.int .i64 p.terrain.step, .int .i64 p.terrain.width, .int .i64 p.terrain.height, v3, v4, v5, .slice a6 p.network.sectors.length k6, v7, v8, v9, v10, v11, .slice aA p.network.sectors.length kA, .int .i64 p.day] 53
  have HW0 := Lib.hid hW0
  clear hW0
  have B0 := Lib.hid b0
  clear b0
  have K0 := Lib.hid k0
  clear k0
  have HD : Hid (∀ W : World, Below W0.heap.size W0 W → (W.cell? ⟨w.heap.size, 0, none⟩ = some (.int .i64 p.terrain.step) ∧ W.cell? ⟨w.heap.size, 1, none⟩ = some (.int .i64 p.terrain.width) ∧ W.cell? ⟨w.heap.size, 2, none⟩ = some (.int .i64 p.terrain.height) ∧ W.cell? ⟨w.heap.size, 3, none⟩ = some (v3) ∧ W.cell? ⟨w.heap.size, 4, none⟩ = some (v4) ∧ W.cell? ⟨w.heap.size, 5, none⟩ = some (v5) ∧ W.cell? ⟨w.heap.size, 6, none⟩ = some (.slice a6 p.network.sectors.length k6) ∧ W.cell? ⟨w.heap.size, 7, none⟩ = some (v7) ∧ W.cell? ⟨w.heap.size, 8, none⟩ = some (v8) ∧ W.cell? ⟨w.heap.size, 9, none⟩ = some (v9) ∧ W.cell? ⟨w.heap.size, 10, none⟩ = some (v10) ∧ W.cell? ⟨w.heap.size, 11, none⟩ = some (v11) ∧ W.cell? ⟨w.heap.size, 12, none⟩ = some (.slice aA p.network.sectors.length kA) ∧ W.cell? ⟨w.heap.size, 13, none⟩ = some (.int .i64 p.day))) := fun W hW => ⟨bkC (bkB K0.out hW (by omega)) 0 rfl, bkC (bkB K0.out hW (by omega)) 1 rfl, bkC (bkB K0.out hW (by omega)) 2 rfl, bkC (bkB K0.out hW (by omega)) 3 rfl, bkC (bkB K0.out hW (by omega)) 4 rfl, bkC (bkB K0.out hW (by omega)) 5 rfl, bkC (bkB K0.out hW (by omega)) 6 rfl, bkC (bkB K0.out hW (by omega)) 7 rfl, bkC (bkB K0.out hW (by omega)) 8 rfl, bkC (bkB K0.out hW (by omega)) 9 rfl, bkC (bkB K0.out hW (by omega)) 10 rfl, bkC (bkB K0.out hW (by omega)) 11 rfl, bkC (bkB K0.out hW (by omega)) 12 rfl, bkC (bkB K0.out hW (by omega)) 13 rfl⟩
  have HB : Hid (Below W0.heap.size W0 W0) := Below.refl _ _
  have HH : Hid (∀ W : World, Below W0.heap.size W0 W → Below w.heap.size w W) := fun W hW => B0.out.trans (hW.mono (by omega))
  go_enter Tryz.func53, Tryz.ntmps53
  go_upto_region 1 with (fail)
  rw [HW0.out]
  obtain ⟨t0, t1, t2, t3, t4, t5, t6, t7, t8, t9, t10, t11, t12, t13⟩ := HD.out _ HB.out
  go_wp2
  clear t0 t1 t2 t3 t4 t5 t6 t7 t8 t9 t10 t11 t12 t13
  obtain ⟨i0, hi0, hz0, hz1, hz2⟩ := info_parts infoF
  go_loopw [3, 12] (fun out i wr => ∃ (k : Nat), k ≤ p.network.sectors.length ∧ i = .int .i64 (k : Int) ∧ Below W0.heap.size W0 wr ∧ Grow wr W0.heap.size 114 3 out (pairF p k).length ((pairF p k).flatMap DFault.tr) []) (fun _ i wr => p.network.sectors.length - (intOf i).toNat)
  case atStart => exact ⟨0, Nat.zero_le _, rfl, HB.out, by simpa [pairF] using Grow.nil⟩
  case round =>
    obtain ⟨k, hk, rfl, hb, hgr⟩ := hrel
    generalize wr = wo at *
    have HBO := Lib.hid hb
    have HG := Lib.hid hgr
    have zo := hb.size
    clear hb hgr
    obtain ⟨t0, t1, t2, t3, t4, t5, t6, t7, t8, t9, t10, t11, t12, t13⟩ := HD.out _ HBO.out
    by_cases hlt : k < p.network.sectors.length
    · obtain ⟨b, off, ea, hbl, hat⟩ := HCL.out (by omega)
      subst ea
      obtain ⟨s0, s1, s2, s3, s4, s5, s6, s7, s8⟩ := hat k hlt
      rw [gSector_eq hlt, ← bat (HH.out _ HBO.out) b _ hbl] at s0 s1 s2 s3 s4 s5 s6 s7 s8
      have HAT := Lib.hid hat
      clear hat
      have hch := HCH.out k hlt
      have HRF : Hid (∀ m, rowF p k (m + 1) = rowF p k m ++ flt (gSector p.network.sectors k) (gSector p.network.sectors (k + 1 + m)) (gi (rowI p.apart k) (k + 1 + m))) := fun m => rfl
      generalize hx : gSector p.network.sectors k = x at *
      clear hx
      have i1 : (0 : Int) ≤ (k : Int) := by omega
      have i2 : (k : Int) < (p.network.sectors.length : Int) := by omega
      have kd1 : (k : Int) + 1 ≤ (p.network.sectors.length : Int) := by omega
      have kd2 : IntKind.i64.wrap ((k : Int) + 1) = (k : Int) + 1 := IntWalk.i64_in _ (by omega)
      have kd3 : (0 : Int) ≤ (k : Int) + 1 := by omega
      have kd4 : ((k : Int) + 1).toNat = k + 1 := by omega
      have kc1 : (p.network.sectors.length : Int) ≤ (k6 : Int) := by omega
      have kc2 : k + 1 ≤ p.network.sectors.length := by omega
      have kc3 : k + 1 ≤ k6 := by omega
      obtain ⟨bA, oA, eA, hbA, hrow⟩ := HRW.out (by omega)
      subst eA
      obtain ⟨ai, ci, hci, hri, hrc⟩ := hrow k (by omega)
      rw [HRL.out k hlt] at hci hrc
      obtain ⟨bi, oi, ei, hbi, hcell⟩ := hrc (by omega)
      subst ei
      have HCE := Lib.hid hcell
      have HCI := Lib.hid hci
      clear hrow hrc hcell hci hri
      go_upto_region 5 with (fail)
      have bX := below_alloc wo (.cells #[.string x.name, .string x.site, .string x.antenna, .string x.radio, .string x.band, .int .i64 x.azimuth, .int .i64 x.tilt, .int .i64 x.above, .int .i64 x.channel] 128)
      have kX := bkN wo #[.string x.name, .string x.site, .string x.antenna, .string x.radio, .string x.band, .int .i64 x.azimuth, .int .i64 x.tilt, .int .i64 x.above, .int .i64 x.channel] 128
      have HBX := Lib.hid (HBO.out.alloc zo (.cells #[.string x.name, .string x.site, .string x.antenna, .string x.radio, .string x.band, .int .i64 x.azimuth, .int .i64 x.tilt, .int .i64 x.above, .int .i64 x.channel] 128))
      have zX : wo.heap.size + 1 ≤ (wo.alloc (.cells #[.string x.name, .string x.site, .string x.antenna, .string x.radio, .string x.band, .int .i64 x.azimuth, .int .i64 x.tilt, .int .i64 x.above, .int .i64 x.channel] 128)).heap.size := by simp
      generalize (wo.alloc (.cells #[.string x.name, .string x.site, .string x.antenna, .string x.radio, .string x.band, .int .i64 x.azimuth, .int .i64 x.tilt, .int .i64 x.above, .int .i64 x.channel] 128)) = wx at *
      have HGX := Lib.hid (HG.out.below (lo := 0) In.nil bX)
      have hgb : ∀ e, u3.ownBlock = some e → e < wo.heap.size := fun e he => (HG.out.block he).2
      have HKX0 := Lib.hid kX
      clear bX kX t0 t1 t2 t3 t4 t5 t6 t7 t8 t9 t10 t11 t12 t13 s0 s1 s2 s3 s4 s5 s6 s7 s8
      obtain ⟨t0, t1, t2, t3, t4, t5, t6, t7, t8, t9, t10, t11, t12, t13⟩ := HD.out _ HBX.out
      go_cut [22, 23, 24] (fun s22 s23 s24 W => W = wx ∧ s23 = .int .i64 ((p.network.sectors.length - (k + 1) : Nat) : Int) ∧ s24 = .int .i64 0 ∧ ∃ A C, s22 = .slice A (p.network.sectors.length - (k + 1)) C ∧ (k + 1 < p.network.sectors.length → A = some ⟨b, off + (k + 1) * 9, none⟩))
      case first =>
        by_cases h6 : k6 = k + 1
        case pos =>
          have hnn : ¬ k + 1 < p.network.sectors.length := by omega
          replace h6 : (k6 = k + 1) = True := eq_true h6
          go_wp2_with fail
          go_meet
          exact ⟨rfl, rfl, rfl, _, _, rfl, fun hh => absurd hh hnn⟩
        case neg =>
          go_wp2_with fail
          go_meet
          exact ⟨rfl, rfl, rfl, _, _, rfl, fun hh => rfl⟩
      obtain ⟨rfl, rfl, rfl, A2, C2, rfl, hA2⟩ := hcut
      have HA2 := Lib.hid hA2
      clear hA2 t0 t1 t2 t3 t4 t5 t6 t7 t8 t9 t10 t11 t12 t13
      go_wp2
      go_loopw [3, 24] (fun ou i wr => ∃ (m : Nat), m ≤ p.network.sectors.length - (k + 1) ∧ i = .int .i64 (m : Int) ∧ Below W0.heap.size W0 wr ∧ wo.heap.size + 1 ≤ wr.heap.size ∧ wr.heap[wo.heap.size]? = some (.cells #[.string x.name, .string x.site, .string x.antenna, .string x.radio, .string x.band, .int .i64 x.azimuth, .int .i64 x.tilt, .int .i64 x.above, .int .i64 x.channel] 128 (0, 0)) ∧ ou.ownBlock ≠ some wo.heap.size ∧ Grow wr W0.heap.size 114 3 ou (pairF p k ++ rowF p k m).length ((pairF p k ++ rowF p k m).flatMap DFault.tr) []) (fun _ i wr => p.network.sectors.length - (k + 1) - (intOf i).toNat)
      case atStart => exact ⟨0, Nat.zero_le _, rfl, HBX.out, zX, HKX0.out, fun e => by have := hgb _ e; omega, by simpa [rowF] using HGX.out⟩
      case round =>
        obtain ⟨m, hm, rfl, hb, hz, hkx, hox, hgr⟩ := hrel
        have HBI := Lib.hid hb
        have HKX := Lib.hid hkx
        have HG2 := Lib.hid hgr
        have HOX := Lib.hid hox
        have zi := hb.size
        clear hb hkx hgr hox
        by_cases hlm : m < p.network.sectors.length - (k + 1)
        · have hq : k + 1 + m < p.network.sectors.length := by omega
          obtain rfl := HA2.out (by omega)
          obtain ⟨y0, y1, y2, y3, y4, y5, y6, y7, y8⟩ := HAT.out (k + 1 + m) hq
          rw [gSector_eq hq, show off + (k + 1 + m) * 9 = off + (k + 1) * 9 + m * 9 by omega, ← bat (HH.out _ HBI.out) b _ hbl] at y0 y1 y2 y3 y4 y5 y6 y7 y8
          obtain ⟨hy1, hy2⟩ := HCH.out (k + 1 + m) hq
          obtain ⟨hx1, hx2⟩ := hch
          have hd := HCE.out (k + 1 + m) hq
          have hRM := HRF.out m
          generalize gSector p.network.sectors (k + 1 + m) = y at *
          generalize gi (rowI p.apart k) (k + 1 + m) = d at *
          have HRM := Lib.hid hRM
          clear hRM
          have hpl := pairs_len hn hlt hm
          have m1 : (0 : Int) ≤ (m : Int) := by omega
          have m2 : (m : Int) < ((p.network.sectors.length - (k + 1) : Nat) : Int) := by omega
          have md1 : IntKind.i64.wrap ((k : Int) + 1 + (m : Int)) = (k : Int) + 1 + (m : Int) := IntWalk.i64_in _ (by omega)
          have md2 : ((k : Int) + 1 + (m : Int)).toNat = k + 1 + m := by omega
          have md3 : (0 : Int) ≤ (k : Int) + 1 + (m : Int) := by omega
          have md4 : (k : Int) + 1 + (m : Int) < (p.network.sectors.length : Int) := by omega
          go_upto_region 8 with (fail)
          have bV := below_alloc wr (.cells #[.string y.name, .string y.site, .string y.antenna, .string y.radio, .string y.band, .int .i64 y.azimuth, .int .i64 y.tilt, .int .i64 y.above, .int .i64 y.channel] 128)
          have kY := bkN wr #[.string y.name, .string y.site, .string y.antenna, .string y.radio, .string y.band, .int .i64 y.azimuth, .int .i64 y.tilt, .int .i64 y.above, .int .i64 y.channel] 128
          have kX := bkA HKX.out hz (.cells #[.string y.name, .string y.site, .string y.antenna, .string y.radio, .string y.band, .int .i64 y.azimuth, .int .i64 y.tilt, .int .i64 y.above, .int .i64 y.channel] 128)
          have zV : wr.heap.size + 1 ≤ (wr.alloc (.cells #[.string y.name, .string y.site, .string y.antenna, .string y.radio, .string y.band, .int .i64 y.azimuth, .int .i64 y.tilt, .int .i64 y.above, .int .i64 y.channel] 128)).heap.size := by simp
          generalize (wr.alloc (.cells #[.string y.name, .string y.site, .string y.antenna, .string y.radio, .string y.band, .int .i64 y.azimuth, .int .i64 y.tilt, .int .i64 y.above, .int .i64 y.channel] 128)) = V1 at *
          have BV := Lib.hid bV
          have HBV := Lib.hid (HBI.out.trans (bV.mono zi))
          have KX := Lib.hid kX
          have KY := Lib.hid kY
          clear bV kX kY y0 y1 y2 y3 y4 y5 y6 y7 y8
          have t12 := bkC (v := .slice (some ⟨bA, oA, none⟩) p.network.sectors.length kA) (bkB K0.out HBV.out (by omega)) 12 rfl
          have x0 := bkC (v := .string x.name) KX.out 0 rfl
          have x4 := bkC (v := .string x.band) KX.out 4 rfl
          have x8 := bkC (v := .int .i64 x.channel) KX.out 8 rfl
          have y0 := bkC (v := .string y.name) KY.out 0 rfl
          have y4 := bkC (v := .string y.band) KY.out 4 rfl
          have y8 := bkC (v := .int .i64 y.channel) KY.out 8 rfl
          have r0 := (bat (HH.out _ HBV.out) bA _ hbA).trans HCI.out
          have r1 := (bat (HH.out _ HBV.out) bi _ hbi).trans hd
          clear hd
          have hmx : decide (max (x.channel - y.channel) (-(x.channel - y.channel)) < d) = (decide (x.channel - y.channel < d) && decide (y.channel - x.channel < d)) := by
            rw [Bool.eq_iff_iff]
            simp only [Bool.and_eq_true, decide_eq_true_eq]
            omega
          have HMX := Lib.hid hmx
          clear hmx
          have ub : b < V1.heap.size := by omega
          have uA : bA < V1.heap.size := by omega
          have ui : bi < V1.heap.size := by omega
          have uP : w.heap.size < V1.heap.size := by omega
          have uX : wo.heap.size < V1.heap.size := by omega
          have uY : wr.heap.size < V1.heap.size := by omega
          have CA : Hid (∀ W : World, Calls Tryz.prog 114 #[.int .i64 (x.channel - y.channel)] W fun e w' => e = .returned (.int .i64 (max (x.channel - y.channel) (-(x.channel - y.channel)))) ∧ W = w') := fun W => abs_any _ ⟨by omega, by omega⟩ W
          go_cut [63] (fun s63 W => s63 = .bool (nrB x y d) ∧ Below V1.heap.size V1 W)
          case first =>
            by_cases c0 : eqS x.band y.band = true
            case neg =>
              replace c0 : eqS x.band y.band = false := Bool.eq_false_iff.2 c0
              have l0 : (x.band.toList == y.band.toList) = false := c0
              have HE : Hid (nrB x y d = false) := by show _ = _; unfold nrB; simp only [c0, Bool.false_and, Bool.and_false]
              have vP := overC (w0 := V1) uP
              have vX := overC (w0 := V1) uX
              have vY := overC (w0 := V1) uY
              have vA := overC (w0 := V1) uA
              have vI := overC (w0 := V1) ui
              refine wp_region_over V1.heap.size V1 (Below.refl _ _) (by kernel_rfl) (by kernel_rfl) ?_
              repeat (go_big_quiet_step ((go_at_call 114; with_reducible exact over_same (CA.out _))))
              refine wpQuiet_nil ?_
              rintro _ ⟨X, rfl⟩
              clear vP vX vY vA vI
              have BE := Lib.hid (over_below V1.heap.size V1 X)
              generalize over V1.heap.size V1 X = W9 at *
              go_wp2_with fail
              go_meet
              exact ⟨by rw [HE.out], BE.out⟩
            have l0 : (x.band.toList == y.band.toList) = true := c0
            by_cases c1 : 0 ≤ x.channel
            case neg =>
              have d1 : decide (0 ≤ x.channel) = false := decide_eq_false c1
              replace c1 : x.channel < 0 := by omega
              have HE : Hid (nrB x y d = false) := by show _ = _; unfold nrB; simp only [c0, d1, Bool.false_and, Bool.and_false]
              have vP := overC (w0 := V1) uP
              have vX := overC (w0 := V1) uX
              have vY := overC (w0 := V1) uY
              have vA := overC (w0 := V1) uA
              have vI := overC (w0 := V1) ui
              refine wp_region_over V1.heap.size V1 (Below.refl _ _) (by kernel_rfl) (by kernel_rfl) ?_
              repeat (go_big_quiet_step ((go_at_call 114; with_reducible exact over_same (CA.out _))))
              refine wpQuiet_nil ?_
              rintro _ ⟨X, rfl⟩
              clear vP vX vY vA vI
              have BE := Lib.hid (over_below V1.heap.size V1 X)
              generalize over V1.heap.size V1 X = W9 at *
              go_wp2_with fail
              go_meet
              exact ⟨by rw [HE.out], BE.out⟩
            have d1 : decide (0 ≤ x.channel) = true := decide_eq_true c1
            by_cases c2 : 0 ≤ y.channel
            case neg =>
              have d2 : decide (0 ≤ y.channel) = false := decide_eq_false c2
              replace c2 : y.channel < 0 := by omega
              have HE : Hid (nrB x y d = false) := by show _ = _; unfold nrB; simp only [c0, d1, d2, Bool.false_and, Bool.and_false]
              have vP := overC (w0 := V1) uP
              have vX := overC (w0 := V1) uX
              have vY := overC (w0 := V1) uY
              have vA := overC (w0 := V1) uA
              have vI := overC (w0 := V1) ui
              refine wp_region_over V1.heap.size V1 (Below.refl _ _) (by kernel_rfl) (by kernel_rfl) ?_
              repeat (go_big_quiet_step ((go_at_call 114; with_reducible exact over_same (CA.out _))))
              refine wpQuiet_nil ?_
              rintro _ ⟨X, rfl⟩
              clear vP vX vY vA vI
              have BE := Lib.hid (over_below V1.heap.size V1 X)
              generalize over V1.heap.size V1 X = W9 at *
              go_wp2_with fail
              go_meet
              exact ⟨by rw [HE.out], BE.out⟩
            have d2 : decide (0 ≤ y.channel) = true := decide_eq_true c2
            have HE : Hid (nrB x y d = decide (max (x.channel - y.channel) (-(x.channel - y.channel)) < d)) := by show _ = _; rw [HMX.out]; unfold nrB; rw [c0, d1, d2]; rfl
            have vP := overC (w0 := V1) uP
            have vX := overC (w0 := V1) uX
            have vY := overC (w0 := V1) uY
            have vA := overC (w0 := V1) uA
            have vI := overC (w0 := V1) ui
            refine wp_region_over V1.heap.size V1 (Below.refl _ _) (by kernel_rfl) (by kernel_rfl) ?_
            repeat (go_big_quiet_step ((go_at_call 114; with_reducible exact over_same (CA.out _))))
            refine wpQuiet_nil ?_
            rintro _ ⟨X, rfl⟩
            clear vP vX vY vA vI
            have BE := Lib.hid (over_below V1.heap.size V1 X)
            generalize over V1.heap.size V1 X = W9 at *
            go_wp2_with fail
            go_meet
            exact ⟨by rw [HE.out], BE.out⟩
          obtain ⟨rfl, hbc⟩ := hcut
          generalize wc = w2 at *
          have zc := hbc.size
          have BT := Lib.hid (BV.out.trans (hbc.mono (by omega)))
          have HB2 := Lib.hid (HBV.out.trans (hbc.mono (by omega)))
          have KX2 := Lib.hid (bkB KX.out hbc uX)
          have KY2 := Lib.hid (bkB KY.out hbc uY)
          have HG3 := Lib.hid (HG2.out.below (lo := 0) In.nil BT.out)
          clear hbc t12 x0 x4 x8 y0 y4 y8 r0 r1
          have HFL : Hid (flt x y d = if nrB x y d = true then [⟨6, x.name, y.name⟩] else []) := rfl
          generalize nrB x y d = nb at *
          cases nb
          case false =>
            go_wp2
            go_roundw
            case rel => exact ⟨m + 1, by omega, by go_num, HB2.out, by omega, KX2.out, HOX.out, (by rw [HRM.out, HFL.out]; simpa using HG3.out)⟩
            case measure => simp [intOf]; omega
          case true =>
            have x0 := bkC (v := .string x.name) KX2.out 0 rfl
            have y0 := bkC (v := .string y.name) KY2.out 0 rfl
            go_wp2_with (at_builtin; refine wpList_append1 rfl (.tmp 64) (.tmp 70) _ rfl W0.heap.size 114 i0 _ 3 40 Tryz.underlying60 hi0 hz0 hz1 hz2 rfl (by omega) _ _ _ [] rfl HG3.out [.int .i64 6, .string x.name, .string y.name] (DFault.tr ⟨6, x.name, y.name⟩) [] rfl 1 rfl (fun u hu => by simp at hu; rcases hu with rfl | rfl | rfl <;> rfl) (RepV_lits _ [.int .i64 6, .string x.name, .string y.name]) List.nodup_nil (fun b h => by simp at h) 0 In.nil In.nil (by simp) (by simp) (by unfold maxLen; omega) (by omega) (by omega) ?_; intro v2 w3 hgn)
            have HGN := Lib.hid hgn
            clear hgn
            go_wp2
            go_roundw
            case rel =>
              refine ⟨m + 1, by omega, by go_num, HB2.out.trans HGN.out.below, by have := HGN.out.size; omega, (HGN.out.keep _ (by omega) HOX.out).trans KX2.out, fun e => ?_, ?_⟩
              · rcases HGN.out.row with e2 | ⟨b2, e2, hb2⟩
                · rw [e2] at e; exact HOX.out e
                · rw [e2] at e; injection e with e; omega
              · rw [HRM.out, HFL.out, if_pos rfl, ← List.append_assoc, List.length_append, List.flatMap_append]
                simpa using HGN.out.grow
            case measure => simp [intOf]; omega
        · obtain rfl : m = p.network.sectors.length - (k + 1) := by omega
          go_wp2
          go_roundw
          case rel => exact ⟨k + 1, by omega, by go_num, HBI.out, HG2.out⟩
          case measure => simp [intOf]; omega
    · obtain rfl : k = p.network.sectors.length := by omega
      obtain ⟨av, cv, fv, ev, ov, iv⟩ := HG.out.toOwn (lo := w.heap.size) (by omega) In.nil (by omega)
      subst ev
      go_wp2
      go_ret
      exact ⟨av, cv, fv, rfl, HH.out _ HBO.out, ov, iv⟩
set_option maxHeartbeats 8000000 in
set_option maxRecDepth 100000 in
theorem l30Pairs_any (p : DPlan) (v3 v4 v5 v6 v7 v8 v9 v10 v11 v12 : Value) (b off : Nat) (w : World) (h : PlanRd w.heap.size w p v3 v4 v5 v6 v7 v8 v9 v10 v11 v12) (hs : sizL p.tr ≤ 1099511627776) (hp : planB p = true) (hn : p.network.sectors.length ≤ 1048576) (c6 : w.cell? ⟨b, off + 6, none⟩ = some v6) (c12 : w.cell? ⟨b, off + 12, none⟩ = some v12) :
    Calls Tryz.prog 45 #[.pointer (some ⟨b, off, none⟩)] w fun e w' => ∃ a c fp, e = .returned (.slice a (pairF p p.network.sectors.length).length c) ∧ Below w.heap.size w w' ∧ Own w' (DFault.sT (pairF p p.network.sectors.length)) (.slice a (pairF p p.network.sectors.length).length c) fp ∧ In w.heap.size w'.heap.size fp := by
  have hbl := cell_lt c6
  dsimp only at hbl
  have H := Lib.hid h
  clear h
  have Z := Lib.hid (PlanSz.of hs)
  obtain ⟨hal, hrl⟩ := planB_apart hp
  have HCH : Hid (∀ k, k < p.network.sectors.length → -1 ≤ (gSector p.network.sectors k).channel ∧ (gSector p.network.sectors k).channel ≤ 999) := fun k hk => planB_chan hp hk
  obtain ⟨a6, k6, e6, hc6, hm6, hcl6⟩ := DSector.rd H.out.r6
  subst e6
  have HCL := Lib.hid hcl6
  clear hcl6
  unfold maxLen at hm6
  have r12 := H.out.r12
  obtain ⟨aA, kA, eA, hcA, hmA, _⟩ := Rd.intss r12
  rw [eA] at r12
  have HRW := Lib.hid (fun h0 => Rd.rows r12 h0)
  clear r12
  rw [hal] at eA HRW hcA
  subst eA
  unfold maxLen at hmA
  have HRL := Lib.hid hrl
  clear hrl hal
  have HC : Hid (∀ W : World, Below w.heap.size w W → (W.cell? ⟨b, off + 6, none⟩ = some (.slice a6 p.network.sectors.length k6) ∧ W.cell? ⟨b, off + 12, none⟩ = some (.slice aA p.network.sectors.length kA))) := fun W hW => ⟨(bat hW b _ hbl).trans c6, (bat hW b _ hbl).trans c12⟩
  clear c6 c12
  go_enter Tryz.func45, Tryz.ntmps45
  go_upto_region 2 with (fail)
  have HB1 := Lib.hid (below_alloc w (.cells #[] 114))
  have HG1 := Lib.hid (grow_empty3 w 114)
  generalize (w.alloc (.cells #[] 114)) = w1 at *
  obtain ⟨t6, t12⟩ := HC.out _ HB1.out
  go_wp2
  clear t6 t12
  obtain ⟨i0, hi0, hz0, hz1, hz2⟩ := info_parts infoF
  go_loopw [3, 5] (fun out i wr => ∃ (k : Nat), k ≤ p.network.sectors.length ∧ i = .int .i64 (k : Int) ∧ Below w.heap.size w wr ∧ Grow wr w.heap.size 114 3 out (pairF p k).length ((pairF p k).flatMap DFault.tr) []) (fun _ i wr => p.network.sectors.length - (intOf i).toNat)
  case atStart => exact ⟨0, Nat.zero_le _, rfl, HB1.out, by simpa [pairF] using HG1.out⟩
  case round =>
    obtain ⟨k, hk, rfl, hb, hgr⟩ := hrel
    generalize wr = wo at *
    have HBO := Lib.hid hb
    have HG := Lib.hid hgr
    clear hb hgr
    by_cases hlt : k < p.network.sectors.length
    · obtain ⟨b6, o6, ea, hb6, hat⟩ := HCL.out (by omega)
      subst ea
      have HAT := Lib.hid hat
      clear hat
      obtain ⟨bA, oA, eA, hbA, hrow⟩ := HRW.out (by omega)
      subst eA
      obtain ⟨ai, ci, hci, hri, hrc⟩ := hrow k (by omega)
      rw [HRL.out k hlt] at hci hrc
      obtain ⟨bi, oi, ei, hbi, hcell⟩ := hrc (by omega)
      subst ei
      have HCE := Lib.hid hcell
      have HCI := Lib.hid hci
      clear hrow hrc hcell hci hri
      have hch := HCH.out k hlt
      have HRF : Hid (∀ m, rowF p k (m + 1) = rowF p k m ++ flt (gSector p.network.sectors k) (gSector p.network.sectors (k + 1 + m)) (gi (rowI p.apart k) (k + 1 + m))) := fun m => rfl
      generalize hx : gSector p.network.sectors k = x at *
      have HX := Lib.hid hx
      clear hx
      have i1 : (0 : Int) ≤ (k : Int) := by omega
      have i2 : (k : Int) < (p.network.sectors.length : Int) := by omega
      have kd2 : IntKind.i64.wrap ((k : Int) + 1) = (((k + 1 : Nat)) : Int) := by rw [IntWalk.i64_in _ (by omega)]; rfl
      go_wp2
      go_loopw [3, 6] (fun ou i wr => ∃ (q : Nat), k + 1 ≤ q ∧ q ≤ p.network.sectors.length ∧ i = .int .i64 (q : Int) ∧ Below w.heap.size w wr ∧ Grow wr w.heap.size 114 3 ou (pairF p k ++ rowF p k (q - (k + 1))).length ((pairF p k ++ rowF p k (q - (k + 1))).flatMap DFault.tr) []) (fun _ i wr => p.network.sectors.length - (intOf i).toNat)
      case atStart => exact ⟨k + 1, Nat.le_refl _, by omega, rfl, HBO.out, by simpa [rowF] using HG.out⟩
      case round =>
        obtain ⟨q, hkq, hq, rfl, hb, hgr⟩ := hrel
        have HBI := Lib.hid hb
        have HG2 := Lib.hid hgr
        have zi := hb.size
        clear hb hgr
        by_cases hlq : q < p.network.sectors.length
        · obtain ⟨s0, s1, s2, s3, s4, s5, s6, s7, s8⟩ := HAT.out k hlt
          rw [gSector_eq hlt, HX.out, ← bat HBI.out b6 _ hb6] at s0 s1 s2 s3 s4 s5 s6 s7 s8
          obtain ⟨y0, y1, y2, y3, y4, y5, y6, y7, y8⟩ := HAT.out q hlq
          rw [gSector_eq hlq, ← bat HBI.out b6 _ hb6] at y0 y1 y2 y3 y4 y5 y6 y7 y8
          obtain ⟨hy1, hy2⟩ := HCH.out q hlq
          obtain ⟨hx1, hx2⟩ := hch
          have hd := HCE.out q hlq
          have hRM := HRF.out (q - (k + 1))
          rw [show k + 1 + (q - (k + 1)) = q by omega, show q - (k + 1) + 1 = q + 1 - (k + 1) by omega] at hRM
          generalize gSector p.network.sectors q = y at *
          generalize gi (rowI p.apart k) q = d at *
          have HRM := Lib.hid hRM
          clear hRM s1 y1 s2 y2 s3 y3 s5 y5 s6 y6 s7 y7
          have hpl := pairs_len hn hlt (m := q - (k + 1)) (by omega)
          have m1 : (0 : Int) ≤ (q : Int) := by omega
          have m2 : (q : Int) < (p.network.sectors.length : Int) := by omega
          obtain ⟨t6, t12⟩ := HC.out _ HBI.out
          have r0 := (bat HBI.out bA _ hbA).trans HCI.out
          have r1 := (bat HBI.out bi _ hbi).trans hd
          clear hd
          have u6 : b6 < wr.heap.size := by omega
          have uA : bA < wr.heap.size := by omega
          have ui : bi < wr.heap.size := by omega
          have uP : b < wr.heap.size := by omega
          have CA : Hid (∀ W : World, Calls Tryz.prog 98 #[.int .i64 x.channel, .int .i64 y.channel, .int .i64 d] W fun e w' => e = .returned (.bool (decide (x.channel - y.channel < d) && decide (y.channel - x.channel < d))) ∧ W = w') := fun W => l17Near_any _ _ _ ⟨by omega, by omega⟩ ⟨by omega, by omega⟩ W
          go_upto_region 9 with (fail)
          go_cut [76] (fun s76 W => s76 = .bool (nrB x y d) ∧ Below wr.heap.size wr W)
          case first =>
            by_cases c0 : eqS x.band y.band = true
            case neg =>
              replace c0 : eqS x.band y.band = false := Bool.eq_false_iff.2 c0
              have l0 : (x.band.toList == y.band.toList) = false := c0
              have HE : Hid (nrB x y d = false) := by show _ = _; unfold nrB; simp only [c0, Bool.false_and, Bool.and_false]
              have vP := overC (w0 := wr) uP
              have vS := overC (w0 := wr) u6
              have vA := overC (w0 := wr) uA
              have vI := overC (w0 := wr) ui
              refine wp_region_over wr.heap.size wr (Below.refl _ _) (by kernel_rfl) (by kernel_rfl) ?_
              repeat (go_big_quiet_step ((go_at_call 98; with_reducible exact over_same (CA.out _))))
              refine wpQuiet_nil ?_
              rintro _ ⟨X, rfl⟩
              clear vP vS vA vI
              have BE := Lib.hid (over_below wr.heap.size wr X)
              generalize over wr.heap.size wr X = W9 at *
              go_wp2_with fail
              go_meet
              exact ⟨by rw [HE.out], BE.out⟩
            have l0 : (x.band.toList == y.band.toList) = true := c0
            by_cases c1 : 0 ≤ x.channel
            case neg =>
              have d1 : decide (0 ≤ x.channel) = false := decide_eq_false c1
              replace c1 : x.channel < 0 := by omega
              have HE : Hid (nrB x y d = false) := by show _ = _; unfold nrB; simp only [c0, d1, Bool.false_and, Bool.and_false]
              have vP := overC (w0 := wr) uP
              have vS := overC (w0 := wr) u6
              have vA := overC (w0 := wr) uA
              have vI := overC (w0 := wr) ui
              refine wp_region_over wr.heap.size wr (Below.refl _ _) (by kernel_rfl) (by kernel_rfl) ?_
              repeat (go_big_quiet_step ((go_at_call 98; with_reducible exact over_same (CA.out _))))
              refine wpQuiet_nil ?_
              rintro _ ⟨X, rfl⟩
              clear vP vS vA vI
              have BE := Lib.hid (over_below wr.heap.size wr X)
              generalize over wr.heap.size wr X = W9 at *
              go_wp2_with fail
              go_meet
              exact ⟨by rw [HE.out], BE.out⟩
            have d1 : decide (0 ≤ x.channel) = true := decide_eq_true c1
            by_cases c2 : 0 ≤ y.channel
            case neg =>
              have d2 : decide (0 ≤ y.channel) = false := decide_eq_false c2
              replace c2 : y.channel < 0 := by omega
              have HE : Hid (nrB x y d = false) := by show _ = _; unfold nrB; simp only [c0, d1, d2, Bool.false_and, Bool.and_false]
              have vP := overC (w0 := wr) uP
              have vS := overC (w0 := wr) u6
              have vA := overC (w0 := wr) uA
              have vI := overC (w0 := wr) ui
              refine wp_region_over wr.heap.size wr (Below.refl _ _) (by kernel_rfl) (by kernel_rfl) ?_
              repeat (go_big_quiet_step ((go_at_call 98; with_reducible exact over_same (CA.out _))))
              refine wpQuiet_nil ?_
              rintro _ ⟨X, rfl⟩
              clear vP vS vA vI
              have BE := Lib.hid (over_below wr.heap.size wr X)
              generalize over wr.heap.size wr X = W9 at *
              go_wp2_with fail
              go_meet
              exact ⟨by rw [HE.out], BE.out⟩
            have d2 : decide (0 ≤ y.channel) = true := decide_eq_true c2
            have HE : Hid (nrB x y d = (decide (x.channel - y.channel < d) && decide (y.channel - x.channel < d))) := by show _ = _; unfold nrB; rw [c0, d1, d2]; rfl
            have vP := overC (w0 := wr) uP
            have vS := overC (w0 := wr) u6
            have vA := overC (w0 := wr) uA
            have vI := overC (w0 := wr) ui
            refine wp_region_over wr.heap.size wr (Below.refl _ _) (by kernel_rfl) (by kernel_rfl) ?_
            repeat (go_big_quiet_step ((go_at_call 98; with_reducible exact over_same (CA.out _))))
            refine wpQuiet_nil ?_
            rintro _ ⟨X, rfl⟩
            clear vP vS vA vI
            have BE := Lib.hid (over_below wr.heap.size wr X)
            generalize over wr.heap.size wr X = W9 at *
            go_wp2_with fail
            go_meet
            exact ⟨by rw [HE.out], BE.out⟩
          obtain ⟨rfl, hbc⟩ := hcut
          generalize wc = w2 at *
          have zc := hbc.size
          have HB2 := Lib.hid (HBI.out.trans (hbc.mono (by omega)))
          have HG3 := Lib.hid (HG2.out.below (lo := 0) In.nil hbc)
          have x0 := (bat hbc b6 _ u6).trans s0
          have y0' := (bat hbc b6 _ u6).trans y0
          clear hbc t6 t12 s0 s4 s8 y0 y4 y8 r0 r1
          have HFL : Hid (flt x y d = if nrB x y d = true then [⟨6, x.name, y.name⟩] else []) := rfl
          generalize nrB x y d = nb at *
          cases nb
          case false =>
            clear x0 y0'
            go_wp2
            go_roundw
            case rel => exact ⟨q + 1, by omega, by omega, by go_num, HB2.out, (by rw [HRM.out, HFL.out]; simpa using HG3.out)⟩
            case measure => simp [intOf]; omega
          case true =>
            go_upto_region 10 with (fail)
            refine wp_region_ord 13 [(0, true), (1, true), (2, true), (3, true), (4, true), (5, true), (6, true), (7, true), (8, true), (9, true), (10, true), (11, true), (12, false)] (fun W => W.cell? ⟨b6, o6 + k * 9, none⟩ = some (.string x.name) ∧ W.cell? ⟨b6, o6 + q * 9, none⟩ = some (.string y.name)) (by kernel_rfl) (by kernel_rfl) ⟨x0, y0'⟩ (fun hHeld => ?_)
            refine wpOrd_read (v := ?_) rfl (fun _ _ _ h => h) ?_ ?_
            rotate_left
            · (intro W hSW; (try dsimp only at hSW); (go_simp <;> with_reducible rfl))
            (try simp only [Act.put, List.setIfInBounds_toArray, List.set_cons_zero, List.set_cons_succ])
            refine wpOrd_read (v := ?_) rfl (fun _ _ _ h => h) ?_ ?_
            rotate_left
            · (intro W hSW; (try dsimp only at hSW); (go_simp <;> with_reducible rfl))
            (try simp only [Act.put, List.setIfInBounds_toArray, List.set_cons_zero, List.set_cons_succ])
            refine wpOrd_read (v := ?_) rfl (fun _ _ _ h => h) ?_ ?_
            rotate_left
            · (intro W hSW; (try dsimp only at hSW); (go_simp <;> with_reducible rfl))
            (try simp only [Act.put, List.setIfInBounds_toArray, List.set_cons_zero, List.set_cons_succ])
            refine wpOrd_read (v := ?_) rfl (fun _ _ _ h => h) ?_ ?_
            rotate_left
            · (intro W hSW; (try dsimp only at hSW); (go_simp <;> with_reducible rfl))
            (try simp only [Act.put, List.setIfInBounds_toArray, List.set_cons_zero, List.set_cons_succ])
            refine wpOrd_read (v := ?_) rfl (fun _ _ _ h => h) ?_ ?_
            rotate_left
            · (intro W hSW; (try dsimp only at hSW); (go_simp <;> with_reducible rfl))
            (try simp only [Act.put, List.setIfInBounds_toArray, List.set_cons_zero, List.set_cons_succ])
            refine wpOrd_read (v := ?_) rfl (fun _ _ _ h => h) ?_ ?_
            rotate_left
            · (intro W hSW; (try dsimp only at hSW); (go_simp <;> with_reducible rfl))
            (try simp only [Act.put, List.setIfInBounds_toArray, List.set_cons_zero, List.set_cons_succ])
            refine wpOrd_read (v := ?_) rfl (fun _ _ _ h => h) ?_ ?_
            rotate_left
            · (intro W hSW; (try dsimp only at hSW); (go_simp <;> with_reducible rfl))
            (try simp only [Act.put, List.setIfInBounds_toArray, List.set_cons_zero, List.set_cons_succ])
            refine wpOrd_read (v := ?_) rfl (fun _ _ _ h => h) ?_ ?_
            rotate_left
            · (intro W hSW; (try dsimp only at hSW); (go_simp <;> with_reducible rfl))
            (try simp only [Act.put, List.setIfInBounds_toArray, List.set_cons_zero, List.set_cons_succ])
            refine wpOrd_read (v := ?_) rfl (fun _ _ _ h => h) ?_ ?_
            rotate_left
            · (intro W hSW; (try dsimp only at hSW); (go_simp <;> with_reducible rfl))
            (try simp only [Act.put, List.setIfInBounds_toArray, List.set_cons_zero, List.set_cons_succ])
            refine wpOrd_read (v := ?_) rfl (fun _ _ _ h => h) ?_ ?_
            rotate_left
            · (intro W hSW; (try dsimp only at hSW); (go_simp <;> with_reducible rfl))
            (try simp only [Act.put, List.setIfInBounds_toArray, List.set_cons_zero, List.set_cons_succ])
            refine wpOrd_read (v := ?_) rfl (fun _ _ _ h => h) ?_ ?_
            rotate_left
            · (intro W hSW; (try dsimp only at hSW); (go_simp <;> with_reducible rfl))
            (try simp only [Act.put, List.setIfInBounds_toArray, List.set_cons_zero, List.set_cons_succ])
            refine wpOrd_read (v := ?_) rfl (fun _ _ _ h => h) ?_ ?_
            rotate_left
            · (intro W hSW; (try dsimp only at hSW); (go_simp <;> with_reducible rfl))
            (try simp only [Act.put, List.setIfInBounds_toArray, List.set_cons_zero, List.set_cons_succ])
            have bd := below_drew1 w2
            have HG4 := Lib.hid (HG3.out.below (lo := 0) In.nil bd)
            have HB4 := Lib.hid (HB2.out.trans (bd.mono (by omega)))
            have z4 := bd.size
            have x4 := (bat bd b6 _ (by omega)).trans x0
            have y4 := (bat bd b6 _ (by omega)).trans y0'
            have u64 : b6 < w2.drew.heap.size := by omega
            clear bd x0 y0'
            generalize w2.drew = w4 at *
            refine wpOrd_step rfl (fun K hK => ?_)
            go_simp
            refine hK.out _ _ (⟨(bat (below_alloc w4 _) b6 _ u64).trans x4, (bat (below_alloc w4 _) b6 _ u64).trans y4⟩) ?_
            clear hK K
            (try simp only [Act.put, List.setIfInBounds_toArray, List.set_cons_zero, List.set_cons_succ])
            refine wpOrd_nil ?_
            simp only [List.drop_succ_cons, List.drop_zero]
            refine wpList_append1 rfl (.tmp 77) (.tmp 89) _ rfl w.heap.size 114 i0 _ 3 40 Tryz.underlying60 hi0 hz0 hz1 hz2 rfl (by omega) _ _ _ [] rfl HG4.out [.int .i64 6, .string x.name, .string y.name] (DFault.tr ⟨6, x.name, y.name⟩) [] rfl 1 rfl (fun u hu => by simp at hu; rcases hu with rfl | rfl | rfl <;> rfl) (RepV_lits _ [.int .i64 6, .string x.name, .string y.name]) List.nodup_nil (fun b h => by simp at h) 0 In.nil In.nil (by simp) (by simp) (by unfold maxLen; omega) (by omega) (by omega) ?_
            intro v2 w3 hgn
            have HGN := Lib.hid hgn
            clear hgn
            go_wp2
            go_roundw
            case rel =>
              refine ⟨q + 1, by omega, by omega, by go_num, HB4.out.trans HGN.out.below, ?_⟩
              rw [HRM.out, HFL.out, if_pos rfl, ← List.append_assoc, List.length_append, List.flatMap_append]
              simpa using HGN.out.grow
            case measure => simp [intOf]; omega
        · obtain rfl : q = p.network.sectors.length := by omega
          go_wp2
          go_roundw
          case rel => exact ⟨k + 1, by omega, by go_num, HBI.out, HG2.out⟩
          case measure => simp [intOf]; omega
    · obtain rfl : k = p.network.sectors.length := by omega
      obtain ⟨av, cv, fv, ev, ov, iv⟩ := HG.out.toOwn (lo := w.heap.size) (by omega) In.nil (by omega)
      subst ev
      go_wp2
      go_ret
      exact ⟨av, cv, fv, rfl, HBO.out, ov, iv⟩
def apartR (p : DPlan) : List DFault × Int := if planB p = true then (pairF p p.network.sectors.length, 0) else ([], 1)
set_option maxHeartbeats 8000000 in
set_option maxRecDepth 100000 in
theorem sApartFaults_std (p : DPlan) (vp3 vp4 vp5 vp6 vp7 vp8 vp9 vp10 vp11 vp12 : Value) (w : World) (rp3 : Rd w.heap.size w (intsT p.terrain.heights) vp3) (rp4 : Rd w.heap.size w (intsT p.terrain.clutter) vp4) (rp5 : Rd w.heap.size w (DSite.sT p.network.sites) vp5) (rp6 : Rd w.heap.size w (DSector.sT p.network.sectors) vp6) (rp7 : Rd w.heap.size w (DAntenna.sT p.network.antennas) vp7) (rp8 : Rd w.heap.size w (DRadio.sT p.network.radios) vp8) (rp9 : Rd w.heap.size w (DBand.sT p.bands) vp9) (rp10 : Rd w.heap.size w (DLicence.sT p.licences) vp10) (rp11 : Rd w.heap.size w (DProtected.sT p.protected_) vp11) (rp12 : Rd w.heap.size w (intssT p.apart) vp12) (hs_p : sizL p.tr ≤ 1048576) (hk_p : p.ok) :
    Calls Tryz.prog 12 #[.agg #[.int .i64 p.terrain.step, .int .i64 p.terrain.width, .int .i64 p.terrain.height, vp3, vp4, vp5, vp6, vp7, vp8, vp9, vp10, vp11, vp12, .int .i64 p.day]] w (fun e w' => ∃ a0_0 c0_0 fp0, e = .returned (.tuple #[.slice a0_0 (apartR p).1.length c0_0, .int .i64 (apartR p).2]) ∧ Below w.heap.size w w' ∧ Own w' (DFault.sT (apartR p).1) (.slice a0_0 (apartR p).1.length c0_0) fp0 ∧ In w.heap.size w'.heap.size fp0) := by
  have H : Hid (PlanRd w.heap.size w p vp3 vp4 vp5 vp6 vp7 vp8 vp9 vp10 vp11 vp12) := ⟨rp3, rp4, rp5, rp6, rp7, rp8, rp9, rp10, rp11, rp12⟩
  clear rp3 rp4 rp5 rp6 rp7 rp8 rp9 rp10 rp11 rp12
  obtain ⟨W0, hW0, b0, z0, k0⟩ := boxes1 w #[.int .i64 p.terrain.step, .int .i64 p.terrain.width, .int .i64 p.terrain.height, vp3, vp4, vp5, vp6, vp7, vp8, vp9, vp10, vp11, vp12, .int .i64 p.day] 53
  have HW0 := Lib.hid hW0
  clear hW0
  have B0 := Lib.hid b0
  clear b0
  have K0 := Lib.hid k0
  clear k0
  have HD : Hid (∀ W : World, Below W0.heap.size W0 W → (W.cell? ⟨w.heap.size, 0, none⟩ = some (.int .i64 p.terrain.step) ∧ W.cell? ⟨w.heap.size, 1, none⟩ = some (.int .i64 p.terrain.width) ∧ W.cell? ⟨w.heap.size, 2, none⟩ = some (.int .i64 p.terrain.height) ∧ W.cell? ⟨w.heap.size, 3, none⟩ = some (vp3) ∧ W.cell? ⟨w.heap.size, 4, none⟩ = some (vp4) ∧ W.cell? ⟨w.heap.size, 5, none⟩ = some (vp5) ∧ W.cell? ⟨w.heap.size, 6, none⟩ = some (vp6) ∧ W.cell? ⟨w.heap.size, 7, none⟩ = some (vp7) ∧ W.cell? ⟨w.heap.size, 8, none⟩ = some (vp8) ∧ W.cell? ⟨w.heap.size, 9, none⟩ = some (vp9) ∧ W.cell? ⟨w.heap.size, 10, none⟩ = some (vp10) ∧ W.cell? ⟨w.heap.size, 11, none⟩ = some (vp11) ∧ W.cell? ⟨w.heap.size, 12, none⟩ = some (vp12) ∧ W.cell? ⟨w.heap.size, 13, none⟩ = some (.int .i64 p.day))) := fun W hW => ⟨bkC (bkB K0.out hW (by omega)) 0 rfl, bkC (bkB K0.out hW (by omega)) 1 rfl, bkC (bkB K0.out hW (by omega)) 2 rfl, bkC (bkB K0.out hW (by omega)) 3 rfl, bkC (bkB K0.out hW (by omega)) 4 rfl, bkC (bkB K0.out hW (by omega)) 5 rfl, bkC (bkB K0.out hW (by omega)) 6 rfl, bkC (bkB K0.out hW (by omega)) 7 rfl, bkC (bkB K0.out hW (by omega)) 8 rfl, bkC (bkB K0.out hW (by omega)) 9 rfl, bkC (bkB K0.out hW (by omega)) 10 rfl, bkC (bkB K0.out hW (by omega)) 11 rfl, bkC (bkB K0.out hW (by omega)) 12 rfl, bkC (bkB K0.out hW (by omega)) 13 rfl⟩
  have HB : Hid (Below W0.heap.size W0 W0) := Below.refl _ _
  have HH : Hid (∀ W : World, Below W0.heap.size W0 W → Below w.heap.size w W) := fun W hW => B0.out.trans (hW.mono (by omega))
  have CV : Hid (∀ W : World, Below W0.heap.size W0 W → Calls Tryz.prog 44 #[.pointer (some ⟨w.heap.size, 0, none⟩)] W fun e w' => e = .returned (.bool (planB p)) ∧ Below W.heap.size W w') := fun W hW => by
    obtain ⟨t0, t1, t2, t3, t4, t5, t6, t7, t8, t9, t10, t11, t12, t13⟩ := HD.out W hW
    exact l30Ok_any p vp3 vp4 vp5 vp6 vp7 vp8 vp9 vp10 vp11 vp12 w.heap.size 0 W ((H.out.below (HH.out W hW)).mono (HH.out W hW).size) (by omega) hk_p t0 t1 t2 t3 t4 t5 t6 t7 t8 t9 t10 t11 t12 t13
  by_cases hv : planB p = true
  · rw [hv] at CV
    have HE : Hid (apartR p = ((pairF p p.network.sectors.length), 0)) := by show _ = _; unfold apartR; rw [if_pos hv]
    have CF : Hid (∀ W : World, Below W0.heap.size W0 W → Calls Tryz.prog 45 #[.pointer (some ⟨w.heap.size, 0, none⟩)] W fun e w' => ∃ a c fp, e = .returned (.slice a (pairF p p.network.sectors.length).length c) ∧ Below W.heap.size W w' ∧ Own w' (DFault.sT (pairF p p.network.sectors.length)) (.slice a (pairF p p.network.sectors.length).length c) fp ∧ In W.heap.size w'.heap.size fp) := fun W hW => by
      obtain ⟨t0, t1, t2, t3, t4, t5, t6, t7, t8, t9, t10, t11, t12, t13⟩ := HD.out W hW
      exact l30Pairs_any p vp3 vp4 vp5 vp6 vp7 vp8 vp9 vp10 vp11 vp12 w.heap.size 0 W ((H.out.below (HH.out W hW)).mono (HH.out W hW).size) (by omega) hv (secs_le hs_p) t6 t12
    go_enter Tryz.func12, Tryz.ntmps12
    go_upto_region 1 with (fail)
    rw [HW0.out]
    obtain ⟨t0, t1, t2, t3, t4, t5, t6, t7, t8, t9, t10, t11, t12, t13⟩ := HD.out _ HB.out
    go_wp2_with fail
    refine (CV.out _ HB.out).mono ?_
    rintro e w2 ⟨rfl, hb2⟩
    (try clear t0 t1 t2 t3 t4 t5 t6 t7 t8 t9 t10 t11 t12 t13)
    replace HB := Lib.hid (HB.out.trans (hb2.mono HB.out.size))
    clear hb2
    obtain ⟨t0, t1, t2, t3, t4, t5, t6, t7, t8, t9, t10, t11, t12, t13⟩ := HD.out _ HB.out
    go_wp2_with fail
    refine (CF.out _ HB.out).mono ?_
    rintro e w3 ⟨a3, c3, f3, rfl, hb3, o3, i3⟩
    have BF := Lib.hid ((HH.out _ HB.out).trans (hb3.mono (HH.out _ HB.out).size))
    have z2 := (HH.out _ HB.out).size
    clear hb3 t0 t1 t2 t3 t4 t5 t6 t7 t8 t9 t10 t11 t12 t13
    go_wp2
    go_ret2
    rw [HE.out]
    exact ⟨a3, c3, f3, rfl, BF.out, o3, i3.mono z2 (Nat.le_refl _)⟩
  · replace hv : planB p = false := Bool.eq_false_iff.2 hv
    rw [hv] at CV
    have HE : Hid (apartR p = ([], 1)) := by show _ = _; unfold apartR; rw [if_neg (by simp [hv])]
    go_enter Tryz.func12, Tryz.ntmps12
    go_upto_region 1 with (fail)
    rw [HW0.out]
    obtain ⟨t0, t1, t2, t3, t4, t5, t6, t7, t8, t9, t10, t11, t12, t13⟩ := HD.out _ HB.out
    go_wp2_with fail
    refine (CV.out _ HB.out).mono ?_
    rintro e w2 ⟨rfl, hb2⟩
    (try clear t0 t1 t2 t3 t4 t5 t6 t7 t8 t9 t10 t11 t12 t13)
    replace HB := Lib.hid (HB.out.trans (hb2.mono HB.out.size))
    clear hb2
    obtain ⟨t0, t1, t2, t3, t4, t5, t6, t7, t8, t9, t10, t11, t12, t13⟩ := HD.out _ HB.out
    clear t0 t1 t2 t3 t4 t5 t6 t7 t8 t9 t10 t11 t12 t13
    go_wp2
    go_ret2
    rw [HE.out]
    exact ⟨none, 0, [], rfl, HH.out _ HB.out, own_nilF _, In.nil⟩
set_option maxHeartbeats 8000000 in
set_option maxRecDepth 100000 in
theorem iApartFaults_std (p : DPlan) (vp3 vp4 vp5 vp6 vp7 vp8 vp9 vp10 vp11 vp12 : Value) (w : World) (rp3 : Rd w.heap.size w (intsT p.terrain.heights) vp3) (rp4 : Rd w.heap.size w (intsT p.terrain.clutter) vp4) (rp5 : Rd w.heap.size w (DSite.sT p.network.sites) vp5) (rp6 : Rd w.heap.size w (DSector.sT p.network.sectors) vp6) (rp7 : Rd w.heap.size w (DAntenna.sT p.network.antennas) vp7) (rp8 : Rd w.heap.size w (DRadio.sT p.network.radios) vp8) (rp9 : Rd w.heap.size w (DBand.sT p.bands) vp9) (rp10 : Rd w.heap.size w (DLicence.sT p.licences) vp10) (rp11 : Rd w.heap.size w (DProtected.sT p.protected_) vp11) (rp12 : Rd w.heap.size w (intssT p.apart) vp12) (hs_p : sizL p.tr ≤ 1048576) (hk_p : p.ok) :
    Calls Tryz.prog 14 #[.agg #[.int .i64 p.terrain.step, .int .i64 p.terrain.width, .int .i64 p.terrain.height, vp3, vp4, vp5, vp6, vp7, vp8, vp9, vp10, vp11, vp12, .int .i64 p.day]] w (fun e w' => ∃ a0_0 c0_0 fp0, e = .returned (.tuple #[.slice a0_0 (apartR p).1.length c0_0, .int .i64 (apartR p).2]) ∧ Below w.heap.size w w' ∧ Own w' (DFault.sT (apartR p).1) (.slice a0_0 (apartR p).1.length c0_0) fp0 ∧ In w.heap.size w'.heap.size fp0) := by
  have H : Hid (PlanRd w.heap.size w p vp3 vp4 vp5 vp6 vp7 vp8 vp9 vp10 vp11 vp12) := ⟨rp3, rp4, rp5, rp6, rp7, rp8, rp9, rp10, rp11, rp12⟩
  clear rp3 rp4 rp5 rp6 rp7 rp8 rp9 rp10 rp11 rp12
  obtain ⟨W0, hW0, b0, z0, k0⟩ := boxes1 w #[.int .i64 p.terrain.step, .int .i64 p.terrain.width, .int .i64 p.terrain.height, vp3, vp4, vp5, vp6, vp7, vp8, vp9, vp10, vp11, vp12, .int .i64 p.day] 53
  have HW0 := Lib.hid hW0
  clear hW0
  have B0 := Lib.hid b0
  clear b0
  have K0 := Lib.hid k0
  clear k0
  have HD : Hid (∀ W : World, Below W0.heap.size W0 W → (W.cell? ⟨w.heap.size, 0, none⟩ = some (.int .i64 p.terrain.step) ∧ W.cell? ⟨w.heap.size, 1, none⟩ = some (.int .i64 p.terrain.width) ∧ W.cell? ⟨w.heap.size, 2, none⟩ = some (.int .i64 p.terrain.height) ∧ W.cell? ⟨w.heap.size, 3, none⟩ = some (vp3) ∧ W.cell? ⟨w.heap.size, 4, none⟩ = some (vp4) ∧ W.cell? ⟨w.heap.size, 5, none⟩ = some (vp5) ∧ W.cell? ⟨w.heap.size, 6, none⟩ = some (vp6) ∧ W.cell? ⟨w.heap.size, 7, none⟩ = some (vp7) ∧ W.cell? ⟨w.heap.size, 8, none⟩ = some (vp8) ∧ W.cell? ⟨w.heap.size, 9, none⟩ = some (vp9) ∧ W.cell? ⟨w.heap.size, 10, none⟩ = some (vp10) ∧ W.cell? ⟨w.heap.size, 11, none⟩ = some (vp11) ∧ W.cell? ⟨w.heap.size, 12, none⟩ = some (vp12) ∧ W.cell? ⟨w.heap.size, 13, none⟩ = some (.int .i64 p.day))) := fun W hW => ⟨bkC (bkB K0.out hW (by omega)) 0 rfl, bkC (bkB K0.out hW (by omega)) 1 rfl, bkC (bkB K0.out hW (by omega)) 2 rfl, bkC (bkB K0.out hW (by omega)) 3 rfl, bkC (bkB K0.out hW (by omega)) 4 rfl, bkC (bkB K0.out hW (by omega)) 5 rfl, bkC (bkB K0.out hW (by omega)) 6 rfl, bkC (bkB K0.out hW (by omega)) 7 rfl, bkC (bkB K0.out hW (by omega)) 8 rfl, bkC (bkB K0.out hW (by omega)) 9 rfl, bkC (bkB K0.out hW (by omega)) 10 rfl, bkC (bkB K0.out hW (by omega)) 11 rfl, bkC (bkB K0.out hW (by omega)) 12 rfl, bkC (bkB K0.out hW (by omega)) 13 rfl⟩
  have HB : Hid (Below W0.heap.size W0 W0) := Below.refl _ _
  have HH : Hid (∀ W : World, Below W0.heap.size W0 W → Below w.heap.size w W) := fun W hW => B0.out.trans (hW.mono (by omega))
  have CV : Hid (∀ W : World, Below W0.heap.size W0 W → Calls Tryz.prog 52 #[.agg #[.int .i64 p.terrain.step, .int .i64 p.terrain.width, .int .i64 p.terrain.height, vp3, vp4, vp5, vp6, vp7, vp8, vp9, vp10, vp11, vp12, .int .i64 p.day]] W fun e w' => e = .returned (.bool (planB p)) ∧ Below W.heap.size W w') := fun W hW => iValidPlan_any p vp3 vp4 vp5 vp6 vp7 vp8 vp9 vp10 vp11 vp12 W ((H.out.below (HH.out W hW)).mono (HH.out W hW).size) (by omega) hk_p
  by_cases hv : planB p = true
  · rw [hv] at CV
    have HE : Hid (apartR p = ((pairF p p.network.sectors.length), 0)) := by show _ = _; unfold apartR; rw [if_pos hv]
    have CF : Hid (∀ W : World, Below W0.heap.size W0 W → Calls Tryz.prog 53 #[.agg #[.int .i64 p.terrain.step, .int .i64 p.terrain.width, .int .i64 p.terrain.height, vp3, vp4, vp5, vp6, vp7, vp8, vp9, vp10, vp11, vp12, .int .i64 p.day]] W fun e w' => ∃ a c fp, e = .returned (.slice a (pairF p p.network.sectors.length).length c) ∧ Below W.heap.size W w' ∧ Own w' (DFault.sT (pairF p p.network.sectors.length)) (.slice a (pairF p p.network.sectors.length).length c) fp ∧ In W.heap.size w'.heap.size fp) := fun W hW => apartFaults_any p vp3 vp4 vp5 vp6 vp7 vp8 vp9 vp10 vp11 vp12 W ((H.out.below (HH.out W hW)).mono (HH.out W hW).size) (by omega) hv (secs_le hs_p)
    go_enter Tryz.func14, Tryz.ntmps14
    go_upto_region 1 with (fail)
    rw [HW0.out]
    obtain ⟨t0, t1, t2, t3, t4, t5, t6, t7, t8, t9, t10, t11, t12, t13⟩ := HD.out _ HB.out
    go_wp2_with fail
    refine (CV.out _ HB.out).mono ?_
    rintro e w2 ⟨rfl, hb2⟩
    (try clear t0 t1 t2 t3 t4 t5 t6 t7 t8 t9 t10 t11 t12 t13)
    replace HB := Lib.hid (HB.out.trans (hb2.mono HB.out.size))
    clear hb2
    obtain ⟨t0, t1, t2, t3, t4, t5, t6, t7, t8, t9, t10, t11, t12, t13⟩ := HD.out _ HB.out
    go_wp2_with fail
    refine (CF.out _ HB.out).mono ?_
    rintro e w3 ⟨a3, c3, f3, rfl, hb3, o3, i3⟩
    have BF := Lib.hid ((HH.out _ HB.out).trans (hb3.mono (HH.out _ HB.out).size))
    have z2 := (HH.out _ HB.out).size
    clear hb3 t0 t1 t2 t3 t4 t5 t6 t7 t8 t9 t10 t11 t12 t13
    go_wp2
    go_ret2
    rw [HE.out]
    exact ⟨a3, c3, f3, rfl, BF.out, o3, i3.mono z2 (Nat.le_refl _)⟩
  · replace hv : planB p = false := Bool.eq_false_iff.2 hv
    rw [hv] at CV
    have HE : Hid (apartR p = ([], 1)) := by show _ = _; unfold apartR; rw [if_neg (by simp [hv])]
    go_enter Tryz.func14, Tryz.ntmps14
    go_upto_region 1 with (fail)
    rw [HW0.out]
    obtain ⟨t0, t1, t2, t3, t4, t5, t6, t7, t8, t9, t10, t11, t12, t13⟩ := HD.out _ HB.out
    go_wp2_with fail
    refine (CV.out _ HB.out).mono ?_
    rintro e w2 ⟨rfl, hb2⟩
    (try clear t0 t1 t2 t3 t4 t5 t6 t7 t8 t9 t10 t11 t12 t13)
    replace HB := Lib.hid (HB.out.trans (hb2.mono HB.out.size))
    clear hb2
    obtain ⟨t0, t1, t2, t3, t4, t5, t6, t7, t8, t9, t10, t11, t12, t13⟩ := HD.out _ HB.out
    clear t0 t1 t2 t3 t4 t5 t6 t7 t8 t9 t10 t11 t12 t13
    go_wp2
    go_ret2
    rw [HE.out]
    exact ⟨none, 0, [], rfl, HH.out _ HB.out, own_nilF _, In.nil⟩
theorem sumLen_sq (n : Nat) : ∀ m : List (List Int), (∀ i, i < m.length → (rowI m i).length = n) → sumLen m = m.length * n := by
  intro m
  induction m with
  | nil => intro _; simp [sumLen]
  | cons r m ih =>
    intro h
    have h0 : r.length = n := by simpa [rowI] using h 0 (by simp)
    have h1 := ih (fun i hi => by simpa [rowI] using h (i + 1) (by simpa using hi))
    have e : sumLen (r :: m) = r.length + sumLen m := by simp [sumLen]
    rw [e, h0, h1, List.length_cons, Nat.succ_mul]
    omega
theorem planB_sq {p : DPlan} (h : planB p = true) : p.network.sectors.length * p.network.sectors.length ≤ sizL p.tr := by
  obtain ⟨h1, h2⟩ := planB_apart h
  have h3 := sumLen_sq p.network.sectors.length p.apart (fun i hi => h2 i (by omega))
  have h4 := DPlan.siz_tr p
  rw [siz_intss, h3, h1] at h4
  omega
theorem flt_siz (x y : DSector) (d : Int) (hx : x.name.size ≤ 10) (hy : y.name.size ≤ 10) : sizL ((flt x y d).flatMap DFault.tr) ≤ 20 := by
  unfold flt
  split
  · simp only [List.flatMap_cons, List.flatMap_nil, List.append_nil, DFault.tr, sizL, siz, intT, strT]
    omega
  · simp [sizL]
theorem rowF_siz {p : DPlan} (h : planB p = true) {i : Nat} (hi : i < p.network.sectors.length) : ∀ m, m ≤ p.network.sectors.length - (i + 1) → sizL ((rowF p i m).flatMap DFault.tr) ≤ 20 * m := by
  intro m
  induction m with
  | zero => intro _; simp [rowF, sizL]
  | succ m ih =>
    intro hm
    have h1 := ih (by omega)
    have h2 := flt_siz (gSector p.network.sectors i) (gSector p.network.sectors (i + 1 + m)) (gi (rowI p.apart i) (i + 1 + m)) (planB_names h hi).1 (planB_names h (by omega)).1
    unfold rowF
    rw [List.flatMap_append, sizL_append]
    omega
theorem pairF_siz {p : DPlan} (h : planB p = true) : ∀ i, i ≤ p.network.sectors.length → sizL ((pairF p i).flatMap DFault.tr) ≤ 20 * (i * p.network.sectors.length) := by
  intro i
  induction i with
  | zero => intro _; simp [pairF, sizL]
  | succ i ih =>
    intro hi
    have h1 := ih (by omega)
    have h2 := rowF_siz h (show i < p.network.sectors.length by omega) _ (Nat.le_refl _)
    unfold pairF
    rw [List.flatMap_append, sizL_append]
    have e : (i + 1) * p.network.sectors.length = i * p.network.sectors.length + p.network.sectors.length := Nat.succ_mul _ _
    omega
theorem apartR_siz (p : DPlan) : siz (DFault.sT (apartR p).1) ≤ 21 * sizL p.tr := by
  rw [DFault.siz_s]
  unfold apartR
  split
  · rename_i h
    have h1 := pairF_len p p.network.sectors.length
    have h2 := pairF_siz h p.network.sectors.length (Nat.le_refl _)
    have h3 := planB_sq h
    simp only
    omega
  · simp [sizL]
end Go.Proofs.YtjfmkmcefnidcaaGreat
