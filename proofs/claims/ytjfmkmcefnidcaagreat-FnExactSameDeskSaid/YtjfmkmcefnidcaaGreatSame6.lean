/- SameRadio and SameNetwork of the reference: they answer as the Bools of Same0. Conditions: bounded sizes. -/
import Derived.Test.YtjfmkmcefnidcaaGreatSame4
import Derived.Test.YtjfmkmcefnidcaaGreatBox
import Derived.Test.YtjfmkmcefnidcaaGreatHNetwork
import Derived.Deep.DeepCutAuto
import Derived.Laws.StructEq
namespace Go.Proofs.YtjfmkmcefnidcaaGreat
open Go.RowKit
set_option linter.unusedVariables false
set_option linter.unusedSimpArgs false

set_option maxHeartbeats 8000000 in
set_option maxRecDepth 100000 in
theorem sSameRadio_any (a b : DRadio) (v5 u5 : Value) (B : Nat) (w : World) (p5 : Rd B w (DMode.sT a.modes) v5) (r5 : Rd B w (DMode.sT b.modes) u5) (hB : B ≤ w.heap.size) (m5 : a.modes.length ≤ 1099511627776) (n5 : b.modes.length ≤ 1099511627776) :
    Calls Tryz.prog 74 #[.agg #[.string a.name, .int .i64 a.power, .int .i64 a.feeder, .int .i64 a.noise, .int .i64 a.width, v5], .agg #[.string b.name, .int .i64 b.power, .int .i64 b.feeder, .int .i64 b.noise, .int .i64 b.width, u5]] w fun e w' => e = .returned (.bool (sameRadio a b)) ∧ Below w.heap.size w w' := by
  obtain ⟨av, cv, ev, _, _, _⟩ := DMode.rd p5
  obtain ⟨au, cu, eu, _, _, _⟩ := DMode.rd r5
  subst ev eu
  have P5 := Lib.hid p5
  have R5 := Lib.hid r5
  clear p5 r5
  have m5i : (a.modes.length : Int) ≤ 1099511627776 := by omega
  have n5i : (b.modes.length : Int) ≤ 1099511627776 := by omega
  obtain ⟨W0, hW0, b0, z0, k0, k1⟩ := boxes2 w #[.string a.name, .int .i64 a.power, .int .i64 a.feeder, .int .i64 a.noise, .int .i64 a.width, .slice av a.modes.length cv] 139 #[.string b.name, .int .i64 b.power, .int .i64 b.feeder, .int .i64 b.noise, .int .i64 b.width, .slice au b.modes.length cu] 139
  have HW0 := Lib.hid hW0
  clear hW0
  have B0 := Lib.hid b0
  clear b0
  have K0 := Lib.hid k0
  clear k0
  have K1 := Lib.hid k1
  clear k1
  have HD : Hid (∀ W : World, Below W0.heap.size W0 W → (W.cell? ⟨w.heap.size, 0, none⟩ = some (.string a.name) ∧ W.cell? ⟨w.heap.size, 1, none⟩ = some (.int .i64 a.power) ∧ W.cell? ⟨w.heap.size, 2, none⟩ = some (.int .i64 a.feeder) ∧ W.cell? ⟨w.heap.size, 3, none⟩ = some (.int .i64 a.noise) ∧ W.cell? ⟨w.heap.size, 4, none⟩ = some (.int .i64 a.width) ∧ W.cell? ⟨w.heap.size, 5, none⟩ = some (.slice av a.modes.length cv) ∧ W.cell? ⟨w.heap.size + 1, 0, none⟩ = some (.string b.name) ∧ W.cell? ⟨w.heap.size + 1, 1, none⟩ = some (.int .i64 b.power) ∧ W.cell? ⟨w.heap.size + 1, 2, none⟩ = some (.int .i64 b.feeder) ∧ W.cell? ⟨w.heap.size + 1, 3, none⟩ = some (.int .i64 b.noise) ∧ W.cell? ⟨w.heap.size + 1, 4, none⟩ = some (.int .i64 b.width) ∧ W.cell? ⟨w.heap.size + 1, 5, none⟩ = some (.slice au b.modes.length cu))) := fun W hW => ⟨bkC (bkB K0.out hW (by omega)) 0 rfl, bkC (bkB K0.out hW (by omega)) 1 rfl, bkC (bkB K0.out hW (by omega)) 2 rfl, bkC (bkB K0.out hW (by omega)) 3 rfl, bkC (bkB K0.out hW (by omega)) 4 rfl, bkC (bkB K0.out hW (by omega)) 5 rfl, bkC (bkB K1.out hW (by omega)) 0 rfl, bkC (bkB K1.out hW (by omega)) 1 rfl, bkC (bkB K1.out hW (by omega)) 2 rfl, bkC (bkB K1.out hW (by omega)) 3 rfl, bkC (bkB K1.out hW (by omega)) 4 rfl, bkC (bkB K1.out hW (by omega)) 5 rfl⟩
  have HB : Hid (Below W0.heap.size W0 W0) := Below.refl _ _
  have HH : Hid (∀ W : World, Below W0.heap.size W0 W → Below w.heap.size w W) := fun W hW => B0.out.trans (hW.mono (by omega))
  have HP : Hid (∀ W : World, Below W0.heap.size W0 W → (W.cell? ⟨w.heap.size, 5, none⟩ = some (.slice av a.modes.length cv) ∧ W.cell? ⟨w.heap.size + 1, 5, none⟩ = some (.slice au b.modes.length cu))) := fun W hW => ⟨bkC (bkB K0.out hW (by omega)) 5 rfl, bkC (bkB K1.out hW (by omega)) 5 rfl⟩
  by_cases h0 : eqS a.name b.name = true
  case neg =>
    replace h0 : eqS a.name b.name = false := Bool.eq_false_iff.2 h0
    have l0 : (a.name.toList == b.name.toList) = false := h0
    have n0 : (a.name.toList != b.name.toList) = true := by rw [bne, l0]; rfl
    have HE : Hid (sameRadio a b = false) := by show _ = _; unfold sameRadio; rw [h0]; rfl
    go_enter Tryz.func74, Tryz.ntmps74
    go_upto_region 1 with (fail)
    rw [HW0.out]
    obtain ⟨t0, t1, t2, t3, t4, t5, t6, t7, t8, t9, t10, t11⟩ := HD.out _ HB.out
    go_wp2
    go_ret
    exact ⟨by rw [HE.out]; rfl, HH.out _ HB.out⟩
  have l0 : (a.name.toList == b.name.toList) = true := h0
  have n0 : (a.name.toList != b.name.toList) = false := by rw [bne, l0]; rfl
  by_cases h1 : (a.power == b.power) = true
  case neg =>
    replace h1 : (a.power == b.power) = false := Bool.eq_false_iff.2 h1
    have l1 : (a.power == b.power) = false := h1
    have n1 : (a.power != b.power) = true := by rw [bne, l1]; rfl
    have HE : Hid (sameRadio a b = false) := by show _ = _; unfold sameRadio; rw [h0, h1]; rfl
    go_enter Tryz.func74, Tryz.ntmps74
    go_upto_region 1 with (fail)
    rw [HW0.out]
    obtain ⟨t0, t1, t2, t3, t4, t5, t6, t7, t8, t9, t10, t11⟩ := HD.out _ HB.out
    go_wp2
    go_ret
    exact ⟨by rw [HE.out]; rfl, HH.out _ HB.out⟩
  have l1 : (a.power == b.power) = true := h1
  have n1 : (a.power != b.power) = false := by rw [bne, l1]; rfl
  by_cases h2 : (a.feeder == b.feeder) = true
  case neg =>
    replace h2 : (a.feeder == b.feeder) = false := Bool.eq_false_iff.2 h2
    have l2 : (a.feeder == b.feeder) = false := h2
    have n2 : (a.feeder != b.feeder) = true := by rw [bne, l2]; rfl
    have HE : Hid (sameRadio a b = false) := by show _ = _; unfold sameRadio; rw [h0, h1, h2]; rfl
    go_enter Tryz.func74, Tryz.ntmps74
    go_upto_region 1 with (fail)
    rw [HW0.out]
    obtain ⟨t0, t1, t2, t3, t4, t5, t6, t7, t8, t9, t10, t11⟩ := HD.out _ HB.out
    go_wp2
    go_ret
    exact ⟨by rw [HE.out]; rfl, HH.out _ HB.out⟩
  have l2 : (a.feeder == b.feeder) = true := h2
  have n2 : (a.feeder != b.feeder) = false := by rw [bne, l2]; rfl
  by_cases h3 : (a.noise == b.noise) = true
  case neg =>
    replace h3 : (a.noise == b.noise) = false := Bool.eq_false_iff.2 h3
    have l3 : (a.noise == b.noise) = false := h3
    have n3 : (a.noise != b.noise) = true := by rw [bne, l3]; rfl
    have HE : Hid (sameRadio a b = false) := by show _ = _; unfold sameRadio; rw [h0, h1, h2, h3]; rfl
    go_enter Tryz.func74, Tryz.ntmps74
    go_upto_region 1 with (fail)
    rw [HW0.out]
    obtain ⟨t0, t1, t2, t3, t4, t5, t6, t7, t8, t9, t10, t11⟩ := HD.out _ HB.out
    go_wp2
    go_ret
    exact ⟨by rw [HE.out]; rfl, HH.out _ HB.out⟩
  have l3 : (a.noise == b.noise) = true := h3
  have n3 : (a.noise != b.noise) = false := by rw [bne, l3]; rfl
  by_cases h4 : (a.width == b.width) = true
  case neg =>
    replace h4 : (a.width == b.width) = false := Bool.eq_false_iff.2 h4
    have l4 : (a.width == b.width) = false := h4
    have n4 : (a.width != b.width) = true := by rw [bne, l4]; rfl
    have HE : Hid (sameRadio a b = false) := by show _ = _; unfold sameRadio; rw [h0, h1, h2, h3, h4]; rfl
    go_enter Tryz.func74, Tryz.ntmps74
    go_upto_region 1 with (fail)
    rw [HW0.out]
    obtain ⟨t0, t1, t2, t3, t4, t5, t6, t7, t8, t9, t10, t11⟩ := HD.out _ HB.out
    go_wp2
    go_ret
    exact ⟨by rw [HE.out]; rfl, HH.out _ HB.out⟩
  have l4 : (a.width == b.width) = true := h4
  have n4 : (a.width != b.width) = false := by rw [bne, l4]; rfl
  have HE0 : Hid (sameRadio a b = sameModeS a.modes b.modes) := by show _ = _; unfold sameRadio; rw [h0, h1, h2, h3, h4]; rfl
  by_cases hl : a.modes.length = b.modes.length
  case neg =>
    have HE : Hid (sameRadio a b = false) := by show _ = _; rw [HE0.out]; exact sameModeS_len hl
    have nl : ((a.modes.length : Int) != (b.modes.length : Int)) = true := by simp; omega
    go_enter Tryz.func74, Tryz.ntmps74
    go_upto_region 1 with (fail)
    rw [HW0.out]
    obtain ⟨t0, t1, t2, t3, t4, t5, t6, t7, t8, t9, t10, t11⟩ := HD.out _ HB.out
    go_wp2
    go_ret
    exact ⟨by rw [HE.out]; rfl, HH.out _ HB.out⟩
  have HL := Lib.hid hl
  have nl : ((a.modes.length : Int) != (b.modes.length : Int)) = false := by simp; omega
  clear hl
  have HFT : Hid (sameModeS a.modes b.modes = false → sameRadio a b = false) := fun h => by rw [HE0.out]; exact h
  go_enter Tryz.func74, Tryz.ntmps74
  go_upto_region 1 with (fail)
  rw [HW0.out]
  obtain ⟨t0, t1, t2, t3, t4, t5, t6, t7, t8, t9, t10, t11⟩ := HD.out _ HB.out
  go_wp2
  clear t0 t1 t2 t3 t4 t5 t6 t7 t8 t9 t10 t11 nl h0 l0 n0 h1 l1 n1 h2 l2 n2 h3 l3 n3 h4 l4 n4
  go_loopw [5] (fun i wr => ∃ (k : Nat), k ≤ a.modes.length ∧ i = .int .i64 k ∧ (∀ j (hl : j < a.modes.length), j < k → sameMode a.modes[j] (b.modes[j]'(by have := HL.out; omega)) = true) ∧ Below W0.heap.size W0 wr) (fun i wr => a.modes.length - (intOf i).toNat)
  case atStart => exact ⟨0, Nat.zero_le _, rfl, fun j hl h => absurd h (by omega), HB.out⟩
  case round =>
    obtain ⟨k, hk, rfl, hall, hb⟩ := hrel
    have HA5 := Lib.hid hall
    have HB5 := Lib.hid hb
    have zb5 := hb.size
    clear hall hb
    have hbw := HH.out _ HB5.out
    obtain ⟨qa, qb⟩ := HP.out _ HB5.out
    obtain ⟨aa, ca, ea, _, _, hca⟩ := DMode.rd P5.out
    obtain ⟨ab, cb, eb, _, _, hcb⟩ := DMode.rd R5.out
    injection ea with ea1 _ ea3
    injection eb with eb1 _ eb3
    subst ea1 ea3 eb1 eb3
    by_cases hlt : k < a.modes.length
    · have hlm : k < b.modes.length := by rw [← HL.out]; exact hlt
      obtain ⟨bx, ox, ea, hbl, hat⟩ := hca (by omega)
      obtain ⟨by_, oy, eb, hbl', hat'⟩ := hcb (by omega)
      subst ea eb
      obtain ⟨s0, s1⟩ := hat k hlt
      obtain ⟨t0, t1⟩ := hat' k hlm
      rw [← bat hbw bx _ (by omega)] at s0 s1
      rw [← bat hbw by_ _ (by omega)] at t0 t1
      have j0 : (0 : Int) ≤ (k : Int) := by omega
      have j1 : (k : Int) < (a.modes.length : Int) := by omega
      have j2 : (k : Int) < (b.modes.length : Int) := by omega
      have hbs := hbw.size
      have y1 : bx < wr.heap.size := by omega
      have y2 : by_ < wr.heap.size := by omega
      have y3 : w.heap.size < wr.heap.size := by omega
      have y4 : w.heap.size + 1 < wr.heap.size := by omega
      clear hca hcb hat hat'
      have HF1 : Hid (sameMode a.modes[k] b.modes[k] = false → sameRadio a b = false) := fun h => HFT.out (sameModeS_at hlt hlm h)
      have HT1 : Hid (sameMode a.modes[k] b.modes[k] = true → ∀ j (hl : j < a.modes.length), j < k + 1 → sameMode a.modes[j] (b.modes[j]'(by have := HL.out; omega)) = true) := fun h j hl hj => by
        by_cases e : j = k
        · subst e; exact h
        · exact HA5.out j hl (by omega)
      generalize a.modes[k] = X at *
      generalize b.modes[k] = Y at *
      go_upto_region 6 with (fail)
      by_cases e0 : X.need = Y.need
      case neg =>
        have e0b : (X.need == Y.need) = false := beq_eq_false_iff_ne.2 e0
        have HE := Lib.hid (HF1.out (by unfold sameMode; simp only [e0b, Bool.false_and, Bool.and_false]))
        clear e0b
        have o1 := overC (w0 := wr) y1
        have o2 := overC (w0 := wr) y2
        have o3 := overC (w0 := wr) y3
        have o4 := overC (w0 := wr) y4
        refine wp_region_over wr.heap.size wr (Below.refl _ _) (by kernel_rfl) (by kernel_rfl) ?_
        repeat (go_big_quiet_step (fail))
        refine wpQuiet_nil ?_
        rintro _ ⟨ZZ, rfl⟩
        have hX := over_below wr.heap.size wr ZZ
        clear o1 o2 o3 o4
        generalize over wr.heap.size wr ZZ = w3 at *
        have BE5 := Lib.hid (HB5.out.trans (hX.mono (by omega)))
        clear hX
        go_wp2
        go_ret
        exact ⟨by rw [HE.out]; rfl, HH.out _ BE5.out⟩
      by_cases e1 : X.rate = Y.rate
      case neg =>
        have e1b : (X.rate == Y.rate) = false := beq_eq_false_iff_ne.2 e1
        have HE := Lib.hid (HF1.out (by unfold sameMode; simp only [e1b, Bool.false_and, Bool.and_false]))
        clear e1b
        have o1 := overC (w0 := wr) y1
        have o2 := overC (w0 := wr) y2
        have o3 := overC (w0 := wr) y3
        have o4 := overC (w0 := wr) y4
        refine wp_region_over wr.heap.size wr (Below.refl _ _) (by kernel_rfl) (by kernel_rfl) ?_
        repeat (go_big_quiet_step (fail))
        refine wpQuiet_nil ?_
        rintro _ ⟨ZZ, rfl⟩
        have hX := over_below wr.heap.size wr ZZ
        clear o1 o2 o3 o4
        generalize over wr.heap.size wr ZZ = w3 at *
        have BE5 := Lib.hid (HB5.out.trans (hX.mono (by omega)))
        clear hX
        go_wp2
        go_ret
        exact ⟨by rw [HE.out]; rfl, HH.out _ BE5.out⟩
      have HE := Lib.hid (HT1.out (by unfold sameMode; simp [e0, e1]))
      have o1 := overC (w0 := wr) y1
      have o2 := overC (w0 := wr) y2
      have o3 := overC (w0 := wr) y3
      have o4 := overC (w0 := wr) y4
      refine wp_region_over wr.heap.size wr (Below.refl _ _) (by kernel_rfl) (by kernel_rfl) ?_
      repeat (go_big_quiet_step (fail))
      refine wpQuiet_nil ?_
      rintro _ ⟨ZZ, rfl⟩
      have hX := over_below wr.heap.size wr ZZ
      clear o1 o2 o3 o4
      generalize over wr.heap.size wr ZZ = w3 at *
      have BE5 := Lib.hid (HB5.out.trans (hX.mono (by omega)))
      clear hX
      clear e0 e1
      go_wp2
      go_roundw
      case rel => exact ⟨k + 1, by omega, by go_num, HE.out, BE5.out⟩
      case measure => simp [intOf]; omega
    · obtain rfl : k = a.modes.length := by omega
      have HS5 := Lib.hid (sameModeS_all HL.out (fun j hl => HA5.out j hl hl))
      have HB := Lib.hid HB5.out
      clear hca hcb hbw
      have HE : Hid (sameRadio a b = true) := by show _ = _; rw [HE0.out]; exact HS5.out
      go_wp2
      go_ret
      exact ⟨by rw [HE.out]; rfl, HH.out _ HB.out⟩
set_option maxHeartbeats 16000000 in
set_option maxRecDepth 100000 in
theorem sSameNetwork_any (a b : DNetwork) (v0 u0 v1 u1 v2 u2 v3 u3 : Value) (B : Nat) (w : World) (p0 : Rd B w (DSite.sT a.sites) v0) (r0 : Rd B w (DSite.sT b.sites) u0) (p1 : Rd B w (DSector.sT a.sectors) v1) (r1 : Rd B w (DSector.sT b.sectors) u1) (p2 : Rd B w (DAntenna.sT a.antennas) v2) (r2 : Rd B w (DAntenna.sT b.antennas) u2) (p3 : Rd B w (DRadio.sT a.radios) v3) (r3 : Rd B w (DRadio.sT b.radios) u3) (hB : B ≤ w.heap.size) (m0 : a.sites.length ≤ 1099511627776) (n0 : b.sites.length ≤ 1099511627776) (m1 : a.sectors.length ≤ 1099511627776) (n1 : b.sectors.length ≤ 1099511627776) (m2 : siz (DAntenna.sT a.antennas) ≤ 1099511627776) (n2 : siz (DAntenna.sT b.antennas) ≤ 1099511627776) (m3 : siz (DRadio.sT a.radios) ≤ 1099511627776) (n3 : siz (DRadio.sT b.radios) ≤ 1099511627776) :
    Calls Tryz.prog 24 #[.agg #[v0, v1, v2, v3], .agg #[u0, u1, u2, u3]] w fun e w' => e = .returned (.bool (sameNetwork a b)) ∧ Below w.heap.size w w' := by
  rw [DAntenna.siz_s] at m2 n2
  rw [DRadio.siz_s] at m3 n3
  obtain ⟨av0, cv0, ev, _, _, _⟩ := DSite.rd p0
  obtain ⟨au0, cu0, eu, _, _, _⟩ := DSite.rd r0
  subst ev eu
  have PP0 := Lib.hid p0
  have RR0 := Lib.hid r0
  clear p0 r0
  have mi0 : (a.sites.length : Int) ≤ 1099511627776 := by omega
  have ni0 : (b.sites.length : Int) ≤ 1099511627776 := by omega
  obtain ⟨av1, cv1, ev, _, _, _⟩ := DSector.rd p1
  obtain ⟨au1, cu1, eu, _, _, _⟩ := DSector.rd r1
  subst ev eu
  have PP1 := Lib.hid p1
  have RR1 := Lib.hid r1
  clear p1 r1
  have mi1 : (a.sectors.length : Int) ≤ 1099511627776 := by omega
  have ni1 : (b.sectors.length : Int) ≤ 1099511627776 := by omega
  obtain ⟨av2, cv2, ev, _, _, _⟩ := DAntenna.rd p2
  obtain ⟨au2, cu2, eu, _, _, _⟩ := DAntenna.rd r2
  subst ev eu
  have PP2 := Lib.hid p2
  have RR2 := Lib.hid r2
  clear p2 r2
  have mi2 : (a.antennas.length : Int) ≤ 1099511627776 := by omega
  have ni2 : (b.antennas.length : Int) ≤ 1099511627776 := by omega
  obtain ⟨av3, cv3, ev, _, _, _⟩ := DRadio.rd p3
  obtain ⟨au3, cu3, eu, _, _, _⟩ := DRadio.rd r3
  subst ev eu
  have PP3 := Lib.hid p3
  have RR3 := Lib.hid r3
  clear p3 r3
  have mi3 : (a.radios.length : Int) ≤ 1099511627776 := by omega
  have ni3 : (b.radios.length : Int) ≤ 1099511627776 := by omega
  obtain ⟨W0, hW0, b0, z0, k0, k1⟩ := boxes2 w #[.slice av0 a.sites.length cv0, .slice av1 a.sectors.length cv1, .slice av2 a.antennas.length cv2, .slice av3 a.radios.length cv3] 48 #[.slice au0 b.sites.length cu0, .slice au1 b.sectors.length cu1, .slice au2 b.antennas.length cu2, .slice au3 b.radios.length cu3] 48
  have HW0 := Lib.hid hW0
  clear hW0
  have B0 := Lib.hid b0
  clear b0
  have K0 := Lib.hid k0
  clear k0
  have K1 := Lib.hid k1
  clear k1
  have HD : Hid (∀ W : World, Below W0.heap.size W0 W → (W.cell? ⟨w.heap.size, 0, none⟩ = some (.slice av0 a.sites.length cv0) ∧ W.cell? ⟨w.heap.size, 1, none⟩ = some (.slice av1 a.sectors.length cv1) ∧ W.cell? ⟨w.heap.size, 2, none⟩ = some (.slice av2 a.antennas.length cv2) ∧ W.cell? ⟨w.heap.size, 3, none⟩ = some (.slice av3 a.radios.length cv3) ∧ W.cell? ⟨w.heap.size + 1, 0, none⟩ = some (.slice au0 b.sites.length cu0) ∧ W.cell? ⟨w.heap.size + 1, 1, none⟩ = some (.slice au1 b.sectors.length cu1) ∧ W.cell? ⟨w.heap.size + 1, 2, none⟩ = some (.slice au2 b.antennas.length cu2) ∧ W.cell? ⟨w.heap.size + 1, 3, none⟩ = some (.slice au3 b.radios.length cu3))) := fun W hW => ⟨bkC (bkB K0.out hW (by omega)) 0 rfl, bkC (bkB K0.out hW (by omega)) 1 rfl, bkC (bkB K0.out hW (by omega)) 2 rfl, bkC (bkB K0.out hW (by omega)) 3 rfl, bkC (bkB K1.out hW (by omega)) 0 rfl, bkC (bkB K1.out hW (by omega)) 1 rfl, bkC (bkB K1.out hW (by omega)) 2 rfl, bkC (bkB K1.out hW (by omega)) 3 rfl⟩
  have HB : Hid (Below W0.heap.size W0 W0) := Below.refl _ _
  have HH : Hid (∀ W : World, Below W0.heap.size W0 W → Below w.heap.size w W) := fun W hW => B0.out.trans (hW.mono (by omega))
  have HP0 : Hid (∀ W : World, Below W0.heap.size W0 W → (W.cell? ⟨w.heap.size, 0, none⟩ = some (.slice av0 a.sites.length cv0) ∧ W.cell? ⟨w.heap.size + 1, 0, none⟩ = some (.slice au0 b.sites.length cu0))) := fun W hW => ⟨bkC (bkB K0.out hW (by omega)) 0 rfl, bkC (bkB K1.out hW (by omega)) 0 rfl⟩
  have HFT0 : Hid (sameSiteS a.sites b.sites = false → sameNetwork a b = false) := fun h => by unfold sameNetwork; rw [h]; simp
  have HP1 : Hid (∀ W : World, Below W0.heap.size W0 W → (W.cell? ⟨w.heap.size, 1, none⟩ = some (.slice av1 a.sectors.length cv1) ∧ W.cell? ⟨w.heap.size + 1, 1, none⟩ = some (.slice au1 b.sectors.length cu1))) := fun W hW => ⟨bkC (bkB K0.out hW (by omega)) 1 rfl, bkC (bkB K1.out hW (by omega)) 1 rfl⟩
  have HFT1 : Hid (sameSectorS a.sectors b.sectors = false → sameNetwork a b = false) := fun h => by unfold sameNetwork; rw [h]; simp
  have HP2 : Hid (∀ W : World, Below W0.heap.size W0 W → (W.cell? ⟨w.heap.size, 2, none⟩ = some (.slice av2 a.antennas.length cv2) ∧ W.cell? ⟨w.heap.size + 1, 2, none⟩ = some (.slice au2 b.antennas.length cu2))) := fun W hW => ⟨bkC (bkB K0.out hW (by omega)) 2 rfl, bkC (bkB K1.out hW (by omega)) 2 rfl⟩
  have HFT2 : Hid (sameAntennaS a.antennas b.antennas = false → sameNetwork a b = false) := fun h => by unfold sameNetwork; rw [h]; simp
  have HP3 : Hid (∀ W : World, Below W0.heap.size W0 W → (W.cell? ⟨w.heap.size, 3, none⟩ = some (.slice av3 a.radios.length cv3) ∧ W.cell? ⟨w.heap.size + 1, 3, none⟩ = some (.slice au3 b.radios.length cu3))) := fun W hW => ⟨bkC (bkB K0.out hW (by omega)) 3 rfl, bkC (bkB K1.out hW (by omega)) 3 rfl⟩
  have HFT3 : Hid (sameRadioS a.radios b.radios = false → sameNetwork a b = false) := fun h => by unfold sameNetwork; rw [h]; simp
  by_cases hl0 : a.sites.length = b.sites.length
  case neg =>
    have HE := Lib.hid (HFT0.out (sameSiteS_len hl0))
    have nl0 : ((a.sites.length : Int) != (b.sites.length : Int)) = true := by simp; omega
    clear hl0
    go_enter Tryz.func24, Tryz.ntmps24
    go_upto_region 1 with (fail)
    rw [HW0.out]
    obtain ⟨t0, t1, t2, t3, t4, t5, t6, t7⟩ := HD.out _ HB.out
    go_wp2
    go_ret
    exact ⟨by rw [HE.out]; rfl, HH.out _ HB.out⟩
  have HL0 := Lib.hid hl0
  have nl0 : ((a.sites.length : Int) != (b.sites.length : Int)) = false := by simp; omega
  clear hl0
  by_cases hl1 : a.sectors.length = b.sectors.length
  case neg =>
    have HE := Lib.hid (HFT1.out (sameSectorS_len hl1))
    have nl1 : ((a.sectors.length : Int) != (b.sectors.length : Int)) = true := by simp; omega
    clear hl1
    go_enter Tryz.func24, Tryz.ntmps24
    go_upto_region 1 with (fail)
    rw [HW0.out]
    obtain ⟨t0, t1, t2, t3, t4, t5, t6, t7⟩ := HD.out _ HB.out
    go_wp2
    go_ret
    exact ⟨by rw [HE.out]; rfl, HH.out _ HB.out⟩
  have HL1 := Lib.hid hl1
  have nl1 : ((a.sectors.length : Int) != (b.sectors.length : Int)) = false := by simp; omega
  clear hl1
  by_cases hl2 : a.antennas.length = b.antennas.length
  case neg =>
    have HE := Lib.hid (HFT2.out (sameAntennaS_len hl2))
    have nl2 : ((a.antennas.length : Int) != (b.antennas.length : Int)) = true := by simp; omega
    clear hl2
    go_enter Tryz.func24, Tryz.ntmps24
    go_upto_region 1 with (fail)
    rw [HW0.out]
    obtain ⟨t0, t1, t2, t3, t4, t5, t6, t7⟩ := HD.out _ HB.out
    go_wp2
    go_ret
    exact ⟨by rw [HE.out]; rfl, HH.out _ HB.out⟩
  have HL2 := Lib.hid hl2
  have nl2 : ((a.antennas.length : Int) != (b.antennas.length : Int)) = false := by simp; omega
  clear hl2
  by_cases hl3 : a.radios.length = b.radios.length
  case neg =>
    have HE := Lib.hid (HFT3.out (sameRadioS_len hl3))
    have nl3 : ((a.radios.length : Int) != (b.radios.length : Int)) = true := by simp; omega
    clear hl3
    go_enter Tryz.func24, Tryz.ntmps24
    go_upto_region 1 with (fail)
    rw [HW0.out]
    obtain ⟨t0, t1, t2, t3, t4, t5, t6, t7⟩ := HD.out _ HB.out
    go_wp2
    go_ret
    exact ⟨by rw [HE.out]; rfl, HH.out _ HB.out⟩
  have HL3 := Lib.hid hl3
  have nl3 : ((a.radios.length : Int) != (b.radios.length : Int)) = false := by simp; omega
  clear hl3
  go_enter Tryz.func24, Tryz.ntmps24
  go_upto_region 1 with (fail)
  rw [HW0.out]
  obtain ⟨t0, t1, t2, t3, t4, t5, t6, t7⟩ := HD.out _ HB.out
  go_wp2
  clear t0 t1 t2 t3 t4 t5 t6 t7 nl0 nl1 nl2 nl3
  go_loopw [5] (fun i wr => ∃ (k : Nat), k ≤ a.sites.length ∧ i = .int .i64 k ∧ (∀ j (hl : j < a.sites.length), j < k → sameSite a.sites[j] (b.sites[j]'(by have := HL0.out; omega)) = true) ∧ Below W0.heap.size W0 wr) (fun i wr => a.sites.length - (intOf i).toNat)
  case atStart => exact ⟨0, Nat.zero_le _, rfl, fun j hl h => absurd h (by omega), HB.out⟩
  case round =>
    obtain ⟨k, hk, rfl, hall, hb⟩ := hrel
    have HA5 := Lib.hid hall
    have HB5 := Lib.hid hb
    have zb5 := hb.size
    clear hall hb
    have hbw := HH.out _ HB5.out
    obtain ⟨qa, qb⟩ := HP0.out _ HB5.out
    obtain ⟨aa, ca, ea, _, _, hca⟩ := DSite.rd PP0.out
    obtain ⟨ab, cb, eb, _, _, hcb⟩ := DSite.rd RR0.out
    injection ea with ea1 _ ea3
    injection eb with eb1 _ eb3
    subst ea1 ea3 eb1 eb3
    by_cases hlt : k < a.sites.length
    · have hlm : k < b.sites.length := by rw [← HL0.out]; exact hlt
      obtain ⟨bx, ox, ea, hbl, hat⟩ := hca (by omega)
      obtain ⟨by_, oy, eb, hbl', hat'⟩ := hcb (by omega)
      subst ea eb
      obtain ⟨s0, s1, s2, s3⟩ := hat k hlt
      obtain ⟨t0, t1, t2, t3⟩ := hat' k hlm
      rw [← bat hbw bx _ (by omega)] at s0 s1 s2 s3
      rw [← bat hbw by_ _ (by omega)] at t0 t1 t2 t3
      have j0 : (0 : Int) ≤ (k : Int) := by omega
      have j1 : (k : Int) < (a.sites.length : Int) := by omega
      have j2 : (k : Int) < (b.sites.length : Int) := by omega
      have hbs := hbw.size
      have y1 : bx < wr.heap.size := by omega
      have y2 : by_ < wr.heap.size := by omega
      have y3 : w.heap.size < wr.heap.size := by omega
      have y4 : w.heap.size + 1 < wr.heap.size := by omega
      clear hca hcb hat hat'
      have HF1 : Hid (sameSite a.sites[k] b.sites[k] = false → sameNetwork a b = false) := fun h => HFT0.out (sameSiteS_at hlt hlm h)
      have HT1 : Hid (sameSite a.sites[k] b.sites[k] = true → ∀ j (hl : j < a.sites.length), j < k + 1 → sameSite a.sites[j] (b.sites[j]'(by have := HL0.out; omega)) = true) := fun h j hl hj => by
        by_cases e : j = k
        · subst e; exact h
        · exact HA5.out j hl (by omega)
      generalize a.sites[k] = X at *
      generalize b.sites[k] = Y at *
      go_upto_region 6 with (fail)
      by_cases e0 : X.name.toList = Y.name.toList
      case neg =>
        have e0b : (X.name.toList == Y.name.toList) = false := beq_eq_false_iff_ne.2 e0
        have HE := Lib.hid (HF1.out (by unfold sameSite; simp only [eqS, e0b, Bool.false_and, Bool.and_false]))
        clear e0b
        have o1 := overC (w0 := wr) y1
        have o2 := overC (w0 := wr) y2
        have o3 := overC (w0 := wr) y3
        have o4 := overC (w0 := wr) y4
        refine wp_region_over wr.heap.size wr (Below.refl _ _) (by kernel_rfl) (by kernel_rfl) ?_
        repeat (go_big_quiet_step (fail))
        refine wpQuiet_nil ?_
        rintro _ ⟨ZZ, rfl⟩
        have hX := over_below wr.heap.size wr ZZ
        clear o1 o2 o3 o4
        generalize over wr.heap.size wr ZZ = w3 at *
        have BE5 := Lib.hid (HB5.out.trans (hX.mono (by omega)))
        clear hX
        go_wp2
        go_ret
        exact ⟨by rw [HE.out]; rfl, HH.out _ BE5.out⟩
      by_cases e1 : X.holder.toList = Y.holder.toList
      case neg =>
        have e1b : (X.holder.toList == Y.holder.toList) = false := beq_eq_false_iff_ne.2 e1
        have HE := Lib.hid (HF1.out (by unfold sameSite; simp only [eqS, e1b, Bool.false_and, Bool.and_false]))
        clear e1b
        have o1 := overC (w0 := wr) y1
        have o2 := overC (w0 := wr) y2
        have o3 := overC (w0 := wr) y3
        have o4 := overC (w0 := wr) y4
        refine wp_region_over wr.heap.size wr (Below.refl _ _) (by kernel_rfl) (by kernel_rfl) ?_
        repeat (go_big_quiet_step (fail))
        refine wpQuiet_nil ?_
        rintro _ ⟨ZZ, rfl⟩
        have hX := over_below wr.heap.size wr ZZ
        clear o1 o2 o3 o4
        generalize over wr.heap.size wr ZZ = w3 at *
        have BE5 := Lib.hid (HB5.out.trans (hX.mono (by omega)))
        clear hX
        go_wp2
        go_ret
        exact ⟨by rw [HE.out]; rfl, HH.out _ BE5.out⟩
      by_cases e2 : X.place.x = Y.place.x
      case neg =>
        have e2b : (X.place.x == Y.place.x) = false := beq_eq_false_iff_ne.2 e2
        have HE := Lib.hid (HF1.out (by unfold sameSite; simp only [eqS, e2b, Bool.false_and, Bool.and_false]))
        clear e2b
        have o1 := overC (w0 := wr) y1
        have o2 := overC (w0 := wr) y2
        have o3 := overC (w0 := wr) y3
        have o4 := overC (w0 := wr) y4
        refine wp_region_over wr.heap.size wr (Below.refl _ _) (by kernel_rfl) (by kernel_rfl) ?_
        repeat (go_big_quiet_step (fail))
        refine wpQuiet_nil ?_
        rintro _ ⟨ZZ, rfl⟩
        have hX := over_below wr.heap.size wr ZZ
        clear o1 o2 o3 o4
        generalize over wr.heap.size wr ZZ = w3 at *
        have BE5 := Lib.hid (HB5.out.trans (hX.mono (by omega)))
        clear hX
        go_wp2
        go_ret
        exact ⟨by rw [HE.out]; rfl, HH.out _ BE5.out⟩
      by_cases e3 : X.place.y = Y.place.y
      case neg =>
        have e3b : (X.place.y == Y.place.y) = false := beq_eq_false_iff_ne.2 e3
        have HE := Lib.hid (HF1.out (by unfold sameSite; simp only [eqS, e3b, Bool.false_and, Bool.and_false]))
        clear e3b
        have o1 := overC (w0 := wr) y1
        have o2 := overC (w0 := wr) y2
        have o3 := overC (w0 := wr) y3
        have o4 := overC (w0 := wr) y4
        refine wp_region_over wr.heap.size wr (Below.refl _ _) (by kernel_rfl) (by kernel_rfl) ?_
        repeat (go_big_quiet_step (fail))
        refine wpQuiet_nil ?_
        rintro _ ⟨ZZ, rfl⟩
        have hX := over_below wr.heap.size wr ZZ
        clear o1 o2 o3 o4
        generalize over wr.heap.size wr ZZ = w3 at *
        have BE5 := Lib.hid (HB5.out.trans (hX.mono (by omega)))
        clear hX
        go_wp2
        go_ret
        exact ⟨by rw [HE.out]; rfl, HH.out _ BE5.out⟩
      have HE := Lib.hid (HT1.out (by unfold sameSite; simp [eqS, e0, e1, e2, e3]))
      have o1 := overC (w0 := wr) y1
      have o2 := overC (w0 := wr) y2
      have o3 := overC (w0 := wr) y3
      have o4 := overC (w0 := wr) y4
      refine wp_region_over wr.heap.size wr (Below.refl _ _) (by kernel_rfl) (by kernel_rfl) ?_
      repeat (go_big_quiet_step (fail))
      refine wpQuiet_nil ?_
      rintro _ ⟨ZZ, rfl⟩
      have hX := over_below wr.heap.size wr ZZ
      clear o1 o2 o3 o4
      generalize over wr.heap.size wr ZZ = w3 at *
      have BE5 := Lib.hid (HB5.out.trans (hX.mono (by omega)))
      clear hX
      clear e0 e1 e2 e3
      go_wp2
      go_roundw
      case rel => exact ⟨k + 1, by omega, by go_num, HE.out, BE5.out⟩
      case measure => simp [intOf]; omega
    · obtain rfl : k = a.sites.length := by omega
      have HS5 := Lib.hid (sameSiteS_all HL0.out (fun j hl => HA5.out j hl hl))
      have HB := Lib.hid HB5.out
      clear hca hcb hbw
      go_wp2
      clear qa qb
      go_loopw [6] (fun i wr => ∃ (k : Nat), k ≤ a.sectors.length ∧ i = .int .i64 k ∧ (∀ j (hl : j < a.sectors.length), j < k → sameSector a.sectors[j] (b.sectors[j]'(by have := HL1.out; omega)) = true) ∧ Below W0.heap.size W0 wr) (fun i wr => a.sectors.length - (intOf i).toNat)
      case atStart => exact ⟨0, Nat.zero_le _, rfl, fun j hl h => absurd h (by omega), HB.out⟩
      case round =>
        obtain ⟨k, hk, rfl, hall, hb⟩ := hrel
        have HA6 := Lib.hid hall
        have HB6 := Lib.hid hb
        have zb6 := hb.size
        clear hall hb
        have hbw := HH.out _ HB6.out
        obtain ⟨qa, qb⟩ := HP1.out _ HB6.out
        obtain ⟨aa, ca, ea, _, _, hca⟩ := DSector.rd PP1.out
        obtain ⟨ab, cb, eb, _, _, hcb⟩ := DSector.rd RR1.out
        injection ea with ea1 _ ea3
        injection eb with eb1 _ eb3
        subst ea1 ea3 eb1 eb3
        by_cases hlt : k < a.sectors.length
        · have hlm : k < b.sectors.length := by rw [← HL1.out]; exact hlt
          obtain ⟨bx, ox, ea, hbl, hat⟩ := hca (by omega)
          obtain ⟨by_, oy, eb, hbl', hat'⟩ := hcb (by omega)
          subst ea eb
          obtain ⟨s0, s1, s2, s3, s4, s5, s6, s7, s8⟩ := hat k hlt
          obtain ⟨t0, t1, t2, t3, t4, t5, t6, t7, t8⟩ := hat' k hlm
          rw [← bat hbw bx _ (by omega)] at s0 s1 s2 s3 s4 s5 s6 s7 s8
          rw [← bat hbw by_ _ (by omega)] at t0 t1 t2 t3 t4 t5 t6 t7 t8
          have j0 : (0 : Int) ≤ (k : Int) := by omega
          have j1 : (k : Int) < (a.sectors.length : Int) := by omega
          have j2 : (k : Int) < (b.sectors.length : Int) := by omega
          have hbs := hbw.size
          have y1 : bx < wr.heap.size := by omega
          have y2 : by_ < wr.heap.size := by omega
          have y3 : w.heap.size < wr.heap.size := by omega
          have y4 : w.heap.size + 1 < wr.heap.size := by omega
          clear hca hcb hat hat'
          have HF1 : Hid (sameSector a.sectors[k] b.sectors[k] = false → sameNetwork a b = false) := fun h => HFT1.out (sameSectorS_at hlt hlm h)
          have HT1 : Hid (sameSector a.sectors[k] b.sectors[k] = true → ∀ j (hl : j < a.sectors.length), j < k + 1 → sameSector a.sectors[j] (b.sectors[j]'(by have := HL1.out; omega)) = true) := fun h j hl hj => by
            by_cases e : j = k
            · subst e; exact h
            · exact HA6.out j hl (by omega)
          generalize a.sectors[k] = X at *
          generalize b.sectors[k] = Y at *
          go_upto_region 11 with (fail)
          by_cases e0 : X.name.toList = Y.name.toList
          case neg =>
            have e0b : (X.name.toList == Y.name.toList) = false := beq_eq_false_iff_ne.2 e0
            have HE := Lib.hid (HF1.out (by unfold sameSector; simp only [eqS, e0b, Bool.false_and, Bool.and_false]))
            clear e0b
            have o1 := overC (w0 := wr) y1
            have o2 := overC (w0 := wr) y2
            have o3 := overC (w0 := wr) y3
            have o4 := overC (w0 := wr) y4
            refine wp_region_over wr.heap.size wr (Below.refl _ _) (by kernel_rfl) (by kernel_rfl) ?_
            repeat (go_big_quiet_step (fail))
            refine wpQuiet_nil ?_
            rintro _ ⟨ZZ, rfl⟩
            have hX := over_below wr.heap.size wr ZZ
            clear o1 o2 o3 o4
            generalize over wr.heap.size wr ZZ = w3 at *
            have BE6 := Lib.hid (HB6.out.trans (hX.mono (by omega)))
            clear hX
            go_wp2
            go_ret
            exact ⟨by rw [HE.out]; rfl, HH.out _ BE6.out⟩
          by_cases e1 : X.site.toList = Y.site.toList
          case neg =>
            have e1b : (X.site.toList == Y.site.toList) = false := beq_eq_false_iff_ne.2 e1
            have HE := Lib.hid (HF1.out (by unfold sameSector; simp only [eqS, e1b, Bool.false_and, Bool.and_false]))
            clear e1b
            have o1 := overC (w0 := wr) y1
            have o2 := overC (w0 := wr) y2
            have o3 := overC (w0 := wr) y3
            have o4 := overC (w0 := wr) y4
            refine wp_region_over wr.heap.size wr (Below.refl _ _) (by kernel_rfl) (by kernel_rfl) ?_
            repeat (go_big_quiet_step (fail))
            refine wpQuiet_nil ?_
            rintro _ ⟨ZZ, rfl⟩
            have hX := over_below wr.heap.size wr ZZ
            clear o1 o2 o3 o4
            generalize over wr.heap.size wr ZZ = w3 at *
            have BE6 := Lib.hid (HB6.out.trans (hX.mono (by omega)))
            clear hX
            go_wp2
            go_ret
            exact ⟨by rw [HE.out]; rfl, HH.out _ BE6.out⟩
          by_cases e2 : X.antenna.toList = Y.antenna.toList
          case neg =>
            have e2b : (X.antenna.toList == Y.antenna.toList) = false := beq_eq_false_iff_ne.2 e2
            have HE := Lib.hid (HF1.out (by unfold sameSector; simp only [eqS, e2b, Bool.false_and, Bool.and_false]))
            clear e2b
            have o1 := overC (w0 := wr) y1
            have o2 := overC (w0 := wr) y2
            have o3 := overC (w0 := wr) y3
            have o4 := overC (w0 := wr) y4
            refine wp_region_over wr.heap.size wr (Below.refl _ _) (by kernel_rfl) (by kernel_rfl) ?_
            repeat (go_big_quiet_step (fail))
            refine wpQuiet_nil ?_
            rintro _ ⟨ZZ, rfl⟩
            have hX := over_below wr.heap.size wr ZZ
            clear o1 o2 o3 o4
            generalize over wr.heap.size wr ZZ = w3 at *
            have BE6 := Lib.hid (HB6.out.trans (hX.mono (by omega)))
            clear hX
            go_wp2
            go_ret
            exact ⟨by rw [HE.out]; rfl, HH.out _ BE6.out⟩
          by_cases e3 : X.radio.toList = Y.radio.toList
          case neg =>
            have e3b : (X.radio.toList == Y.radio.toList) = false := beq_eq_false_iff_ne.2 e3
            have HE := Lib.hid (HF1.out (by unfold sameSector; simp only [eqS, e3b, Bool.false_and, Bool.and_false]))
            clear e3b
            have o1 := overC (w0 := wr) y1
            have o2 := overC (w0 := wr) y2
            have o3 := overC (w0 := wr) y3
            have o4 := overC (w0 := wr) y4
            refine wp_region_over wr.heap.size wr (Below.refl _ _) (by kernel_rfl) (by kernel_rfl) ?_
            repeat (go_big_quiet_step (fail))
            refine wpQuiet_nil ?_
            rintro _ ⟨ZZ, rfl⟩
            have hX := over_below wr.heap.size wr ZZ
            clear o1 o2 o3 o4
            generalize over wr.heap.size wr ZZ = w3 at *
            have BE6 := Lib.hid (HB6.out.trans (hX.mono (by omega)))
            clear hX
            go_wp2
            go_ret
            exact ⟨by rw [HE.out]; rfl, HH.out _ BE6.out⟩
          by_cases e4 : X.band.toList = Y.band.toList
          case neg =>
            have e4b : (X.band.toList == Y.band.toList) = false := beq_eq_false_iff_ne.2 e4
            have HE := Lib.hid (HF1.out (by unfold sameSector; simp only [eqS, e4b, Bool.false_and, Bool.and_false]))
            clear e4b
            have o1 := overC (w0 := wr) y1
            have o2 := overC (w0 := wr) y2
            have o3 := overC (w0 := wr) y3
            have o4 := overC (w0 := wr) y4
            refine wp_region_over wr.heap.size wr (Below.refl _ _) (by kernel_rfl) (by kernel_rfl) ?_
            repeat (go_big_quiet_step (fail))
            refine wpQuiet_nil ?_
            rintro _ ⟨ZZ, rfl⟩
            have hX := over_below wr.heap.size wr ZZ
            clear o1 o2 o3 o4
            generalize over wr.heap.size wr ZZ = w3 at *
            have BE6 := Lib.hid (HB6.out.trans (hX.mono (by omega)))
            clear hX
            go_wp2
            go_ret
            exact ⟨by rw [HE.out]; rfl, HH.out _ BE6.out⟩
          by_cases e5 : X.azimuth = Y.azimuth
          case neg =>
            have e5b : (X.azimuth == Y.azimuth) = false := beq_eq_false_iff_ne.2 e5
            have HE := Lib.hid (HF1.out (by unfold sameSector; simp only [eqS, e5b, Bool.false_and, Bool.and_false]))
            clear e5b
            have o1 := overC (w0 := wr) y1
            have o2 := overC (w0 := wr) y2
            have o3 := overC (w0 := wr) y3
            have o4 := overC (w0 := wr) y4
            refine wp_region_over wr.heap.size wr (Below.refl _ _) (by kernel_rfl) (by kernel_rfl) ?_
            repeat (go_big_quiet_step (fail))
            refine wpQuiet_nil ?_
            rintro _ ⟨ZZ, rfl⟩
            have hX := over_below wr.heap.size wr ZZ
            clear o1 o2 o3 o4
            generalize over wr.heap.size wr ZZ = w3 at *
            have BE6 := Lib.hid (HB6.out.trans (hX.mono (by omega)))
            clear hX
            go_wp2
            go_ret
            exact ⟨by rw [HE.out]; rfl, HH.out _ BE6.out⟩
          by_cases e6 : X.tilt = Y.tilt
          case neg =>
            have e6b : (X.tilt == Y.tilt) = false := beq_eq_false_iff_ne.2 e6
            have HE := Lib.hid (HF1.out (by unfold sameSector; simp only [eqS, e6b, Bool.false_and, Bool.and_false]))
            clear e6b
            have o1 := overC (w0 := wr) y1
            have o2 := overC (w0 := wr) y2
            have o3 := overC (w0 := wr) y3
            have o4 := overC (w0 := wr) y4
            refine wp_region_over wr.heap.size wr (Below.refl _ _) (by kernel_rfl) (by kernel_rfl) ?_
            repeat (go_big_quiet_step (fail))
            refine wpQuiet_nil ?_
            rintro _ ⟨ZZ, rfl⟩
            have hX := over_below wr.heap.size wr ZZ
            clear o1 o2 o3 o4
            generalize over wr.heap.size wr ZZ = w3 at *
            have BE6 := Lib.hid (HB6.out.trans (hX.mono (by omega)))
            clear hX
            go_wp2
            go_ret
            exact ⟨by rw [HE.out]; rfl, HH.out _ BE6.out⟩
          by_cases e7 : X.above = Y.above
          case neg =>
            have e7b : (X.above == Y.above) = false := beq_eq_false_iff_ne.2 e7
            have HE := Lib.hid (HF1.out (by unfold sameSector; simp only [eqS, e7b, Bool.false_and, Bool.and_false]))
            clear e7b
            have o1 := overC (w0 := wr) y1
            have o2 := overC (w0 := wr) y2
            have o3 := overC (w0 := wr) y3
            have o4 := overC (w0 := wr) y4
            refine wp_region_over wr.heap.size wr (Below.refl _ _) (by kernel_rfl) (by kernel_rfl) ?_
            repeat (go_big_quiet_step (fail))
            refine wpQuiet_nil ?_
            rintro _ ⟨ZZ, rfl⟩
            have hX := over_below wr.heap.size wr ZZ
            clear o1 o2 o3 o4
            generalize over wr.heap.size wr ZZ = w3 at *
            have BE6 := Lib.hid (HB6.out.trans (hX.mono (by omega)))
            clear hX
            go_wp2
            go_ret
            exact ⟨by rw [HE.out]; rfl, HH.out _ BE6.out⟩
          by_cases e8 : X.channel = Y.channel
          case neg =>
            have e8b : (X.channel == Y.channel) = false := beq_eq_false_iff_ne.2 e8
            have HE := Lib.hid (HF1.out (by unfold sameSector; simp only [eqS, e8b, Bool.false_and, Bool.and_false]))
            clear e8b
            have o1 := overC (w0 := wr) y1
            have o2 := overC (w0 := wr) y2
            have o3 := overC (w0 := wr) y3
            have o4 := overC (w0 := wr) y4
            refine wp_region_over wr.heap.size wr (Below.refl _ _) (by kernel_rfl) (by kernel_rfl) ?_
            repeat (go_big_quiet_step (fail))
            refine wpQuiet_nil ?_
            rintro _ ⟨ZZ, rfl⟩
            have hX := over_below wr.heap.size wr ZZ
            clear o1 o2 o3 o4
            generalize over wr.heap.size wr ZZ = w3 at *
            have BE6 := Lib.hid (HB6.out.trans (hX.mono (by omega)))
            clear hX
            go_wp2
            go_ret
            exact ⟨by rw [HE.out]; rfl, HH.out _ BE6.out⟩
          have HE := Lib.hid (HT1.out (by unfold sameSector; simp [eqS, e0, e1, e2, e3, e4, e5, e6, e7, e8]))
          have o1 := overC (w0 := wr) y1
          have o2 := overC (w0 := wr) y2
          have o3 := overC (w0 := wr) y3
          have o4 := overC (w0 := wr) y4
          refine wp_region_over wr.heap.size wr (Below.refl _ _) (by kernel_rfl) (by kernel_rfl) ?_
          repeat (go_big_quiet_step (fail))
          refine wpQuiet_nil ?_
          rintro _ ⟨ZZ, rfl⟩
          have hX := over_below wr.heap.size wr ZZ
          clear o1 o2 o3 o4
          generalize over wr.heap.size wr ZZ = w3 at *
          have BE6 := Lib.hid (HB6.out.trans (hX.mono (by omega)))
          clear hX
          clear e0 e1 e2 e3 e4 e5 e6 e7 e8
          go_wp2
          go_roundw
          case rel => exact ⟨k + 1, by omega, by go_num, HE.out, BE6.out⟩
          case measure => simp [intOf]; omega
        · obtain rfl : k = a.sectors.length := by omega
          have HS6 := Lib.hid (sameSectorS_all HL1.out (fun j hl => HA6.out j hl hl))
          have HB := Lib.hid HB6.out
          clear hca hcb hbw
          go_wp2
          clear qa qb
          go_loopw [7] (fun i wr => ∃ (k : Nat), k ≤ a.antennas.length ∧ i = .int .i64 k ∧ (∀ j (hl : j < a.antennas.length), j < k → sameAntenna a.antennas[j] (b.antennas[j]'(by have := HL2.out; omega)) = true) ∧ Below W0.heap.size W0 wr) (fun i wr => a.antennas.length - (intOf i).toNat)
          case atStart => exact ⟨0, Nat.zero_le _, rfl, fun j hl h => absurd h (by omega), HB.out⟩
          case round =>
            obtain ⟨k, hk, rfl, hall, hb⟩ := hrel
            have HA7 := Lib.hid hall
            have HB7 := Lib.hid hb
            have zb7 := hb.size
            clear hall hb
            have hbw := HH.out _ HB7.out
            obtain ⟨qa, qb⟩ := HP2.out _ HB7.out
            obtain ⟨aa, ca, ea, _, _, hca⟩ := DAntenna.rd PP2.out
            obtain ⟨ab, cb, eb, _, _, hcb⟩ := DAntenna.rd RR2.out
            injection ea with ea1 _ ea3
            injection eb with eb1 _ eb3
            subst ea1 ea3 eb1 eb3
            by_cases hlt : k < a.antennas.length
            · have hlm : k < b.antennas.length := by rw [← HL2.out]; exact hlt
              obtain ⟨bx, ox, ea, hbl, hat⟩ := hca (by omega)
              obtain ⟨by_, oy, eb, hbl', hat'⟩ := hcb (by omega)
              subst ea eb
              obtain ⟨s0, s1, ⟨su2, s2, sr2⟩, ⟨su3, s3, sr3⟩⟩ := hat k hlt
              obtain ⟨t0, t1, ⟨tu2, t2, tr2⟩, ⟨tu3, t3, tr3⟩⟩ := hat' k hlm
              rw [← bat hbw bx _ (by omega)] at s0 s1 s2 s3
              rw [← bat hbw by_ _ (by omega)] at t0 t1 t2 t3
              replace sr2 := sr2.below (hbw.mono hB)
              replace tr2 := tr2.below (hbw.mono hB)
              replace sr3 := sr3.below (hbw.mono hB)
              replace tr3 := tr3.below (hbw.mono hB)
              have zB : B ≤ wr.heap.size := Nat.le_trans hB hbw.size
              have zs1 := sizL_get_le DAntenna.tr a.antennas k hlt
              have zs2 := sizL_get_le DAntenna.tr b.antennas k hlm
              have zt1 := DAntenna.siz_tr a.antennas[k]
              have zt2 := DAntenna.siz_tr b.antennas[k]
              rw [siz_ints, siz_ints] at zt1 zt2
              have zm2 : a.antennas[k].horizontal.length ≤ 1099511627776 := by omega
              have zn2 : b.antennas[k].horizontal.length ≤ 1099511627776 := by omega
              have zm3 : a.antennas[k].vertical.length ≤ 1099511627776 := by omega
              have zn3 : b.antennas[k].vertical.length ≤ 1099511627776 := by omega
              clear zs1 zs2 zt1 zt2
              have j0 : (0 : Int) ≤ (k : Int) := by omega
              have j1 : (k : Int) < (a.antennas.length : Int) := by omega
              have j2 : (k : Int) < (b.antennas.length : Int) := by omega
              have hbs := hbw.size
              have y1 : bx < wr.heap.size := by omega
              have y2 : by_ < wr.heap.size := by omega
              have y3 : w.heap.size < wr.heap.size := by omega
              have y4 : w.heap.size + 1 < wr.heap.size := by omega
              clear hca hcb hat hat'
              have HF1 : Hid (sameAntenna a.antennas[k] b.antennas[k] = false → sameNetwork a b = false) := fun h => HFT2.out (sameAntennaS_at hlt hlm h)
              have HT1 : Hid (sameAntenna a.antennas[k] b.antennas[k] = true → ∀ j (hl : j < a.antennas.length), j < k + 1 → sameAntenna a.antennas[j] (b.antennas[j]'(by have := HL2.out; omega)) = true) := fun h j hl hj => by
                by_cases e : j = k
                · subst e; exact h
                · exact HA7.out j hl (by omega)
              generalize a.antennas[k] = X at *
              generalize b.antennas[k] = Y at *
              obtain ⟨xa2, xc2, xe2, _, _, _⟩ := Rd.ints sr2
              subst xe2
              obtain ⟨ya2, yc2, ye2, _, _, _⟩ := Rd.ints tr2
              subst ye2
              obtain ⟨xa3, xc3, xe3, _, _, _⟩ := Rd.ints sr3
              subst xe3
              obtain ⟨ya3, yc3, ye3, _, _, _⟩ := Rd.ints tr3
              subst ye3
              have CX : Hid (∀ W : World, Below wr.heap.size wr W → Calls Tryz.prog 73 #[.agg #[.string X.name, .int .i64 X.gain, .slice xa2 X.horizontal.length xc2, .slice xa3 X.vertical.length xc3], .agg #[.string Y.name, .int .i64 Y.gain, .slice ya2 Y.horizontal.length yc2, .slice ya3 Y.vertical.length yc3]] W fun e w' => e = .returned (.bool (sameAntenna X Y)) ∧ Below W.heap.size W w') := fun W hW => sSameAntenna_any X Y _ _ _ _ B W (sr2.below (hW.mono zB)) (tr2.below (hW.mono zB)) (sr3.below (hW.mono zB)) (tr3.below (hW.mono zB)) (Nat.le_trans zB hW.size) zm2 zn2 zm3 zn3
              clear sr2 tr2 sr3 tr3
              go_upto_region 16 with (fail)
              by_cases c1 : sameAntenna X Y = true
              case neg =>
                replace c1 : sameAntenna X Y = false := Bool.eq_false_iff.2 c1
                rw [c1] at CX
                have HE := Lib.hid (HF1.out c1)
                have o1 := overC (w0 := wr) y1
                have o2 := overC (w0 := wr) y2
                have o3 := overC (w0 := wr) y3
                have o4 := overC (w0 := wr) y4
                refine wp_region_over wr.heap.size wr (Below.refl _ _) (by kernel_rfl) (by kernel_rfl) ?_
                repeat (go_big_quiet_step ((go_at_call 73; with_reducible exact over_left (Nat.le_refl _) (CX.out _ (over_below _ _ _)))))
                refine wpQuiet_nil ?_
                rintro _ ⟨ZZ, rfl⟩
                have hX := over_below wr.heap.size wr ZZ
                clear o1 o2 o3 o4
                generalize over wr.heap.size wr ZZ = w3 at *
                have BE7 := Lib.hid (HB7.out.trans (hX.mono (by omega)))
                clear hX
                go_wp2
                go_ret
                exact ⟨by rw [HE.out]; rfl, HH.out _ BE7.out⟩
              rw [c1] at CX
              have HE := Lib.hid (HT1.out c1)
              have o1 := overC (w0 := wr) y1
              have o2 := overC (w0 := wr) y2
              have o3 := overC (w0 := wr) y3
              have o4 := overC (w0 := wr) y4
              refine wp_region_over wr.heap.size wr (Below.refl _ _) (by kernel_rfl) (by kernel_rfl) ?_
              repeat (go_big_quiet_step ((go_at_call 73; with_reducible exact over_left (Nat.le_refl _) (CX.out _ (over_below _ _ _)))))
              refine wpQuiet_nil ?_
              rintro _ ⟨ZZ, rfl⟩
              have hX := over_below wr.heap.size wr ZZ
              clear o1 o2 o3 o4
              generalize over wr.heap.size wr ZZ = w3 at *
              have BE7 := Lib.hid (HB7.out.trans (hX.mono (by omega)))
              clear hX
              go_wp2
              go_roundw
              case rel => exact ⟨k + 1, by omega, by go_num, HE.out, BE7.out⟩
              case measure => simp [intOf]; omega
            · obtain rfl : k = a.antennas.length := by omega
              have HS7 := Lib.hid (sameAntennaS_all HL2.out (fun j hl => HA7.out j hl hl))
              have HB := Lib.hid HB7.out
              clear hca hcb hbw
              go_wp2
              clear qa qb
              go_loopw [8] (fun i wr => ∃ (k : Nat), k ≤ a.radios.length ∧ i = .int .i64 k ∧ (∀ j (hl : j < a.radios.length), j < k → sameRadio a.radios[j] (b.radios[j]'(by have := HL3.out; omega)) = true) ∧ Below W0.heap.size W0 wr) (fun i wr => a.radios.length - (intOf i).toNat)
              case atStart => exact ⟨0, Nat.zero_le _, rfl, fun j hl h => absurd h (by omega), HB.out⟩
              case round =>
                obtain ⟨k, hk, rfl, hall, hb⟩ := hrel
                have HA8 := Lib.hid hall
                have HB8 := Lib.hid hb
                have zb8 := hb.size
                clear hall hb
                have hbw := HH.out _ HB8.out
                obtain ⟨qa, qb⟩ := HP3.out _ HB8.out
                obtain ⟨aa, ca, ea, _, _, hca⟩ := DRadio.rd PP3.out
                obtain ⟨ab, cb, eb, _, _, hcb⟩ := DRadio.rd RR3.out
                injection ea with ea1 _ ea3
                injection eb with eb1 _ eb3
                subst ea1 ea3 eb1 eb3
                by_cases hlt : k < a.radios.length
                · have hlm : k < b.radios.length := by rw [← HL3.out]; exact hlt
                  obtain ⟨bx, ox, ea, hbl, hat⟩ := hca (by omega)
                  obtain ⟨by_, oy, eb, hbl', hat'⟩ := hcb (by omega)
                  subst ea eb
                  obtain ⟨s0, s1, s2, s3, s4, ⟨su5, s5, sr5⟩⟩ := hat k hlt
                  obtain ⟨t0, t1, t2, t3, t4, ⟨tu5, t5, tr5⟩⟩ := hat' k hlm
                  rw [← bat hbw bx _ (by omega)] at s0 s1 s2 s3 s4 s5
                  rw [← bat hbw by_ _ (by omega)] at t0 t1 t2 t3 t4 t5
                  replace sr5 := sr5.below (hbw.mono hB)
                  replace tr5 := tr5.below (hbw.mono hB)
                  have zB : B ≤ wr.heap.size := Nat.le_trans hB hbw.size
                  have zs1 := sizL_get_le DRadio.tr a.radios k hlt
                  have zs2 := sizL_get_le DRadio.tr b.radios k hlm
                  have zt1 := DRadio.siz_tr a.radios[k]
                  have zt2 := DRadio.siz_tr b.radios[k]
                  rw [DMode.siz_s] at zt1 zt2
                  have zm5 : a.radios[k].modes.length ≤ 1099511627776 := by omega
                  have zn5 : b.radios[k].modes.length ≤ 1099511627776 := by omega
                  clear zs1 zs2 zt1 zt2
                  have j0 : (0 : Int) ≤ (k : Int) := by omega
                  have j1 : (k : Int) < (a.radios.length : Int) := by omega
                  have j2 : (k : Int) < (b.radios.length : Int) := by omega
                  have hbs := hbw.size
                  have y1 : bx < wr.heap.size := by omega
                  have y2 : by_ < wr.heap.size := by omega
                  have y3 : w.heap.size < wr.heap.size := by omega
                  have y4 : w.heap.size + 1 < wr.heap.size := by omega
                  clear hca hcb hat hat'
                  have HF1 : Hid (sameRadio a.radios[k] b.radios[k] = false → sameNetwork a b = false) := fun h => HFT3.out (sameRadioS_at hlt hlm h)
                  have HT1 : Hid (sameRadio a.radios[k] b.radios[k] = true → ∀ j (hl : j < a.radios.length), j < k + 1 → sameRadio a.radios[j] (b.radios[j]'(by have := HL3.out; omega)) = true) := fun h j hl hj => by
                    by_cases e : j = k
                    · subst e; exact h
                    · exact HA8.out j hl (by omega)
                  generalize a.radios[k] = X at *
                  generalize b.radios[k] = Y at *
                  obtain ⟨xa5, xc5, xe5, _, _, _⟩ := DMode.rd sr5
                  subst xe5
                  obtain ⟨ya5, yc5, ye5, _, _, _⟩ := DMode.rd tr5
                  subst ye5
                  have CX : Hid (∀ W : World, Below wr.heap.size wr W → Calls Tryz.prog 74 #[.agg #[.string X.name, .int .i64 X.power, .int .i64 X.feeder, .int .i64 X.noise, .int .i64 X.width, .slice xa5 X.modes.length xc5], .agg #[.string Y.name, .int .i64 Y.power, .int .i64 Y.feeder, .int .i64 Y.noise, .int .i64 Y.width, .slice ya5 Y.modes.length yc5]] W fun e w' => e = .returned (.bool (sameRadio X Y)) ∧ Below W.heap.size W w') := fun W hW => sSameRadio_any X Y _ _ B W (sr5.below (hW.mono zB)) (tr5.below (hW.mono zB)) (Nat.le_trans zB hW.size) zm5 zn5
                  clear sr5 tr5
                  go_upto_region 21 with (fail)
                  by_cases c1 : sameRadio X Y = true
                  case neg =>
                    replace c1 : sameRadio X Y = false := Bool.eq_false_iff.2 c1
                    rw [c1] at CX
                    have HE := Lib.hid (HF1.out c1)
                    have o1 := overC (w0 := wr) y1
                    have o2 := overC (w0 := wr) y2
                    have o3 := overC (w0 := wr) y3
                    have o4 := overC (w0 := wr) y4
                    refine wp_region_over wr.heap.size wr (Below.refl _ _) (by kernel_rfl) (by kernel_rfl) ?_
                    repeat (go_big_quiet_step ((go_at_call 74; with_reducible exact over_left (Nat.le_refl _) (CX.out _ (over_below _ _ _)))))
                    refine wpQuiet_nil ?_
                    rintro _ ⟨ZZ, rfl⟩
                    have hX := over_below wr.heap.size wr ZZ
                    clear o1 o2 o3 o4
                    generalize over wr.heap.size wr ZZ = w3 at *
                    have BE8 := Lib.hid (HB8.out.trans (hX.mono (by omega)))
                    clear hX
                    go_wp2
                    go_ret
                    exact ⟨by rw [HE.out]; rfl, HH.out _ BE8.out⟩
                  rw [c1] at CX
                  have HE := Lib.hid (HT1.out c1)
                  have o1 := overC (w0 := wr) y1
                  have o2 := overC (w0 := wr) y2
                  have o3 := overC (w0 := wr) y3
                  have o4 := overC (w0 := wr) y4
                  refine wp_region_over wr.heap.size wr (Below.refl _ _) (by kernel_rfl) (by kernel_rfl) ?_
                  repeat (go_big_quiet_step ((go_at_call 74; with_reducible exact over_left (Nat.le_refl _) (CX.out _ (over_below _ _ _)))))
                  refine wpQuiet_nil ?_
                  rintro _ ⟨ZZ, rfl⟩
                  have hX := over_below wr.heap.size wr ZZ
                  clear o1 o2 o3 o4
                  generalize over wr.heap.size wr ZZ = w3 at *
                  have BE8 := Lib.hid (HB8.out.trans (hX.mono (by omega)))
                  clear hX
                  go_wp2
                  go_roundw
                  case rel => exact ⟨k + 1, by omega, by go_num, HE.out, BE8.out⟩
                  case measure => simp [intOf]; omega
                · obtain rfl : k = a.radios.length := by omega
                  have HS8 := Lib.hid (sameRadioS_all HL3.out (fun j hl => HA8.out j hl hl))
                  have HB := Lib.hid HB8.out
                  clear hca hcb hbw
                  have HE : Hid (sameNetwork a b = true) := by show _ = _; unfold sameNetwork; rw [HS5.out, HS6.out, HS7.out, HS8.out]; rfl
                  go_wp2
                  go_ret
                  exact ⟨by rw [HE.out]; rfl, HH.out _ HB.out⟩
end Go.Proofs.YtjfmkmcefnidcaaGreat
