/- Contracts: AddSector of the reference. Conditions: bounded lengths. -/
import Derived.Test.YtppgcgopnchbcaaGreatNetRSector
import Derived.Deep.DeepCutAuto
import Derived.IntWalk
namespace Go.Proofs.YtppgcgopnchbcaaGreat
open Go.RowKit
set_option linter.unusedVariables false

set_option maxHeartbeats 8000000 in
set_option maxRecDepth 100000 in
theorem l14Put_any (n : DNetwork) (x : DSector) (v0 v1 v2 v3 : Value) (bp : Nat) (w : World) (r0 : Rd w.heap.size w (DSite.sT n.sites) v0) (r1 : Rd w.heap.size w (DSector.sT n.sectors) v1) (r2 : Rd w.heap.size w (DAntenna.sT n.antennas) v2) (r3 : Rd w.heap.size w (DRadio.sT n.radios) v3) (hbp : bp < w.heap.size) (p0 : w.cell? ⟨bp, 0, none⟩ = some v0) (p1 : w.cell? ⟨bp, 1, none⟩ = some v1) (p2 : w.cell? ⟨bp, 2, none⟩ = some v2) (p3 : w.cell? ⟨bp, 3, none⟩ = some v3) (hs : sizL n.tr ≤ 1048576) (hrise : ∀ i (hi : i + 1 < n.sectors.length), ltS (n.sectors[i]'(by omega)).name n.sectors[i + 1].name = true) (hno : ∀ i (hi : i < n.sectors.length), eqS n.sectors[i].name x.name = false) :
    Calls Tryz.prog 80 #[.pointer (some ⟨bp, 0, none⟩), .agg #[.string x.name, .string x.site, .string x.antenna, .string x.radio, .string x.band, .int .i64 x.azimuth, .int .i64 x.tilt, .int .i64 x.above, .int .i64 x.channel]] w (NetP { n with sectors := insAt n.sectors x (posOf DSector.name n.sectors x.name) } w) := by
  have hq := DNetwork.siz_tr n
  rw [DSite.siz_s, DSector.siz_s, DAntenna.siz_s, DRadio.siz_s] at hq
  obtain ⟨A0, C0, e0, -, -, -⟩ := DSite.rd r0
  obtain ⟨A1, C1, e1, -, -, -⟩ := DSector.rd r1
  obtain ⟨A2, C2, e2, -, -, -⟩ := DAntenna.rd r2
  obtain ⟨A3, C3, e3, -, -, -⟩ := DRadio.rd r3
  subst e0 e1 e2 e3
  have R0 := Lib.hid r0
  have R1 := Lib.hid r1
  have R2 := Lib.hid r2
  have R3 := Lib.hid r3
  have PN0 := Lib.hid p0
  have PN1 := Lib.hid p1
  have PN2 := Lib.hid p2
  have PN3 := Lib.hid p3
  have RISE := Lib.hid hrise
  have HNO := Lib.hid hno
  clear r0 r1 r2 r3 p0 p1 p2 p3 hrise hno
  have rs_ := R1.out
  rw [DSector.sT_vs] at rs_
  have RS := Lib.hid (rs_.readsV (by omega))
  obtain ⟨_, _, ee_, hlc, hcm_, -⟩ := DSector.rd R1.out
  injection ee_ with ee1_ _ ee3_
  subst ee1_ ee3_
  unfold maxLen at hcm_
  have ON := Lib.hid (DSector.vs_one n.sectors)
  clear rs_
  have ONX : Hid (∀ u ∈ x.vs, u.oneCell' = true) := fun u hu => DSector.vs_one [x] u (by simpa using hu)
  have hsl : n.sectors.length ≤ 1048576 := by omega
  have BB0_ : Below w.heap.size w ((w.alloc (.cells #[.string x.name, .string x.site, .string x.antenna, .string x.radio, .string x.band, .int .i64 x.azimuth, .int .i64 x.tilt, .int .i64 x.above, .int .i64 x.channel] 49)).alloc (.cells #[.slice none 0 0, .slice none 0 0, .slice none 0 0, .slice none 0 0] 35)) := Below.alloc (Below.alloc (Below.refl _ _) (by first | exact Nat.le_refl _ | (simp; done) | (simp; omega)) _) (by first | exact Nat.le_refl _ | (simp; done) | (simp; omega)) _
  have zz0 : w.heap.size + 2 ≤ ((w.alloc (.cells #[.string x.name, .string x.site, .string x.antenna, .string x.radio, .string x.band, .int .i64 x.azimuth, .int .i64 x.tilt, .int .i64 x.above, .int .i64 x.channel] 49)).alloc (.cells #[.slice none 0 0, .slice none 0 0, .slice none 0 0, .slice none 0 0] 35)).heap.size := by simp
  have k_X : ((w.alloc (.cells #[.string x.name, .string x.site, .string x.antenna, .string x.radio, .string x.band, .int .i64 x.azimuth, .int .i64 x.tilt, .int .i64 x.above, .int .i64 x.channel] 49)).alloc (.cells #[.slice none 0 0, .slice none 0 0, .slice none 0 0, .slice none 0 0] 35)).heap[w.heap.size]? = some (.cells #[.string x.name, .string x.site, .string x.antenna, .string x.radio, .string x.band, .int .i64 x.azimuth, .int .i64 x.tilt, .int .i64 x.above, .int .i64 x.channel] 49 (0, 0)) := by
    have h := blkN w #[.string x.name, .string x.site, .string x.antenna, .string x.radio, .string x.band, .int .i64 x.azimuth, .int .i64 x.tilt, .int .i64 x.above, .int .i64 x.channel] 49
    replace h := blkA h (by first | (simp; done) | (simp; omega)) (.cells #[.slice none 0 0, .slice none 0 0, .slice none 0 0, .slice none 0 0] 35)
    exact h
  have KX_0 := Lib.hid k_X
  have k_R : ((w.alloc (.cells #[.string x.name, .string x.site, .string x.antenna, .string x.radio, .string x.band, .int .i64 x.azimuth, .int .i64 x.tilt, .int .i64 x.above, .int .i64 x.channel] 49)).alloc (.cells #[.slice none 0 0, .slice none 0 0, .slice none 0 0, .slice none 0 0] 35)).heap[w.heap.size + 1]? = some (.cells #[.slice none 0 0, .slice none 0 0, .slice none 0 0, .slice none 0 0] 35 (0, 0)) := by
    have h := blkN (w.alloc (.cells #[.string x.name, .string x.site, .string x.antenna, .string x.radio, .string x.band, .int .i64 x.azimuth, .int .i64 x.tilt, .int .i64 x.above, .int .i64 x.channel] 49)) #[.slice none 0 0, .slice none 0 0, .slice none 0 0, .slice none 0 0] 35
    rw [show (w.alloc (.cells #[.string x.name, .string x.site, .string x.antenna, .string x.radio, .string x.band, .int .i64 x.azimuth, .int .i64 x.tilt, .int .i64 x.above, .int .i64 x.channel] 49)).heap.size = w.heap.size + 1 by simp] at h
    exact h
  have KR_0 := Lib.hid k_R
  clear k_X k_R
  have BB_0 := Lib.hid BB0_
  clear BB0_
  go_enter Tryz.func80, Tryz.ntmps80
  go_upto_region 1 with (fail)
  generalize ((w.alloc (.cells #[.string x.name, .string x.site, .string x.antenna, .string x.radio, .string x.band, .int .i64 x.azimuth, .int .i64 x.tilt, .int .i64 x.above, .int .i64 x.channel] 49)).alloc (.cells #[.slice none 0 0, .slice none 0 0, .slice none 0 0, .slice none 0 0] 35)) = W0 at *
  have fX0 := blkC (v := .string x.name) KX_0.out 0 rfl
  have fX1 := blkC (v := .string x.site) KX_0.out 1 rfl
  have fX2 := blkC (v := .string x.antenna) KX_0.out 2 rfl
  have fX3 := blkC (v := .string x.radio) KX_0.out 3 rfl
  have fX4 := blkC (v := .string x.band) KX_0.out 4 rfl
  have fX5 := blkC (v := .int .i64 x.azimuth) KX_0.out 5 rfl
  have fX6 := blkC (v := .int .i64 x.tilt) KX_0.out 6 rfl
  have fX7 := blkC (v := .int .i64 x.above) KX_0.out 7 rfl
  have fX8 := blkC (v := .int .i64 x.channel) KX_0.out 8 rfl
  have fR0 := blkC (v := .slice none 0 0) KR_0.out 0 rfl
  have fR1 := blkC (v := .slice none 0 0) KR_0.out 1 rfl
  have fR2 := blkC (v := .slice none 0 0) KR_0.out 2 rfl
  have fR3 := blkC (v := .slice none 0 0) KR_0.out 3 rfl
  go_wp2_with fail
  refine (l14Own_any n _ _ _ _ bp _ ((R0.out.below BB_0.out).mono (by have := BB_0.out.size; omega)) ((R1.out.below BB_0.out).mono (by have := BB_0.out.size; omega)) ((R2.out.below BB_0.out).mono (by have := BB_0.out.size; omega)) ((R3.out.below BB_0.out).mono (by have := BB_0.out.size; omega)) (by have := BB_0.out.size; omega) ((bat BB_0.out bp 0 hbp).trans PN0.out) ((bat BB_0.out bp 1 hbp).trans PN1.out) ((bat BB_0.out bp 2 hbp).trans PN2.out) ((bat BB_0.out bp 3 hbp).trans PN3.out) hs).mono ?_
  rintro e X1 ⟨a0, c0, a1, c1, a2, c2, a3, c3, fp, rfl, hb, ov, iv_⟩
  clear fX0 fX1 fX2 fX3 fX4 fX5 fX6 fX7 fX8 fR0 fR1 fR2 fR3
  have KX_1 := Lib.hid (blkB KX_0.out hb (by omega))
  have KR_1 := Lib.hid (blkB KR_0.out hb (by omega))
  have BB_1 := Lib.hid (BB_0.out.trans (hb.mono (by omega)))
  have zz1 : W0.heap.size ≤ X1.heap.size := hb.size
  clear KX_0 KR_0 BB_0 hb
  obtain ⟨f0, f1, f2, f3, fpm, O0, O1, O2, O3, d0, d1, d2⟩ := netSplit ov
  have iv : In (w.heap.size + 2) X1.heap.size fp := iv_.mono (by omega) (Nat.le_refl _)
  clear ov iv_
  have fX0 := blkC (v := .string x.name) KX_1.out 0 rfl
  have fX1 := blkC (v := .string x.site) KX_1.out 1 rfl
  have fX2 := blkC (v := .string x.antenna) KX_1.out 2 rfl
  have fX3 := blkC (v := .string x.radio) KX_1.out 3 rfl
  have fX4 := blkC (v := .string x.band) KX_1.out 4 rfl
  have fX5 := blkC (v := .int .i64 x.azimuth) KX_1.out 5 rfl
  have fX6 := blkC (v := .int .i64 x.tilt) KX_1.out 6 rfl
  have fX7 := blkC (v := .int .i64 x.above) KX_1.out 7 rfl
  have fX8 := blkC (v := .int .i64 x.channel) KX_1.out 8 rfl
  have fR0 := blkC (v := .slice none 0 0) KR_1.out 0 rfl
  have fR1 := blkC (v := .slice none 0 0) KR_1.out 1 rfl
  have fR2 := blkC (v := .slice none 0 0) KR_1.out 2 rfl
  have fR3 := blkC (v := .slice none 0 0) KR_1.out 3 rfl
  go_upto_region 2 with (fail)
  clear fX0 fX1 fX2 fX3 fX4 fX5 fX6 fX7 fX8 fR0 fR1 fR2 fR3
  have hbA : Below X1.heap.size X1 (X1.alloc (.cells #[.slice a0 n.sites.length c0, .slice a1 n.sectors.length c1, .slice a2 n.antennas.length c2, .slice a3 n.radios.length c3] 35)) := (Below.refl _ _).alloc (Nat.le_refl _) _
  have kL := blkN X1 #[.slice a0 n.sites.length c0, .slice a1 n.sectors.length c1, .slice a2 n.antennas.length c2, .slice a3 n.radios.length c3] 35
  have zL : X1.heap.size + 1 ≤ (X1.alloc (.cells #[.slice a0 n.sites.length c0, .slice a1 n.sectors.length c1, .slice a2 n.antennas.length c2, .slice a3 n.radios.length c3] 35)).heap.size := by simp
  have P0 := Lib.hid (O0.below (lo := w.heap.size + 2) (hi := X1.heap.size) (fun y hy => iv y ((fpm y).2 (by simp [hy]))) (Nat.le_refl _) hbA)
  have P1 := Lib.hid (O1.below (lo := w.heap.size + 2) (hi := X1.heap.size) (fun y hy => iv y ((fpm y).2 (by simp [hy]))) (Nat.le_refl _) hbA)
  have P2 := Lib.hid (O2.below (lo := w.heap.size + 2) (hi := X1.heap.size) (fun y hy => iv y ((fpm y).2 (by simp [hy]))) (Nat.le_refl _) hbA)
  have P3 := Lib.hid (O3.below (lo := w.heap.size + 2) (hi := X1.heap.size) (fun y hy => iv y ((fpm y).2 (by simp [hy]))) (Nat.le_refl _) hbA)
  clear O0 O1 O2 O3
  generalize (X1.alloc (.cells #[.slice a0 n.sites.length c0, .slice a1 n.sectors.length c1, .slice a2 n.antennas.length c2, .slice a3 n.radios.length c3] 35)) = Y at *
  have KL_2 := Lib.hid kL
  clear kL
  have KX_2 := Lib.hid (blkB KX_1.out hbA (by omega))
  have KR_2 := Lib.hid (blkB KR_1.out hbA (by omega))
  have BB_2 := Lib.hid (BB_1.out.trans (hbA.mono (by omega)))
  have zz2 : X1.heap.size ≤ Y.heap.size := hbA.size
  clear KX_1 KR_1 BB_1 hbA
  have IN0 : Hid (In (w.heap.size + 2) X1.heap.size f0) := fun y hy => iv y ((fpm y).2 (by simp [hy]))
  have IN2 : Hid (In (w.heap.size + 2) X1.heap.size f2) := fun y hy => iv y ((fpm y).2 (by simp [hy]))
  have IN3 : Hid (In (w.heap.size + 2) X1.heap.size f3) := fun y hy => iv y ((fpm y).2 (by simp [hy]))
  have BWY := Lib.hid BB_2.out
  have fN_ : Y.cell? ⟨bp, 1, none⟩ = some (.slice A1 n.sectors.length C1) := ((bat BWY.out bp 1 hbp).trans PN1.out)
  go_wp2
  clear fN_
  go_loopw [6] (fun i wr => ∃ m : Nat, m ≤ n.sectors.length ∧ i = .int .i64 m ∧ (∀ j (h : j < n.sectors.length), m ≤ j → ltS x.name n.sectors[j].name = true) ∧ Below Y.heap.size Y wr) (fun i wr => (intOf i).toNat)
  case atStart => exact ⟨n.sectors.length, Nat.le_refl _, rfl, fun j h h2 => absurd h (by omega), Below.refl _ _⟩
  case round =>
    obtain ⟨m, hm, rfl, hgt, hb⟩ := hrel
    have HGT := Lib.hid hgt
    have HB := Lib.hid hb
    have zr : Y.heap.size ≤ wr.heap.size := hb.size
    clear hgt hb
    have yN : bp < wr.heap.size := by have := BWY.out.size; omega
    have fN : wr.cell? ⟨bp, 1, none⟩ = some (.slice A1 n.sectors.length C1) := (bat HB.out bp 1 (by have := BWY.out.size; omega)).trans (((bat BWY.out bp 1 hbp).trans PN1.out))
    have oN := overC (w0 := wr) yN
    by_cases h0 : 0 < m
    case' pos =>
      have hml : m - 1 < n.sectors.length := by omega
      obtain ⟨_, _, e_, _, _, hcl⟩ := DSector.rd R1.out
      injection e_ with e1_ _ e3_
      subst e1_ e3_
      obtain ⟨b, off, ea, hbl, hat⟩ := hcl (by omega)
      rw [ea] at fN
      have EA := Lib.hid ea
      clear ea
      have s0 := (hat (m - 1) hml).1
      have bW := BWY.out.trans (HB.out.mono (by have := BWY.out.size; omega))
      rw [← bW.cell (p := ⟨b, _, none⟩) hbl] at s0
      have yB : b < wr.heap.size := by have := bW.size; omega
      have yX : w.heap.size < wr.heap.size := by omega
      have fX : wr.cell? ⟨w.heap.size, 0, none⟩ = some (.string x.name) := (bat HB.out (w.heap.size) 0 (by omega)).trans (blkC (v := .string x.name) KX_2.out 0 rfl)
      have oB := overC (w0 := wr) yB
      have oX := overC (w0 := wr) yX
      clear hcl hat
      have g1 : decide ((0 : Int) < (m : Int)) = true := by simp; omega
      have g2 : decide (0 < m) = true := by simpa using h0
      have i1 : (1 : Int) ≤ (m : Int) := by omega
      have i2 : (0 : Int) ≤ (m : Int) - 1 := by omega
      have i3 : (m : Int) - 1 < (n.sectors.length : Int) := by omega
      have i4 : IntKind.i64.wrap ((m : Int) - 1) = (m : Int) - 1 := IntWalk.i64_in _ (by omega)
      have i5 : ((m : Int) - 1).toNat = m - 1 := by omega
      have i6 : 1 ≤ m := h0
      by_cases hp : ltS x.name n.sectors[m - 1].name = true
      · have hq := geS_of_lt hp
        have HP := Lib.hid hp
        clear hp
        go_wp2
        refine wp_region_over wr.heap.size wr (Below.refl _ _) (by kernel_rfl) (by kernel_rfl) ?_
        repeat (go_big_quiet_step (fail))
        refine wpQuiet_nil ?_
        rintro _ ⟨X, rfl⟩
        have hX := over_below wr.heap.size wr X
        clear oB oX oN hq g1 g2 i4 i5 s0 fX fN bW
        generalize over wr.heap.size wr X = w2 at *
        go_wp2
        go_roundw
        case rel => exact ⟨m - 1, by omega, by congr 1; omega, fun j h h2 => by
            by_cases e : j = m - 1
            · subst e; exact HP.out
            · exact HGT.out j h (by omega), HB.out.trans (hX.mono (by omega))⟩
        case measure => simp [intOf]; omega
      replace hp : ltS x.name n.sectors[m - 1].name = false := Bool.eq_false_iff.2 hp
      have hq := geS_of_not hp
      have HP := Lib.hid hp
      clear hp
      go_wp2
      refine wp_region_over wr.heap.size wr (Below.refl _ _) (by kernel_rfl) (by kernel_rfl) ?_
      repeat (go_big_quiet_step (fail))
      refine wpQuiet_nil ?_
      rintro _ ⟨X, rfl⟩
      have hX := over_below wr.heap.size wr X
      clear oB oX oN hq g1 g2 i4 i5 i2 s0 fX fN bW
      have HPOS : Hid (posOf DSector.name n.sectors x.name = m) := pos_of_end RISE.out HNO.out hm (fun _ => HP.out) (fun h => HGT.out m h (Nat.le_refl _))
      generalize over wr.heap.size wr X = V at *
      have hbV : Below Y.heap.size Y V := HB.out.trans (hX.mono (by omega))
      have zV : Y.heap.size ≤ V.heap.size := hbV.size
      clear HGT HB hX
      clear HP EA i1 i3 i6 hbl yB yX
    case' neg =>
      have g1 : decide ((0 : Int) < (m : Int)) = false := by simp; omega
      have g2 : decide (0 < m) = false := by simp; omega
      go_wp2
      refine wp_region_over wr.heap.size wr (Below.refl _ _) (by kernel_rfl) (by kernel_rfl) ?_
      repeat (go_big_quiet_step (fail))
      refine wpQuiet_nil ?_
      rintro _ ⟨X, rfl⟩
      have hX := over_below wr.heap.size wr X
      clear oN g1 g2 fN
      have HPOS : Hid (posOf DSector.name n.sectors x.name = m) := pos_of_end RISE.out HNO.out hm (fun h => absurd h h0) (fun h => HGT.out m h (Nat.le_refl _))
      generalize over wr.heap.size wr X = V at *
      have hbV : Below Y.heap.size Y V := HB.out.trans (hX.mono (by omega))
      have zV : Y.heap.size ≤ V.heap.size := hbV.size
      clear HGT HB hX
    all_goals
      clear h0 yN
      have kc1 : (m : Int) ≤ (C1 : Int) := by omega
      have kc2 : m ≤ C1 := by omega
      have hkn : m ≤ n.sectors.length := hm
      have KX_3 := Lib.hid ((hbV.block (w.heap.size) (by omega)).trans KX_2.out)
      have KR_3 := Lib.hid ((hbV.block (w.heap.size + 1) (by omega)).trans KR_2.out)
      have KL_3 := Lib.hid ((hbV.block (X1.heap.size) (by omega)).trans KL_2.out)
      have BW_3 := Lib.hid (BWY.out.trans (hbV.mono (by omega)))
      have P0_3 := Lib.hid (P0.out.below IN0.out (by omega) hbV)
      have P2_3 := Lib.hid (P2.out.below IN2.out (by omega) hbV)
      have P3_3 := Lib.hid (P3.out.below IN3.out (by omega) hbV)
      clear hbV
      obtain ⟨ti, hi0, hi1, hi2, hi3⟩ := info_parts infoSector
      have hYb : X1.heap.size < V.heap.size := by omega
      have zY_3 : V.heap.size ≤ V.heap.size := Nat.le_refl _
      have fL0 := blkC (v := .slice a0 n.sites.length c0) KL_3.out 0 rfl
      have fL1 := blkC (v := .slice a1 n.sectors.length c1) KL_3.out 1 rfl
      have fL2 := blkC (v := .slice a2 n.antennas.length c2) KL_3.out 2 rfl
      have fL3 := blkC (v := .slice a3 n.radios.length c3) KL_3.out 3 rfl
      have zLz := blkF KL_3.out
      have hnc := ((bat BW_3.out bp 1 hbp).trans PN1.out)
      have hby : bp < V.heap.size := by have := BW_3.out.size; omega
      go_upto_region 6 with (at_builtin; refine wpList_append_first rfl (.tmp 32) (.tmp 38) _ rfl 49 ti _ 9 112 Tryz.underlying31 hi0 hi1 hi2 hi3 rfl (by omega) rfl w.heap.size A1 m C1 ((n.sectors.flatMap DSector.vs).take (m * 9)) rfl ((RS.out.below BW_3.out).head hkn) (by omega) (fun u hu => ON.out u (List.mem_of_mem_take hu)) (by simp only [maxLen]; omega) (by omega) ?_; intro a5 c5 Z1 hown1 hb1 hz1; have HO_4 := Lib.hid hown1; have HB1 := Lib.hid hb1; have kl1 := ((hb1.block X1.heap.size (by omega)).trans KL_3.out); have g1 := blkC (v := .slice a1 n.sectors.length c1) kl1 1 rfl; have gz := blkF kl1; clear hown1 hb1 kl1)
      have hb1 := HB1.out
      clear HB1 hnc hby gz g1 fL0 fL1 fL2 fL3 zLz
      have KX_4 := Lib.hid ((hb1.block (w.heap.size) (by omega)).trans KX_3.out)
      have KR_4 := Lib.hid ((hb1.block (w.heap.size + 1) (by omega)).trans KR_3.out)
      have KL_4 := Lib.hid ((hb1.block (X1.heap.size) (by omega)).trans KL_3.out)
      have BW_4 := Lib.hid (BW_3.out.trans (hb1.mono (by omega)))
      have P0_4 := Lib.hid (P0_3.out.below IN0.out (by omega) hb1)
      have P2_4 := Lib.hid (P2_3.out.below IN2.out (by omega) hb1)
      have P3_4 := Lib.hid (P3_3.out.below IN3.out (by omega) hb1)
      have zY_4 : V.heap.size ≤ Z1.heap.size := by have := hb1.size; omega
      clear KX_3 KR_3 KL_3 BW_3 P0_3 P2_3 P3_3
      clear hb1
      have KX_5 : Hid ((Z1.setCell ⟨X1.heap.size, 1, none⟩ (.slice a5 m c5)).heap[(w.heap.size)]? = _) := Lib.hid (blkO KX_4.out (p := ⟨X1.heap.size, 1, none⟩) (by show w.heap.size ≠ X1.heap.size; omega) (.slice a5 m c5))
      have KR_5 : Hid ((Z1.setCell ⟨X1.heap.size, 1, none⟩ (.slice a5 m c5)).heap[(w.heap.size + 1)]? = _) := Lib.hid (blkO KR_4.out (p := ⟨X1.heap.size, 1, none⟩) (by show w.heap.size + 1 ≠ X1.heap.size; omega) (.slice a5 m c5))
      have kl_ : (Z1.setCell ⟨X1.heap.size, 1, none⟩ (.slice a5 m c5)).heap[X1.heap.size]? = some (.cells #[.slice a0 n.sites.length c0, .slice a5 m c5, .slice a2 n.antennas.length c2, .slice a3 n.radios.length c3] 35 (0, 0)) := by
        have h_ := blkS KL_4.out 1 (.slice a5 m c5)
        simpa using h_
      have KL_5 := Lib.hid kl_
      clear kl_
      have BW_5 := Lib.hid (BW_4.out.setCell (p := ⟨X1.heap.size, 1, none⟩) (by show w.heap.size ≤ X1.heap.size; omega) (.slice a5 m c5))
      have P0_5 := Lib.hid (P0_4.out.frame (w' := (Z1.setCell ⟨X1.heap.size, 1, none⟩ (.slice a5 m c5))) (fun b hb => Below.heap_setCell _ _ _ b (by have := (IN0.out b hb).2; show b ≠ X1.heap.size; omega)))
      have P2_5 := Lib.hid (P2_4.out.frame (w' := (Z1.setCell ⟨X1.heap.size, 1, none⟩ (.slice a5 m c5))) (fun b hb => Below.heap_setCell _ _ _ b (by have := (IN2.out b hb).2; show b ≠ X1.heap.size; omega)))
      have P3_5 := Lib.hid (P3_4.out.frame (w' := (Z1.setCell ⟨X1.heap.size, 1, none⟩ (.slice a5 m c5))) (fun b hb => Below.heap_setCell _ _ _ b (by have := (IN3.out b hb).2; show b ≠ X1.heap.size; omega)))
      have zY_5 : V.heap.size ≤ (Z1.setCell ⟨X1.heap.size, 1, none⟩ (.slice a5 m c5)).heap.size := by rw [size_setCell]; omega
      have HO_5 := Lib.hid (ownsRow_frame (w' := (Z1.setCell ⟨X1.heap.size, 1, none⟩ (.slice a5 m c5))) HO_4.out (fun g hg => Below.heap_setCell _ _ _ g (by have := (ownsRow_block HO_4.out hg).1; show g ≠ X1.heap.size; omega)))
      clear KX_4 KR_4 KL_4 BW_4 P0_4 P2_4 P3_4
      clear HO_4
      generalize (Z1.setCell ⟨X1.heap.size, 1, none⟩ (.slice a5 m c5)) = Z2 at *
      have fL0 := blkC (v := .slice a0 n.sites.length c0) KL_5.out 0 rfl
      have fL1 := blkC (v := .slice a5 m c5) KL_5.out 1 rfl
      have fL2 := blkC (v := .slice a2 n.antennas.length c2) KL_5.out 2 rfl
      have fL3 := blkC (v := .slice a3 n.radios.length c3) KL_5.out 3 rfl
      have zLz := blkF KL_5.out
      have fX0 := blkC (v := .string x.name) KX_5.out 0 rfl
      have fX1 := blkC (v := .string x.site) KX_5.out 1 rfl
      have fX2 := blkC (v := .string x.antenna) KX_5.out 2 rfl
      have fX3 := blkC (v := .string x.radio) KX_5.out 3 rfl
      have fX4 := blkC (v := .string x.band) KX_5.out 4 rfl
      have fX5 := blkC (v := .int .i64 x.azimuth) KX_5.out 5 rfl
      have fX6 := blkC (v := .int .i64 x.tilt) KX_5.out 6 rfl
      have fX7 := blkC (v := .int .i64 x.above) KX_5.out 7 rfl
      have fX8 := blkC (v := .int .i64 x.channel) KX_5.out 8 rfl
      have HOA := Lib.hid (ownsRow_frame (w' := (Z2.alloc (.cells #[.string x.name, .string x.site, .string x.antenna, .string x.radio, .string x.band, .int .i64 x.azimuth, .int .i64 x.tilt, .int .i64 x.above, .int .i64 x.channel] 49))) HO_5.out (fun g hg => Below.heap_alloc _ _ g (ownsRow_block HO_5.out hg).2))
      have HFR : Hid (Reads (Z2.alloc (.cells #[.string x.name, .string x.site, .string x.antenna, .string x.radio, .string x.band, .int .i64 x.azimuth, .int .i64 x.tilt, .int .i64 x.above, .int .i64 x.channel] 49)) (Z2.heap.size + 1) 9 (some ⟨Z2.heap.size, 0, none⟩) 1 x.vs) := Reads.fresh Z2 49 9 x.vs rfl
      have HBA : Hid (Below V.heap.size Z2 (Z2.alloc (.cells #[.string x.name, .string x.site, .string x.antenna, .string x.radio, .string x.band, .int .i64 x.azimuth, .int .i64 x.tilt, .int .i64 x.above, .int .i64 x.channel] 49))) := (Below.refl _ _).alloc (by omega) _
      go_wp2_with (at_builtin; refine wpList_append_more rfl (.tmp 42) (.tmp 44) _ rfl V.heap.size 49 ti _ 9 112 Tryz.underlying31 hi0 hi1 hi2 hi3 rfl (by omega) (.slice a5 (m) c5) _ _ rfl HOA.out (Z2.heap.size + 1) _ 1 1 x.vs rfl HFR.out ONX.out (by simp only [maxLen]; omega) (by omega) (by simp; omega) ?_; intro a6 c6 Z3 hown hb; have HO_6 := Lib.hid hown; have HB2 := Lib.hid (HBA.out.trans hb); have kl1 := ((HB2.out.block X1.heap.size (by omega)).trans KL_5.out); have g1 := blkC (v := .slice a5 m c5) kl1 1 rfl; have gz := blkF kl1; clear hown hb kl1)
      have hb2 := HB2.out
      clear HB2 HOA HFR HBA gz g1 fL0 fL1 fL2 fL3 zLz fX0 fX1 fX2 fX3 fX4 fX5 fX6 fX7 fX8
      have KX_6 := Lib.hid ((hb2.block (w.heap.size) (by omega)).trans KX_5.out)
      have KR_6 := Lib.hid ((hb2.block (w.heap.size + 1) (by omega)).trans KR_5.out)
      have KL_6 := Lib.hid ((hb2.block (X1.heap.size) (by omega)).trans KL_5.out)
      have BW_6 := Lib.hid (BW_5.out.trans (hb2.mono (by omega)))
      have P0_6 := Lib.hid (P0_5.out.below IN0.out (by omega) hb2)
      have P2_6 := Lib.hid (P2_5.out.below IN2.out (by omega) hb2)
      have P3_6 := Lib.hid (P3_5.out.below IN3.out (by omega) hb2)
      have zY_6 : V.heap.size ≤ Z3.heap.size := by have := hb2.size; omega
      clear KX_5 KR_5 KL_5 BW_5 P0_5 P2_5 P3_5
      clear hb2 HO_5
      have KX_7 : Hid ((Z3.setCell ⟨X1.heap.size, 1, none⟩ (.slice a6 (m + 1) c6)).heap[(w.heap.size)]? = _) := Lib.hid (blkO KX_6.out (p := ⟨X1.heap.size, 1, none⟩) (by show w.heap.size ≠ X1.heap.size; omega) (.slice a6 (m + 1) c6))
      have KR_7 : Hid ((Z3.setCell ⟨X1.heap.size, 1, none⟩ (.slice a6 (m + 1) c6)).heap[(w.heap.size + 1)]? = _) := Lib.hid (blkO KR_6.out (p := ⟨X1.heap.size, 1, none⟩) (by show w.heap.size + 1 ≠ X1.heap.size; omega) (.slice a6 (m + 1) c6))
      have kl_ : (Z3.setCell ⟨X1.heap.size, 1, none⟩ (.slice a6 (m + 1) c6)).heap[X1.heap.size]? = some (.cells #[.slice a0 n.sites.length c0, .slice a6 (m + 1) c6, .slice a2 n.antennas.length c2, .slice a3 n.radios.length c3] 35 (0, 0)) := by
        have h_ := blkS KL_6.out 1 (.slice a6 (m + 1) c6)
        simpa using h_
      have KL_7 := Lib.hid kl_
      clear kl_
      have BW_7 := Lib.hid (BW_6.out.setCell (p := ⟨X1.heap.size, 1, none⟩) (by show w.heap.size ≤ X1.heap.size; omega) (.slice a6 (m + 1) c6))
      have P0_7 := Lib.hid (P0_6.out.frame (w' := (Z3.setCell ⟨X1.heap.size, 1, none⟩ (.slice a6 (m + 1) c6))) (fun b hb => Below.heap_setCell _ _ _ b (by have := (IN0.out b hb).2; show b ≠ X1.heap.size; omega)))
      have P2_7 := Lib.hid (P2_6.out.frame (w' := (Z3.setCell ⟨X1.heap.size, 1, none⟩ (.slice a6 (m + 1) c6))) (fun b hb => Below.heap_setCell _ _ _ b (by have := (IN2.out b hb).2; show b ≠ X1.heap.size; omega)))
      have P3_7 := Lib.hid (P3_6.out.frame (w' := (Z3.setCell ⟨X1.heap.size, 1, none⟩ (.slice a6 (m + 1) c6))) (fun b hb => Below.heap_setCell _ _ _ b (by have := (IN3.out b hb).2; show b ≠ X1.heap.size; omega)))
      have zY_7 : V.heap.size ≤ (Z3.setCell ⟨X1.heap.size, 1, none⟩ (.slice a6 (m + 1) c6)).heap.size := by rw [size_setCell]; omega
      have HO_7 := Lib.hid (ownsRow_frame (w' := (Z3.setCell ⟨X1.heap.size, 1, none⟩ (.slice a6 (m + 1) c6))) HO_6.out (fun g hg => Below.heap_setCell _ _ _ g (by have := (ownsRow_block HO_6.out hg).1; show g ≠ X1.heap.size; omega)))
      clear KX_6 KR_6 KL_6 BW_6 P0_6 P2_6 P3_6
      clear HO_6
      generalize (Z3.setCell ⟨X1.heap.size, 1, none⟩ (.slice a6 (m + 1) c6)) = Z4 at *
      have kd1 : (m : Int) ≤ (n.sectors.length : Int) := by omega
      have fL0 := blkC (v := .slice a0 n.sites.length c0) KL_7.out 0 rfl
      have fL1 := blkC (v := .slice a6 (m + 1) c6) KL_7.out 1 rfl
      have fL2 := blkC (v := .slice a2 n.antennas.length c2) KL_7.out 2 rfl
      have fL3 := blkC (v := .slice a3 n.radios.length c3) KL_7.out 3 rfl
      have zLz := blkF KL_7.out
      have fN_ : Z4.cell? ⟨bp, 1, none⟩ = some (.slice A1 n.sectors.length C1) := ((bat BW_7.out bp 1 hbp).trans PN1.out)
      refine wp_region_ord 8 [(0, true), (1, true), (2, true), (3, true), (4, true), (5, true), (6, true), (7, true)] (fun W => W.cell? ⟨X1.heap.size, 1, none⟩ = some (.slice a6 (m + 1) c6) ∧ W.cell? ⟨bp, 1, none⟩ = some (.slice A1 n.sectors.length C1)) (by kernel_rfl) (by kernel_rfl) ⟨fL1, fN_⟩ (fun hHeld => ?_)
      refine wpOrd_read (v := ?_) rfl (fun _ _ _ h => h) ?_ ?_
      rotate_left
      · (intro W hSW; (try dsimp only at hSW); (go_simp <;> with_reducible rfl))
      (try simp only [Act.put, List.setIfInBounds_toArray, List.set_cons_zero, List.set_cons_succ])
      refine wpOrd_read (v := ?_) rfl (fun _ _ _ h => h) ?_ ?_
      rotate_left
      · (intro W hSW; (try dsimp only at hSW); (go_simp <;> with_reducible rfl))
      (try simp only [Act.put, List.setIfInBounds_toArray, List.set_cons_zero, List.set_cons_succ])
      refine wpOrd_read (v := ?_) rfl (fun _ _ _ h => h) ?_ ?_
      rotate_left
      · (intro W hSW; (try dsimp only at hSW); (go_simp <;> with_reducible rfl))
      (try simp only [Act.put, List.setIfInBounds_toArray, List.set_cons_zero, List.set_cons_succ])
      refine wpOrd_read (v := ?_) rfl (fun _ _ _ h => h) ?_ ?_
      rotate_left
      · (intro W hSW; (try dsimp only at hSW); (go_simp <;> with_reducible rfl))
      (try simp only [Act.put, List.setIfInBounds_toArray, List.set_cons_zero, List.set_cons_succ])
      refine wpOrd_read (v := ?_) rfl (fun _ _ _ h => h) ?_ ?_
      rotate_left
      · (intro W hSW; (try dsimp only at hSW); (go_simp <;> with_reducible rfl))
      (try simp only [Act.put, List.setIfInBounds_toArray, List.set_cons_zero, List.set_cons_succ])
      refine wpOrd_read (v := ?_) rfl (fun _ _ _ h => h) ?_ ?_
      rotate_left
      · (intro W hSW; (try dsimp only at hSW); (go_simp <;> with_reducible rfl))
      (try simp only [Act.put, List.setIfInBounds_toArray, List.set_cons_zero, List.set_cons_succ])
      refine wpOrd_read (v := ?_) rfl (fun _ _ _ h => h) ?_ ?_
      rotate_left
      · (intro W hSW; (try dsimp only at hSW); (go_simp <;> with_reducible rfl))
      (try simp only [Act.put, List.setIfInBounds_toArray, List.set_cons_zero, List.set_cons_succ])
      refine wpOrd_read (v := ?_) rfl (fun _ _ _ h => h) ?_ ?_
      rotate_left
      · (intro W hSW; (try dsimp only at hSW); (go_simp <;> with_reducible rfl))
      (try simp only [Act.put, List.setIfInBounds_toArray, List.set_cons_zero, List.set_cons_succ])
      refine wpOrd_nil ?_
      simp only [List.drop_succ_cons, List.drop_zero]
      clear fN_ fL0 fL1 fL2 fL3 zLz
      refine wpList_append_more rfl (.tmp 48) (.tmp 54) _ rfl V.heap.size 49 ti _ 9 112 Tryz.underlying31 hi0 hi1 hi2 hi3 rfl (by omega) (.slice a6 (m + 1) c6) _ _ rfl HO_7.out.drew w.heap.size (if C1 = m then A1 else A1.map (·.add (m * 9))) (n.sectors.length - m) (C1 - m) ((n.sectors.flatMap DSector.vs).drop (m * 9)) rfl ((RS.out.below (BW_7.out.drew)).cut hkn (by omega)) (fun u hu => ON.out u (List.mem_of_mem_drop hu)) (by simp only [maxLen]; omega) (by omega) (by show V.heap.size ≤ Z4.heap.size; omega) ?_
      intro a7 c7 Z5 hown hb
      have HO_8 := Lib.hid hown
      clear hown
      have hbd : Below V.heap.size Z4 Z5 := ((Below.refl _ _).drew).trans hb
      clear hb
      have KX_8 := Lib.hid ((hbd.block (w.heap.size) (by omega)).trans KX_7.out)
      have KR_8 := Lib.hid ((hbd.block (w.heap.size + 1) (by omega)).trans KR_7.out)
      have KL_8 := Lib.hid ((hbd.block (X1.heap.size) (by omega)).trans KL_7.out)
      have BW_8 := Lib.hid (BW_7.out.trans (hbd.mono (by omega)))
      have P0_8 := Lib.hid (P0_7.out.below IN0.out (by omega) hbd)
      have P2_8 := Lib.hid (P2_7.out.below IN2.out (by omega) hbd)
      have P3_8 := Lib.hid (P3_7.out.below IN3.out (by omega) hbd)
      have zY_8 : V.heap.size ≤ Z5.heap.size := by have := hbd.size; omega
      clear KX_7 KR_7 KL_7 BW_7 P0_7 P2_7 P3_7
      clear hbd HO_7
      clear kd1
      have hfl : (insAt n.sectors x m).flatMap DSector.vs = ((n.sectors.flatMap DSector.vs).take (m * 9) ++ x.vs) ++ (n.sectors.flatMap DSector.vs).drop (m * 9) := by
        unfold insAt
        rw [ins_flatv DSector.vs 9 DSector.vs_len, ← List.append_assoc]
      have hle : (insAt n.sectors x m).length = m + 1 + (n.sectors.length - m) := by rw [insAt_length n.sectors x hm]; omega
      obtain ⟨ax, cx, fq, ex_, oq, iq⟩ := ownsRow_own (lo := V.heap.size) HO_8.out (by omega) (Nat.le_refl _)
      injection ex_ with ex1 _ ex3
      subst ex1 ex3
      have oq2 : Own Z5 (DSector.sT (insAt n.sectors x m)) (.slice a7 (m + 1 + (n.sectors.length - m)) c7) fq := by rw [DSector.sT_vs, hfl]; exact oq
      have ov := netJoin (n := { n with sectors := insAt n.sectors x m }) P0_8.out oq2 P2_8.out P3_8.out (fun y hy => ⟨fun h => (by have := (IN0.out y hy).2; have := (iq y h).1; omega), (d0 y hy).2⟩) (fun y hy => ⟨fun h => (by have := (IN2.out y h).2; have := (iq y hy).1; omega), fun h => (by have := (IN3.out y h).2; have := (iq y hy).1; omega)⟩) d2
      have ivn : ∀ y ∈ (f0 ++ (fq ++ (f2 ++ (f3 ++ [])))), (w.heap.size + 2 ≤ y ∧ y < Z5.heap.size) ∧ y ≠ X1.heap.size ∧ y ≠ w.heap.size + 1 := fun y hy => by
        simp only [List.mem_append, List.not_mem_nil, or_false] at hy
        rcases hy with h | h | h | h
        · have := IN0.out y h; omega
        · have := iq y h; omega
        · have := IN2.out y h; omega
        · have := IN3.out y h; omega
      have BF := Lib.hid ((((((BW_8.out).setCell (p := ⟨X1.heap.size, 1, none⟩) (by show w.heap.size ≤ X1.heap.size; omega) (.slice a7 (m + 1 + (n.sectors.length - m)) c7)).setCell (p := ⟨w.heap.size + 1, 0, none⟩) (by show w.heap.size ≤ w.heap.size + 1; omega) (.slice a0 n.sites.length c0)).setCell (p := ⟨w.heap.size + 1, 1, none⟩) (by show w.heap.size ≤ w.heap.size + 1; omega) (.slice a7 (m + 1 + (n.sectors.length - m)) c7)).setCell (p := ⟨w.heap.size + 1, 2, none⟩) (by show w.heap.size ≤ w.heap.size + 1; omega) (.slice a2 n.antennas.length c2)).setCell (p := ⟨w.heap.size + 1, 3, none⟩) (by show w.heap.size ≤ w.heap.size + 1; omega) (.slice a3 n.radios.length c3))
      have OF := Lib.hid ((((((ov).setFar (p := ⟨X1.heap.size, 1, none⟩) (fun e => (ivn _ e).2.1 rfl) (.slice a7 (m + 1 + (n.sectors.length - m)) c7)).setFar (p := ⟨w.heap.size + 1, 0, none⟩) (fun e => (ivn _ e).2.2 rfl) (.slice a0 n.sites.length c0)).setFar (p := ⟨w.heap.size + 1, 1, none⟩) (fun e => (ivn _ e).2.2 rfl) (.slice a7 (m + 1 + (n.sectors.length - m)) c7)).setFar (p := ⟨w.heap.size + 1, 2, none⟩) (fun e => (ivn _ e).2.2 rfl) (.slice a2 n.antennas.length c2)).setFar (p := ⟨w.heap.size + 1, 3, none⟩) (fun e => (ivn _ e).2.2 rfl) (.slice a3 n.radios.length c3))
      have IVF : Hid (In w.heap.size Z5.heap.size (f0 ++ (fq ++ (f2 ++ (f3 ++ []))))) := fun y hy => by have := (ivn y hy).1; omega
      clear ivn ov d0 d1 d2 fpm iv oq oq2 iq
      have fL0 := blkC (v := .slice a0 n.sites.length c0) KL_8.out 0 rfl
      have fL1 := blkC (v := .slice a6 (m + 1) c6) KL_8.out 1 rfl
      have fL2 := blkC (v := .slice a2 n.antennas.length c2) KL_8.out 2 rfl
      have fL3 := blkC (v := .slice a3 n.radios.length c3) KL_8.out 3 rfl
      have zLz := blkF KL_8.out
      have fR0 := blkC (v := .slice none 0 0) KR_8.out 0 rfl
      have fR1 := blkC (v := .slice none 0 0) KR_8.out 1 rfl
      have fR2 := blkC (v := .slice none 0 0) KR_8.out 2 rfl
      have fR3 := blkC (v := .slice none 0 0) KR_8.out 3 rfl
      have zR := blkF KR_8.out
      have hneR : X1.heap.size ≠ (w.heap.size + 1) := by omega
      go_wp2
      all_goals
        refine bodyPost_ret (v := .agg #[.slice a0 n.sites.length c0, .slice a7 (m + 1 + (n.sectors.length - m)) c7, .slice a2 n.antennas.length c2, .slice a3 n.radios.length c3]) (by simp [results, Tryz.results80, go_sem, *]) rfl ?_
        rw [HPOS.out]
        unfold NetP
        simp only [hle]
        refine ⟨a0, c0, a7, c7, a2, c2, a3, c3, _, rfl, BF.out, OF.out, ?_⟩
        simp only [size_setCell]
        exact IVF.out
set_option maxHeartbeats 8000000 in
set_option maxRecDepth 100000 in
theorem sAddSector_std (n : DNetwork) (x : DSector) (vn0 vn1 vn2 vn3 : Value) (w : World) (rn0 : Rd w.heap.size w (DSite.sT n.sites) vn0) (rn1 : Rd w.heap.size w (DSector.sT n.sectors) vn1) (rn2 : Rd w.heap.size w (DAntenna.sT n.antennas) vn2) (rn3 : Rd w.heap.size w (DRadio.sT n.radios) vn3) (hs_n : sizL n.tr ≤ 1048576) (hk_n : n.ok) (hs_x : sizL x.tr ≤ 1048576) (hk_x : x.ok) :
    Calls Tryz.prog 31 #[.agg #[vn0, vn1, vn2, vn3], .agg #[.string x.name, .string x.site, .string x.antenna, .string x.radio, .string x.band, .int .i64 x.azimuth, .int .i64 x.tilt, .int .i64 x.above, .int .i64 x.channel]] w (fun e w' => ∃ a0_0 c0_0 a0_1 c0_1 a0_2 c0_2 a0_3 c0_3 fp0, e = .returned (.tuple #[.agg #[.slice a0_0 (addSecR n x).1.sites.length c0_0, .slice a0_1 (addSecR n x).1.sectors.length c0_1, .slice a0_2 (addSecR n x).1.antennas.length c0_2, .slice a0_3 (addSecR n x).1.radios.length c0_3], .int .i64 (addSecR n x).2]) ∧ Below w.heap.size w w' ∧ OwnV w' (addSecR n x).1.tr [.slice a0_0 (addSecR n x).1.sites.length c0_0, .slice a0_1 (addSecR n x).1.sectors.length c0_1, .slice a0_2 (addSecR n x).1.antennas.length c0_2, .slice a0_3 (addSecR n x).1.radios.length c0_3] fp0 ∧ In w.heap.size w'.heap.size fp0) := by
  have hq := DNetwork.siz_tr n
  rw [DSite.siz_s, DSector.siz_s, DAntenna.siz_s, DRadio.siz_s] at hq
  obtain ⟨A0, C0, e0, -, -, -⟩ := DSite.rd rn0
  obtain ⟨A1, C1, e1, -, -, -⟩ := DSector.rd rn1
  obtain ⟨A2, C2, e2, -, -, -⟩ := DAntenna.rd rn2
  obtain ⟨A3, C3, e3, -, -, -⟩ := DRadio.rd rn3
  subst e0 e1 e2 e3
  have R0 := Lib.hid rn0
  have R1 := Lib.hid rn1
  have R2 := Lib.hid rn2
  have R3 := Lib.hid rn3
  clear rn0 rn1 rn2 rn3
  have hko := hk_x
  by_cases hv : netB n = true
  case neg =>
    replace hv : netB n = false := Bool.eq_false_iff.2 hv
    have HE := Lib.hid (addSecR_bad (x := x) hv)
    have BB0_ : Below w.heap.size w (((w.alloc (.cells #[.slice A0 n.sites.length C0, .slice A1 n.sectors.length C1, .slice A2 n.antennas.length C2, .slice A3 n.radios.length C3] 35)).alloc (.cells #[.string x.name, .string x.site, .string x.antenna, .string x.radio, .string x.band, .int .i64 x.azimuth, .int .i64 x.tilt, .int .i64 x.above, .int .i64 x.channel] 49)).alloc (.cells #[.slice none 0 0, .slice none 0 0, .slice none 0 0, .slice none 0 0] 35)) := Below.alloc (Below.alloc (Below.alloc (Below.refl _ _) (by first | exact Nat.le_refl _ | (simp; done) | (simp; omega)) _) (by first | exact Nat.le_refl _ | (simp; done) | (simp; omega)) _) (by first | exact Nat.le_refl _ | (simp; done) | (simp; omega)) _
    have zz0 : w.heap.size + 3 ≤ (((w.alloc (.cells #[.slice A0 n.sites.length C0, .slice A1 n.sectors.length C1, .slice A2 n.antennas.length C2, .slice A3 n.radios.length C3] 35)).alloc (.cells #[.string x.name, .string x.site, .string x.antenna, .string x.radio, .string x.band, .int .i64 x.azimuth, .int .i64 x.tilt, .int .i64 x.above, .int .i64 x.channel] 49)).alloc (.cells #[.slice none 0 0, .slice none 0 0, .slice none 0 0, .slice none 0 0] 35)).heap.size := by simp
    have k_N : (((w.alloc (.cells #[.slice A0 n.sites.length C0, .slice A1 n.sectors.length C1, .slice A2 n.antennas.length C2, .slice A3 n.radios.length C3] 35)).alloc (.cells #[.string x.name, .string x.site, .string x.antenna, .string x.radio, .string x.band, .int .i64 x.azimuth, .int .i64 x.tilt, .int .i64 x.above, .int .i64 x.channel] 49)).alloc (.cells #[.slice none 0 0, .slice none 0 0, .slice none 0 0, .slice none 0 0] 35)).heap[w.heap.size]? = some (.cells #[.slice A0 n.sites.length C0, .slice A1 n.sectors.length C1, .slice A2 n.antennas.length C2, .slice A3 n.radios.length C3] 35 (0, 0)) := by
      have h := blkN w #[.slice A0 n.sites.length C0, .slice A1 n.sectors.length C1, .slice A2 n.antennas.length C2, .slice A3 n.radios.length C3] 35
      replace h := blkA h (by first | (simp; done) | (simp; omega)) (.cells #[.string x.name, .string x.site, .string x.antenna, .string x.radio, .string x.band, .int .i64 x.azimuth, .int .i64 x.tilt, .int .i64 x.above, .int .i64 x.channel] 49)
      replace h := blkA h (by first | (simp; done) | (simp; omega)) (.cells #[.slice none 0 0, .slice none 0 0, .slice none 0 0, .slice none 0 0] 35)
      exact h
    have KN_0 := Lib.hid k_N
    have k_X : (((w.alloc (.cells #[.slice A0 n.sites.length C0, .slice A1 n.sectors.length C1, .slice A2 n.antennas.length C2, .slice A3 n.radios.length C3] 35)).alloc (.cells #[.string x.name, .string x.site, .string x.antenna, .string x.radio, .string x.band, .int .i64 x.azimuth, .int .i64 x.tilt, .int .i64 x.above, .int .i64 x.channel] 49)).alloc (.cells #[.slice none 0 0, .slice none 0 0, .slice none 0 0, .slice none 0 0] 35)).heap[w.heap.size + 1]? = some (.cells #[.string x.name, .string x.site, .string x.antenna, .string x.radio, .string x.band, .int .i64 x.azimuth, .int .i64 x.tilt, .int .i64 x.above, .int .i64 x.channel] 49 (0, 0)) := by
      have h := blkN (w.alloc (.cells #[.slice A0 n.sites.length C0, .slice A1 n.sectors.length C1, .slice A2 n.antennas.length C2, .slice A3 n.radios.length C3] 35)) #[.string x.name, .string x.site, .string x.antenna, .string x.radio, .string x.band, .int .i64 x.azimuth, .int .i64 x.tilt, .int .i64 x.above, .int .i64 x.channel] 49
      rw [show (w.alloc (.cells #[.slice A0 n.sites.length C0, .slice A1 n.sectors.length C1, .slice A2 n.antennas.length C2, .slice A3 n.radios.length C3] 35)).heap.size = w.heap.size + 1 by simp] at h
      replace h := blkA h (by first | (simp; done) | (simp; omega)) (.cells #[.slice none 0 0, .slice none 0 0, .slice none 0 0, .slice none 0 0] 35)
      exact h
    have KX_0 := Lib.hid k_X
    have k_R : (((w.alloc (.cells #[.slice A0 n.sites.length C0, .slice A1 n.sectors.length C1, .slice A2 n.antennas.length C2, .slice A3 n.radios.length C3] 35)).alloc (.cells #[.string x.name, .string x.site, .string x.antenna, .string x.radio, .string x.band, .int .i64 x.azimuth, .int .i64 x.tilt, .int .i64 x.above, .int .i64 x.channel] 49)).alloc (.cells #[.slice none 0 0, .slice none 0 0, .slice none 0 0, .slice none 0 0] 35)).heap[w.heap.size + 2]? = some (.cells #[.slice none 0 0, .slice none 0 0, .slice none 0 0, .slice none 0 0] 35 (0, 0)) := by
      have h := blkN ((w.alloc (.cells #[.slice A0 n.sites.length C0, .slice A1 n.sectors.length C1, .slice A2 n.antennas.length C2, .slice A3 n.radios.length C3] 35)).alloc (.cells #[.string x.name, .string x.site, .string x.antenna, .string x.radio, .string x.band, .int .i64 x.azimuth, .int .i64 x.tilt, .int .i64 x.above, .int .i64 x.channel] 49)) #[.slice none 0 0, .slice none 0 0, .slice none 0 0, .slice none 0 0] 35
      rw [show ((w.alloc (.cells #[.slice A0 n.sites.length C0, .slice A1 n.sectors.length C1, .slice A2 n.antennas.length C2, .slice A3 n.radios.length C3] 35)).alloc (.cells #[.string x.name, .string x.site, .string x.antenna, .string x.radio, .string x.band, .int .i64 x.azimuth, .int .i64 x.tilt, .int .i64 x.above, .int .i64 x.channel] 49)).heap.size = w.heap.size + 2 by simp] at h
      exact h
    have KR_0 := Lib.hid k_R
    clear k_N k_X k_R
    have BB_0 := Lib.hid BB0_
    clear BB0_
    go_enter Tryz.func31, Tryz.ntmps31
    go_upto_region 1 with (fail)
    generalize (((w.alloc (.cells #[.slice A0 n.sites.length C0, .slice A1 n.sectors.length C1, .slice A2 n.antennas.length C2, .slice A3 n.radios.length C3] 35)).alloc (.cells #[.string x.name, .string x.site, .string x.antenna, .string x.radio, .string x.band, .int .i64 x.azimuth, .int .i64 x.tilt, .int .i64 x.above, .int .i64 x.channel] 49)).alloc (.cells #[.slice none 0 0, .slice none 0 0, .slice none 0 0, .slice none 0 0] 35)) = W0 at *
    have fN0 := blkC (v := .slice A0 n.sites.length C0) KN_0.out 0 rfl
    have fN1 := blkC (v := .slice A1 n.sectors.length C1) KN_0.out 1 rfl
    have fN2 := blkC (v := .slice A2 n.antennas.length C2) KN_0.out 2 rfl
    have fN3 := blkC (v := .slice A3 n.radios.length C3) KN_0.out 3 rfl
    have fX0 := blkC (v := .string x.name) KX_0.out 0 rfl
    have fX1 := blkC (v := .string x.site) KX_0.out 1 rfl
    have fX2 := blkC (v := .string x.antenna) KX_0.out 2 rfl
    have fX3 := blkC (v := .string x.radio) KX_0.out 3 rfl
    have fX4 := blkC (v := .string x.band) KX_0.out 4 rfl
    have fX5 := blkC (v := .int .i64 x.azimuth) KX_0.out 5 rfl
    have fX6 := blkC (v := .int .i64 x.tilt) KX_0.out 6 rfl
    have fX7 := blkC (v := .int .i64 x.above) KX_0.out 7 rfl
    have fX8 := blkC (v := .int .i64 x.channel) KX_0.out 8 rfl
    have fR0 := blkC (v := .slice none 0 0) KR_0.out 0 rfl
    have fR1 := blkC (v := .slice none 0 0) KR_0.out 1 rfl
    have fR2 := blkC (v := .slice none 0 0) KR_0.out 2 rfl
    have fR3 := blkC (v := .slice none 0 0) KR_0.out 3 rfl
    go_wp2_with fail
    refine (l14Ok_any n _ _ _ _ w.heap.size _ ((R0.out.below BB_0.out).mono (by have := BB_0.out.size; omega)) ((R1.out.below BB_0.out).mono (by have := BB_0.out.size; omega)) ((R2.out.below BB_0.out).mono (by have := BB_0.out.size; omega)) ((R3.out.below BB_0.out).mono (by have := BB_0.out.size; omega)) (by omega) (blkC KN_0.out 0 rfl) (blkC KN_0.out 1 rfl) (blkC KN_0.out 2 rfl) (blkC KN_0.out 3 rfl) (by omega) hk_n).mono ?_
    rintro e X1 ⟨rfl, hb⟩
    clear fN0 fN1 fN2 fN3 fX0 fX1 fX2 fX3 fX4 fX5 fX6 fX7 fX8 fR0 fR1 fR2 fR3
    have KN_1 := Lib.hid (blkB KN_0.out hb (by omega))
    have KX_1 := Lib.hid (blkB KX_0.out hb (by omega))
    have KR_1 := Lib.hid (blkB KR_0.out hb (by omega))
    have BB_1 := Lib.hid (BB_0.out.trans (hb.mono (by omega)))
    have zz1 : W0.heap.size ≤ X1.heap.size := hb.size
    clear KN_0 KX_0 KR_0 BB_0 hb
    rw [hv]
    have fN0 := blkC (v := .slice A0 n.sites.length C0) KN_1.out 0 rfl
    have fN1 := blkC (v := .slice A1 n.sectors.length C1) KN_1.out 1 rfl
    have fN2 := blkC (v := .slice A2 n.antennas.length C2) KN_1.out 2 rfl
    have fN3 := blkC (v := .slice A3 n.radios.length C3) KN_1.out 3 rfl
    have fX0 := blkC (v := .string x.name) KX_1.out 0 rfl
    have fX1 := blkC (v := .string x.site) KX_1.out 1 rfl
    have fX2 := blkC (v := .string x.antenna) KX_1.out 2 rfl
    have fX3 := blkC (v := .string x.radio) KX_1.out 3 rfl
    have fX4 := blkC (v := .string x.band) KX_1.out 4 rfl
    have fX5 := blkC (v := .int .i64 x.azimuth) KX_1.out 5 rfl
    have fX6 := blkC (v := .int .i64 x.tilt) KX_1.out 6 rfl
    have fX7 := blkC (v := .int .i64 x.above) KX_1.out 7 rfl
    have fX8 := blkC (v := .int .i64 x.channel) KX_1.out 8 rfl
    have fR0 := blkC (v := .slice none 0 0) KR_1.out 0 rfl
    have fR1 := blkC (v := .slice none 0 0) KR_1.out 1 rfl
    have fR2 := blkC (v := .slice none 0 0) KR_1.out 2 rfl
    have fR3 := blkC (v := .slice none 0 0) KR_1.out 3 rfl
    have zR := blkF KR_1.out
    go_wp2
    have BF := Lib.hid (((((BB_1.out).setCell (p := ⟨w.heap.size + 2, 0, none⟩) (by show w.heap.size ≤ w.heap.size + 2; omega) (.slice none 0 0)).setCell (p := ⟨w.heap.size + 2, 1, none⟩) (by show w.heap.size ≤ w.heap.size + 2; omega) (.slice none 0 0)).setCell (p := ⟨w.heap.size + 2, 2, none⟩) (by show w.heap.size ≤ w.heap.size + 2; omega) (.slice none 0 0)).setCell (p := ⟨w.heap.size + 2, 3, none⟩) (by show w.heap.size ≤ w.heap.size + 2; omega) (.slice none 0 0))
    refine bodyPost_ret (v := .tuple #[.agg #[.slice none 0 0, .slice none 0 0, .slice none 0 0, .slice none 0 0], .int .i64 1]) (by simp [results, Tryz.results31, go_sem, *]) rfl ?_
    rw [HE.out]
    first | exact ⟨none, 0, none, 0, none, 0, none, 0, [], rfl, BF.out, ownV_zero _, In.nil⟩ | exact ⟨none, 0, none, 0, none, 0, none, 0, rfl, BF.out, [], ownV_zero _, In.nil⟩
  by_cases hx : sectorB x = true
  case neg =>
    replace hx : sectorB x = false := Bool.eq_false_iff.2 hx
    have HE := Lib.hid (addSecR_bad2 hv hx)
    have BB0_ : Below w.heap.size w (((w.alloc (.cells #[.slice A0 n.sites.length C0, .slice A1 n.sectors.length C1, .slice A2 n.antennas.length C2, .slice A3 n.radios.length C3] 35)).alloc (.cells #[.string x.name, .string x.site, .string x.antenna, .string x.radio, .string x.band, .int .i64 x.azimuth, .int .i64 x.tilt, .int .i64 x.above, .int .i64 x.channel] 49)).alloc (.cells #[.slice none 0 0, .slice none 0 0, .slice none 0 0, .slice none 0 0] 35)) := Below.alloc (Below.alloc (Below.alloc (Below.refl _ _) (by first | exact Nat.le_refl _ | (simp; done) | (simp; omega)) _) (by first | exact Nat.le_refl _ | (simp; done) | (simp; omega)) _) (by first | exact Nat.le_refl _ | (simp; done) | (simp; omega)) _
    have zz0 : w.heap.size + 3 ≤ (((w.alloc (.cells #[.slice A0 n.sites.length C0, .slice A1 n.sectors.length C1, .slice A2 n.antennas.length C2, .slice A3 n.radios.length C3] 35)).alloc (.cells #[.string x.name, .string x.site, .string x.antenna, .string x.radio, .string x.band, .int .i64 x.azimuth, .int .i64 x.tilt, .int .i64 x.above, .int .i64 x.channel] 49)).alloc (.cells #[.slice none 0 0, .slice none 0 0, .slice none 0 0, .slice none 0 0] 35)).heap.size := by simp
    have k_N : (((w.alloc (.cells #[.slice A0 n.sites.length C0, .slice A1 n.sectors.length C1, .slice A2 n.antennas.length C2, .slice A3 n.radios.length C3] 35)).alloc (.cells #[.string x.name, .string x.site, .string x.antenna, .string x.radio, .string x.band, .int .i64 x.azimuth, .int .i64 x.tilt, .int .i64 x.above, .int .i64 x.channel] 49)).alloc (.cells #[.slice none 0 0, .slice none 0 0, .slice none 0 0, .slice none 0 0] 35)).heap[w.heap.size]? = some (.cells #[.slice A0 n.sites.length C0, .slice A1 n.sectors.length C1, .slice A2 n.antennas.length C2, .slice A3 n.radios.length C3] 35 (0, 0)) := by
      have h := blkN w #[.slice A0 n.sites.length C0, .slice A1 n.sectors.length C1, .slice A2 n.antennas.length C2, .slice A3 n.radios.length C3] 35
      replace h := blkA h (by first | (simp; done) | (simp; omega)) (.cells #[.string x.name, .string x.site, .string x.antenna, .string x.radio, .string x.band, .int .i64 x.azimuth, .int .i64 x.tilt, .int .i64 x.above, .int .i64 x.channel] 49)
      replace h := blkA h (by first | (simp; done) | (simp; omega)) (.cells #[.slice none 0 0, .slice none 0 0, .slice none 0 0, .slice none 0 0] 35)
      exact h
    have KN_0 := Lib.hid k_N
    have k_X : (((w.alloc (.cells #[.slice A0 n.sites.length C0, .slice A1 n.sectors.length C1, .slice A2 n.antennas.length C2, .slice A3 n.radios.length C3] 35)).alloc (.cells #[.string x.name, .string x.site, .string x.antenna, .string x.radio, .string x.band, .int .i64 x.azimuth, .int .i64 x.tilt, .int .i64 x.above, .int .i64 x.channel] 49)).alloc (.cells #[.slice none 0 0, .slice none 0 0, .slice none 0 0, .slice none 0 0] 35)).heap[w.heap.size + 1]? = some (.cells #[.string x.name, .string x.site, .string x.antenna, .string x.radio, .string x.band, .int .i64 x.azimuth, .int .i64 x.tilt, .int .i64 x.above, .int .i64 x.channel] 49 (0, 0)) := by
      have h := blkN (w.alloc (.cells #[.slice A0 n.sites.length C0, .slice A1 n.sectors.length C1, .slice A2 n.antennas.length C2, .slice A3 n.radios.length C3] 35)) #[.string x.name, .string x.site, .string x.antenna, .string x.radio, .string x.band, .int .i64 x.azimuth, .int .i64 x.tilt, .int .i64 x.above, .int .i64 x.channel] 49
      rw [show (w.alloc (.cells #[.slice A0 n.sites.length C0, .slice A1 n.sectors.length C1, .slice A2 n.antennas.length C2, .slice A3 n.radios.length C3] 35)).heap.size = w.heap.size + 1 by simp] at h
      replace h := blkA h (by first | (simp; done) | (simp; omega)) (.cells #[.slice none 0 0, .slice none 0 0, .slice none 0 0, .slice none 0 0] 35)
      exact h
    have KX_0 := Lib.hid k_X
    have k_R : (((w.alloc (.cells #[.slice A0 n.sites.length C0, .slice A1 n.sectors.length C1, .slice A2 n.antennas.length C2, .slice A3 n.radios.length C3] 35)).alloc (.cells #[.string x.name, .string x.site, .string x.antenna, .string x.radio, .string x.band, .int .i64 x.azimuth, .int .i64 x.tilt, .int .i64 x.above, .int .i64 x.channel] 49)).alloc (.cells #[.slice none 0 0, .slice none 0 0, .slice none 0 0, .slice none 0 0] 35)).heap[w.heap.size + 2]? = some (.cells #[.slice none 0 0, .slice none 0 0, .slice none 0 0, .slice none 0 0] 35 (0, 0)) := by
      have h := blkN ((w.alloc (.cells #[.slice A0 n.sites.length C0, .slice A1 n.sectors.length C1, .slice A2 n.antennas.length C2, .slice A3 n.radios.length C3] 35)).alloc (.cells #[.string x.name, .string x.site, .string x.antenna, .string x.radio, .string x.band, .int .i64 x.azimuth, .int .i64 x.tilt, .int .i64 x.above, .int .i64 x.channel] 49)) #[.slice none 0 0, .slice none 0 0, .slice none 0 0, .slice none 0 0] 35
      rw [show ((w.alloc (.cells #[.slice A0 n.sites.length C0, .slice A1 n.sectors.length C1, .slice A2 n.antennas.length C2, .slice A3 n.radios.length C3] 35)).alloc (.cells #[.string x.name, .string x.site, .string x.antenna, .string x.radio, .string x.band, .int .i64 x.azimuth, .int .i64 x.tilt, .int .i64 x.above, .int .i64 x.channel] 49)).heap.size = w.heap.size + 2 by simp] at h
      exact h
    have KR_0 := Lib.hid k_R
    clear k_N k_X k_R
    have BB_0 := Lib.hid BB0_
    clear BB0_
    go_enter Tryz.func31, Tryz.ntmps31
    go_upto_region 1 with (fail)
    generalize (((w.alloc (.cells #[.slice A0 n.sites.length C0, .slice A1 n.sectors.length C1, .slice A2 n.antennas.length C2, .slice A3 n.radios.length C3] 35)).alloc (.cells #[.string x.name, .string x.site, .string x.antenna, .string x.radio, .string x.band, .int .i64 x.azimuth, .int .i64 x.tilt, .int .i64 x.above, .int .i64 x.channel] 49)).alloc (.cells #[.slice none 0 0, .slice none 0 0, .slice none 0 0, .slice none 0 0] 35)) = W0 at *
    have fN0 := blkC (v := .slice A0 n.sites.length C0) KN_0.out 0 rfl
    have fN1 := blkC (v := .slice A1 n.sectors.length C1) KN_0.out 1 rfl
    have fN2 := blkC (v := .slice A2 n.antennas.length C2) KN_0.out 2 rfl
    have fN3 := blkC (v := .slice A3 n.radios.length C3) KN_0.out 3 rfl
    have fX0 := blkC (v := .string x.name) KX_0.out 0 rfl
    have fX1 := blkC (v := .string x.site) KX_0.out 1 rfl
    have fX2 := blkC (v := .string x.antenna) KX_0.out 2 rfl
    have fX3 := blkC (v := .string x.radio) KX_0.out 3 rfl
    have fX4 := blkC (v := .string x.band) KX_0.out 4 rfl
    have fX5 := blkC (v := .int .i64 x.azimuth) KX_0.out 5 rfl
    have fX6 := blkC (v := .int .i64 x.tilt) KX_0.out 6 rfl
    have fX7 := blkC (v := .int .i64 x.above) KX_0.out 7 rfl
    have fX8 := blkC (v := .int .i64 x.channel) KX_0.out 8 rfl
    have fR0 := blkC (v := .slice none 0 0) KR_0.out 0 rfl
    have fR1 := blkC (v := .slice none 0 0) KR_0.out 1 rfl
    have fR2 := blkC (v := .slice none 0 0) KR_0.out 2 rfl
    have fR3 := blkC (v := .slice none 0 0) KR_0.out 3 rfl
    go_wp2_with fail
    refine (l14Ok_any n _ _ _ _ w.heap.size _ ((R0.out.below BB_0.out).mono (by have := BB_0.out.size; omega)) ((R1.out.below BB_0.out).mono (by have := BB_0.out.size; omega)) ((R2.out.below BB_0.out).mono (by have := BB_0.out.size; omega)) ((R3.out.below BB_0.out).mono (by have := BB_0.out.size; omega)) (by omega) (blkC KN_0.out 0 rfl) (blkC KN_0.out 1 rfl) (blkC KN_0.out 2 rfl) (blkC KN_0.out 3 rfl) (by omega) hk_n).mono ?_
    rintro e X1 ⟨rfl, hb⟩
    clear fN0 fN1 fN2 fN3 fX0 fX1 fX2 fX3 fX4 fX5 fX6 fX7 fX8 fR0 fR1 fR2 fR3
    have KN_1 := Lib.hid (blkB KN_0.out hb (by omega))
    have KX_1 := Lib.hid (blkB KX_0.out hb (by omega))
    have KR_1 := Lib.hid (blkB KR_0.out hb (by omega))
    have BB_1 := Lib.hid (BB_0.out.trans (hb.mono (by omega)))
    have zz1 : W0.heap.size ≤ X1.heap.size := hb.size
    clear KN_0 KX_0 KR_0 BB_0 hb
    rw [hv]
    have fN0 := blkC (v := .slice A0 n.sites.length C0) KN_1.out 0 rfl
    have fN1 := blkC (v := .slice A1 n.sectors.length C1) KN_1.out 1 rfl
    have fN2 := blkC (v := .slice A2 n.antennas.length C2) KN_1.out 2 rfl
    have fN3 := blkC (v := .slice A3 n.radios.length C3) KN_1.out 3 rfl
    have fX0 := blkC (v := .string x.name) KX_1.out 0 rfl
    have fX1 := blkC (v := .string x.site) KX_1.out 1 rfl
    have fX2 := blkC (v := .string x.antenna) KX_1.out 2 rfl
    have fX3 := blkC (v := .string x.radio) KX_1.out 3 rfl
    have fX4 := blkC (v := .string x.band) KX_1.out 4 rfl
    have fX5 := blkC (v := .int .i64 x.azimuth) KX_1.out 5 rfl
    have fX6 := blkC (v := .int .i64 x.tilt) KX_1.out 6 rfl
    have fX7 := blkC (v := .int .i64 x.above) KX_1.out 7 rfl
    have fX8 := blkC (v := .int .i64 x.channel) KX_1.out 8 rfl
    have fR0 := blkC (v := .slice none 0 0) KR_1.out 0 rfl
    have fR1 := blkC (v := .slice none 0 0) KR_1.out 1 rfl
    have fR2 := blkC (v := .slice none 0 0) KR_1.out 2 rfl
    have fR3 := blkC (v := .slice none 0 0) KR_1.out 3 rfl
    go_wp2_with fail
    refine (l14Sector_any x (w.heap.size + 1) 0 _ (by have h := blkC (v := .string x.name) KX_1.out 0 rfl; simpa using h) (by have h := blkC (v := .string x.site) KX_1.out 1 rfl; simpa using h) (by have h := blkC (v := .string x.antenna) KX_1.out 2 rfl; simpa using h) (by have h := blkC (v := .string x.radio) KX_1.out 3 rfl; simpa using h) (by have h := blkC (v := .string x.band) KX_1.out 4 rfl; simpa using h) (by have h := blkC (v := .int .i64 x.azimuth) KX_1.out 5 rfl; simpa using h) (by have h := blkC (v := .int .i64 x.tilt) KX_1.out 6 rfl; simpa using h) (by have h := blkC (v := .int .i64 x.above) KX_1.out 7 rfl; simpa using h) (by have h := blkC (v := .int .i64 x.channel) KX_1.out 8 rfl; simpa using h) hko.name hko.site hko.antenna hko.radio hko.band).mono ?_
    rintro e X2 ⟨rfl, hb⟩
    clear fN0 fN1 fN2 fN3 fX0 fX1 fX2 fX3 fX4 fX5 fX6 fX7 fX8 fR0 fR1 fR2 fR3
    have KN_2 := Lib.hid (blkB KN_1.out hb (by omega))
    have KX_2 := Lib.hid (blkB KX_1.out hb (by omega))
    have KR_2 := Lib.hid (blkB KR_1.out hb (by omega))
    have BB_2 := Lib.hid (BB_1.out.trans (hb.mono (by omega)))
    have zz2 : X1.heap.size ≤ X2.heap.size := hb.size
    clear KN_1 KX_1 KR_1 BB_1 hb
    rw [hx]
    have fN0 := blkC (v := .slice A0 n.sites.length C0) KN_2.out 0 rfl
    have fN1 := blkC (v := .slice A1 n.sectors.length C1) KN_2.out 1 rfl
    have fN2 := blkC (v := .slice A2 n.antennas.length C2) KN_2.out 2 rfl
    have fN3 := blkC (v := .slice A3 n.radios.length C3) KN_2.out 3 rfl
    have fX0 := blkC (v := .string x.name) KX_2.out 0 rfl
    have fX1 := blkC (v := .string x.site) KX_2.out 1 rfl
    have fX2 := blkC (v := .string x.antenna) KX_2.out 2 rfl
    have fX3 := blkC (v := .string x.radio) KX_2.out 3 rfl
    have fX4 := blkC (v := .string x.band) KX_2.out 4 rfl
    have fX5 := blkC (v := .int .i64 x.azimuth) KX_2.out 5 rfl
    have fX6 := blkC (v := .int .i64 x.tilt) KX_2.out 6 rfl
    have fX7 := blkC (v := .int .i64 x.above) KX_2.out 7 rfl
    have fX8 := blkC (v := .int .i64 x.channel) KX_2.out 8 rfl
    have fR0 := blkC (v := .slice none 0 0) KR_2.out 0 rfl
    have fR1 := blkC (v := .slice none 0 0) KR_2.out 1 rfl
    have fR2 := blkC (v := .slice none 0 0) KR_2.out 2 rfl
    have fR3 := blkC (v := .slice none 0 0) KR_2.out 3 rfl
    have zR := blkF KR_2.out
    go_wp2
    have BF := Lib.hid (((((BB_2.out).setCell (p := ⟨w.heap.size + 2, 0, none⟩) (by show w.heap.size ≤ w.heap.size + 2; omega) (.slice none 0 0)).setCell (p := ⟨w.heap.size + 2, 1, none⟩) (by show w.heap.size ≤ w.heap.size + 2; omega) (.slice none 0 0)).setCell (p := ⟨w.heap.size + 2, 2, none⟩) (by show w.heap.size ≤ w.heap.size + 2; omega) (.slice none 0 0)).setCell (p := ⟨w.heap.size + 2, 3, none⟩) (by show w.heap.size ≤ w.heap.size + 2; omega) (.slice none 0 0))
    refine bodyPost_ret (v := .tuple #[.agg #[.slice none 0 0, .slice none 0 0, .slice none 0 0, .slice none 0 0], .int .i64 1]) (by simp [results, Tryz.results31, go_sem, *]) rfl ?_
    rw [HE.out]
    first | exact ⟨none, 0, none, 0, none, 0, none, 0, [], rfl, BF.out, ownV_zero _, In.nil⟩ | exact ⟨none, 0, none, 0, none, 0, none, 0, rfl, BF.out, [], ownV_zero _, In.nil⟩
  by_cases hp : refersB n x = true
  case neg =>
    replace hp : refersB n x = false := Bool.eq_false_iff.2 hp
    have HE := Lib.hid (addSecR_parts hv hx hp)
    have BB0_ : Below w.heap.size w (((w.alloc (.cells #[.slice A0 n.sites.length C0, .slice A1 n.sectors.length C1, .slice A2 n.antennas.length C2, .slice A3 n.radios.length C3] 35)).alloc (.cells #[.string x.name, .string x.site, .string x.antenna, .string x.radio, .string x.band, .int .i64 x.azimuth, .int .i64 x.tilt, .int .i64 x.above, .int .i64 x.channel] 49)).alloc (.cells #[.slice none 0 0, .slice none 0 0, .slice none 0 0, .slice none 0 0] 35)) := Below.alloc (Below.alloc (Below.alloc (Below.refl _ _) (by first | exact Nat.le_refl _ | (simp; done) | (simp; omega)) _) (by first | exact Nat.le_refl _ | (simp; done) | (simp; omega)) _) (by first | exact Nat.le_refl _ | (simp; done) | (simp; omega)) _
    have zz0 : w.heap.size + 3 ≤ (((w.alloc (.cells #[.slice A0 n.sites.length C0, .slice A1 n.sectors.length C1, .slice A2 n.antennas.length C2, .slice A3 n.radios.length C3] 35)).alloc (.cells #[.string x.name, .string x.site, .string x.antenna, .string x.radio, .string x.band, .int .i64 x.azimuth, .int .i64 x.tilt, .int .i64 x.above, .int .i64 x.channel] 49)).alloc (.cells #[.slice none 0 0, .slice none 0 0, .slice none 0 0, .slice none 0 0] 35)).heap.size := by simp
    have k_N : (((w.alloc (.cells #[.slice A0 n.sites.length C0, .slice A1 n.sectors.length C1, .slice A2 n.antennas.length C2, .slice A3 n.radios.length C3] 35)).alloc (.cells #[.string x.name, .string x.site, .string x.antenna, .string x.radio, .string x.band, .int .i64 x.azimuth, .int .i64 x.tilt, .int .i64 x.above, .int .i64 x.channel] 49)).alloc (.cells #[.slice none 0 0, .slice none 0 0, .slice none 0 0, .slice none 0 0] 35)).heap[w.heap.size]? = some (.cells #[.slice A0 n.sites.length C0, .slice A1 n.sectors.length C1, .slice A2 n.antennas.length C2, .slice A3 n.radios.length C3] 35 (0, 0)) := by
      have h := blkN w #[.slice A0 n.sites.length C0, .slice A1 n.sectors.length C1, .slice A2 n.antennas.length C2, .slice A3 n.radios.length C3] 35
      replace h := blkA h (by first | (simp; done) | (simp; omega)) (.cells #[.string x.name, .string x.site, .string x.antenna, .string x.radio, .string x.band, .int .i64 x.azimuth, .int .i64 x.tilt, .int .i64 x.above, .int .i64 x.channel] 49)
      replace h := blkA h (by first | (simp; done) | (simp; omega)) (.cells #[.slice none 0 0, .slice none 0 0, .slice none 0 0, .slice none 0 0] 35)
      exact h
    have KN_0 := Lib.hid k_N
    have k_X : (((w.alloc (.cells #[.slice A0 n.sites.length C0, .slice A1 n.sectors.length C1, .slice A2 n.antennas.length C2, .slice A3 n.radios.length C3] 35)).alloc (.cells #[.string x.name, .string x.site, .string x.antenna, .string x.radio, .string x.band, .int .i64 x.azimuth, .int .i64 x.tilt, .int .i64 x.above, .int .i64 x.channel] 49)).alloc (.cells #[.slice none 0 0, .slice none 0 0, .slice none 0 0, .slice none 0 0] 35)).heap[w.heap.size + 1]? = some (.cells #[.string x.name, .string x.site, .string x.antenna, .string x.radio, .string x.band, .int .i64 x.azimuth, .int .i64 x.tilt, .int .i64 x.above, .int .i64 x.channel] 49 (0, 0)) := by
      have h := blkN (w.alloc (.cells #[.slice A0 n.sites.length C0, .slice A1 n.sectors.length C1, .slice A2 n.antennas.length C2, .slice A3 n.radios.length C3] 35)) #[.string x.name, .string x.site, .string x.antenna, .string x.radio, .string x.band, .int .i64 x.azimuth, .int .i64 x.tilt, .int .i64 x.above, .int .i64 x.channel] 49
      rw [show (w.alloc (.cells #[.slice A0 n.sites.length C0, .slice A1 n.sectors.length C1, .slice A2 n.antennas.length C2, .slice A3 n.radios.length C3] 35)).heap.size = w.heap.size + 1 by simp] at h
      replace h := blkA h (by first | (simp; done) | (simp; omega)) (.cells #[.slice none 0 0, .slice none 0 0, .slice none 0 0, .slice none 0 0] 35)
      exact h
    have KX_0 := Lib.hid k_X
    have k_R : (((w.alloc (.cells #[.slice A0 n.sites.length C0, .slice A1 n.sectors.length C1, .slice A2 n.antennas.length C2, .slice A3 n.radios.length C3] 35)).alloc (.cells #[.string x.name, .string x.site, .string x.antenna, .string x.radio, .string x.band, .int .i64 x.azimuth, .int .i64 x.tilt, .int .i64 x.above, .int .i64 x.channel] 49)).alloc (.cells #[.slice none 0 0, .slice none 0 0, .slice none 0 0, .slice none 0 0] 35)).heap[w.heap.size + 2]? = some (.cells #[.slice none 0 0, .slice none 0 0, .slice none 0 0, .slice none 0 0] 35 (0, 0)) := by
      have h := blkN ((w.alloc (.cells #[.slice A0 n.sites.length C0, .slice A1 n.sectors.length C1, .slice A2 n.antennas.length C2, .slice A3 n.radios.length C3] 35)).alloc (.cells #[.string x.name, .string x.site, .string x.antenna, .string x.radio, .string x.band, .int .i64 x.azimuth, .int .i64 x.tilt, .int .i64 x.above, .int .i64 x.channel] 49)) #[.slice none 0 0, .slice none 0 0, .slice none 0 0, .slice none 0 0] 35
      rw [show ((w.alloc (.cells #[.slice A0 n.sites.length C0, .slice A1 n.sectors.length C1, .slice A2 n.antennas.length C2, .slice A3 n.radios.length C3] 35)).alloc (.cells #[.string x.name, .string x.site, .string x.antenna, .string x.radio, .string x.band, .int .i64 x.azimuth, .int .i64 x.tilt, .int .i64 x.above, .int .i64 x.channel] 49)).heap.size = w.heap.size + 2 by simp] at h
      exact h
    have KR_0 := Lib.hid k_R
    clear k_N k_X k_R
    have BB_0 := Lib.hid BB0_
    clear BB0_
    go_enter Tryz.func31, Tryz.ntmps31
    go_upto_region 1 with (fail)
    generalize (((w.alloc (.cells #[.slice A0 n.sites.length C0, .slice A1 n.sectors.length C1, .slice A2 n.antennas.length C2, .slice A3 n.radios.length C3] 35)).alloc (.cells #[.string x.name, .string x.site, .string x.antenna, .string x.radio, .string x.band, .int .i64 x.azimuth, .int .i64 x.tilt, .int .i64 x.above, .int .i64 x.channel] 49)).alloc (.cells #[.slice none 0 0, .slice none 0 0, .slice none 0 0, .slice none 0 0] 35)) = W0 at *
    have fN0 := blkC (v := .slice A0 n.sites.length C0) KN_0.out 0 rfl
    have fN1 := blkC (v := .slice A1 n.sectors.length C1) KN_0.out 1 rfl
    have fN2 := blkC (v := .slice A2 n.antennas.length C2) KN_0.out 2 rfl
    have fN3 := blkC (v := .slice A3 n.radios.length C3) KN_0.out 3 rfl
    have fX0 := blkC (v := .string x.name) KX_0.out 0 rfl
    have fX1 := blkC (v := .string x.site) KX_0.out 1 rfl
    have fX2 := blkC (v := .string x.antenna) KX_0.out 2 rfl
    have fX3 := blkC (v := .string x.radio) KX_0.out 3 rfl
    have fX4 := blkC (v := .string x.band) KX_0.out 4 rfl
    have fX5 := blkC (v := .int .i64 x.azimuth) KX_0.out 5 rfl
    have fX6 := blkC (v := .int .i64 x.tilt) KX_0.out 6 rfl
    have fX7 := blkC (v := .int .i64 x.above) KX_0.out 7 rfl
    have fX8 := blkC (v := .int .i64 x.channel) KX_0.out 8 rfl
    have fR0 := blkC (v := .slice none 0 0) KR_0.out 0 rfl
    have fR1 := blkC (v := .slice none 0 0) KR_0.out 1 rfl
    have fR2 := blkC (v := .slice none 0 0) KR_0.out 2 rfl
    have fR3 := blkC (v := .slice none 0 0) KR_0.out 3 rfl
    go_wp2_with fail
    refine (l14Ok_any n _ _ _ _ w.heap.size _ ((R0.out.below BB_0.out).mono (by have := BB_0.out.size; omega)) ((R1.out.below BB_0.out).mono (by have := BB_0.out.size; omega)) ((R2.out.below BB_0.out).mono (by have := BB_0.out.size; omega)) ((R3.out.below BB_0.out).mono (by have := BB_0.out.size; omega)) (by omega) (blkC KN_0.out 0 rfl) (blkC KN_0.out 1 rfl) (blkC KN_0.out 2 rfl) (blkC KN_0.out 3 rfl) (by omega) hk_n).mono ?_
    rintro e X1 ⟨rfl, hb⟩
    clear fN0 fN1 fN2 fN3 fX0 fX1 fX2 fX3 fX4 fX5 fX6 fX7 fX8 fR0 fR1 fR2 fR3
    have KN_1 := Lib.hid (blkB KN_0.out hb (by omega))
    have KX_1 := Lib.hid (blkB KX_0.out hb (by omega))
    have KR_1 := Lib.hid (blkB KR_0.out hb (by omega))
    have BB_1 := Lib.hid (BB_0.out.trans (hb.mono (by omega)))
    have zz1 : W0.heap.size ≤ X1.heap.size := hb.size
    clear KN_0 KX_0 KR_0 BB_0 hb
    rw [hv]
    have fN0 := blkC (v := .slice A0 n.sites.length C0) KN_1.out 0 rfl
    have fN1 := blkC (v := .slice A1 n.sectors.length C1) KN_1.out 1 rfl
    have fN2 := blkC (v := .slice A2 n.antennas.length C2) KN_1.out 2 rfl
    have fN3 := blkC (v := .slice A3 n.radios.length C3) KN_1.out 3 rfl
    have fX0 := blkC (v := .string x.name) KX_1.out 0 rfl
    have fX1 := blkC (v := .string x.site) KX_1.out 1 rfl
    have fX2 := blkC (v := .string x.antenna) KX_1.out 2 rfl
    have fX3 := blkC (v := .string x.radio) KX_1.out 3 rfl
    have fX4 := blkC (v := .string x.band) KX_1.out 4 rfl
    have fX5 := blkC (v := .int .i64 x.azimuth) KX_1.out 5 rfl
    have fX6 := blkC (v := .int .i64 x.tilt) KX_1.out 6 rfl
    have fX7 := blkC (v := .int .i64 x.above) KX_1.out 7 rfl
    have fX8 := blkC (v := .int .i64 x.channel) KX_1.out 8 rfl
    have fR0 := blkC (v := .slice none 0 0) KR_1.out 0 rfl
    have fR1 := blkC (v := .slice none 0 0) KR_1.out 1 rfl
    have fR2 := blkC (v := .slice none 0 0) KR_1.out 2 rfl
    have fR3 := blkC (v := .slice none 0 0) KR_1.out 3 rfl
    go_wp2_with fail
    refine (l14Sector_any x (w.heap.size + 1) 0 _ (by have h := blkC (v := .string x.name) KX_1.out 0 rfl; simpa using h) (by have h := blkC (v := .string x.site) KX_1.out 1 rfl; simpa using h) (by have h := blkC (v := .string x.antenna) KX_1.out 2 rfl; simpa using h) (by have h := blkC (v := .string x.radio) KX_1.out 3 rfl; simpa using h) (by have h := blkC (v := .string x.band) KX_1.out 4 rfl; simpa using h) (by have h := blkC (v := .int .i64 x.azimuth) KX_1.out 5 rfl; simpa using h) (by have h := blkC (v := .int .i64 x.tilt) KX_1.out 6 rfl; simpa using h) (by have h := blkC (v := .int .i64 x.above) KX_1.out 7 rfl; simpa using h) (by have h := blkC (v := .int .i64 x.channel) KX_1.out 8 rfl; simpa using h) hko.name hko.site hko.antenna hko.radio hko.band).mono ?_
    rintro e X2 ⟨rfl, hb⟩
    clear fN0 fN1 fN2 fN3 fX0 fX1 fX2 fX3 fX4 fX5 fX6 fX7 fX8 fR0 fR1 fR2 fR3
    have KN_2 := Lib.hid (blkB KN_1.out hb (by omega))
    have KX_2 := Lib.hid (blkB KX_1.out hb (by omega))
    have KR_2 := Lib.hid (blkB KR_1.out hb (by omega))
    have BB_2 := Lib.hid (BB_1.out.trans (hb.mono (by omega)))
    have zz2 : X1.heap.size ≤ X2.heap.size := hb.size
    clear KN_1 KX_1 KR_1 BB_1 hb
    rw [hx]
    have fN0 := blkC (v := .slice A0 n.sites.length C0) KN_2.out 0 rfl
    have fN1 := blkC (v := .slice A1 n.sectors.length C1) KN_2.out 1 rfl
    have fN2 := blkC (v := .slice A2 n.antennas.length C2) KN_2.out 2 rfl
    have fN3 := blkC (v := .slice A3 n.radios.length C3) KN_2.out 3 rfl
    have fX0 := blkC (v := .string x.name) KX_2.out 0 rfl
    have fX1 := blkC (v := .string x.site) KX_2.out 1 rfl
    have fX2 := blkC (v := .string x.antenna) KX_2.out 2 rfl
    have fX3 := blkC (v := .string x.radio) KX_2.out 3 rfl
    have fX4 := blkC (v := .string x.band) KX_2.out 4 rfl
    have fX5 := blkC (v := .int .i64 x.azimuth) KX_2.out 5 rfl
    have fX6 := blkC (v := .int .i64 x.tilt) KX_2.out 6 rfl
    have fX7 := blkC (v := .int .i64 x.above) KX_2.out 7 rfl
    have fX8 := blkC (v := .int .i64 x.channel) KX_2.out 8 rfl
    have fR0 := blkC (v := .slice none 0 0) KR_2.out 0 rfl
    have fR1 := blkC (v := .slice none 0 0) KR_2.out 1 rfl
    have fR2 := blkC (v := .slice none 0 0) KR_2.out 2 rfl
    have fR3 := blkC (v := .slice none 0 0) KR_2.out 3 rfl
    go_wp2_with fail
    refine (l14Refers_any n x _ _ _ w.heap.size (w.heap.size + 1) 0 w.heap.size _ (R0.out.below BB_2.out) (R2.out.below BB_2.out) (R3.out.below BB_2.out) (by have := BB_2.out.size; omega) (blkC KN_2.out 0 rfl) (blkC KN_2.out 2 rfl) (blkC KN_2.out 3 rfl) (by have h := blkC (v := .string x.site) KX_2.out 1 rfl; simpa using h) (by have h := blkC (v := .string x.antenna) KX_2.out 2 rfl; simpa using h) (by have h := blkC (v := .string x.radio) KX_2.out 3 rfl; simpa using h) (by omega) (by omega) (by omega)).mono ?_
    rintro e _ ⟨rfl, rfl⟩
    clear fN0 fN1 fN2 fN3 fX0 fX1 fX2 fX3 fX4 fX5 fX6 fX7 fX8 fR0 fR1 fR2 fR3
    rw [hp]
    have fN0 := blkC (v := .slice A0 n.sites.length C0) KN_2.out 0 rfl
    have fN1 := blkC (v := .slice A1 n.sectors.length C1) KN_2.out 1 rfl
    have fN2 := blkC (v := .slice A2 n.antennas.length C2) KN_2.out 2 rfl
    have fN3 := blkC (v := .slice A3 n.radios.length C3) KN_2.out 3 rfl
    have fX0 := blkC (v := .string x.name) KX_2.out 0 rfl
    have fX1 := blkC (v := .string x.site) KX_2.out 1 rfl
    have fX2 := blkC (v := .string x.antenna) KX_2.out 2 rfl
    have fX3 := blkC (v := .string x.radio) KX_2.out 3 rfl
    have fX4 := blkC (v := .string x.band) KX_2.out 4 rfl
    have fX5 := blkC (v := .int .i64 x.azimuth) KX_2.out 5 rfl
    have fX6 := blkC (v := .int .i64 x.tilt) KX_2.out 6 rfl
    have fX7 := blkC (v := .int .i64 x.above) KX_2.out 7 rfl
    have fX8 := blkC (v := .int .i64 x.channel) KX_2.out 8 rfl
    have fR0 := blkC (v := .slice none 0 0) KR_2.out 0 rfl
    have fR1 := blkC (v := .slice none 0 0) KR_2.out 1 rfl
    have fR2 := blkC (v := .slice none 0 0) KR_2.out 2 rfl
    have fR3 := blkC (v := .slice none 0 0) KR_2.out 3 rfl
    have zR := blkF KR_2.out
    go_wp2
    have BF := Lib.hid (((((BB_2.out).setCell (p := ⟨w.heap.size + 2, 0, none⟩) (by show w.heap.size ≤ w.heap.size + 2; omega) (.slice none 0 0)).setCell (p := ⟨w.heap.size + 2, 1, none⟩) (by show w.heap.size ≤ w.heap.size + 2; omega) (.slice none 0 0)).setCell (p := ⟨w.heap.size + 2, 2, none⟩) (by show w.heap.size ≤ w.heap.size + 2; omega) (.slice none 0 0)).setCell (p := ⟨w.heap.size + 2, 3, none⟩) (by show w.heap.size ≤ w.heap.size + 2; omega) (.slice none 0 0))
    refine bodyPost_ret (v := .tuple #[.agg #[.slice none 0 0, .slice none 0 0, .slice none 0 0, .slice none 0 0], .int .i64 3]) (by simp [results, Tryz.results31, go_sem, *]) rfl ?_
    rw [HE.out]
    first | exact ⟨none, 0, none, 0, none, 0, none, 0, [], rfl, BF.out, ownV_zero _, In.nil⟩ | exact ⟨none, 0, none, 0, none, 0, none, 0, rfl, BF.out, [], ownV_zero _, In.nil⟩
  rcases firstIdx_cases' (fun y : DSector => eqS y.name x.name) n.sectors with ⟨hi, hno⟩ | ⟨k, hk, hi, _, _⟩
  case inr =>
    have HE := Lib.hid (addSecR_there hv hx hp hi)
    have HI : Hid (idxSector n.sectors x.name = (k : Int)) := hi
    clear hi
    have BB0_ : Below w.heap.size w (((w.alloc (.cells #[.slice A0 n.sites.length C0, .slice A1 n.sectors.length C1, .slice A2 n.antennas.length C2, .slice A3 n.radios.length C3] 35)).alloc (.cells #[.string x.name, .string x.site, .string x.antenna, .string x.radio, .string x.band, .int .i64 x.azimuth, .int .i64 x.tilt, .int .i64 x.above, .int .i64 x.channel] 49)).alloc (.cells #[.slice none 0 0, .slice none 0 0, .slice none 0 0, .slice none 0 0] 35)) := Below.alloc (Below.alloc (Below.alloc (Below.refl _ _) (by first | exact Nat.le_refl _ | (simp; done) | (simp; omega)) _) (by first | exact Nat.le_refl _ | (simp; done) | (simp; omega)) _) (by first | exact Nat.le_refl _ | (simp; done) | (simp; omega)) _
    have zz0 : w.heap.size + 3 ≤ (((w.alloc (.cells #[.slice A0 n.sites.length C0, .slice A1 n.sectors.length C1, .slice A2 n.antennas.length C2, .slice A3 n.radios.length C3] 35)).alloc (.cells #[.string x.name, .string x.site, .string x.antenna, .string x.radio, .string x.band, .int .i64 x.azimuth, .int .i64 x.tilt, .int .i64 x.above, .int .i64 x.channel] 49)).alloc (.cells #[.slice none 0 0, .slice none 0 0, .slice none 0 0, .slice none 0 0] 35)).heap.size := by simp
    have k_N : (((w.alloc (.cells #[.slice A0 n.sites.length C0, .slice A1 n.sectors.length C1, .slice A2 n.antennas.length C2, .slice A3 n.radios.length C3] 35)).alloc (.cells #[.string x.name, .string x.site, .string x.antenna, .string x.radio, .string x.band, .int .i64 x.azimuth, .int .i64 x.tilt, .int .i64 x.above, .int .i64 x.channel] 49)).alloc (.cells #[.slice none 0 0, .slice none 0 0, .slice none 0 0, .slice none 0 0] 35)).heap[w.heap.size]? = some (.cells #[.slice A0 n.sites.length C0, .slice A1 n.sectors.length C1, .slice A2 n.antennas.length C2, .slice A3 n.radios.length C3] 35 (0, 0)) := by
      have h := blkN w #[.slice A0 n.sites.length C0, .slice A1 n.sectors.length C1, .slice A2 n.antennas.length C2, .slice A3 n.radios.length C3] 35
      replace h := blkA h (by first | (simp; done) | (simp; omega)) (.cells #[.string x.name, .string x.site, .string x.antenna, .string x.radio, .string x.band, .int .i64 x.azimuth, .int .i64 x.tilt, .int .i64 x.above, .int .i64 x.channel] 49)
      replace h := blkA h (by first | (simp; done) | (simp; omega)) (.cells #[.slice none 0 0, .slice none 0 0, .slice none 0 0, .slice none 0 0] 35)
      exact h
    have KN_0 := Lib.hid k_N
    have k_X : (((w.alloc (.cells #[.slice A0 n.sites.length C0, .slice A1 n.sectors.length C1, .slice A2 n.antennas.length C2, .slice A3 n.radios.length C3] 35)).alloc (.cells #[.string x.name, .string x.site, .string x.antenna, .string x.radio, .string x.band, .int .i64 x.azimuth, .int .i64 x.tilt, .int .i64 x.above, .int .i64 x.channel] 49)).alloc (.cells #[.slice none 0 0, .slice none 0 0, .slice none 0 0, .slice none 0 0] 35)).heap[w.heap.size + 1]? = some (.cells #[.string x.name, .string x.site, .string x.antenna, .string x.radio, .string x.band, .int .i64 x.azimuth, .int .i64 x.tilt, .int .i64 x.above, .int .i64 x.channel] 49 (0, 0)) := by
      have h := blkN (w.alloc (.cells #[.slice A0 n.sites.length C0, .slice A1 n.sectors.length C1, .slice A2 n.antennas.length C2, .slice A3 n.radios.length C3] 35)) #[.string x.name, .string x.site, .string x.antenna, .string x.radio, .string x.band, .int .i64 x.azimuth, .int .i64 x.tilt, .int .i64 x.above, .int .i64 x.channel] 49
      rw [show (w.alloc (.cells #[.slice A0 n.sites.length C0, .slice A1 n.sectors.length C1, .slice A2 n.antennas.length C2, .slice A3 n.radios.length C3] 35)).heap.size = w.heap.size + 1 by simp] at h
      replace h := blkA h (by first | (simp; done) | (simp; omega)) (.cells #[.slice none 0 0, .slice none 0 0, .slice none 0 0, .slice none 0 0] 35)
      exact h
    have KX_0 := Lib.hid k_X
    have k_R : (((w.alloc (.cells #[.slice A0 n.sites.length C0, .slice A1 n.sectors.length C1, .slice A2 n.antennas.length C2, .slice A3 n.radios.length C3] 35)).alloc (.cells #[.string x.name, .string x.site, .string x.antenna, .string x.radio, .string x.band, .int .i64 x.azimuth, .int .i64 x.tilt, .int .i64 x.above, .int .i64 x.channel] 49)).alloc (.cells #[.slice none 0 0, .slice none 0 0, .slice none 0 0, .slice none 0 0] 35)).heap[w.heap.size + 2]? = some (.cells #[.slice none 0 0, .slice none 0 0, .slice none 0 0, .slice none 0 0] 35 (0, 0)) := by
      have h := blkN ((w.alloc (.cells #[.slice A0 n.sites.length C0, .slice A1 n.sectors.length C1, .slice A2 n.antennas.length C2, .slice A3 n.radios.length C3] 35)).alloc (.cells #[.string x.name, .string x.site, .string x.antenna, .string x.radio, .string x.band, .int .i64 x.azimuth, .int .i64 x.tilt, .int .i64 x.above, .int .i64 x.channel] 49)) #[.slice none 0 0, .slice none 0 0, .slice none 0 0, .slice none 0 0] 35
      rw [show ((w.alloc (.cells #[.slice A0 n.sites.length C0, .slice A1 n.sectors.length C1, .slice A2 n.antennas.length C2, .slice A3 n.radios.length C3] 35)).alloc (.cells #[.string x.name, .string x.site, .string x.antenna, .string x.radio, .string x.band, .int .i64 x.azimuth, .int .i64 x.tilt, .int .i64 x.above, .int .i64 x.channel] 49)).heap.size = w.heap.size + 2 by simp] at h
      exact h
    have KR_0 := Lib.hid k_R
    clear k_N k_X k_R
    have BB_0 := Lib.hid BB0_
    clear BB0_
    go_enter Tryz.func31, Tryz.ntmps31
    go_upto_region 1 with (fail)
    generalize (((w.alloc (.cells #[.slice A0 n.sites.length C0, .slice A1 n.sectors.length C1, .slice A2 n.antennas.length C2, .slice A3 n.radios.length C3] 35)).alloc (.cells #[.string x.name, .string x.site, .string x.antenna, .string x.radio, .string x.band, .int .i64 x.azimuth, .int .i64 x.tilt, .int .i64 x.above, .int .i64 x.channel] 49)).alloc (.cells #[.slice none 0 0, .slice none 0 0, .slice none 0 0, .slice none 0 0] 35)) = W0 at *
    have fN0 := blkC (v := .slice A0 n.sites.length C0) KN_0.out 0 rfl
    have fN1 := blkC (v := .slice A1 n.sectors.length C1) KN_0.out 1 rfl
    have fN2 := blkC (v := .slice A2 n.antennas.length C2) KN_0.out 2 rfl
    have fN3 := blkC (v := .slice A3 n.radios.length C3) KN_0.out 3 rfl
    have fX0 := blkC (v := .string x.name) KX_0.out 0 rfl
    have fX1 := blkC (v := .string x.site) KX_0.out 1 rfl
    have fX2 := blkC (v := .string x.antenna) KX_0.out 2 rfl
    have fX3 := blkC (v := .string x.radio) KX_0.out 3 rfl
    have fX4 := blkC (v := .string x.band) KX_0.out 4 rfl
    have fX5 := blkC (v := .int .i64 x.azimuth) KX_0.out 5 rfl
    have fX6 := blkC (v := .int .i64 x.tilt) KX_0.out 6 rfl
    have fX7 := blkC (v := .int .i64 x.above) KX_0.out 7 rfl
    have fX8 := blkC (v := .int .i64 x.channel) KX_0.out 8 rfl
    have fR0 := blkC (v := .slice none 0 0) KR_0.out 0 rfl
    have fR1 := blkC (v := .slice none 0 0) KR_0.out 1 rfl
    have fR2 := blkC (v := .slice none 0 0) KR_0.out 2 rfl
    have fR3 := blkC (v := .slice none 0 0) KR_0.out 3 rfl
    go_wp2_with fail
    refine (l14Ok_any n _ _ _ _ w.heap.size _ ((R0.out.below BB_0.out).mono (by have := BB_0.out.size; omega)) ((R1.out.below BB_0.out).mono (by have := BB_0.out.size; omega)) ((R2.out.below BB_0.out).mono (by have := BB_0.out.size; omega)) ((R3.out.below BB_0.out).mono (by have := BB_0.out.size; omega)) (by omega) (blkC KN_0.out 0 rfl) (blkC KN_0.out 1 rfl) (blkC KN_0.out 2 rfl) (blkC KN_0.out 3 rfl) (by omega) hk_n).mono ?_
    rintro e X1 ⟨rfl, hb⟩
    clear fN0 fN1 fN2 fN3 fX0 fX1 fX2 fX3 fX4 fX5 fX6 fX7 fX8 fR0 fR1 fR2 fR3
    have KN_1 := Lib.hid (blkB KN_0.out hb (by omega))
    have KX_1 := Lib.hid (blkB KX_0.out hb (by omega))
    have KR_1 := Lib.hid (blkB KR_0.out hb (by omega))
    have BB_1 := Lib.hid (BB_0.out.trans (hb.mono (by omega)))
    have zz1 : W0.heap.size ≤ X1.heap.size := hb.size
    clear KN_0 KX_0 KR_0 BB_0 hb
    rw [hv]
    have fN0 := blkC (v := .slice A0 n.sites.length C0) KN_1.out 0 rfl
    have fN1 := blkC (v := .slice A1 n.sectors.length C1) KN_1.out 1 rfl
    have fN2 := blkC (v := .slice A2 n.antennas.length C2) KN_1.out 2 rfl
    have fN3 := blkC (v := .slice A3 n.radios.length C3) KN_1.out 3 rfl
    have fX0 := blkC (v := .string x.name) KX_1.out 0 rfl
    have fX1 := blkC (v := .string x.site) KX_1.out 1 rfl
    have fX2 := blkC (v := .string x.antenna) KX_1.out 2 rfl
    have fX3 := blkC (v := .string x.radio) KX_1.out 3 rfl
    have fX4 := blkC (v := .string x.band) KX_1.out 4 rfl
    have fX5 := blkC (v := .int .i64 x.azimuth) KX_1.out 5 rfl
    have fX6 := blkC (v := .int .i64 x.tilt) KX_1.out 6 rfl
    have fX7 := blkC (v := .int .i64 x.above) KX_1.out 7 rfl
    have fX8 := blkC (v := .int .i64 x.channel) KX_1.out 8 rfl
    have fR0 := blkC (v := .slice none 0 0) KR_1.out 0 rfl
    have fR1 := blkC (v := .slice none 0 0) KR_1.out 1 rfl
    have fR2 := blkC (v := .slice none 0 0) KR_1.out 2 rfl
    have fR3 := blkC (v := .slice none 0 0) KR_1.out 3 rfl
    go_wp2_with fail
    refine (l14Sector_any x (w.heap.size + 1) 0 _ (by have h := blkC (v := .string x.name) KX_1.out 0 rfl; simpa using h) (by have h := blkC (v := .string x.site) KX_1.out 1 rfl; simpa using h) (by have h := blkC (v := .string x.antenna) KX_1.out 2 rfl; simpa using h) (by have h := blkC (v := .string x.radio) KX_1.out 3 rfl; simpa using h) (by have h := blkC (v := .string x.band) KX_1.out 4 rfl; simpa using h) (by have h := blkC (v := .int .i64 x.azimuth) KX_1.out 5 rfl; simpa using h) (by have h := blkC (v := .int .i64 x.tilt) KX_1.out 6 rfl; simpa using h) (by have h := blkC (v := .int .i64 x.above) KX_1.out 7 rfl; simpa using h) (by have h := blkC (v := .int .i64 x.channel) KX_1.out 8 rfl; simpa using h) hko.name hko.site hko.antenna hko.radio hko.band).mono ?_
    rintro e X2 ⟨rfl, hb⟩
    clear fN0 fN1 fN2 fN3 fX0 fX1 fX2 fX3 fX4 fX5 fX6 fX7 fX8 fR0 fR1 fR2 fR3
    have KN_2 := Lib.hid (blkB KN_1.out hb (by omega))
    have KX_2 := Lib.hid (blkB KX_1.out hb (by omega))
    have KR_2 := Lib.hid (blkB KR_1.out hb (by omega))
    have BB_2 := Lib.hid (BB_1.out.trans (hb.mono (by omega)))
    have zz2 : X1.heap.size ≤ X2.heap.size := hb.size
    clear KN_1 KX_1 KR_1 BB_1 hb
    rw [hx]
    have fN0 := blkC (v := .slice A0 n.sites.length C0) KN_2.out 0 rfl
    have fN1 := blkC (v := .slice A1 n.sectors.length C1) KN_2.out 1 rfl
    have fN2 := blkC (v := .slice A2 n.antennas.length C2) KN_2.out 2 rfl
    have fN3 := blkC (v := .slice A3 n.radios.length C3) KN_2.out 3 rfl
    have fX0 := blkC (v := .string x.name) KX_2.out 0 rfl
    have fX1 := blkC (v := .string x.site) KX_2.out 1 rfl
    have fX2 := blkC (v := .string x.antenna) KX_2.out 2 rfl
    have fX3 := blkC (v := .string x.radio) KX_2.out 3 rfl
    have fX4 := blkC (v := .string x.band) KX_2.out 4 rfl
    have fX5 := blkC (v := .int .i64 x.azimuth) KX_2.out 5 rfl
    have fX6 := blkC (v := .int .i64 x.tilt) KX_2.out 6 rfl
    have fX7 := blkC (v := .int .i64 x.above) KX_2.out 7 rfl
    have fX8 := blkC (v := .int .i64 x.channel) KX_2.out 8 rfl
    have fR0 := blkC (v := .slice none 0 0) KR_2.out 0 rfl
    have fR1 := blkC (v := .slice none 0 0) KR_2.out 1 rfl
    have fR2 := blkC (v := .slice none 0 0) KR_2.out 2 rfl
    have fR3 := blkC (v := .slice none 0 0) KR_2.out 3 rfl
    go_wp2_with fail
    refine (l14Refers_any n x _ _ _ w.heap.size (w.heap.size + 1) 0 w.heap.size _ (R0.out.below BB_2.out) (R2.out.below BB_2.out) (R3.out.below BB_2.out) (by have := BB_2.out.size; omega) (blkC KN_2.out 0 rfl) (blkC KN_2.out 2 rfl) (blkC KN_2.out 3 rfl) (by have h := blkC (v := .string x.site) KX_2.out 1 rfl; simpa using h) (by have h := blkC (v := .string x.antenna) KX_2.out 2 rfl; simpa using h) (by have h := blkC (v := .string x.radio) KX_2.out 3 rfl; simpa using h) (by omega) (by omega) (by omega)).mono ?_
    rintro e _ ⟨rfl, rfl⟩
    clear fN0 fN1 fN2 fN3 fX0 fX1 fX2 fX3 fX4 fX5 fX6 fX7 fX8 fR0 fR1 fR2 fR3
    rw [hp]
    have fN0 := blkC (v := .slice A0 n.sites.length C0) KN_2.out 0 rfl
    have fN1 := blkC (v := .slice A1 n.sectors.length C1) KN_2.out 1 rfl
    have fN2 := blkC (v := .slice A2 n.antennas.length C2) KN_2.out 2 rfl
    have fN3 := blkC (v := .slice A3 n.radios.length C3) KN_2.out 3 rfl
    have fX0 := blkC (v := .string x.name) KX_2.out 0 rfl
    have fX1 := blkC (v := .string x.site) KX_2.out 1 rfl
    have fX2 := blkC (v := .string x.antenna) KX_2.out 2 rfl
    have fX3 := blkC (v := .string x.radio) KX_2.out 3 rfl
    have fX4 := blkC (v := .string x.band) KX_2.out 4 rfl
    have fX5 := blkC (v := .int .i64 x.azimuth) KX_2.out 5 rfl
    have fX6 := blkC (v := .int .i64 x.tilt) KX_2.out 6 rfl
    have fX7 := blkC (v := .int .i64 x.above) KX_2.out 7 rfl
    have fX8 := blkC (v := .int .i64 x.channel) KX_2.out 8 rfl
    have fR0 := blkC (v := .slice none 0 0) KR_2.out 0 rfl
    have fR1 := blkC (v := .slice none 0 0) KR_2.out 1 rfl
    have fR2 := blkC (v := .slice none 0 0) KR_2.out 2 rfl
    have fR3 := blkC (v := .slice none 0 0) KR_2.out 3 rfl
    go_wp2_with fail
    refine (l14Find_any n.sectors x.name _ w.heap.size w.heap.size _ (R1.out.below BB_2.out) (by have := BB_2.out.size; omega) (blkC KN_2.out 1 rfl) (by omega)).mono ?_
    rintro e _ ⟨rfl, rfl⟩
    clear fN0 fN1 fN2 fN3 fX0 fX1 fX2 fX3 fX4 fX5 fX6 fX7 fX8 fR0 fR1 fR2 fR3
    rw [HI.out]
    have fN0 := blkC (v := .slice A0 n.sites.length C0) KN_2.out 0 rfl
    have fN1 := blkC (v := .slice A1 n.sectors.length C1) KN_2.out 1 rfl
    have fN2 := blkC (v := .slice A2 n.antennas.length C2) KN_2.out 2 rfl
    have fN3 := blkC (v := .slice A3 n.radios.length C3) KN_2.out 3 rfl
    have fX0 := blkC (v := .string x.name) KX_2.out 0 rfl
    have fX1 := blkC (v := .string x.site) KX_2.out 1 rfl
    have fX2 := blkC (v := .string x.antenna) KX_2.out 2 rfl
    have fX3 := blkC (v := .string x.radio) KX_2.out 3 rfl
    have fX4 := blkC (v := .string x.band) KX_2.out 4 rfl
    have fX5 := blkC (v := .int .i64 x.azimuth) KX_2.out 5 rfl
    have fX6 := blkC (v := .int .i64 x.tilt) KX_2.out 6 rfl
    have fX7 := blkC (v := .int .i64 x.above) KX_2.out 7 rfl
    have fX8 := blkC (v := .int .i64 x.channel) KX_2.out 8 rfl
    have fR0 := blkC (v := .slice none 0 0) KR_2.out 0 rfl
    have fR1 := blkC (v := .slice none 0 0) KR_2.out 1 rfl
    have fR2 := blkC (v := .slice none 0 0) KR_2.out 2 rfl
    have fR3 := blkC (v := .slice none 0 0) KR_2.out 3 rfl
    have zR := blkF KR_2.out
    go_wp2
    have BF := Lib.hid (((((BB_2.out).setCell (p := ⟨w.heap.size + 2, 0, none⟩) (by show w.heap.size ≤ w.heap.size + 2; omega) (.slice none 0 0)).setCell (p := ⟨w.heap.size + 2, 1, none⟩) (by show w.heap.size ≤ w.heap.size + 2; omega) (.slice none 0 0)).setCell (p := ⟨w.heap.size + 2, 2, none⟩) (by show w.heap.size ≤ w.heap.size + 2; omega) (.slice none 0 0)).setCell (p := ⟨w.heap.size + 2, 3, none⟩) (by show w.heap.size ≤ w.heap.size + 2; omega) (.slice none 0 0))
    refine bodyPost_ret (v := .tuple #[.agg #[.slice none 0 0, .slice none 0 0, .slice none 0 0, .slice none 0 0], .int .i64 4]) (by simp [results, Tryz.results31, go_sem, *]) rfl ?_
    rw [HE.out]
    first | exact ⟨none, 0, none, 0, none, 0, none, 0, [], rfl, BF.out, ownV_zero _, In.nil⟩ | exact ⟨none, 0, none, 0, none, 0, none, 0, rfl, BF.out, [], ownV_zero _, In.nil⟩
  have HNO := Lib.hid (none_eqS (f := DSector.name) hno)
  clear hno
  by_cases hlen : n.sectors.length = 24
  · have HE := Lib.hid (addSecR_full hv hx hp hi hlen)
    have HI : Hid (idxSector n.sectors x.name = -1) := hi
    have hl2 : ((n.sectors.length : Int) == 24) = true := by simp; omega
    have HLN := Lib.hid hlen
    clear hi hlen
    have BB0_ : Below w.heap.size w (((w.alloc (.cells #[.slice A0 n.sites.length C0, .slice A1 n.sectors.length C1, .slice A2 n.antennas.length C2, .slice A3 n.radios.length C3] 35)).alloc (.cells #[.string x.name, .string x.site, .string x.antenna, .string x.radio, .string x.band, .int .i64 x.azimuth, .int .i64 x.tilt, .int .i64 x.above, .int .i64 x.channel] 49)).alloc (.cells #[.slice none 0 0, .slice none 0 0, .slice none 0 0, .slice none 0 0] 35)) := Below.alloc (Below.alloc (Below.alloc (Below.refl _ _) (by first | exact Nat.le_refl _ | (simp; done) | (simp; omega)) _) (by first | exact Nat.le_refl _ | (simp; done) | (simp; omega)) _) (by first | exact Nat.le_refl _ | (simp; done) | (simp; omega)) _
    have zz0 : w.heap.size + 3 ≤ (((w.alloc (.cells #[.slice A0 n.sites.length C0, .slice A1 n.sectors.length C1, .slice A2 n.antennas.length C2, .slice A3 n.radios.length C3] 35)).alloc (.cells #[.string x.name, .string x.site, .string x.antenna, .string x.radio, .string x.band, .int .i64 x.azimuth, .int .i64 x.tilt, .int .i64 x.above, .int .i64 x.channel] 49)).alloc (.cells #[.slice none 0 0, .slice none 0 0, .slice none 0 0, .slice none 0 0] 35)).heap.size := by simp
    have k_N : (((w.alloc (.cells #[.slice A0 n.sites.length C0, .slice A1 n.sectors.length C1, .slice A2 n.antennas.length C2, .slice A3 n.radios.length C3] 35)).alloc (.cells #[.string x.name, .string x.site, .string x.antenna, .string x.radio, .string x.band, .int .i64 x.azimuth, .int .i64 x.tilt, .int .i64 x.above, .int .i64 x.channel] 49)).alloc (.cells #[.slice none 0 0, .slice none 0 0, .slice none 0 0, .slice none 0 0] 35)).heap[w.heap.size]? = some (.cells #[.slice A0 n.sites.length C0, .slice A1 n.sectors.length C1, .slice A2 n.antennas.length C2, .slice A3 n.radios.length C3] 35 (0, 0)) := by
      have h := blkN w #[.slice A0 n.sites.length C0, .slice A1 n.sectors.length C1, .slice A2 n.antennas.length C2, .slice A3 n.radios.length C3] 35
      replace h := blkA h (by first | (simp; done) | (simp; omega)) (.cells #[.string x.name, .string x.site, .string x.antenna, .string x.radio, .string x.band, .int .i64 x.azimuth, .int .i64 x.tilt, .int .i64 x.above, .int .i64 x.channel] 49)
      replace h := blkA h (by first | (simp; done) | (simp; omega)) (.cells #[.slice none 0 0, .slice none 0 0, .slice none 0 0, .slice none 0 0] 35)
      exact h
    have KN_0 := Lib.hid k_N
    have k_X : (((w.alloc (.cells #[.slice A0 n.sites.length C0, .slice A1 n.sectors.length C1, .slice A2 n.antennas.length C2, .slice A3 n.radios.length C3] 35)).alloc (.cells #[.string x.name, .string x.site, .string x.antenna, .string x.radio, .string x.band, .int .i64 x.azimuth, .int .i64 x.tilt, .int .i64 x.above, .int .i64 x.channel] 49)).alloc (.cells #[.slice none 0 0, .slice none 0 0, .slice none 0 0, .slice none 0 0] 35)).heap[w.heap.size + 1]? = some (.cells #[.string x.name, .string x.site, .string x.antenna, .string x.radio, .string x.band, .int .i64 x.azimuth, .int .i64 x.tilt, .int .i64 x.above, .int .i64 x.channel] 49 (0, 0)) := by
      have h := blkN (w.alloc (.cells #[.slice A0 n.sites.length C0, .slice A1 n.sectors.length C1, .slice A2 n.antennas.length C2, .slice A3 n.radios.length C3] 35)) #[.string x.name, .string x.site, .string x.antenna, .string x.radio, .string x.band, .int .i64 x.azimuth, .int .i64 x.tilt, .int .i64 x.above, .int .i64 x.channel] 49
      rw [show (w.alloc (.cells #[.slice A0 n.sites.length C0, .slice A1 n.sectors.length C1, .slice A2 n.antennas.length C2, .slice A3 n.radios.length C3] 35)).heap.size = w.heap.size + 1 by simp] at h
      replace h := blkA h (by first | (simp; done) | (simp; omega)) (.cells #[.slice none 0 0, .slice none 0 0, .slice none 0 0, .slice none 0 0] 35)
      exact h
    have KX_0 := Lib.hid k_X
    have k_R : (((w.alloc (.cells #[.slice A0 n.sites.length C0, .slice A1 n.sectors.length C1, .slice A2 n.antennas.length C2, .slice A3 n.radios.length C3] 35)).alloc (.cells #[.string x.name, .string x.site, .string x.antenna, .string x.radio, .string x.band, .int .i64 x.azimuth, .int .i64 x.tilt, .int .i64 x.above, .int .i64 x.channel] 49)).alloc (.cells #[.slice none 0 0, .slice none 0 0, .slice none 0 0, .slice none 0 0] 35)).heap[w.heap.size + 2]? = some (.cells #[.slice none 0 0, .slice none 0 0, .slice none 0 0, .slice none 0 0] 35 (0, 0)) := by
      have h := blkN ((w.alloc (.cells #[.slice A0 n.sites.length C0, .slice A1 n.sectors.length C1, .slice A2 n.antennas.length C2, .slice A3 n.radios.length C3] 35)).alloc (.cells #[.string x.name, .string x.site, .string x.antenna, .string x.radio, .string x.band, .int .i64 x.azimuth, .int .i64 x.tilt, .int .i64 x.above, .int .i64 x.channel] 49)) #[.slice none 0 0, .slice none 0 0, .slice none 0 0, .slice none 0 0] 35
      rw [show ((w.alloc (.cells #[.slice A0 n.sites.length C0, .slice A1 n.sectors.length C1, .slice A2 n.antennas.length C2, .slice A3 n.radios.length C3] 35)).alloc (.cells #[.string x.name, .string x.site, .string x.antenna, .string x.radio, .string x.band, .int .i64 x.azimuth, .int .i64 x.tilt, .int .i64 x.above, .int .i64 x.channel] 49)).heap.size = w.heap.size + 2 by simp] at h
      exact h
    have KR_0 := Lib.hid k_R
    clear k_N k_X k_R
    have BB_0 := Lib.hid BB0_
    clear BB0_
    go_enter Tryz.func31, Tryz.ntmps31
    go_upto_region 1 with (fail)
    generalize (((w.alloc (.cells #[.slice A0 n.sites.length C0, .slice A1 n.sectors.length C1, .slice A2 n.antennas.length C2, .slice A3 n.radios.length C3] 35)).alloc (.cells #[.string x.name, .string x.site, .string x.antenna, .string x.radio, .string x.band, .int .i64 x.azimuth, .int .i64 x.tilt, .int .i64 x.above, .int .i64 x.channel] 49)).alloc (.cells #[.slice none 0 0, .slice none 0 0, .slice none 0 0, .slice none 0 0] 35)) = W0 at *
    have fN0 := blkC (v := .slice A0 n.sites.length C0) KN_0.out 0 rfl
    have fN1 := blkC (v := .slice A1 n.sectors.length C1) KN_0.out 1 rfl
    have fN2 := blkC (v := .slice A2 n.antennas.length C2) KN_0.out 2 rfl
    have fN3 := blkC (v := .slice A3 n.radios.length C3) KN_0.out 3 rfl
    have fX0 := blkC (v := .string x.name) KX_0.out 0 rfl
    have fX1 := blkC (v := .string x.site) KX_0.out 1 rfl
    have fX2 := blkC (v := .string x.antenna) KX_0.out 2 rfl
    have fX3 := blkC (v := .string x.radio) KX_0.out 3 rfl
    have fX4 := blkC (v := .string x.band) KX_0.out 4 rfl
    have fX5 := blkC (v := .int .i64 x.azimuth) KX_0.out 5 rfl
    have fX6 := blkC (v := .int .i64 x.tilt) KX_0.out 6 rfl
    have fX7 := blkC (v := .int .i64 x.above) KX_0.out 7 rfl
    have fX8 := blkC (v := .int .i64 x.channel) KX_0.out 8 rfl
    have fR0 := blkC (v := .slice none 0 0) KR_0.out 0 rfl
    have fR1 := blkC (v := .slice none 0 0) KR_0.out 1 rfl
    have fR2 := blkC (v := .slice none 0 0) KR_0.out 2 rfl
    have fR3 := blkC (v := .slice none 0 0) KR_0.out 3 rfl
    go_wp2_with fail
    refine (l14Ok_any n _ _ _ _ w.heap.size _ ((R0.out.below BB_0.out).mono (by have := BB_0.out.size; omega)) ((R1.out.below BB_0.out).mono (by have := BB_0.out.size; omega)) ((R2.out.below BB_0.out).mono (by have := BB_0.out.size; omega)) ((R3.out.below BB_0.out).mono (by have := BB_0.out.size; omega)) (by omega) (blkC KN_0.out 0 rfl) (blkC KN_0.out 1 rfl) (blkC KN_0.out 2 rfl) (blkC KN_0.out 3 rfl) (by omega) hk_n).mono ?_
    rintro e X1 ⟨rfl, hb⟩
    clear fN0 fN1 fN2 fN3 fX0 fX1 fX2 fX3 fX4 fX5 fX6 fX7 fX8 fR0 fR1 fR2 fR3
    have KN_1 := Lib.hid (blkB KN_0.out hb (by omega))
    have KX_1 := Lib.hid (blkB KX_0.out hb (by omega))
    have KR_1 := Lib.hid (blkB KR_0.out hb (by omega))
    have BB_1 := Lib.hid (BB_0.out.trans (hb.mono (by omega)))
    have zz1 : W0.heap.size ≤ X1.heap.size := hb.size
    clear KN_0 KX_0 KR_0 BB_0 hb
    rw [hv]
    have fN0 := blkC (v := .slice A0 n.sites.length C0) KN_1.out 0 rfl
    have fN1 := blkC (v := .slice A1 n.sectors.length C1) KN_1.out 1 rfl
    have fN2 := blkC (v := .slice A2 n.antennas.length C2) KN_1.out 2 rfl
    have fN3 := blkC (v := .slice A3 n.radios.length C3) KN_1.out 3 rfl
    have fX0 := blkC (v := .string x.name) KX_1.out 0 rfl
    have fX1 := blkC (v := .string x.site) KX_1.out 1 rfl
    have fX2 := blkC (v := .string x.antenna) KX_1.out 2 rfl
    have fX3 := blkC (v := .string x.radio) KX_1.out 3 rfl
    have fX4 := blkC (v := .string x.band) KX_1.out 4 rfl
    have fX5 := blkC (v := .int .i64 x.azimuth) KX_1.out 5 rfl
    have fX6 := blkC (v := .int .i64 x.tilt) KX_1.out 6 rfl
    have fX7 := blkC (v := .int .i64 x.above) KX_1.out 7 rfl
    have fX8 := blkC (v := .int .i64 x.channel) KX_1.out 8 rfl
    have fR0 := blkC (v := .slice none 0 0) KR_1.out 0 rfl
    have fR1 := blkC (v := .slice none 0 0) KR_1.out 1 rfl
    have fR2 := blkC (v := .slice none 0 0) KR_1.out 2 rfl
    have fR3 := blkC (v := .slice none 0 0) KR_1.out 3 rfl
    go_wp2_with fail
    refine (l14Sector_any x (w.heap.size + 1) 0 _ (by have h := blkC (v := .string x.name) KX_1.out 0 rfl; simpa using h) (by have h := blkC (v := .string x.site) KX_1.out 1 rfl; simpa using h) (by have h := blkC (v := .string x.antenna) KX_1.out 2 rfl; simpa using h) (by have h := blkC (v := .string x.radio) KX_1.out 3 rfl; simpa using h) (by have h := blkC (v := .string x.band) KX_1.out 4 rfl; simpa using h) (by have h := blkC (v := .int .i64 x.azimuth) KX_1.out 5 rfl; simpa using h) (by have h := blkC (v := .int .i64 x.tilt) KX_1.out 6 rfl; simpa using h) (by have h := blkC (v := .int .i64 x.above) KX_1.out 7 rfl; simpa using h) (by have h := blkC (v := .int .i64 x.channel) KX_1.out 8 rfl; simpa using h) hko.name hko.site hko.antenna hko.radio hko.band).mono ?_
    rintro e X2 ⟨rfl, hb⟩
    clear fN0 fN1 fN2 fN3 fX0 fX1 fX2 fX3 fX4 fX5 fX6 fX7 fX8 fR0 fR1 fR2 fR3
    have KN_2 := Lib.hid (blkB KN_1.out hb (by omega))
    have KX_2 := Lib.hid (blkB KX_1.out hb (by omega))
    have KR_2 := Lib.hid (blkB KR_1.out hb (by omega))
    have BB_2 := Lib.hid (BB_1.out.trans (hb.mono (by omega)))
    have zz2 : X1.heap.size ≤ X2.heap.size := hb.size
    clear KN_1 KX_1 KR_1 BB_1 hb
    rw [hx]
    have fN0 := blkC (v := .slice A0 n.sites.length C0) KN_2.out 0 rfl
    have fN1 := blkC (v := .slice A1 n.sectors.length C1) KN_2.out 1 rfl
    have fN2 := blkC (v := .slice A2 n.antennas.length C2) KN_2.out 2 rfl
    have fN3 := blkC (v := .slice A3 n.radios.length C3) KN_2.out 3 rfl
    have fX0 := blkC (v := .string x.name) KX_2.out 0 rfl
    have fX1 := blkC (v := .string x.site) KX_2.out 1 rfl
    have fX2 := blkC (v := .string x.antenna) KX_2.out 2 rfl
    have fX3 := blkC (v := .string x.radio) KX_2.out 3 rfl
    have fX4 := blkC (v := .string x.band) KX_2.out 4 rfl
    have fX5 := blkC (v := .int .i64 x.azimuth) KX_2.out 5 rfl
    have fX6 := blkC (v := .int .i64 x.tilt) KX_2.out 6 rfl
    have fX7 := blkC (v := .int .i64 x.above) KX_2.out 7 rfl
    have fX8 := blkC (v := .int .i64 x.channel) KX_2.out 8 rfl
    have fR0 := blkC (v := .slice none 0 0) KR_2.out 0 rfl
    have fR1 := blkC (v := .slice none 0 0) KR_2.out 1 rfl
    have fR2 := blkC (v := .slice none 0 0) KR_2.out 2 rfl
    have fR3 := blkC (v := .slice none 0 0) KR_2.out 3 rfl
    go_wp2_with fail
    refine (l14Refers_any n x _ _ _ w.heap.size (w.heap.size + 1) 0 w.heap.size _ (R0.out.below BB_2.out) (R2.out.below BB_2.out) (R3.out.below BB_2.out) (by have := BB_2.out.size; omega) (blkC KN_2.out 0 rfl) (blkC KN_2.out 2 rfl) (blkC KN_2.out 3 rfl) (by have h := blkC (v := .string x.site) KX_2.out 1 rfl; simpa using h) (by have h := blkC (v := .string x.antenna) KX_2.out 2 rfl; simpa using h) (by have h := blkC (v := .string x.radio) KX_2.out 3 rfl; simpa using h) (by omega) (by omega) (by omega)).mono ?_
    rintro e _ ⟨rfl, rfl⟩
    clear fN0 fN1 fN2 fN3 fX0 fX1 fX2 fX3 fX4 fX5 fX6 fX7 fX8 fR0 fR1 fR2 fR3
    rw [hp]
    have fN0 := blkC (v := .slice A0 n.sites.length C0) KN_2.out 0 rfl
    have fN1 := blkC (v := .slice A1 n.sectors.length C1) KN_2.out 1 rfl
    have fN2 := blkC (v := .slice A2 n.antennas.length C2) KN_2.out 2 rfl
    have fN3 := blkC (v := .slice A3 n.radios.length C3) KN_2.out 3 rfl
    have fX0 := blkC (v := .string x.name) KX_2.out 0 rfl
    have fX1 := blkC (v := .string x.site) KX_2.out 1 rfl
    have fX2 := blkC (v := .string x.antenna) KX_2.out 2 rfl
    have fX3 := blkC (v := .string x.radio) KX_2.out 3 rfl
    have fX4 := blkC (v := .string x.band) KX_2.out 4 rfl
    have fX5 := blkC (v := .int .i64 x.azimuth) KX_2.out 5 rfl
    have fX6 := blkC (v := .int .i64 x.tilt) KX_2.out 6 rfl
    have fX7 := blkC (v := .int .i64 x.above) KX_2.out 7 rfl
    have fX8 := blkC (v := .int .i64 x.channel) KX_2.out 8 rfl
    have fR0 := blkC (v := .slice none 0 0) KR_2.out 0 rfl
    have fR1 := blkC (v := .slice none 0 0) KR_2.out 1 rfl
    have fR2 := blkC (v := .slice none 0 0) KR_2.out 2 rfl
    have fR3 := blkC (v := .slice none 0 0) KR_2.out 3 rfl
    go_wp2_with fail
    refine (l14Find_any n.sectors x.name _ w.heap.size w.heap.size _ (R1.out.below BB_2.out) (by have := BB_2.out.size; omega) (blkC KN_2.out 1 rfl) (by omega)).mono ?_
    rintro e _ ⟨rfl, rfl⟩
    clear fN0 fN1 fN2 fN3 fX0 fX1 fX2 fX3 fX4 fX5 fX6 fX7 fX8 fR0 fR1 fR2 fR3
    rw [HI.out]
    have fN0 := blkC (v := .slice A0 n.sites.length C0) KN_2.out 0 rfl
    have fN1 := blkC (v := .slice A1 n.sectors.length C1) KN_2.out 1 rfl
    have fN2 := blkC (v := .slice A2 n.antennas.length C2) KN_2.out 2 rfl
    have fN3 := blkC (v := .slice A3 n.radios.length C3) KN_2.out 3 rfl
    have fX0 := blkC (v := .string x.name) KX_2.out 0 rfl
    have fX1 := blkC (v := .string x.site) KX_2.out 1 rfl
    have fX2 := blkC (v := .string x.antenna) KX_2.out 2 rfl
    have fX3 := blkC (v := .string x.radio) KX_2.out 3 rfl
    have fX4 := blkC (v := .string x.band) KX_2.out 4 rfl
    have fX5 := blkC (v := .int .i64 x.azimuth) KX_2.out 5 rfl
    have fX6 := blkC (v := .int .i64 x.tilt) KX_2.out 6 rfl
    have fX7 := blkC (v := .int .i64 x.above) KX_2.out 7 rfl
    have fX8 := blkC (v := .int .i64 x.channel) KX_2.out 8 rfl
    have fR0 := blkC (v := .slice none 0 0) KR_2.out 0 rfl
    have fR1 := blkC (v := .slice none 0 0) KR_2.out 1 rfl
    have fR2 := blkC (v := .slice none 0 0) KR_2.out 2 rfl
    have fR3 := blkC (v := .slice none 0 0) KR_2.out 3 rfl
    have zR := blkF KR_2.out
    go_wp2
    have BF := Lib.hid (((((BB_2.out).setCell (p := ⟨w.heap.size + 2, 0, none⟩) (by show w.heap.size ≤ w.heap.size + 2; omega) (.slice none 0 0)).setCell (p := ⟨w.heap.size + 2, 1, none⟩) (by show w.heap.size ≤ w.heap.size + 2; omega) (.slice none 0 0)).setCell (p := ⟨w.heap.size + 2, 2, none⟩) (by show w.heap.size ≤ w.heap.size + 2; omega) (.slice none 0 0)).setCell (p := ⟨w.heap.size + 2, 3, none⟩) (by show w.heap.size ≤ w.heap.size + 2; omega) (.slice none 0 0))
    refine bodyPost_ret (v := .tuple #[.agg #[.slice none 0 0, .slice none 0 0, .slice none 0 0, .slice none 0 0], .int .i64 5]) (by simp [results, Tryz.results31, go_sem, *]) rfl ?_
    rw [HE.out]
    first | exact ⟨none, 0, none, 0, none, 0, none, 0, [], rfl, BF.out, ownV_zero _, In.nil⟩ | exact ⟨none, 0, none, 0, none, 0, none, 0, rfl, BF.out, [], ownV_zero _, In.nil⟩
  have HE := Lib.hid (addSecR_ok hv hx hp hi hlen)
  have HI : Hid (idxSector n.sectors x.name = -1) := hi
  have hl2 : ((n.sectors.length : Int) == 24) = false := by simp; omega
  have hl3 : ¬ ((n.sectors.length : Int) = 24) := by omega
  clear hi
  have hsl : n.sectors.length ≤ 1048576 := by omega
  have RISE := Lib.hid (sectorRise hv)
  have BB0_ : Below w.heap.size w (((w.alloc (.cells #[.slice A0 n.sites.length C0, .slice A1 n.sectors.length C1, .slice A2 n.antennas.length C2, .slice A3 n.radios.length C3] 35)).alloc (.cells #[.string x.name, .string x.site, .string x.antenna, .string x.radio, .string x.band, .int .i64 x.azimuth, .int .i64 x.tilt, .int .i64 x.above, .int .i64 x.channel] 49)).alloc (.cells #[.slice none 0 0, .slice none 0 0, .slice none 0 0, .slice none 0 0] 35)) := Below.alloc (Below.alloc (Below.alloc (Below.refl _ _) (by first | exact Nat.le_refl _ | (simp; done) | (simp; omega)) _) (by first | exact Nat.le_refl _ | (simp; done) | (simp; omega)) _) (by first | exact Nat.le_refl _ | (simp; done) | (simp; omega)) _
  have zz0 : w.heap.size + 3 ≤ (((w.alloc (.cells #[.slice A0 n.sites.length C0, .slice A1 n.sectors.length C1, .slice A2 n.antennas.length C2, .slice A3 n.radios.length C3] 35)).alloc (.cells #[.string x.name, .string x.site, .string x.antenna, .string x.radio, .string x.band, .int .i64 x.azimuth, .int .i64 x.tilt, .int .i64 x.above, .int .i64 x.channel] 49)).alloc (.cells #[.slice none 0 0, .slice none 0 0, .slice none 0 0, .slice none 0 0] 35)).heap.size := by simp
  have k_N : (((w.alloc (.cells #[.slice A0 n.sites.length C0, .slice A1 n.sectors.length C1, .slice A2 n.antennas.length C2, .slice A3 n.radios.length C3] 35)).alloc (.cells #[.string x.name, .string x.site, .string x.antenna, .string x.radio, .string x.band, .int .i64 x.azimuth, .int .i64 x.tilt, .int .i64 x.above, .int .i64 x.channel] 49)).alloc (.cells #[.slice none 0 0, .slice none 0 0, .slice none 0 0, .slice none 0 0] 35)).heap[w.heap.size]? = some (.cells #[.slice A0 n.sites.length C0, .slice A1 n.sectors.length C1, .slice A2 n.antennas.length C2, .slice A3 n.radios.length C3] 35 (0, 0)) := by
    have h := blkN w #[.slice A0 n.sites.length C0, .slice A1 n.sectors.length C1, .slice A2 n.antennas.length C2, .slice A3 n.radios.length C3] 35
    replace h := blkA h (by first | (simp; done) | (simp; omega)) (.cells #[.string x.name, .string x.site, .string x.antenna, .string x.radio, .string x.band, .int .i64 x.azimuth, .int .i64 x.tilt, .int .i64 x.above, .int .i64 x.channel] 49)
    replace h := blkA h (by first | (simp; done) | (simp; omega)) (.cells #[.slice none 0 0, .slice none 0 0, .slice none 0 0, .slice none 0 0] 35)
    exact h
  have KN_0 := Lib.hid k_N
  have k_X : (((w.alloc (.cells #[.slice A0 n.sites.length C0, .slice A1 n.sectors.length C1, .slice A2 n.antennas.length C2, .slice A3 n.radios.length C3] 35)).alloc (.cells #[.string x.name, .string x.site, .string x.antenna, .string x.radio, .string x.band, .int .i64 x.azimuth, .int .i64 x.tilt, .int .i64 x.above, .int .i64 x.channel] 49)).alloc (.cells #[.slice none 0 0, .slice none 0 0, .slice none 0 0, .slice none 0 0] 35)).heap[w.heap.size + 1]? = some (.cells #[.string x.name, .string x.site, .string x.antenna, .string x.radio, .string x.band, .int .i64 x.azimuth, .int .i64 x.tilt, .int .i64 x.above, .int .i64 x.channel] 49 (0, 0)) := by
    have h := blkN (w.alloc (.cells #[.slice A0 n.sites.length C0, .slice A1 n.sectors.length C1, .slice A2 n.antennas.length C2, .slice A3 n.radios.length C3] 35)) #[.string x.name, .string x.site, .string x.antenna, .string x.radio, .string x.band, .int .i64 x.azimuth, .int .i64 x.tilt, .int .i64 x.above, .int .i64 x.channel] 49
    rw [show (w.alloc (.cells #[.slice A0 n.sites.length C0, .slice A1 n.sectors.length C1, .slice A2 n.antennas.length C2, .slice A3 n.radios.length C3] 35)).heap.size = w.heap.size + 1 by simp] at h
    replace h := blkA h (by first | (simp; done) | (simp; omega)) (.cells #[.slice none 0 0, .slice none 0 0, .slice none 0 0, .slice none 0 0] 35)
    exact h
  have KX_0 := Lib.hid k_X
  have k_R : (((w.alloc (.cells #[.slice A0 n.sites.length C0, .slice A1 n.sectors.length C1, .slice A2 n.antennas.length C2, .slice A3 n.radios.length C3] 35)).alloc (.cells #[.string x.name, .string x.site, .string x.antenna, .string x.radio, .string x.band, .int .i64 x.azimuth, .int .i64 x.tilt, .int .i64 x.above, .int .i64 x.channel] 49)).alloc (.cells #[.slice none 0 0, .slice none 0 0, .slice none 0 0, .slice none 0 0] 35)).heap[w.heap.size + 2]? = some (.cells #[.slice none 0 0, .slice none 0 0, .slice none 0 0, .slice none 0 0] 35 (0, 0)) := by
    have h := blkN ((w.alloc (.cells #[.slice A0 n.sites.length C0, .slice A1 n.sectors.length C1, .slice A2 n.antennas.length C2, .slice A3 n.radios.length C3] 35)).alloc (.cells #[.string x.name, .string x.site, .string x.antenna, .string x.radio, .string x.band, .int .i64 x.azimuth, .int .i64 x.tilt, .int .i64 x.above, .int .i64 x.channel] 49)) #[.slice none 0 0, .slice none 0 0, .slice none 0 0, .slice none 0 0] 35
    rw [show ((w.alloc (.cells #[.slice A0 n.sites.length C0, .slice A1 n.sectors.length C1, .slice A2 n.antennas.length C2, .slice A3 n.radios.length C3] 35)).alloc (.cells #[.string x.name, .string x.site, .string x.antenna, .string x.radio, .string x.band, .int .i64 x.azimuth, .int .i64 x.tilt, .int .i64 x.above, .int .i64 x.channel] 49)).heap.size = w.heap.size + 2 by simp] at h
    exact h
  have KR_0 := Lib.hid k_R
  clear k_N k_X k_R
  have BB_0 := Lib.hid BB0_
  clear BB0_
  go_enter Tryz.func31, Tryz.ntmps31
  go_upto_region 1 with (fail)
  generalize (((w.alloc (.cells #[.slice A0 n.sites.length C0, .slice A1 n.sectors.length C1, .slice A2 n.antennas.length C2, .slice A3 n.radios.length C3] 35)).alloc (.cells #[.string x.name, .string x.site, .string x.antenna, .string x.radio, .string x.band, .int .i64 x.azimuth, .int .i64 x.tilt, .int .i64 x.above, .int .i64 x.channel] 49)).alloc (.cells #[.slice none 0 0, .slice none 0 0, .slice none 0 0, .slice none 0 0] 35)) = W0 at *
  have fN0 := blkC (v := .slice A0 n.sites.length C0) KN_0.out 0 rfl
  have fN1 := blkC (v := .slice A1 n.sectors.length C1) KN_0.out 1 rfl
  have fN2 := blkC (v := .slice A2 n.antennas.length C2) KN_0.out 2 rfl
  have fN3 := blkC (v := .slice A3 n.radios.length C3) KN_0.out 3 rfl
  have fX0 := blkC (v := .string x.name) KX_0.out 0 rfl
  have fX1 := blkC (v := .string x.site) KX_0.out 1 rfl
  have fX2 := blkC (v := .string x.antenna) KX_0.out 2 rfl
  have fX3 := blkC (v := .string x.radio) KX_0.out 3 rfl
  have fX4 := blkC (v := .string x.band) KX_0.out 4 rfl
  have fX5 := blkC (v := .int .i64 x.azimuth) KX_0.out 5 rfl
  have fX6 := blkC (v := .int .i64 x.tilt) KX_0.out 6 rfl
  have fX7 := blkC (v := .int .i64 x.above) KX_0.out 7 rfl
  have fX8 := blkC (v := .int .i64 x.channel) KX_0.out 8 rfl
  have fR0 := blkC (v := .slice none 0 0) KR_0.out 0 rfl
  have fR1 := blkC (v := .slice none 0 0) KR_0.out 1 rfl
  have fR2 := blkC (v := .slice none 0 0) KR_0.out 2 rfl
  have fR3 := blkC (v := .slice none 0 0) KR_0.out 3 rfl
  go_wp2_with fail
  refine (l14Ok_any n _ _ _ _ w.heap.size _ ((R0.out.below BB_0.out).mono (by have := BB_0.out.size; omega)) ((R1.out.below BB_0.out).mono (by have := BB_0.out.size; omega)) ((R2.out.below BB_0.out).mono (by have := BB_0.out.size; omega)) ((R3.out.below BB_0.out).mono (by have := BB_0.out.size; omega)) (by omega) (blkC KN_0.out 0 rfl) (blkC KN_0.out 1 rfl) (blkC KN_0.out 2 rfl) (blkC KN_0.out 3 rfl) (by omega) hk_n).mono ?_
  rintro e X1 ⟨rfl, hb⟩
  clear fN0 fN1 fN2 fN3 fX0 fX1 fX2 fX3 fX4 fX5 fX6 fX7 fX8 fR0 fR1 fR2 fR3
  have KN_1 := Lib.hid (blkB KN_0.out hb (by omega))
  have KX_1 := Lib.hid (blkB KX_0.out hb (by omega))
  have KR_1 := Lib.hid (blkB KR_0.out hb (by omega))
  have BB_1 := Lib.hid (BB_0.out.trans (hb.mono (by omega)))
  have zz1 : W0.heap.size ≤ X1.heap.size := hb.size
  clear KN_0 KX_0 KR_0 BB_0 hb
  rw [hv]
  have fN0 := blkC (v := .slice A0 n.sites.length C0) KN_1.out 0 rfl
  have fN1 := blkC (v := .slice A1 n.sectors.length C1) KN_1.out 1 rfl
  have fN2 := blkC (v := .slice A2 n.antennas.length C2) KN_1.out 2 rfl
  have fN3 := blkC (v := .slice A3 n.radios.length C3) KN_1.out 3 rfl
  have fX0 := blkC (v := .string x.name) KX_1.out 0 rfl
  have fX1 := blkC (v := .string x.site) KX_1.out 1 rfl
  have fX2 := blkC (v := .string x.antenna) KX_1.out 2 rfl
  have fX3 := blkC (v := .string x.radio) KX_1.out 3 rfl
  have fX4 := blkC (v := .string x.band) KX_1.out 4 rfl
  have fX5 := blkC (v := .int .i64 x.azimuth) KX_1.out 5 rfl
  have fX6 := blkC (v := .int .i64 x.tilt) KX_1.out 6 rfl
  have fX7 := blkC (v := .int .i64 x.above) KX_1.out 7 rfl
  have fX8 := blkC (v := .int .i64 x.channel) KX_1.out 8 rfl
  have fR0 := blkC (v := .slice none 0 0) KR_1.out 0 rfl
  have fR1 := blkC (v := .slice none 0 0) KR_1.out 1 rfl
  have fR2 := blkC (v := .slice none 0 0) KR_1.out 2 rfl
  have fR3 := blkC (v := .slice none 0 0) KR_1.out 3 rfl
  go_wp2_with fail
  refine (l14Sector_any x (w.heap.size + 1) 0 _ (by have h := blkC (v := .string x.name) KX_1.out 0 rfl; simpa using h) (by have h := blkC (v := .string x.site) KX_1.out 1 rfl; simpa using h) (by have h := blkC (v := .string x.antenna) KX_1.out 2 rfl; simpa using h) (by have h := blkC (v := .string x.radio) KX_1.out 3 rfl; simpa using h) (by have h := blkC (v := .string x.band) KX_1.out 4 rfl; simpa using h) (by have h := blkC (v := .int .i64 x.azimuth) KX_1.out 5 rfl; simpa using h) (by have h := blkC (v := .int .i64 x.tilt) KX_1.out 6 rfl; simpa using h) (by have h := blkC (v := .int .i64 x.above) KX_1.out 7 rfl; simpa using h) (by have h := blkC (v := .int .i64 x.channel) KX_1.out 8 rfl; simpa using h) hko.name hko.site hko.antenna hko.radio hko.band).mono ?_
  rintro e X2 ⟨rfl, hb⟩
  clear fN0 fN1 fN2 fN3 fX0 fX1 fX2 fX3 fX4 fX5 fX6 fX7 fX8 fR0 fR1 fR2 fR3
  have KN_2 := Lib.hid (blkB KN_1.out hb (by omega))
  have KX_2 := Lib.hid (blkB KX_1.out hb (by omega))
  have KR_2 := Lib.hid (blkB KR_1.out hb (by omega))
  have BB_2 := Lib.hid (BB_1.out.trans (hb.mono (by omega)))
  have zz2 : X1.heap.size ≤ X2.heap.size := hb.size
  clear KN_1 KX_1 KR_1 BB_1 hb
  rw [hx]
  have fN0 := blkC (v := .slice A0 n.sites.length C0) KN_2.out 0 rfl
  have fN1 := blkC (v := .slice A1 n.sectors.length C1) KN_2.out 1 rfl
  have fN2 := blkC (v := .slice A2 n.antennas.length C2) KN_2.out 2 rfl
  have fN3 := blkC (v := .slice A3 n.radios.length C3) KN_2.out 3 rfl
  have fX0 := blkC (v := .string x.name) KX_2.out 0 rfl
  have fX1 := blkC (v := .string x.site) KX_2.out 1 rfl
  have fX2 := blkC (v := .string x.antenna) KX_2.out 2 rfl
  have fX3 := blkC (v := .string x.radio) KX_2.out 3 rfl
  have fX4 := blkC (v := .string x.band) KX_2.out 4 rfl
  have fX5 := blkC (v := .int .i64 x.azimuth) KX_2.out 5 rfl
  have fX6 := blkC (v := .int .i64 x.tilt) KX_2.out 6 rfl
  have fX7 := blkC (v := .int .i64 x.above) KX_2.out 7 rfl
  have fX8 := blkC (v := .int .i64 x.channel) KX_2.out 8 rfl
  have fR0 := blkC (v := .slice none 0 0) KR_2.out 0 rfl
  have fR1 := blkC (v := .slice none 0 0) KR_2.out 1 rfl
  have fR2 := blkC (v := .slice none 0 0) KR_2.out 2 rfl
  have fR3 := blkC (v := .slice none 0 0) KR_2.out 3 rfl
  go_wp2_with fail
  refine (l14Refers_any n x _ _ _ w.heap.size (w.heap.size + 1) 0 w.heap.size _ (R0.out.below BB_2.out) (R2.out.below BB_2.out) (R3.out.below BB_2.out) (by have := BB_2.out.size; omega) (blkC KN_2.out 0 rfl) (blkC KN_2.out 2 rfl) (blkC KN_2.out 3 rfl) (by have h := blkC (v := .string x.site) KX_2.out 1 rfl; simpa using h) (by have h := blkC (v := .string x.antenna) KX_2.out 2 rfl; simpa using h) (by have h := blkC (v := .string x.radio) KX_2.out 3 rfl; simpa using h) (by omega) (by omega) (by omega)).mono ?_
  rintro e _ ⟨rfl, rfl⟩
  clear fN0 fN1 fN2 fN3 fX0 fX1 fX2 fX3 fX4 fX5 fX6 fX7 fX8 fR0 fR1 fR2 fR3
  rw [hp]
  have fN0 := blkC (v := .slice A0 n.sites.length C0) KN_2.out 0 rfl
  have fN1 := blkC (v := .slice A1 n.sectors.length C1) KN_2.out 1 rfl
  have fN2 := blkC (v := .slice A2 n.antennas.length C2) KN_2.out 2 rfl
  have fN3 := blkC (v := .slice A3 n.radios.length C3) KN_2.out 3 rfl
  have fX0 := blkC (v := .string x.name) KX_2.out 0 rfl
  have fX1 := blkC (v := .string x.site) KX_2.out 1 rfl
  have fX2 := blkC (v := .string x.antenna) KX_2.out 2 rfl
  have fX3 := blkC (v := .string x.radio) KX_2.out 3 rfl
  have fX4 := blkC (v := .string x.band) KX_2.out 4 rfl
  have fX5 := blkC (v := .int .i64 x.azimuth) KX_2.out 5 rfl
  have fX6 := blkC (v := .int .i64 x.tilt) KX_2.out 6 rfl
  have fX7 := blkC (v := .int .i64 x.above) KX_2.out 7 rfl
  have fX8 := blkC (v := .int .i64 x.channel) KX_2.out 8 rfl
  have fR0 := blkC (v := .slice none 0 0) KR_2.out 0 rfl
  have fR1 := blkC (v := .slice none 0 0) KR_2.out 1 rfl
  have fR2 := blkC (v := .slice none 0 0) KR_2.out 2 rfl
  have fR3 := blkC (v := .slice none 0 0) KR_2.out 3 rfl
  go_wp2_with fail
  refine (l14Find_any n.sectors x.name _ w.heap.size w.heap.size _ (R1.out.below BB_2.out) (by have := BB_2.out.size; omega) (blkC KN_2.out 1 rfl) (by omega)).mono ?_
  rintro e _ ⟨rfl, rfl⟩
  clear fN0 fN1 fN2 fN3 fX0 fX1 fX2 fX3 fX4 fX5 fX6 fX7 fX8 fR0 fR1 fR2 fR3
  rw [HI.out]
  have fN0 := blkC (v := .slice A0 n.sites.length C0) KN_2.out 0 rfl
  have fN1 := blkC (v := .slice A1 n.sectors.length C1) KN_2.out 1 rfl
  have fN2 := blkC (v := .slice A2 n.antennas.length C2) KN_2.out 2 rfl
  have fN3 := blkC (v := .slice A3 n.radios.length C3) KN_2.out 3 rfl
  have fX0 := blkC (v := .string x.name) KX_2.out 0 rfl
  have fX1 := blkC (v := .string x.site) KX_2.out 1 rfl
  have fX2 := blkC (v := .string x.antenna) KX_2.out 2 rfl
  have fX3 := blkC (v := .string x.radio) KX_2.out 3 rfl
  have fX4 := blkC (v := .string x.band) KX_2.out 4 rfl
  have fX5 := blkC (v := .int .i64 x.azimuth) KX_2.out 5 rfl
  have fX6 := blkC (v := .int .i64 x.tilt) KX_2.out 6 rfl
  have fX7 := blkC (v := .int .i64 x.above) KX_2.out 7 rfl
  have fX8 := blkC (v := .int .i64 x.channel) KX_2.out 8 rfl
  have fR0 := blkC (v := .slice none 0 0) KR_2.out 0 rfl
  have fR1 := blkC (v := .slice none 0 0) KR_2.out 1 rfl
  have fR2 := blkC (v := .slice none 0 0) KR_2.out 2 rfl
  have fR3 := blkC (v := .slice none 0 0) KR_2.out 3 rfl
  go_wp2_with fail
  refine (l14Put_any n x _ _ _ _ w.heap.size _ ((R0.out.below BB_2.out).mono (by have := BB_2.out.size; omega)) ((R1.out.below BB_2.out).mono (by have := BB_2.out.size; omega)) ((R2.out.below BB_2.out).mono (by have := BB_2.out.size; omega)) ((R3.out.below BB_2.out).mono (by have := BB_2.out.size; omega)) (by omega) (blkC KN_2.out 0 rfl) (blkC KN_2.out 1 rfl) (blkC KN_2.out 2 rfl) (blkC KN_2.out 3 rfl) hs_n RISE.out HNO.out).mono ?_
  rintro e X3 ⟨a0, c0, a1, c1, a2, c2, a3, c3, fp, rfl, hb, ov, iv_⟩
  clear fN0 fN1 fN2 fN3 fX0 fX1 fX2 fX3 fX4 fX5 fX6 fX7 fX8 fR0 fR1 fR2 fR3
  have KN_3 := Lib.hid (blkB KN_2.out hb (by omega))
  have KX_3 := Lib.hid (blkB KX_2.out hb (by omega))
  have KR_3 := Lib.hid (blkB KR_2.out hb (by omega))
  have BB_3 := Lib.hid (BB_2.out.trans (hb.mono (by omega)))
  have zz3 : X2.heap.size ≤ X3.heap.size := hb.size
  clear KN_2 KX_2 KR_2 BB_2 hb
  have ivf : In (w.heap.size + 3) X3.heap.size fp := iv_.mono (by omega) (Nat.le_refl _)
  have BF := Lib.hid (((((BB_3.out).setCell (p := ⟨w.heap.size + 2, 0, none⟩) (by show w.heap.size ≤ w.heap.size + 2; omega) (.slice a0 n.sites.length c0)).setCell (p := ⟨w.heap.size + 2, 1, none⟩) (by show w.heap.size ≤ w.heap.size + 2; omega) (.slice a1 (insAt n.sectors x (posOf DSector.name n.sectors x.name)).length c1)).setCell (p := ⟨w.heap.size + 2, 2, none⟩) (by show w.heap.size ≤ w.heap.size + 2; omega) (.slice a2 n.antennas.length c2)).setCell (p := ⟨w.heap.size + 2, 3, none⟩) (by show w.heap.size ≤ w.heap.size + 2; omega) (.slice a3 n.radios.length c3))
  have OF := Lib.hid (((((ov).setFar (p := ⟨w.heap.size + 2, 0, none⟩) (fun e => by have := (ivf _ e).1; simp only at this; omega) (.slice a0 n.sites.length c0)).setFar (p := ⟨w.heap.size + 2, 1, none⟩) (fun e => by have := (ivf _ e).1; simp only at this; omega) (.slice a1 (insAt n.sectors x (posOf DSector.name n.sectors x.name)).length c1)).setFar (p := ⟨w.heap.size + 2, 2, none⟩) (fun e => by have := (ivf _ e).1; simp only at this; omega) (.slice a2 n.antennas.length c2)).setFar (p := ⟨w.heap.size + 2, 3, none⟩) (fun e => by have := (ivf _ e).1; simp only at this; omega) (.slice a3 n.radios.length c3))
  have IVF := Lib.hid ivf
  clear ivf ov iv_
  have fR0 := blkC (v := .slice none 0 0) KR_3.out 0 rfl
  have fR1 := blkC (v := .slice none 0 0) KR_3.out 1 rfl
  have fR2 := blkC (v := .slice none 0 0) KR_3.out 2 rfl
  have fR3 := blkC (v := .slice none 0 0) KR_3.out 3 rfl
  have zR := blkF KR_3.out
  go_wp2
  refine bodyPost_ret (v := .tuple #[.agg #[.slice a0 n.sites.length c0, .slice a1 (insAt n.sectors x (posOf DSector.name n.sectors x.name)).length c1, .slice a2 n.antennas.length c2, .slice a3 n.radios.length c3], .int .i64 0]) (by simp [results, Tryz.results31, go_sem, *]) rfl ?_
  rw [HE.out]
  first | refine ⟨a0, c0, a1, c1, a2, c2, a3, c3, _, rfl, BF.out, OF.out, ?_⟩ | refine ⟨a0, c0, a1, c1, a2, c2, a3, c3, rfl, BF.out, _, OF.out, ?_⟩
  simp only [size_setCell]
  exact IVF.out.mono (by omega) (Nat.le_refl _)
end Go.Proofs.YtppgcgopnchbcaaGreat
