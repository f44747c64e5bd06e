/- Contracts: EirpToward, for the program and for the reference. Conditions: bounded sizes. -/
import Derived.Test.YtefefgamiaganaaEirp5
import Derived.Test.YtefefgamiaganaaOver
namespace Go.Proofs.Ytefefgamiaganaa
open Go.RowKit
set_option linter.unusedVariables false
set_option linter.unusedSimpArgs false


def eirpR (n : DNetwork) (nm : ByteArray) (be el : Int) : Int × Int := if netB n = true then (if inB be 0 359 = true ∧ inB el (-90) 90 = true then (if 0 ≤ idxSector n.sectors nm then (eirpN n (gSector n.sectors (idxSector n.sectors nm).toNat) be el, 0) else (0, 3)) else (0, 2)) else (0, 1)
set_option maxHeartbeats 8000000 in
set_option maxRecDepth 100000 in
theorem iEirpToward_std (n : DNetwork) (nm : ByteArray) (be : Int) (el : Int) (vn0 vn1 vn2 vn3 : Value) (w : World) (rn0 : Rd w.heap.size w (DSite.sT n.sites) vn0) (rn1 : Rd w.heap.size w (DSector.sT n.sectors) vn1) (rn2 : Rd w.heap.size w (DAntenna.sT n.antennas) vn2) (rn3 : Rd w.heap.size w (DRadio.sT n.radios) vn3) (hs_n : sizL n.tr ≤ 1048576) (hk_n : n.ok) (hs_nm : nm.size ≤ 1048576) (hk_be : I64 be) (hk_el : I64 el) :
    Calls Try.prog 22 #[.agg #[vn0, vn1, vn2, vn3], .string nm, .int .i64 be, .int .i64 el] w (fun e w' => e = .returned (.tuple #[.int .i64 (eirpR n nm be el).1, .int .i64 (eirpR n nm be el).2]) ∧ Below w.heap.size w w') := by
  have hq := DNetwork.siz_tr n
  rw [DSite.siz_s, DSector.siz_s, DAntenna.siz_s, DRadio.siz_s] at hq
  obtain ⟨A0, C0, e0, _, _, _⟩ := DSite.rd rn0
  obtain ⟨A1, C1, e1, _, _, _⟩ := DSector.rd rn1
  obtain ⟨A2, C2, e2, _, _, _⟩ := DAntenna.rd rn2
  obtain ⟨A3, C3, e3, _, _, _⟩ := DRadio.rd rn3
  subst e0 e1 e2 e3
  have b0 : Below w.heap.size w (w.alloc (.cells #[.slice A0 n.sites.length C0, .slice A1 n.sectors.length C1, .slice A2 n.antennas.length C2, .slice A3 n.radios.length C3] 40)) := ((Below.refl _ _).alloc (Nat.le_refl _) _)
  have y0 : w.heap.size + 1 ≤ (w.alloc (.cells #[.slice A0 n.sites.length C0, .slice A1 n.sectors.length C1, .slice A2 n.antennas.length C2, .slice A3 n.radios.length C3] 40)).heap.size := by simp
  have HI := Lib.hid (sectorNamed_any n.sectors nm (.slice A0 n.sites.length C0) (.slice A1 n.sectors.length C1) (.slice A2 n.antennas.length C2) (.slice A3 n.radios.length C3) w.heap.size (w.alloc (.cells #[.slice A0 n.sites.length C0, .slice A1 n.sectors.length C1, .slice A2 n.antennas.length C2, .slice A3 n.radios.length C3] 40)) (rn1.below b0) (by omega) (by omega))
  have HV : Hid (∀ W : World, Below w.heap.size w W → Calls Try.prog 45 #[.agg #[.slice A0 n.sites.length C0, .slice A1 n.sectors.length C1, .slice A2 n.antennas.length C2, .slice A3 n.radios.length C3]] W fun e w' => e = .returned (.bool (netB n)) ∧ Below W.heap.size W w') := fun W hW => validNetwork_any n _ _ _ _ W ((rn0.below hW).mono hW.size) ((rn1.below hW).mono hW.size) ((rn2.below hW).mono hW.size) ((rn3.below hW).mono hW.size) (by omega) hk_n
  have HN : Hid (∀ (W : World) (x : DSector) (ka kr : Nat), Below w.heap.size w W → Parts n x ka kr → 0 ≤ be → be ≤ 359 → -90 ≤ el → el ≤ 90 → Calls Try.prog 58 #[.agg #[.slice A0 n.sites.length C0, .slice A1 n.sectors.length C1, .slice A2 n.antennas.length C2, .slice A3 n.radios.length C3], .agg #[.string x.name, .string x.site, .string x.antenna, .string x.radio, .string x.band, .int .i64 x.azimuth, .int .i64 x.tilt, .int .i64 x.above, .int .i64 x.channel], .int .i64 be, .int .i64 el] W fun r w' => r = .returned (.int .i64 (eirpN n x be el)) ∧ Below W.heap.size W w') := fun W x ka kr hW hp h1 h2 h3 h4 => iEirp_any n x _ _ _ _ be el W ((rn2.below hW).mono hW.size) ((rn3.below hW).mono hW.size) (by omega) (by omega) ka kr hp h1 h2 h3 h4
  have B0 := Lib.hid b0
  have HR1 := Lib.hid rn1
  clear b0 rn0 rn1 rn2 rn3
  by_cases hv : netB n = true
  · by_cases hb : inB be 0 359 = true
    · by_cases hl : inB el (-90) 90 = true
      · rcases firstIdx_cases' (fun x : DSector => eqS x.name nm) n.sectors with ⟨hi, _⟩ | ⟨k, hk, hi, _, _⟩
        · have HE : Hid (eirpR n nm be el = (0, 3)) := by show _ = _; unfold eirpR; rw [if_pos hv, if_pos ⟨hb, hl⟩, if_neg (by rw [show idxSector n.sectors nm = -1 from hi]; omega)]
          rw [show idxSector n.sectors nm = -1 from hi] at HI
          clear hi
          go_enter Try.func22, Try.ntmps22
          go_wp2_with fail
          refine (HI.out).mono ?_
          rintro e w1 ⟨rfl, hb1⟩
          obtain ⟨qa1, _, ya1⟩ := bcellAt hb1 (b := w.heap.size) (by omega)
          have B1 := Lib.hid (B0.out.trans (hb1.mono B0.out.size))
          clear hb1
          go_wp2_with fail
          refine (HV.out _ B1.out).mono ?_
          rintro e w2 ⟨rfl, hb2⟩
          obtain ⟨qa2, _, ya2⟩ := bcellAt hb2 (b := w.heap.size) ya1
          have B2 := Lib.hid (B1.out.trans (hb2.mono B1.out.size))
          clear hb2
          rw [hv]
          go_wp2_with (first | (go_at_call 57; refine (within_any _ _ _ _).mono ?_; rintro e1 w1x ⟨rfl, rfl⟩))
          go_ret2
          rw [HE.out]
          exact ⟨rfl, B2.out⟩
        · have HE : Hid (eirpR n nm be el = (eirpN n (gSector n.sectors k) be el, 0)) := by show _ = _; unfold eirpR; rw [if_pos hv, if_pos ⟨hb, hl⟩, if_pos (by rw [show idxSector n.sectors nm = (k : Int) from hi]; omega), show idxSector n.sectors nm = (k : Int) from hi, Int.toNat_natCast]
          rw [show idxSector n.sectors nm = (k : Int) from hi] at HI
          clear hi
          obtain ⟨ka, kr, hp⟩ := parts_of_sector hv hk
          obtain ⟨be0, be1⟩ := inB_true.1 hb
          obtain ⟨el0, el1⟩ := inB_true.1 hl
          have i1 : (0 : Int) ≤ (k : Int) := by omega
          have i2 : (k : Int) < (n.sectors.length : Int) := by omega
          obtain ⟨a', c', e', -, -, hcl⟩ := DSector.rd HR1.out
          injection e' with e1 _ e3
          subst e1 e3
          obtain ⟨b, off, ea, hbl, hat⟩ := hcl (by omega)
          subst ea
          obtain ⟨s0, s1, s2, s3, s4, s5, s6, s7, s8⟩ := hat k hk
          rw [gSector_eq hk] at s0 s1 s2 s3 s4 s5 s6 s7 s8
          clear hat hcl
          go_enter Try.func22, Try.ntmps22
          go_wp2_with fail
          refine (HI.out).mono ?_
          rintro e w1 ⟨rfl, hb1⟩
          obtain ⟨qa1, _, ya1⟩ := bcellAt hb1 (b := w.heap.size) (by omega)
          have B1 := Lib.hid (B0.out.trans (hb1.mono B0.out.size))
          clear hb1
          go_wp2_with fail
          refine (HV.out _ B1.out).mono ?_
          rintro e w2 ⟨rfl, hb2⟩
          obtain ⟨qa2, _, ya2⟩ := bcellAt hb2 (b := w.heap.size) ya1
          have B2 := Lib.hid (B1.out.trans (hb2.mono B1.out.size))
          clear hb2
          rw [hv]
          rw [← bat B2.out b _ hbl] at s0 s1 s2 s3 s4 s5 s6 s7 s8
          have yb : b < w2.heap.size := by have := B2.out.size; omega
          generalize gSector n.sectors k = x at *
          have HEN := Lib.hid (fun W hW => HN.out W x ka kr hW hp be0 be1 el0 el1)
          go_wp2_with (go_at_call 57; refine (within_any _ _ _ _).mono ?_; rintro e1 w1x ⟨rfl, rfl⟩)
          have d0 : w2.cell? ⟨w.heap.size, 0, none⟩ = some (.slice A0 n.sites.length C0) := by rw [qa2, qa1]; simp [go_sem]
          have d1 : w2.cell? ⟨w.heap.size, 1, none⟩ = some (.slice (some ⟨b, off, none⟩) n.sectors.length C1) := by rw [qa2, qa1]; simp [go_sem]
          have d2 : w2.cell? ⟨w.heap.size, 2, none⟩ = some (.slice A2 n.antennas.length C2) := by rw [qa2, qa1]; simp [go_sem]
          have d3 : w2.cell? ⟨w.heap.size, 3, none⟩ = some (.slice A3 n.radios.length C3) := by rw [qa2, qa1]; simp [go_sem]
          clear qa2 qa1
          have oN := overC (w0 := w2) ya2
          have oB := overC (w0 := w2) yb
          refine wp_region_over w2.heap.size w2 (Below.refl _ _) (by kernel_rfl) (by kernel_rfl) ?_
          repeat (go_big_quiet_step (first | (go_at_call 58; exact over_left (Nat.le_refl _) (HEN.out _ (B2.out.trans ((over_below _ _ _).mono B2.out.size))))))
          refine wpQuiet_nil ?_
          rintro _ ⟨X, rfl⟩
          have hX := over_below w2.heap.size w2 X
          clear oN oB
          generalize over w2.heap.size w2 X = w4 at *
          have B4 := Lib.hid (B2.out.trans (hX.mono B2.out.size))
          clear hX
          go_wp2
          go_ret2
          rw [HE.out]
          exact ⟨rfl, B4.out⟩
      · replace hl : inB el (-90) 90 = false := Bool.eq_false_iff.2 hl
        have HE : Hid (eirpR n nm be el = (0, 2)) := by show _ = _; unfold eirpR; rw [if_pos hv, if_neg (by simp [hl])]
        go_enter Try.func22, Try.ntmps22
        go_wp2_with fail
        refine (HI.out).mono ?_
        rintro e w1 ⟨rfl, hb1⟩
        obtain ⟨qa1, _, ya1⟩ := bcellAt hb1 (b := w.heap.size) (by omega)
        have B1 := Lib.hid (B0.out.trans (hb1.mono B0.out.size))
        clear hb1
        go_wp2_with fail
        refine (HV.out _ B1.out).mono ?_
        rintro e w2 ⟨rfl, hb2⟩
        obtain ⟨qa2, _, ya2⟩ := bcellAt hb2 (b := w.heap.size) ya1
        have B2 := Lib.hid (B1.out.trans (hb2.mono B1.out.size))
        clear hb2
        rw [hv]
        go_wp2_with (go_at_call 57; refine (within_any _ _ _ _).mono ?_; rintro e1 w1x ⟨rfl, rfl⟩)
        go_ret2
        rw [HE.out]
        exact ⟨rfl, B2.out⟩
    · replace hb : inB be 0 359 = false := Bool.eq_false_iff.2 hb
      have HE : Hid (eirpR n nm be el = (0, 2)) := by show _ = _; unfold eirpR; rw [if_pos hv, if_neg (by simp [hb])]
      go_enter Try.func22, Try.ntmps22
      go_wp2_with fail
      refine (HI.out).mono ?_
      rintro e w1 ⟨rfl, hb1⟩
      obtain ⟨qa1, _, ya1⟩ := bcellAt hb1 (b := w.heap.size) (by omega)
      have B1 := Lib.hid (B0.out.trans (hb1.mono B0.out.size))
      clear hb1
      go_wp2_with fail
      refine (HV.out _ B1.out).mono ?_
      rintro e w2 ⟨rfl, hb2⟩
      obtain ⟨qa2, _, ya2⟩ := bcellAt hb2 (b := w.heap.size) ya1
      have B2 := Lib.hid (B1.out.trans (hb2.mono B1.out.size))
      clear hb2
      rw [hv]
      go_wp2_with (go_at_call 57; refine (within_any _ _ _ _).mono ?_; rintro e1 w1x ⟨rfl, rfl⟩)
      go_ret2
      rw [HE.out]
      exact ⟨rfl, B2.out⟩
  · replace hv : netB n = false := Bool.eq_false_iff.2 hv
    have HE : Hid (eirpR n nm be el = (0, 1)) := by show _ = _; unfold eirpR; rw [if_neg (by simp [hv])]
    go_enter Try.func22, Try.ntmps22
    go_wp2_with fail
    refine (HI.out).mono ?_
    rintro e w1 ⟨rfl, hb1⟩
    obtain ⟨qa1, _, ya1⟩ := bcellAt hb1 (b := w.heap.size) (by omega)
    have B1 := Lib.hid (B0.out.trans (hb1.mono B0.out.size))
    clear hb1
    go_wp2_with fail
    refine (HV.out _ B1.out).mono ?_
    rintro e w2 ⟨rfl, hb2⟩
    obtain ⟨qa2, _, ya2⟩ := bcellAt hb2 (b := w.heap.size) ya1
    have B2 := Lib.hid (B1.out.trans (hb2.mono B1.out.size))
    clear hb2
    rw [hv]
    go_wp2
    go_ret2
    rw [HE.out]
    exact ⟨rfl, B2.out⟩
set_option maxHeartbeats 8000000 in
set_option maxRecDepth 100000 in
theorem sEirpToward_std (n : DNetwork) (nm : ByteArray) (be : Int) (el : Int) (vn0 vn1 vn2 vn3 : Value) (w : World) (rn0 : Rd w.heap.size w (DSite.sT n.sites) vn0) (rn1 : Rd w.heap.size w (DSector.sT n.sectors) vn1) (rn2 : Rd w.heap.size w (DAntenna.sT n.antennas) vn2) (rn3 : Rd w.heap.size w (DRadio.sT n.radios) vn3) (hs_n : sizL n.tr ≤ 1048576) (hk_n : n.ok) (hs_nm : nm.size ≤ 1048576) (hk_be : I64 be) (hk_el : I64 el) :
    Calls Try.prog 21 #[.agg #[vn0, vn1, vn2, vn3], .string nm, .int .i64 be, .int .i64 el] w (fun e w' => e = .returned (.tuple #[.int .i64 (eirpR n nm be el).1, .int .i64 (eirpR n nm be el).2]) ∧ Below w.heap.size w w') := by
  have hq := DNetwork.siz_tr n
  rw [DSite.siz_s, DSector.siz_s, DAntenna.siz_s, DRadio.siz_s] at hq
  obtain ⟨A0, C0, e0, _, _, _⟩ := DSite.rd rn0
  obtain ⟨A1, C1, e1, _, _, _⟩ := DSector.rd rn1
  obtain ⟨A2, C2, e2, _, _, _⟩ := DAntenna.rd rn2
  obtain ⟨A3, C3, e3, _, _, _⟩ := DRadio.rd rn3
  subst e0 e1 e2 e3
  have b0 : Below w.heap.size w (w.alloc (.cells #[.slice A0 n.sites.length C0, .slice A1 n.sectors.length C1, .slice A2 n.antennas.length C2, .slice A3 n.radios.length C3] 40)) := ((Below.refl _ _).alloc (Nat.le_refl _) _)
  have y0 : w.heap.size + 1 ≤ (w.alloc (.cells #[.slice A0 n.sites.length C0, .slice A1 n.sectors.length C1, .slice A2 n.antennas.length C2, .slice A3 n.radios.length C3] 40)).heap.size := by simp
  have HV := Lib.hid (l14Ok_any n _ _ _ _ w.heap.size (w.alloc (.cells #[.slice A0 n.sites.length C0, .slice A1 n.sectors.length C1, .slice A2 n.antennas.length C2, .slice A3 n.radios.length C3] 40)) ((rn0.below b0).mono b0.size) ((rn1.below b0).mono b0.size) ((rn2.below b0).mono b0.size) ((rn3.below b0).mono b0.size) (by omega) (by simp [go_sem]) (by simp [go_sem]) (by simp [go_sem]) (by simp [go_sem]) (by omega) hk_n)
  have HI : Hid (∀ W : World, Below w.heap.size w W → W.cell? ⟨w.heap.size, 1, none⟩ = some (.slice A1 n.sectors.length C1) → Calls Try.prog 51 #[.pointer (some ⟨w.heap.size, 0, none⟩), .string nm] W fun e w' => e = .returned (.int .i64 (idxSector n.sectors nm)) ∧ W = w') := fun W hW hc => l14Find_any n.sectors nm _ w.heap.size w.heap.size W (rn1.below hW) hW.size hc (by omega)
  have HN : Hid (∀ (W : World) (j ka kr : Nat), Below w.heap.size w W → w.heap.size < W.heap.size → W.cell? ⟨w.heap.size, 1, none⟩ = some (.slice A1 n.sectors.length C1) → W.cell? ⟨w.heap.size, 2, none⟩ = some (.slice A2 n.antennas.length C2) → W.cell? ⟨w.heap.size, 3, none⟩ = some (.slice A3 n.radios.length C3) → j < n.sectors.length → Parts n (gSector n.sectors j) ka kr → 0 ≤ be → be ≤ 359 → -90 ≤ el → el ≤ 90 → Calls Try.prog 56 #[.pointer (some ⟨w.heap.size, 0, none⟩), .int .i64 (j : Int), .int .i64 be, .int .i64 el] W fun r w' => r = .returned (.int .i64 (eirpN n (gSector n.sectors j) be el)) ∧ Below W.heap.size W w') := fun W j ka kr hW hz c1 c2 c3 hj hp h1 h2 h3 h4 => l14Eirp_any n _ _ _ w.heap.size j be el W ((rn1.below hW).mono hW.size) ((rn2.below hW).mono hW.size) ((rn3.below hW).mono hW.size) hz c1 c2 c3 (by omega) (by omega) (by omega) hj ka kr hp h1 h2 h3 h4
  have B0 := Lib.hid b0
  have HR1 := Lib.hid rn1
  clear b0 rn0 rn1 rn2 rn3
  by_cases hv : netB n = true
  · by_cases hb : inB be 0 359 = true
    · by_cases hl : inB el (-90) 90 = true
      · rcases firstIdx_cases' (fun x : DSector => eqS x.name nm) n.sectors with ⟨hi, _⟩ | ⟨k, hk, hi, _, _⟩
        · have HE : Hid (eirpR n nm be el = (0, 3)) := by show _ = _; unfold eirpR; rw [if_pos hv, if_pos ⟨hb, hl⟩, if_neg (by rw [show idxSector n.sectors nm = -1 from hi]; omega)]
          rw [show idxSector n.sectors nm = -1 from hi] at HI
          clear hi
          go_enter Try.func21, Try.ntmps21
          go_wp2_with fail
          refine (HV.out).mono ?_
          rintro e w2 ⟨rfl, hb2⟩
          obtain ⟨qa2, _, ya2⟩ := bcellAt hb2 (b := w.heap.size) (by omega)
          have B2 := Lib.hid (B0.out.trans (hb2.mono B0.out.size))
          clear hb2
          rw [hv]
          have t1 : w2.cell? ⟨w.heap.size, 1, none⟩ = some (.slice A1 n.sectors.length C1) := by rw [qa2]; simp [go_sem]
          go_wp2_with (first | (go_at_call 55; refine (l00In_any _ _ _ _).mono ?_; rintro e1 w1x ⟨rfl, rfl⟩) | (go_at_call 51; refine (HI.out _ B2.out t1).mono ?_; rintro e1 w3 ⟨rfl, rfl⟩))
          go_ret2
          rw [HE.out]
          exact ⟨rfl, B2.out⟩
        · have HE : Hid (eirpR n nm be el = (eirpN n (gSector n.sectors k) be el, 0)) := by show _ = _; unfold eirpR; rw [if_pos hv, if_pos ⟨hb, hl⟩, if_pos (by rw [show idxSector n.sectors nm = (k : Int) from hi]; omega), show idxSector n.sectors nm = (k : Int) from hi, Int.toNat_natCast]
          rw [show idxSector n.sectors nm = (k : Int) from hi] at HI
          clear hi
          obtain ⟨ka, kr, hp⟩ := parts_of_sector hv hk
          obtain ⟨be0, be1⟩ := inB_true.1 hb
          obtain ⟨el0, el1⟩ := inB_true.1 hl
          have i1 : (0 : Int) ≤ (k : Int) := by omega
          have i2 : (k : Int) < (n.sectors.length : Int) := by omega
          go_enter Try.func21, Try.ntmps21
          go_wp2_with fail
          refine (HV.out).mono ?_
          rintro e w2 ⟨rfl, hb2⟩
          obtain ⟨qa2, _, ya2⟩ := bcellAt hb2 (b := w.heap.size) (by omega)
          have B2 := Lib.hid (B0.out.trans (hb2.mono B0.out.size))
          clear hb2
          rw [hv]
          have t1 : w2.cell? ⟨w.heap.size, 1, none⟩ = some (.slice A1 n.sectors.length C1) := by rw [qa2]; simp [go_sem]
          have t2 : w2.cell? ⟨w.heap.size, 2, none⟩ = some (.slice A2 n.antennas.length C2) := by rw [qa2]; simp [go_sem]
          have t3 : w2.cell? ⟨w.heap.size, 3, none⟩ = some (.slice A3 n.radios.length C3) := by rw [qa2]; simp [go_sem]
          have HEN := Lib.hid (HN.out w2 k ka kr B2.out ya2 t1 t2 t3 hk hp be0 be1 el0 el1)
          generalize eirpN n (gSector n.sectors k) be el = T at *
          go_wp2_with (first | (go_at_call 55; refine (l00In_any _ _ _ _).mono ?_; rintro e1 w1x ⟨rfl, rfl⟩) | (go_at_call 51; refine (HI.out _ B2.out t1).mono ?_; rintro e1 w3 ⟨rfl, rfl⟩) | (go_at_call 56; refine (HEN.out).mono ?_; rintro e1 w4 ⟨rfl, hb4⟩))
          have B4 := Lib.hid (B2.out.trans (hb4.mono B2.out.size))
          go_ret2
          rw [HE.out]
          exact ⟨rfl, B4.out⟩
      · replace hl : inB el (-90) 90 = false := Bool.eq_false_iff.2 hl
        have HE : Hid (eirpR n nm be el = (0, 2)) := by show _ = _; unfold eirpR; rw [if_pos hv, if_neg (by simp [hl])]
        go_enter Try.func21, Try.ntmps21
        go_wp2_with fail
        refine (HV.out).mono ?_
        rintro e w2 ⟨rfl, hb2⟩
        obtain ⟨qa2, _, ya2⟩ := bcellAt hb2 (b := w.heap.size) (by omega)
        have B2 := Lib.hid (B0.out.trans (hb2.mono B0.out.size))
        clear hb2
        rw [hv]
        go_wp2_with (go_at_call 55; refine (l00In_any _ _ _ _).mono ?_; rintro e1 w1x ⟨rfl, rfl⟩)
        go_ret2
        rw [HE.out]
        exact ⟨rfl, B2.out⟩
    · replace hb : inB be 0 359 = false := Bool.eq_false_iff.2 hb
      have HE : Hid (eirpR n nm be el = (0, 2)) := by show _ = _; unfold eirpR; rw [if_pos hv, if_neg (by simp [hb])]
      go_enter Try.func21, Try.ntmps21
      go_wp2_with fail
      refine (HV.out).mono ?_
      rintro e w2 ⟨rfl, hb2⟩
      obtain ⟨qa2, _, ya2⟩ := bcellAt hb2 (b := w.heap.size) (by omega)
      have B2 := Lib.hid (B0.out.trans (hb2.mono B0.out.size))
      clear hb2
      rw [hv]
      go_wp2_with (go_at_call 55; refine (l00In_any _ _ _ _).mono ?_; rintro e1 w1x ⟨rfl, rfl⟩)
      go_ret2
      rw [HE.out]
      exact ⟨rfl, B2.out⟩
  · replace hv : netB n = false := Bool.eq_false_iff.2 hv
    have HE : Hid (eirpR n nm be el = (0, 1)) := by show _ = _; unfold eirpR; rw [if_neg (by simp [hv])]
    go_enter Try.func21, Try.ntmps21
    go_wp2_with fail
    refine (HV.out).mono ?_
    rintro e w2 ⟨rfl, hb2⟩
    obtain ⟨qa2, _, ya2⟩ := bcellAt hb2 (b := w.heap.size) (by omega)
    have B2 := Lib.hid (B0.out.trans (hb2.mono B0.out.size))
    clear hb2
    rw [hv]
    go_wp2
    go_ret2
    rw [HE.out]
    exact ⟨rfl, B2.out⟩
end Go.Proofs.Ytefefgamiaganaa
