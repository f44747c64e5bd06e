/- Contract: rows of licences that can stand beside each other, for the reference. Conditions: bounded lengths. -/
import Derived.Test.YtlfkdhakibagaaaGreatPl5
namespace Go.Proofs.YtlfkdhakibagaaaGreat
open Go.RowKit
set_option linter.unusedVariables false
set_option linter.unusedSimpArgs false

theorem any_take_none {l : List DLicence} {p : DLicence → Bool} {k : Nat} (hk : k ≤ l.length) (h : ∀ j, j < k → p (gLicence l j) = false) : (l.take k).any p = false := by
  rw [List.any_eq_false]
  intro x hx
  obtain ⟨i, hi, rfl⟩ := List.getElem_of_mem hx
  rw [List.length_take] at hi
  rw [List.getElem_take, gLicence_eq (show i < l.length by omega), h i (by omega)]
  simp
theorem any_take_some {l : List DLicence} {p : DLicence → Bool} {k m : Nat} (hk : k ≤ l.length) (hm : m < k) (h : p (gLicence l m) = true) : (l.take k).any p = true := by
  rw [List.any_eq_true]
  refine ⟨l[m]'(by omega), ?_, by rw [gLicence_eq (show m < l.length by omega)]; exact h⟩
  rw [List.mem_take_iff_getElem]
  exact ⟨m, by omega, rfl⟩
set_option maxHeartbeats 8000000 in
set_option maxRecDepth 100000 in
theorem sL26List_any (l : List DLicence) (v : Value) (B : Nat) (w : World) (h : Rd B w (DLicence.sT l) v) (hB : B ≤ w.heap.size) (hk : ∀ x ∈ l, x.ok) (hn : l.length ≤ 1099511627776) :
    Calls Tryz.prog 98 #[v] w fun e w' => e = .returned (.bool (holdB l)) ∧ Below w.heap.size w w' := by
  obtain ⟨a, c, rfl, hnc, hcm, hcells⟩ := DLicence.rd h
  clear h
  have HCL := Lib.hid hcells
  clear hcells
  have hli : (l.length : Int) ≤ 1099511627776 := by omega
  go_enter Tryz.func98, Tryz.ntmps98
  go_wp2
  go_loopw [3] (fun i wr => ∃ (k : Nat), k ≤ l.length ∧ i = .int .i64 k ∧ (∀ j, j < k → okL l j = true) ∧ Below w.heap.size w wr) (fun i wr => l.length - (intOf i).toNat)
  case atStart => exact ⟨0, Nat.zero_le _, rfl, fun j hj => absurd hj (by omega), Below.refl _ _⟩
  case round =>
    obtain ⟨k, hk1, rfl, hno, hb⟩ := hrel
    have HN := Lib.hid hno
    have HB := Lib.hid hb
    have zb := hb.size
    clear hno hb
    by_cases hlt : k < l.length
    · obtain ⟨b, off, ea, hbl, hat⟩ := HCL.out (by omega)
      subst ea
      obtain ⟨s0, s1, s2, s3, s4, s5, s6, s7, s8, s9, s10⟩ := hat k hlt
      have hok := hk _ (List.getElem_mem hlt)
      have ks0 := hok.id
      have ks1 := hok.holder
      have hbw : b < w.heap.size := by omega
      rw [← bat HB.out b _ hbw] at s0 s1 s2 s3 s4 s5 s6 s7 s8 s9 s10
      have sp : 0 < k → wr.cell? ⟨b, off + (k - 1) * 11, none⟩ = some (.string (gLicence l (k - 1)).id) := fun h => by
        have t := (hat (k - 1) (by omega)).1
        rw [← bat HB.out b _ hbw, gLicence_eq (show k - 1 < l.length by omega)] at t
        exact t
      have SP := Lib.hid sp
      have HAT := Lib.hid hat
      clear sp hat
      have HUN : Hid (licB (gLicence l k) = false → (List.range l.length).all (okL l) = false) := fun h => allR_false hlt (by unfold okL; rw [upOk_not hlt (by rw [gLicence_eq hlt]; exact h)]; rfl)
      have HOK : Hid (okL l k = (upOk licB ltLicence l k && !((l.take k).any (clashB (gLicence l k))))) := rfl
      have HUZ : Hid (k = 0 → licB (gLicence l k) = true → upOk licB ltLicence l k = true) := fun e h => by subst e; rw [upOk_zero hlt, gLicence_eq hlt]; exact h
      have HUP : Hid (0 < k → upOk licB ltLicence l k = (licB (gLicence l k) && ltLicence (gLicence l (k - 1)) (gLicence l k))) := fun h => by rw [upOk_pos h hlt, gLicence_eq hlt, gLicence_eq (show k - 1 < l.length by omega)]
      rw [gLicence_eq hlt] at s0 s1 s2 s3 s4 s5 s6 s7 s8 s9 s10 ks0 ks1
      generalize hA : gLicence l k = A at *
      have HGA := Lib.hid hA
      generalize hP : gLicence l (k - 1) = P at *
      clear hA hP hok
      have i1 : (0 : Int) ≤ (k : Int) := by omega
      have i2 : (k : Int) < (l.length : Int) := by omega
      have yb : b < wr.heap.size := by omega
      have HV : Hid (∀ W : World, Below wr.heap.size wr W → Calls Tryz.prog 156 #[.pointer (some ⟨b, off + k * 11, none⟩)] W fun e w' => e = .returned (.bool (licB A)) ∧ Below W.heap.size W w') := fun W hW => l26Ok_any A b (off + k * 11) W ((bat hW b _ yb).trans s0) ((bat hW b _ yb).trans s1) ((bat hW b _ yb).trans s2) ((bat hW b _ yb).trans s3) ((bat hW b _ yb).trans s4) ((bat hW b _ yb).trans s5) ((bat hW b _ yb).trans s6) ((bat hW b _ yb).trans s7) ((bat hW b _ yb).trans s8) ((bat hW b _ yb).trans s9) ((bat hW b _ yb).trans s10) ks0 ks1
      by_cases c1 : licB A = true
      case neg =>
        replace c1 : licB A = false := Bool.eq_false_iff.2 c1
        have HF : Hid ((List.range l.length).all (okL l) = false) := HUN.out c1
        have oB := overC (w0 := wr) (show b < wr.heap.size by omega)
        rw [c1] at HV
        go_wp2
        refine wp_region_over wr.heap.size wr (Below.refl _ _) (by kernel_rfl) (by kernel_rfl) ?_
        repeat (go_big_quiet_step ((go_at_call 156; exact over_left (Nat.le_refl _) (HV.out _ (over_below _ _ _)))))
        refine wpQuiet_nil ?_
        rintro _ ⟨X, rfl⟩
        have hX := over_below wr.heap.size wr X
        clear oB
        generalize over wr.heap.size wr X = w2 at *
        have BF := Lib.hid (HB.out.trans (hX.mono (by omega)))
        clear hX
        have HQ : Hid (holdB l = false) := by show _ = _; unfold holdB; rw [HF.out]; simp
        go_wp2
        go_ret
        exact ⟨by rw [HQ.out]; rfl, BF.out⟩
      have HM : Hid (licB A = true) := c1
      by_cases c3 : 0 < k
      case neg =>
        have i8 : decide (0 < k) = false := by simpa using c3
        have HF : Hid (upOk licB ltLicence l k = true) := HUZ.out (by omega) HM.out
        have oB := overC (w0 := wr) (show b < wr.heap.size by omega)
        rw [c1] at HV
        go_wp2
        refine wp_region_over wr.heap.size wr (Below.refl _ _) (by kernel_rfl) (by kernel_rfl) ?_
        repeat (go_big_quiet_step ((go_at_call 156; exact over_left (Nat.le_refl _) (HV.out _ (over_below _ _ _)))))
        refine wpQuiet_nil ?_
        rintro _ ⟨X, rfl⟩
        have hX := over_below wr.heap.size wr X
        clear oB
        generalize over wr.heap.size wr X = w2 at *
        have BF := Lib.hid (HB.out.trans (hX.mono (by omega)))
        clear hX
        clear s0 s1 s2 s3 s4 s5 s6 s7 s8 s9 s10 yb i1 i2
        go_wp2
        go_loopw [4] (fun i wr => ∃ (m : Nat), m ≤ k ∧ i = .int .i64 m ∧ (∀ j, j < m → clashB A (gLicence l j) = false) ∧ Below w.heap.size w wr) (fun i wr => k - (intOf i).toNat)
        case atStart => exact ⟨0, Nat.zero_le _, rfl, fun j hj => absurd hj (by omega), BF.out⟩
        case round =>
          obtain ⟨m, hm, rfl, hnc2, hb2⟩ := hrel
          have HN2 := Lib.hid hnc2
          have HB2 := Lib.hid hb2
          have zb2 := hb2.size
          clear hnc2 hb2
          by_cases hmk : m < k
          · have hml : m < l.length := by omega
            obtain ⟨s0, s1, s2, s3, s4, s5, s6, s7, s8, s9, s10⟩ := HAT.out k hlt
            obtain ⟨t0, t1, t2, t3, t4, t5, t6, t7, t8, t9, t10⟩ := HAT.out m hml
            rw [← bat HB2.out b _ hbw, gLicence_eq hlt] at s0 s1 s2 s3 s4 s5 s6 s7 s8 s9 s10
            rw [← bat HB2.out b _ hbw, gLicence_eq hml] at t0 t1 t2 t3 t4 t5 t6 t7 t8 t9 t10
            have HNM : Hid (clashB A (gLicence l m) = true → (l.take k).any (clashB A) = true) := fun h => any_take_some (by omega) hmk h
            rw [HGA.out] at s0 s1 s2 s3 s4 s5 s6 s7 s8 s9 s10
            generalize hM : gLicence l m = M at *
            have j0 : (0 : Int) ≤ (k : Int) := by omega
            have j1 : (k : Int) < (l.length : Int) := by omega
            have j2 : (0 : Int) ≤ (m : Int) := by omega
            have j3 : (m : Int) < (l.length : Int) := by omega
            have j4 : (m : Int) < (k : Int) := by omega
            have yb2 : b < wr.heap.size := by omega
            have HC : Hid (∀ W : World, Below wr.heap.size wr W → Calls Tryz.prog 157 #[.pointer (some ⟨b, off + k * 11, none⟩), .pointer (some ⟨b, off + m * 11, none⟩)] W fun e w' => e = .returned (.bool (clashB A M)) ∧ Below W.heap.size W w') := fun W hW => l26Clash_any A M b (off + k * 11) b (off + m * 11) W ((bat hW b _ yb2).trans s0) ((bat hW b _ yb2).trans s1) ((bat hW b _ yb2).trans s2) ((bat hW b _ yb2).trans s3) ((bat hW b _ yb2).trans s4) ((bat hW b _ yb2).trans s5) ((bat hW b _ yb2).trans s6) ((bat hW b _ yb2).trans s7) ((bat hW b _ yb2).trans s8) ((bat hW b _ yb2).trans s9) ((bat hW b _ yb2).trans s10) ((bat hW b _ yb2).trans t0) ((bat hW b _ yb2).trans t1) ((bat hW b _ yb2).trans t2) ((bat hW b _ yb2).trans t3) ((bat hW b _ yb2).trans t4) ((bat hW b _ yb2).trans t5) ((bat hW b _ yb2).trans t6) ((bat hW b _ yb2).trans t7) ((bat hW b _ yb2).trans t8) ((bat hW b _ yb2).trans t9) ((bat hW b _ yb2).trans t10)
            go_wp2
            by_cases c6 : clashB A M = true
            case pos =>
              rw [c6] at HC
              refine wp_region_over wr.heap.size wr (Below.refl _ _) (by kernel_rfl) (by kernel_rfl) ?_
              repeat (go_big_quiet_step ((go_at_call 157; exact over_left (Nat.le_refl _) (HC.out _ (over_below _ _ _)))))
              refine wpQuiet_nil ?_
              rintro _ ⟨X, rfl⟩
              have hX := over_below wr.heap.size wr X
              generalize over wr.heap.size wr X = w3 at *
              have BG := Lib.hid (HB2.out.trans (hX.mono (by omega)))
              clear hX
              have HQ : Hid (holdB l = false) := by show _ = _; unfold holdB; rw [allR_false hlt (by rw [HOK.out, HNM.out c6]; simp)]; simp
              go_wp2
              go_ret
              exact ⟨by rw [HQ.out]; rfl, BG.out⟩
            replace c6 : clashB A M = false := Bool.eq_false_iff.2 c6
            rw [c6] at HC
            refine wp_region_over wr.heap.size wr (Below.refl _ _) (by kernel_rfl) (by kernel_rfl) ?_
            repeat (go_big_quiet_step ((go_at_call 157; exact over_left (Nat.le_refl _) (HC.out _ (over_below _ _ _)))))
            refine wpQuiet_nil ?_
            rintro _ ⟨X, rfl⟩
            have hX := over_below wr.heap.size wr X
            generalize over wr.heap.size wr X = w3 at *
            have BG := Lib.hid (HB2.out.trans (hX.mono (by omega)))
            clear hX
            go_wp2
            go_roundw
            case rel => exact ⟨m + 1, by omega, by go_num, fun j hj => by
              by_cases e : j = m
              · rw [e, hM]; exact c6
              · exact HN2.out j (by omega), BG.out⟩
            case measure => simp [intOf]; omega
          · obtain rfl : m = k := by omega
            have HG : Hid (okL l m = true) := by show _ = _; rw [HOK.out, HF.out, any_take_none (by omega) HN2.out]; rfl
            have j4 : (m : Int) < 1099511627776 := by omega
            go_wp2
            go_roundw
            case rel => exact ⟨m + 1, by omega, by go_num, upTo_succ HN.out (HG.out), HB2.out⟩
            case measure => simp [intOf]; omega
      have i3 : IntKind.i64.wrap ((k : Int) - 1) = (k : Int) - 1 := IntWalk.i64_in _ (by omega)
      have i4 : (0 : Int) ≤ (k : Int) - 1 := by omega
      have i6 : (k : Int) - 1 < (l.length : Int) := by omega
      have i7 : (1 : Int) ≤ (k : Int) := by omega
      have i8 : decide (0 < k) = true := by simpa using c3
      have i5 : ((k : Int) - 1).toNat = k - 1 := by omega
      by_cases c4 : ltS P.id A.id = true
      case neg =>
        replace c4 : ltS P.id A.id = false := Bool.eq_false_iff.2 c4
        have le4 : Op.bytesLess P.id.toList A.id.toList = false := c4
        have HF : Hid ((List.range l.length).all (okL l) = false) := allR_false hlt (by rw [HOK.out, HUP.out c3, show ltLicence P A = false from c4]; simp)
        have fp := SP.out c3
        have oB := overC (w0 := wr) (show b < wr.heap.size by omega)
        rw [c1] at HV
        go_wp2
        refine wp_region_over wr.heap.size wr (Below.refl _ _) (by kernel_rfl) (by kernel_rfl) ?_
        repeat (go_big_quiet_step ((go_at_call 156; exact over_left (Nat.le_refl _) (HV.out _ (over_below _ _ _)))))
        refine wpQuiet_nil ?_
        rintro _ ⟨X, rfl⟩
        have hX := over_below wr.heap.size wr X
        clear oB
        generalize over wr.heap.size wr X = w2 at *
        have BF := Lib.hid (HB.out.trans (hX.mono (by omega)))
        clear hX
        clear i3 i5
        have HQ : Hid (holdB l = false) := by show _ = _; unfold holdB; rw [HF.out]; simp
        go_wp2
        go_ret
        exact ⟨by rw [HQ.out]; rfl, BF.out⟩
      have le4 : Op.bytesLess P.id.toList A.id.toList = true := c4
      have HF : Hid (upOk licB ltLicence l k = true) := by show _ = _; rw [HUP.out c3, Bool.and_eq_true]; exact ⟨HM.out, c4⟩
      have fp := SP.out c3
      have oB := overC (w0 := wr) (show b < wr.heap.size by omega)
      rw [c1] at HV
      go_wp2
      refine wp_region_over wr.heap.size wr (Below.refl _ _) (by kernel_rfl) (by kernel_rfl) ?_
      repeat (go_big_quiet_step ((go_at_call 156; exact over_left (Nat.le_refl _) (HV.out _ (over_below _ _ _)))))
      refine wpQuiet_nil ?_
      rintro _ ⟨X, rfl⟩
      have hX := over_below wr.heap.size wr X
      clear oB
      generalize over wr.heap.size wr X = w2 at *
      have BF := Lib.hid (HB.out.trans (hX.mono (by omega)))
      clear hX
      clear i3 i5
      clear s0 s1 s2 s3 s4 s5 s6 s7 s8 s9 s10 yb i1 i2
      go_wp2
      go_loopw [4] (fun i wr => ∃ (m : Nat), m ≤ k ∧ i = .int .i64 m ∧ (∀ j, j < m → clashB A (gLicence l j) = false) ∧ Below w.heap.size w wr) (fun i wr => k - (intOf i).toNat)
      case atStart => exact ⟨0, Nat.zero_le _, rfl, fun j hj => absurd hj (by omega), BF.out⟩
      case round =>
        obtain ⟨m, hm, rfl, hnc2, hb2⟩ := hrel
        have HN2 := Lib.hid hnc2
        have HB2 := Lib.hid hb2
        have zb2 := hb2.size
        clear hnc2 hb2
        by_cases hmk : m < k
        · have hml : m < l.length := by omega
          obtain ⟨s0, s1, s2, s3, s4, s5, s6, s7, s8, s9, s10⟩ := HAT.out k hlt
          obtain ⟨t0, t1, t2, t3, t4, t5, t6, t7, t8, t9, t10⟩ := HAT.out m hml
          rw [← bat HB2.out b _ hbw, gLicence_eq hlt] at s0 s1 s2 s3 s4 s5 s6 s7 s8 s9 s10
          rw [← bat HB2.out b _ hbw, gLicence_eq hml] at t0 t1 t2 t3 t4 t5 t6 t7 t8 t9 t10
          have HNM : Hid (clashB A (gLicence l m) = true → (l.take k).any (clashB A) = true) := fun h => any_take_some (by omega) hmk h
          rw [HGA.out] at s0 s1 s2 s3 s4 s5 s6 s7 s8 s9 s10
          generalize hM : gLicence l m = M at *
          have j0 : (0 : Int) ≤ (k : Int) := by omega
          have j1 : (k : Int) < (l.length : Int) := by omega
          have j2 : (0 : Int) ≤ (m : Int) := by omega
          have j3 : (m : Int) < (l.length : Int) := by omega
          have j4 : (m : Int) < (k : Int) := by omega
          have yb2 : b < wr.heap.size := by omega
          have HC : Hid (∀ W : World, Below wr.heap.size wr W → Calls Tryz.prog 157 #[.pointer (some ⟨b, off + k * 11, none⟩), .pointer (some ⟨b, off + m * 11, none⟩)] W fun e w' => e = .returned (.bool (clashB A M)) ∧ Below W.heap.size W w') := fun W hW => l26Clash_any A M b (off + k * 11) b (off + m * 11) W ((bat hW b _ yb2).trans s0) ((bat hW b _ yb2).trans s1) ((bat hW b _ yb2).trans s2) ((bat hW b _ yb2).trans s3) ((bat hW b _ yb2).trans s4) ((bat hW b _ yb2).trans s5) ((bat hW b _ yb2).trans s6) ((bat hW b _ yb2).trans s7) ((bat hW b _ yb2).trans s8) ((bat hW b _ yb2).trans s9) ((bat hW b _ yb2).trans s10) ((bat hW b _ yb2).trans t0) ((bat hW b _ yb2).trans t1) ((bat hW b _ yb2).trans t2) ((bat hW b _ yb2).trans t3) ((bat hW b _ yb2).trans t4) ((bat hW b _ yb2).trans t5) ((bat hW b _ yb2).trans t6) ((bat hW b _ yb2).trans t7) ((bat hW b _ yb2).trans t8) ((bat hW b _ yb2).trans t9) ((bat hW b _ yb2).trans t10)
          go_wp2
          by_cases c6 : clashB A M = true
          case pos =>
            rw [c6] at HC
            refine wp_region_over wr.heap.size wr (Below.refl _ _) (by kernel_rfl) (by kernel_rfl) ?_
            repeat (go_big_quiet_step ((go_at_call 157; exact over_left (Nat.le_refl _) (HC.out _ (over_below _ _ _)))))
            refine wpQuiet_nil ?_
            rintro _ ⟨X, rfl⟩
            have hX := over_below wr.heap.size wr X
            generalize over wr.heap.size wr X = w3 at *
            have BG := Lib.hid (HB2.out.trans (hX.mono (by omega)))
            clear hX
            have HQ : Hid (holdB l = false) := by show _ = _; unfold holdB; rw [allR_false hlt (by rw [HOK.out, HNM.out c6]; simp)]; simp
            go_wp2
            go_ret
            exact ⟨by rw [HQ.out]; rfl, BG.out⟩
          replace c6 : clashB A M = false := Bool.eq_false_iff.2 c6
          rw [c6] at HC
          refine wp_region_over wr.heap.size wr (Below.refl _ _) (by kernel_rfl) (by kernel_rfl) ?_
          repeat (go_big_quiet_step ((go_at_call 157; exact over_left (Nat.le_refl _) (HC.out _ (over_below _ _ _)))))
          refine wpQuiet_nil ?_
          rintro _ ⟨X, rfl⟩
          have hX := over_below wr.heap.size wr X
          generalize over wr.heap.size wr X = w3 at *
          have BG := Lib.hid (HB2.out.trans (hX.mono (by omega)))
          clear hX
          go_wp2
          go_roundw
          case rel => exact ⟨m + 1, by omega, by go_num, fun j hj => by
            by_cases e : j = m
            · rw [e, hM]; exact c6
            · exact HN2.out j (by omega), BG.out⟩
          case measure => simp [intOf]; omega
        · obtain rfl : m = k := by omega
          have HG : Hid (okL l m = true) := by show _ = _; rw [HOK.out, HF.out, any_take_none (by omega) HN2.out]; rfl
          have j4 : (m : Int) < 1099511627776 := by omega
          go_wp2
          go_roundw
          case rel => exact ⟨m + 1, by omega, by go_num, upTo_succ HN.out (HG.out), HB2.out⟩
          case measure => simp [intOf]; omega
    · obtain rfl : k = l.length := by omega
      have HR : Hid ((List.range l.length).all (okL l) = true) := allR_true HN.out
      by_cases hlim : l.length ≤ 24
      · have hlj : (l.length : Int) ≤ 24 := by omega
        have HQ : Hid (holdB l = true) := by show _ = _; unfold holdB; rw [HR.out, decide_eq_true hlim]; rfl
        go_wp2
        go_ret
        exact ⟨by rw [HQ.out]; rfl, HB.out⟩
      · have hlj : 24 < l.length := by omega
        have hlk : (24 : Int) < (l.length : Int) := by omega
        have HQ : Hid (holdB l = false) := by show _ = _; unfold holdB; rw [HR.out, decide_eq_false hlim]; rfl
        have HZ : Hid (decide ((l.length : Int) ≤ 24) = false) := decide_eq_false (by omega)
        go_wp2
        go_ret
        exact ⟨by rw [HQ.out, ← HZ.out]; rfl, HB.out⟩
end Go.Proofs.YtlfkdhakibagaaaGreat
