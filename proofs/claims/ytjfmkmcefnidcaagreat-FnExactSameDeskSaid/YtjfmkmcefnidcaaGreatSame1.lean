/- Contracts: rows of plain structs are equal, for the program and for the reference. Conditions: bounded lengths. -/
import Derived.Test.YtjfmkmcefnidcaaGreatSame0
import Derived.Test.YtjfmkmcefnidcaaGreatHSite
import Derived.Test.YtjfmkmcefnidcaaGreatHSector
import Derived.Test.YtjfmkmcefnidcaaGreatHMode
import Derived.Test.YtjfmkmcefnidcaaGreatHBand
import Derived.Test.YtjfmkmcefnidcaaGreatHLicence
import Derived.Test.YtjfmkmcefnidcaaGreatHProtected
import Derived.Test.YtjfmkmcefnidcaaGreatHRequest
import Derived.Test.YtjfmkmcefnidcaaGreatOver
import Derived.Deep.DeepCutAuto
import Derived.Laws.StructEq
namespace Go.Proofs.YtjfmkmcefnidcaaGreat
open Go.RowKit
set_option linter.unusedVariables false
set_option linter.unusedSimpArgs false

set_option maxHeartbeats 2000000 in
set_option maxRecDepth 100000 in
theorem equalSite_any (l m : List DSite) (v u : Value) (B : Nat) (w : World) (h : Rd B w (DSite.sT l) v) (h' : Rd B w (DSite.sT m) u) (hB : B ≤ w.heap.size) (hn : l.length ≤ 1099511627776) (hm : m.length ≤ 1099511627776) :
    Calls Tryz.prog 76 #[v, u] w fun e w' => e = .returned (.bool (sameSiteS l m)) ∧ Below w.heap.size w w' := by
  obtain ⟨a, c, rfl, hnc, hcm, hcells⟩ := DSite.rd h
  obtain ⟨a', c', rfl, hnc', hcm', hcells'⟩ := DSite.rd h'
  clear h h'
  by_cases hl : l.length = m.length
  case neg =>
    have HE := Lib.hid (sameSiteS_len hl)
    have hne : ((l.length : Int) != (m.length : Int)) = true := by simp; omega
    clear hcells hcells'
    go_enter Tryz.func76, Tryz.ntmps76
    go_wp2
    go_ret
    exact ⟨by rw [HE.out]; rfl, Below.refl _ _⟩
  have hnb : (l.length : Int) ≤ 1099511627776 := by omega
  have hne : ((l.length : Int) != (m.length : Int)) = false := by simp; omega
  have HL := Lib.hid hl
  clear hl
  go_enter Tryz.func76, Tryz.ntmps76
  go_wp2
  go_loopw [13] (fun i wr => ∃ (k : Nat), k ≤ l.length ∧ i = .int .i64 k ∧ (∀ j (hl : j < l.length), j < k → sameSite l[j] (m[j]'(by have := HL.out; omega)) = true) ∧ Below w.heap.size w wr) (fun i wr => l.length - (intOf i).toNat)
  case atStart => exact ⟨0, Nat.zero_le _, rfl, fun j hl h => absurd h (by omega), Below.refl _ _⟩
  case round =>
    obtain ⟨k, hk, rfl, hall, hb⟩ := hrel
    have HA := Lib.hid hall
    have HB := Lib.hid hb
    clear hall hb
    by_cases hlt : k < l.length
    · have hlm : k < m.length := by rw [← HL.out]; exact hlt
      obtain ⟨b, off, rfl, hbl, hat⟩ := hcells (by omega)
      obtain ⟨b', off', rfl, hbl', hat'⟩ := hcells' (by omega)
      obtain ⟨s0, s1, s2, s3⟩ := hat k hlt
      obtain ⟨t0, t1, t2, t3⟩ := hat' k hlm
      rw [← HB.out.cell (p := ⟨b, _, none⟩) (show b < w.heap.size by omega)] at s0 s1 s2 s3
      rw [← HB.out.cell (p := ⟨b', _, none⟩) (show b' < w.heap.size by omega)] at t0 t1 t2 t3
      have j0 : (0 : Int) ≤ (k : Int) := by omega
      have j1 : (k : Int) < (l.length : Int) := by omega
      have j2 : (k : Int) < (m.length : Int) := by omega
      have yr : w.heap.size ≤ wr.heap.size := HB.out.size
      clear hcells hat hcells' hat'
      have HF : Hid (sameSite l[k] m[k] = false → sameSiteS l m = false) := fun h => sameSiteS_at hlt hlm h
      have HT : Hid (sameSite l[k] m[k] = true → ∀ j (hl : j < l.length), j < k + 1 → sameSite l[j] (m[j]'(by have := HL.out; omega)) = true) := fun h j hl hj => by
        by_cases e : j = k
        · subst e; exact h
        · exact HA.out j hl (by omega)
      have oB := overC (w0 := wr) (show b < wr.heap.size by omega)
      have oB2 := overC (w0 := wr) (show b' < wr.heap.size by omega)
      generalize l[k] = X at *
      generalize m[k] = Y at *
      go_upto_region 6 with (fail)
      by_cases e0 : X.name.toList = Y.name.toList
      case neg =>
        have e0b : (X.name.toList == Y.name.toList) = false := beq_eq_false_iff_ne.2 e0
        have HE := Lib.hid (HF.out (by unfold sameSite; simp only [eqS, e0b, Bool.false_and, Bool.and_false]))
        clear e0b
        refine wp_region_over wr.heap.size wr (Below.refl _ _) (by kernel_rfl) (by kernel_rfl) ?_
        repeat (go_big_quiet_step (fail))
        refine wpQuiet_nil ?_
        rintro _ ⟨Z, rfl⟩
        have BE := Lib.hid (HB.out.trans ((over_below wr.heap.size wr Z).mono (by omega)))
        clear oB oB2
        generalize over wr.heap.size wr Z = w2 at *
        go_wp2
        go_ret
        exact ⟨by rw [HE.out]; rfl, BE.out⟩
      by_cases e1 : X.holder.toList = Y.holder.toList
      case neg =>
        have e1b : (X.holder.toList == Y.holder.toList) = false := beq_eq_false_iff_ne.2 e1
        have HE := Lib.hid (HF.out (by unfold sameSite; simp only [eqS, e1b, Bool.false_and, Bool.and_false]))
        clear e1b
        refine wp_region_over wr.heap.size wr (Below.refl _ _) (by kernel_rfl) (by kernel_rfl) ?_
        repeat (go_big_quiet_step (fail))
        refine wpQuiet_nil ?_
        rintro _ ⟨Z, rfl⟩
        have BE := Lib.hid (HB.out.trans ((over_below wr.heap.size wr Z).mono (by omega)))
        clear oB oB2
        generalize over wr.heap.size wr Z = w2 at *
        go_wp2
        go_ret
        exact ⟨by rw [HE.out]; rfl, BE.out⟩
      by_cases e2 : X.place.x = Y.place.x
      case neg =>
        have e2b : (X.place.x == Y.place.x) = false := beq_eq_false_iff_ne.2 e2
        have HE := Lib.hid (HF.out (by unfold sameSite; simp only [eqS, e2b, Bool.false_and, Bool.and_false]))
        clear e2b
        refine wp_region_over wr.heap.size wr (Below.refl _ _) (by kernel_rfl) (by kernel_rfl) ?_
        repeat (go_big_quiet_step (fail))
        refine wpQuiet_nil ?_
        rintro _ ⟨Z, rfl⟩
        have BE := Lib.hid (HB.out.trans ((over_below wr.heap.size wr Z).mono (by omega)))
        clear oB oB2
        generalize over wr.heap.size wr Z = w2 at *
        go_wp2
        go_ret
        exact ⟨by rw [HE.out]; rfl, BE.out⟩
      by_cases e3 : X.place.y = Y.place.y
      case neg =>
        have e3b : (X.place.y == Y.place.y) = false := beq_eq_false_iff_ne.2 e3
        have HE := Lib.hid (HF.out (by unfold sameSite; simp only [eqS, e3b, Bool.false_and, Bool.and_false]))
        clear e3b
        refine wp_region_over wr.heap.size wr (Below.refl _ _) (by kernel_rfl) (by kernel_rfl) ?_
        repeat (go_big_quiet_step (fail))
        refine wpQuiet_nil ?_
        rintro _ ⟨Z, rfl⟩
        have BE := Lib.hid (HB.out.trans ((over_below wr.heap.size wr Z).mono (by omega)))
        clear oB oB2
        generalize over wr.heap.size wr Z = w2 at *
        go_wp2
        go_ret
        exact ⟨by rw [HE.out]; rfl, BE.out⟩
      have HE := Lib.hid (HT.out (by unfold sameSite; simp [eqS, e0, e1, e2, e3]))
      refine wp_region_over wr.heap.size wr (Below.refl _ _) (by kernel_rfl) (by kernel_rfl) ?_
      repeat (go_big_quiet_step (fail))
      refine wpQuiet_nil ?_
      rintro _ ⟨Z, rfl⟩
      have BE := Lib.hid (HB.out.trans ((over_below wr.heap.size wr Z).mono (by omega)))
      clear oB oB2
      generalize over wr.heap.size wr Z = w2 at *
      clear e0 e1 e2 e3
      go_wp2
      go_roundw
      case rel => exact ⟨k + 1, by omega, by go_num, HE.out, BE.out⟩
      case measure => simp [intOf]; omega
    · obtain rfl : k = l.length := by omega
      have HE := Lib.hid (sameSiteS_all HL.out (fun j hl => HA.out j hl hl))
      clear hcells hcells'
      go_wp2
      go_ret
      exact ⟨by rw [HE.out]; rfl, HB.out⟩
set_option maxHeartbeats 2000000 in
set_option maxRecDepth 100000 in
theorem equalSector_any (l m : List DSector) (v u : Value) (B : Nat) (w : World) (h : Rd B w (DSector.sT l) v) (h' : Rd B w (DSector.sT m) u) (hB : B ≤ w.heap.size) (hn : l.length ≤ 1099511627776) (hm : m.length ≤ 1099511627776) :
    Calls Tryz.prog 77 #[v, u] w fun e w' => e = .returned (.bool (sameSectorS l m)) ∧ Below w.heap.size w w' := by
  obtain ⟨a, c, rfl, hnc, hcm, hcells⟩ := DSector.rd h
  obtain ⟨a', c', rfl, hnc', hcm', hcells'⟩ := DSector.rd h'
  clear h h'
  by_cases hl : l.length = m.length
  case neg =>
    have HE := Lib.hid (sameSectorS_len hl)
    have hne : ((l.length : Int) != (m.length : Int)) = true := by simp; omega
    clear hcells hcells'
    go_enter Tryz.func77, Tryz.ntmps77
    go_wp2
    go_ret
    exact ⟨by rw [HE.out]; rfl, Below.refl _ _⟩
  have hnb : (l.length : Int) ≤ 1099511627776 := by omega
  have hne : ((l.length : Int) != (m.length : Int)) = false := by simp; omega
  have HL := Lib.hid hl
  clear hl
  go_enter Tryz.func77, Tryz.ntmps77
  go_wp2
  go_loopw [13] (fun i wr => ∃ (k : Nat), k ≤ l.length ∧ i = .int .i64 k ∧ (∀ j (hl : j < l.length), j < k → sameSector l[j] (m[j]'(by have := HL.out; omega)) = true) ∧ Below w.heap.size w wr) (fun i wr => l.length - (intOf i).toNat)
  case atStart => exact ⟨0, Nat.zero_le _, rfl, fun j hl h => absurd h (by omega), Below.refl _ _⟩
  case round =>
    obtain ⟨k, hk, rfl, hall, hb⟩ := hrel
    have HA := Lib.hid hall
    have HB := Lib.hid hb
    clear hall hb
    by_cases hlt : k < l.length
    · have hlm : k < m.length := by rw [← HL.out]; exact hlt
      obtain ⟨b, off, rfl, hbl, hat⟩ := hcells (by omega)
      obtain ⟨b', off', rfl, hbl', hat'⟩ := hcells' (by omega)
      obtain ⟨s0, s1, s2, s3, s4, s5, s6, s7, s8⟩ := hat k hlt
      obtain ⟨t0, t1, t2, t3, t4, t5, t6, t7, t8⟩ := hat' k hlm
      rw [← HB.out.cell (p := ⟨b, _, none⟩) (show b < w.heap.size by omega)] at s0 s1 s2 s3 s4 s5 s6 s7 s8
      rw [← HB.out.cell (p := ⟨b', _, none⟩) (show b' < w.heap.size by omega)] at t0 t1 t2 t3 t4 t5 t6 t7 t8
      have j0 : (0 : Int) ≤ (k : Int) := by omega
      have j1 : (k : Int) < (l.length : Int) := by omega
      have j2 : (k : Int) < (m.length : Int) := by omega
      have yr : w.heap.size ≤ wr.heap.size := HB.out.size
      clear hcells hat hcells' hat'
      have HF : Hid (sameSector l[k] m[k] = false → sameSectorS l m = false) := fun h => sameSectorS_at hlt hlm h
      have HT : Hid (sameSector l[k] m[k] = true → ∀ j (hl : j < l.length), j < k + 1 → sameSector l[j] (m[j]'(by have := HL.out; omega)) = true) := fun h j hl hj => by
        by_cases e : j = k
        · subst e; exact h
        · exact HA.out j hl (by omega)
      have oB := overC (w0 := wr) (show b < wr.heap.size by omega)
      have oB2 := overC (w0 := wr) (show b' < wr.heap.size by omega)
      generalize l[k] = X at *
      generalize m[k] = Y at *
      go_upto_region 6 with (fail)
      by_cases e0 : X.name.toList = Y.name.toList
      case neg =>
        have e0b : (X.name.toList == Y.name.toList) = false := beq_eq_false_iff_ne.2 e0
        have HE := Lib.hid (HF.out (by unfold sameSector; simp only [eqS, e0b, Bool.false_and, Bool.and_false]))
        clear e0b
        refine wp_region_over wr.heap.size wr (Below.refl _ _) (by kernel_rfl) (by kernel_rfl) ?_
        repeat (go_big_quiet_step (fail))
        refine wpQuiet_nil ?_
        rintro _ ⟨Z, rfl⟩
        have BE := Lib.hid (HB.out.trans ((over_below wr.heap.size wr Z).mono (by omega)))
        clear oB oB2
        generalize over wr.heap.size wr Z = w2 at *
        go_wp2
        go_ret
        exact ⟨by rw [HE.out]; rfl, BE.out⟩
      by_cases e1 : X.site.toList = Y.site.toList
      case neg =>
        have e1b : (X.site.toList == Y.site.toList) = false := beq_eq_false_iff_ne.2 e1
        have HE := Lib.hid (HF.out (by unfold sameSector; simp only [eqS, e1b, Bool.false_and, Bool.and_false]))
        clear e1b
        refine wp_region_over wr.heap.size wr (Below.refl _ _) (by kernel_rfl) (by kernel_rfl) ?_
        repeat (go_big_quiet_step (fail))
        refine wpQuiet_nil ?_
        rintro _ ⟨Z, rfl⟩
        have BE := Lib.hid (HB.out.trans ((over_below wr.heap.size wr Z).mono (by omega)))
        clear oB oB2
        generalize over wr.heap.size wr Z = w2 at *
        go_wp2
        go_ret
        exact ⟨by rw [HE.out]; rfl, BE.out⟩
      by_cases e2 : X.antenna.toList = Y.antenna.toList
      case neg =>
        have e2b : (X.antenna.toList == Y.antenna.toList) = false := beq_eq_false_iff_ne.2 e2
        have HE := Lib.hid (HF.out (by unfold sameSector; simp only [eqS, e2b, Bool.false_and, Bool.and_false]))
        clear e2b
        refine wp_region_over wr.heap.size wr (Below.refl _ _) (by kernel_rfl) (by kernel_rfl) ?_
        repeat (go_big_quiet_step (fail))
        refine wpQuiet_nil ?_
        rintro _ ⟨Z, rfl⟩
        have BE := Lib.hid (HB.out.trans ((over_below wr.heap.size wr Z).mono (by omega)))
        clear oB oB2
        generalize over wr.heap.size wr Z = w2 at *
        go_wp2
        go_ret
        exact ⟨by rw [HE.out]; rfl, BE.out⟩
      by_cases e3 : X.radio.toList = Y.radio.toList
      case neg =>
        have e3b : (X.radio.toList == Y.radio.toList) = false := beq_eq_false_iff_ne.2 e3
        have HE := Lib.hid (HF.out (by unfold sameSector; simp only [eqS, e3b, Bool.false_and, Bool.and_false]))
        clear e3b
        refine wp_region_over wr.heap.size wr (Below.refl _ _) (by kernel_rfl) (by kernel_rfl) ?_
        repeat (go_big_quiet_step (fail))
        refine wpQuiet_nil ?_
        rintro _ ⟨Z, rfl⟩
        have BE := Lib.hid (HB.out.trans ((over_below wr.heap.size wr Z).mono (by omega)))
        clear oB oB2
        generalize over wr.heap.size wr Z = w2 at *
        go_wp2
        go_ret
        exact ⟨by rw [HE.out]; rfl, BE.out⟩
      by_cases e4 : X.band.toList = Y.band.toList
      case neg =>
        have e4b : (X.band.toList == Y.band.toList) = false := beq_eq_false_iff_ne.2 e4
        have HE := Lib.hid (HF.out (by unfold sameSector; simp only [eqS, e4b, Bool.false_and, Bool.and_false]))
        clear e4b
        refine wp_region_over wr.heap.size wr (Below.refl _ _) (by kernel_rfl) (by kernel_rfl) ?_
        repeat (go_big_quiet_step (fail))
        refine wpQuiet_nil ?_
        rintro _ ⟨Z, rfl⟩
        have BE := Lib.hid (HB.out.trans ((over_below wr.heap.size wr Z).mono (by omega)))
        clear oB oB2
        generalize over wr.heap.size wr Z = w2 at *
        go_wp2
        go_ret
        exact ⟨by rw [HE.out]; rfl, BE.out⟩
      by_cases e5 : X.azimuth = Y.azimuth
      case neg =>
        have e5b : (X.azimuth == Y.azimuth) = false := beq_eq_false_iff_ne.2 e5
        have HE := Lib.hid (HF.out (by unfold sameSector; simp only [eqS, e5b, Bool.false_and, Bool.and_false]))
        clear e5b
        refine wp_region_over wr.heap.size wr (Below.refl _ _) (by kernel_rfl) (by kernel_rfl) ?_
        repeat (go_big_quiet_step (fail))
        refine wpQuiet_nil ?_
        rintro _ ⟨Z, rfl⟩
        have BE := Lib.hid (HB.out.trans ((over_below wr.heap.size wr Z).mono (by omega)))
        clear oB oB2
        generalize over wr.heap.size wr Z = w2 at *
        go_wp2
        go_ret
        exact ⟨by rw [HE.out]; rfl, BE.out⟩
      by_cases e6 : X.tilt = Y.tilt
      case neg =>
        have e6b : (X.tilt == Y.tilt) = false := beq_eq_false_iff_ne.2 e6
        have HE := Lib.hid (HF.out (by unfold sameSector; simp only [eqS, e6b, Bool.false_and, Bool.and_false]))
        clear e6b
        refine wp_region_over wr.heap.size wr (Below.refl _ _) (by kernel_rfl) (by kernel_rfl) ?_
        repeat (go_big_quiet_step (fail))
        refine wpQuiet_nil ?_
        rintro _ ⟨Z, rfl⟩
        have BE := Lib.hid (HB.out.trans ((over_below wr.heap.size wr Z).mono (by omega)))
        clear oB oB2
        generalize over wr.heap.size wr Z = w2 at *
        go_wp2
        go_ret
        exact ⟨by rw [HE.out]; rfl, BE.out⟩
      by_cases e7 : X.above = Y.above
      case neg =>
        have e7b : (X.above == Y.above) = false := beq_eq_false_iff_ne.2 e7
        have HE := Lib.hid (HF.out (by unfold sameSector; simp only [eqS, e7b, Bool.false_and, Bool.and_false]))
        clear e7b
        refine wp_region_over wr.heap.size wr (Below.refl _ _) (by kernel_rfl) (by kernel_rfl) ?_
        repeat (go_big_quiet_step (fail))
        refine wpQuiet_nil ?_
        rintro _ ⟨Z, rfl⟩
        have BE := Lib.hid (HB.out.trans ((over_below wr.heap.size wr Z).mono (by omega)))
        clear oB oB2
        generalize over wr.heap.size wr Z = w2 at *
        go_wp2
        go_ret
        exact ⟨by rw [HE.out]; rfl, BE.out⟩
      by_cases e8 : X.channel = Y.channel
      case neg =>
        have e8b : (X.channel == Y.channel) = false := beq_eq_false_iff_ne.2 e8
        have HE := Lib.hid (HF.out (by unfold sameSector; simp only [eqS, e8b, Bool.false_and, Bool.and_false]))
        clear e8b
        refine wp_region_over wr.heap.size wr (Below.refl _ _) (by kernel_rfl) (by kernel_rfl) ?_
        repeat (go_big_quiet_step (fail))
        refine wpQuiet_nil ?_
        rintro _ ⟨Z, rfl⟩
        have BE := Lib.hid (HB.out.trans ((over_below wr.heap.size wr Z).mono (by omega)))
        clear oB oB2
        generalize over wr.heap.size wr Z = w2 at *
        go_wp2
        go_ret
        exact ⟨by rw [HE.out]; rfl, BE.out⟩
      have HE := Lib.hid (HT.out (by unfold sameSector; simp [eqS, e0, e1, e2, e3, e4, e5, e6, e7, e8]))
      refine wp_region_over wr.heap.size wr (Below.refl _ _) (by kernel_rfl) (by kernel_rfl) ?_
      repeat (go_big_quiet_step (fail))
      refine wpQuiet_nil ?_
      rintro _ ⟨Z, rfl⟩
      have BE := Lib.hid (HB.out.trans ((over_below wr.heap.size wr Z).mono (by omega)))
      clear oB oB2
      generalize over wr.heap.size wr Z = w2 at *
      clear e0 e1 e2 e3 e4 e5 e6 e7 e8
      go_wp2
      go_roundw
      case rel => exact ⟨k + 1, by omega, by go_num, HE.out, BE.out⟩
      case measure => simp [intOf]; omega
    · obtain rfl : k = l.length := by omega
      have HE := Lib.hid (sameSectorS_all HL.out (fun j hl => HA.out j hl hl))
      clear hcells hcells'
      go_wp2
      go_ret
      exact ⟨by rw [HE.out]; rfl, HB.out⟩
set_option maxHeartbeats 2000000 in
set_option maxRecDepth 100000 in
theorem equalMode_any (l m : List DMode) (v u : Value) (B : Nat) (w : World) (h : Rd B w (DMode.sT l) v) (h' : Rd B w (DMode.sT m) u) (hB : B ≤ w.heap.size) (hn : l.length ≤ 1099511627776) (hm : m.length ≤ 1099511627776) :
    Calls Tryz.prog 142 #[v, u] w fun e w' => e = .returned (.bool (sameModeS l m)) ∧ Below w.heap.size w w' := by
  obtain ⟨a, c, rfl, hnc, hcm, hcells⟩ := DMode.rd h
  obtain ⟨a', c', rfl, hnc', hcm', hcells'⟩ := DMode.rd h'
  clear h h'
  by_cases hl : l.length = m.length
  case neg =>
    have HE := Lib.hid (sameModeS_len hl)
    have hne : ((l.length : Int) != (m.length : Int)) = true := by simp; omega
    clear hcells hcells'
    go_enter Tryz.func142, Tryz.ntmps142
    go_wp2
    go_ret
    exact ⟨by rw [HE.out]; rfl, Below.refl _ _⟩
  have hnb : (l.length : Int) ≤ 1099511627776 := by omega
  have hne : ((l.length : Int) != (m.length : Int)) = false := by simp; omega
  have HL := Lib.hid hl
  clear hl
  go_enter Tryz.func142, Tryz.ntmps142
  go_wp2
  go_loopw [13] (fun i wr => ∃ (k : Nat), k ≤ l.length ∧ i = .int .i64 k ∧ (∀ j (hl : j < l.length), j < k → sameMode l[j] (m[j]'(by have := HL.out; omega)) = true) ∧ Below w.heap.size w wr) (fun i wr => l.length - (intOf i).toNat)
  case atStart => exact ⟨0, Nat.zero_le _, rfl, fun j hl h => absurd h (by omega), Below.refl _ _⟩
  case round =>
    obtain ⟨k, hk, rfl, hall, hb⟩ := hrel
    have HA := Lib.hid hall
    have HB := Lib.hid hb
    clear hall hb
    by_cases hlt : k < l.length
    · have hlm : k < m.length := by rw [← HL.out]; exact hlt
      obtain ⟨b, off, rfl, hbl, hat⟩ := hcells (by omega)
      obtain ⟨b', off', rfl, hbl', hat'⟩ := hcells' (by omega)
      obtain ⟨s0, s1⟩ := hat k hlt
      obtain ⟨t0, t1⟩ := hat' k hlm
      rw [← HB.out.cell (p := ⟨b, _, none⟩) (show b < w.heap.size by omega)] at s0 s1
      rw [← HB.out.cell (p := ⟨b', _, none⟩) (show b' < w.heap.size by omega)] at t0 t1
      have j0 : (0 : Int) ≤ (k : Int) := by omega
      have j1 : (k : Int) < (l.length : Int) := by omega
      have j2 : (k : Int) < (m.length : Int) := by omega
      have yr : w.heap.size ≤ wr.heap.size := HB.out.size
      clear hcells hat hcells' hat'
      have HF : Hid (sameMode l[k] m[k] = false → sameModeS l m = false) := fun h => sameModeS_at hlt hlm h
      have HT : Hid (sameMode l[k] m[k] = true → ∀ j (hl : j < l.length), j < k + 1 → sameMode l[j] (m[j]'(by have := HL.out; omega)) = true) := fun h j hl hj => by
        by_cases e : j = k
        · subst e; exact h
        · exact HA.out j hl (by omega)
      have oB := overC (w0 := wr) (show b < wr.heap.size by omega)
      have oB2 := overC (w0 := wr) (show b' < wr.heap.size by omega)
      generalize l[k] = X at *
      generalize m[k] = Y at *
      go_upto_region 6 with (fail)
      by_cases e0 : X.need = Y.need
      case neg =>
        have e0b : (X.need == Y.need) = false := beq_eq_false_iff_ne.2 e0
        have HE := Lib.hid (HF.out (by unfold sameMode; simp only [e0b, Bool.false_and, Bool.and_false]))
        clear e0b
        refine wp_region_over wr.heap.size wr (Below.refl _ _) (by kernel_rfl) (by kernel_rfl) ?_
        repeat (go_big_quiet_step (fail))
        refine wpQuiet_nil ?_
        rintro _ ⟨Z, rfl⟩
        have BE := Lib.hid (HB.out.trans ((over_below wr.heap.size wr Z).mono (by omega)))
        clear oB oB2
        generalize over wr.heap.size wr Z = w2 at *
        go_wp2
        go_ret
        exact ⟨by rw [HE.out]; rfl, BE.out⟩
      by_cases e1 : X.rate = Y.rate
      case neg =>
        have e1b : (X.rate == Y.rate) = false := beq_eq_false_iff_ne.2 e1
        have HE := Lib.hid (HF.out (by unfold sameMode; simp only [e1b, Bool.false_and, Bool.and_false]))
        clear e1b
        refine wp_region_over wr.heap.size wr (Below.refl _ _) (by kernel_rfl) (by kernel_rfl) ?_
        repeat (go_big_quiet_step (fail))
        refine wpQuiet_nil ?_
        rintro _ ⟨Z, rfl⟩
        have BE := Lib.hid (HB.out.trans ((over_below wr.heap.size wr Z).mono (by omega)))
        clear oB oB2
        generalize over wr.heap.size wr Z = w2 at *
        go_wp2
        go_ret
        exact ⟨by rw [HE.out]; rfl, BE.out⟩
      have HE := Lib.hid (HT.out (by unfold sameMode; simp [e0, e1]))
      refine wp_region_over wr.heap.size wr (Below.refl _ _) (by kernel_rfl) (by kernel_rfl) ?_
      repeat (go_big_quiet_step (fail))
      refine wpQuiet_nil ?_
      rintro _ ⟨Z, rfl⟩
      have BE := Lib.hid (HB.out.trans ((over_below wr.heap.size wr Z).mono (by omega)))
      clear oB oB2
      generalize over wr.heap.size wr Z = w2 at *
      clear e0 e1
      go_wp2
      go_roundw
      case rel => exact ⟨k + 1, by omega, by go_num, HE.out, BE.out⟩
      case measure => simp [intOf]; omega
    · obtain rfl : k = l.length := by omega
      have HE := Lib.hid (sameModeS_all HL.out (fun j hl => HA.out j hl hl))
      clear hcells hcells'
      go_wp2
      go_ret
      exact ⟨by rw [HE.out]; rfl, HB.out⟩
set_option maxHeartbeats 2000000 in
set_option maxRecDepth 100000 in
theorem equalBand_any (l m : List DBand) (v u : Value) (B : Nat) (w : World) (h : Rd B w (DBand.sT l) v) (h' : Rd B w (DBand.sT m) u) (hB : B ≤ w.heap.size) (hn : l.length ≤ 1099511627776) (hm : m.length ≤ 1099511627776) :
    Calls Tryz.prog 31 #[v, u] w fun e w' => e = .returned (.bool (sameBandS l m)) ∧ Below w.heap.size w w' := by
  obtain ⟨a, c, rfl, hnc, hcm, hcells⟩ := DBand.rd h
  obtain ⟨a', c', rfl, hnc', hcm', hcells'⟩ := DBand.rd h'
  clear h h'
  by_cases hl : l.length = m.length
  case neg =>
    have HE := Lib.hid (sameBandS_len hl)
    have hne : ((l.length : Int) != (m.length : Int)) = true := by simp; omega
    clear hcells hcells'
    go_enter Tryz.func31, Tryz.ntmps31
    go_wp2
    go_ret
    exact ⟨by rw [HE.out]; rfl, Below.refl _ _⟩
  have hnb : (l.length : Int) ≤ 1099511627776 := by omega
  have hne : ((l.length : Int) != (m.length : Int)) = false := by simp; omega
  have HL := Lib.hid hl
  clear hl
  go_enter Tryz.func31, Tryz.ntmps31
  go_wp2
  go_loopw [13] (fun i wr => ∃ (k : Nat), k ≤ l.length ∧ i = .int .i64 k ∧ (∀ j (hl : j < l.length), j < k → sameBand l[j] (m[j]'(by have := HL.out; omega)) = true) ∧ Below w.heap.size w wr) (fun i wr => l.length - (intOf i).toNat)
  case atStart => exact ⟨0, Nat.zero_le _, rfl, fun j hl h => absurd h (by omega), Below.refl _ _⟩
  case round =>
    obtain ⟨k, hk, rfl, hall, hb⟩ := hrel
    have HA := Lib.hid hall
    have HB := Lib.hid hb
    clear hall hb
    by_cases hlt : k < l.length
    · have hlm : k < m.length := by rw [← HL.out]; exact hlt
      obtain ⟨b, off, rfl, hbl, hat⟩ := hcells (by omega)
      obtain ⟨b', off', rfl, hbl', hat'⟩ := hcells' (by omega)
      obtain ⟨s0, s1, s2, s3, s4⟩ := hat k hlt
      obtain ⟨t0, t1, t2, t3, t4⟩ := hat' k hlm
      rw [← HB.out.cell (p := ⟨b, _, none⟩) (show b < w.heap.size by omega)] at s0 s1 s2 s3 s4
      rw [← HB.out.cell (p := ⟨b', _, none⟩) (show b' < w.heap.size by omega)] at t0 t1 t2 t3 t4
      have j0 : (0 : Int) ≤ (k : Int) := by omega
      have j1 : (k : Int) < (l.length : Int) := by omega
      have j2 : (k : Int) < (m.length : Int) := by omega
      have yr : w.heap.size ≤ wr.heap.size := HB.out.size
      clear hcells hat hcells' hat'
      have HF : Hid (sameBand l[k] m[k] = false → sameBandS l m = false) := fun h => sameBandS_at hlt hlm h
      have HT : Hid (sameBand l[k] m[k] = true → ∀ j (hl : j < l.length), j < k + 1 → sameBand l[j] (m[j]'(by have := HL.out; omega)) = true) := fun h j hl hj => by
        by_cases e : j = k
        · subst e; exact h
        · exact HA.out j hl (by omega)
      have oB := overC (w0 := wr) (show b < wr.heap.size by omega)
      have oB2 := overC (w0 := wr) (show b' < wr.heap.size by omega)
      generalize l[k] = X at *
      generalize m[k] = Y at *
      go_upto_region 6 with (fail)
      by_cases e0 : X.name.toList = Y.name.toList
      case neg =>
        have e0b : (X.name.toList == Y.name.toList) = false := beq_eq_false_iff_ne.2 e0
        have HE := Lib.hid (HF.out (by unfold sameBand; simp only [eqS, e0b, Bool.false_and, Bool.and_false]))
        clear e0b
        refine wp_region_over wr.heap.size wr (Below.refl _ _) (by kernel_rfl) (by kernel_rfl) ?_
        repeat (go_big_quiet_step (fail))
        refine wpQuiet_nil ?_
        rintro _ ⟨Z, rfl⟩
        have BE := Lib.hid (HB.out.trans ((over_below wr.heap.size wr Z).mono (by omega)))
        clear oB oB2
        generalize over wr.heap.size wr Z = w2 at *
        go_wp2
        go_ret
        exact ⟨by rw [HE.out]; rfl, BE.out⟩
      by_cases e1 : X.low = Y.low
      case neg =>
        have e1b : (X.low == Y.low) = false := beq_eq_false_iff_ne.2 e1
        have HE := Lib.hid (HF.out (by unfold sameBand; simp only [eqS, e1b, Bool.false_and, Bool.and_false]))
        clear e1b
        refine wp_region_over wr.heap.size wr (Below.refl _ _) (by kernel_rfl) (by kernel_rfl) ?_
        repeat (go_big_quiet_step (fail))
        refine wpQuiet_nil ?_
        rintro _ ⟨Z, rfl⟩
        have BE := Lib.hid (HB.out.trans ((over_below wr.heap.size wr Z).mono (by omega)))
        clear oB oB2
        generalize over wr.heap.size wr Z = w2 at *
        go_wp2
        go_ret
        exact ⟨by rw [HE.out]; rfl, BE.out⟩
      by_cases e2 : X.high = Y.high
      case neg =>
        have e2b : (X.high == Y.high) = false := beq_eq_false_iff_ne.2 e2
        have HE := Lib.hid (HF.out (by unfold sameBand; simp only [eqS, e2b, Bool.false_and, Bool.and_false]))
        clear e2b
        refine wp_region_over wr.heap.size wr (Below.refl _ _) (by kernel_rfl) (by kernel_rfl) ?_
        repeat (go_big_quiet_step (fail))
        refine wpQuiet_nil ?_
        rintro _ ⟨Z, rfl⟩
        have BE := Lib.hid (HB.out.trans ((over_below wr.heap.size wr Z).mono (by omega)))
        clear oB oB2
        generalize over wr.heap.size wr Z = w2 at *
        go_wp2
        go_ret
        exact ⟨by rw [HE.out]; rfl, BE.out⟩
      by_cases e3 : X.raster = Y.raster
      case neg =>
        have e3b : (X.raster == Y.raster) = false := beq_eq_false_iff_ne.2 e3
        have HE := Lib.hid (HF.out (by unfold sameBand; simp only [eqS, e3b, Bool.false_and, Bool.and_false]))
        clear e3b
        refine wp_region_over wr.heap.size wr (Below.refl _ _) (by kernel_rfl) (by kernel_rfl) ?_
        repeat (go_big_quiet_step (fail))
        refine wpQuiet_nil ?_
        rintro _ ⟨Z, rfl⟩
        have BE := Lib.hid (HB.out.trans ((over_below wr.heap.size wr Z).mono (by omega)))
        clear oB oB2
        generalize over wr.heap.size wr Z = w2 at *
        go_wp2
        go_ret
        exact ⟨by rw [HE.out]; rfl, BE.out⟩
      by_cases e4 : X.duplex = Y.duplex
      case neg =>
        have e4b : (X.duplex == Y.duplex) = false := beq_eq_false_iff_ne.2 e4
        have HE := Lib.hid (HF.out (by unfold sameBand; simp only [eqS, e4b, Bool.false_and, Bool.and_false]))
        clear e4b
        refine wp_region_over wr.heap.size wr (Below.refl _ _) (by kernel_rfl) (by kernel_rfl) ?_
        repeat (go_big_quiet_step (fail))
        refine wpQuiet_nil ?_
        rintro _ ⟨Z, rfl⟩
        have BE := Lib.hid (HB.out.trans ((over_below wr.heap.size wr Z).mono (by omega)))
        clear oB oB2
        generalize over wr.heap.size wr Z = w2 at *
        go_wp2
        go_ret
        exact ⟨by rw [HE.out]; rfl, BE.out⟩
      have HE := Lib.hid (HT.out (by unfold sameBand; simp [eqS, e0, e1, e2, e3, e4]))
      refine wp_region_over wr.heap.size wr (Below.refl _ _) (by kernel_rfl) (by kernel_rfl) ?_
      repeat (go_big_quiet_step (fail))
      refine wpQuiet_nil ?_
      rintro _ ⟨Z, rfl⟩
      have BE := Lib.hid (HB.out.trans ((over_below wr.heap.size wr Z).mono (by omega)))
      clear oB oB2
      generalize over wr.heap.size wr Z = w2 at *
      clear e0 e1 e2 e3 e4
      go_wp2
      go_roundw
      case rel => exact ⟨k + 1, by omega, by go_num, HE.out, BE.out⟩
      case measure => simp [intOf]; omega
    · obtain rfl : k = l.length := by omega
      have HE := Lib.hid (sameBandS_all HL.out (fun j hl => HA.out j hl hl))
      clear hcells hcells'
      go_wp2
      go_ret
      exact ⟨by rw [HE.out]; rfl, HB.out⟩
set_option maxHeartbeats 2000000 in
set_option maxRecDepth 100000 in
theorem equalLicence_any (l m : List DLicence) (v u : Value) (B : Nat) (w : World) (h : Rd B w (DLicence.sT l) v) (h' : Rd B w (DLicence.sT m) u) (hB : B ≤ w.heap.size) (hn : l.length ≤ 1099511627776) (hm : m.length ≤ 1099511627776) :
    Calls Tryz.prog 32 #[v, u] w fun e w' => e = .returned (.bool (sameLicenceS l m)) ∧ Below w.heap.size w w' := by
  obtain ⟨a, c, rfl, hnc, hcm, hcells⟩ := DLicence.rd h
  obtain ⟨a', c', rfl, hnc', hcm', hcells'⟩ := DLicence.rd h'
  clear h h'
  by_cases hl : l.length = m.length
  case neg =>
    have HE := Lib.hid (sameLicenceS_len hl)
    have hne : ((l.length : Int) != (m.length : Int)) = true := by simp; omega
    clear hcells hcells'
    go_enter Tryz.func32, Tryz.ntmps32
    go_wp2
    go_ret
    exact ⟨by rw [HE.out]; rfl, Below.refl _ _⟩
  have hnb : (l.length : Int) ≤ 1099511627776 := by omega
  have hne : ((l.length : Int) != (m.length : Int)) = false := by simp; omega
  have HL := Lib.hid hl
  clear hl
  go_enter Tryz.func32, Tryz.ntmps32
  go_wp2
  go_loopw [13] (fun i wr => ∃ (k : Nat), k ≤ l.length ∧ i = .int .i64 k ∧ (∀ j (hl : j < l.length), j < k → sameLicence l[j] (m[j]'(by have := HL.out; omega)) = true) ∧ Below w.heap.size w wr) (fun i wr => l.length - (intOf i).toNat)
  case atStart => exact ⟨0, Nat.zero_le _, rfl, fun j hl h => absurd h (by omega), Below.refl _ _⟩
  case round =>
    obtain ⟨k, hk, rfl, hall, hb⟩ := hrel
    have HA := Lib.hid hall
    have HB := Lib.hid hb
    clear hall hb
    by_cases hlt : k < l.length
    · have hlm : k < m.length := by rw [← HL.out]; exact hlt
      obtain ⟨b, off, rfl, hbl, hat⟩ := hcells (by omega)
      obtain ⟨b', off', rfl, hbl', hat'⟩ := hcells' (by omega)
      obtain ⟨s0, s1, s2, s3, s4, s5, s6, s7, s8, s9, s10⟩ := hat k hlt
      obtain ⟨t0, t1, t2, t3, t4, t5, t6, t7, t8, t9, t10⟩ := hat' k hlm
      rw [← HB.out.cell (p := ⟨b, _, none⟩) (show b < w.heap.size by omega)] at s0 s1 s2 s3 s4 s5 s6 s7 s8 s9 s10
      rw [← HB.out.cell (p := ⟨b', _, none⟩) (show b' < w.heap.size by omega)] at t0 t1 t2 t3 t4 t5 t6 t7 t8 t9 t10
      have j0 : (0 : Int) ≤ (k : Int) := by omega
      have j1 : (k : Int) < (l.length : Int) := by omega
      have j2 : (k : Int) < (m.length : Int) := by omega
      have yr : w.heap.size ≤ wr.heap.size := HB.out.size
      clear hcells hat hcells' hat'
      have HF : Hid (sameLicence l[k] m[k] = false → sameLicenceS l m = false) := fun h => sameLicenceS_at hlt hlm h
      have HT : Hid (sameLicence l[k] m[k] = true → ∀ j (hl : j < l.length), j < k + 1 → sameLicence l[j] (m[j]'(by have := HL.out; omega)) = true) := fun h j hl hj => by
        by_cases e : j = k
        · subst e; exact h
        · exact HA.out j hl (by omega)
      have oB := overC (w0 := wr) (show b < wr.heap.size by omega)
      have oB2 := overC (w0 := wr) (show b' < wr.heap.size by omega)
      generalize l[k] = X at *
      generalize m[k] = Y at *
      go_upto_region 6 with (fail)
      by_cases e0 : X.id.toList = Y.id.toList
      case neg =>
        have e0b : (X.id.toList == Y.id.toList) = false := beq_eq_false_iff_ne.2 e0
        have HE := Lib.hid (HF.out (by unfold sameLicence; simp only [eqS, e0b, Bool.false_and, Bool.and_false]))
        clear e0b
        refine wp_region_over wr.heap.size wr (Below.refl _ _) (by kernel_rfl) (by kernel_rfl) ?_
        repeat (go_big_quiet_step (fail))
        refine wpQuiet_nil ?_
        rintro _ ⟨Z, rfl⟩
        have BE := Lib.hid (HB.out.trans ((over_below wr.heap.size wr Z).mono (by omega)))
        clear oB oB2
        generalize over wr.heap.size wr Z = w2 at *
        go_wp2
        go_ret
        exact ⟨by rw [HE.out]; rfl, BE.out⟩
      by_cases e1 : X.holder.toList = Y.holder.toList
      case neg =>
        have e1b : (X.holder.toList == Y.holder.toList) = false := beq_eq_false_iff_ne.2 e1
        have HE := Lib.hid (HF.out (by unfold sameLicence; simp only [eqS, e1b, Bool.false_and, Bool.and_false]))
        clear e1b
        refine wp_region_over wr.heap.size wr (Below.refl _ _) (by kernel_rfl) (by kernel_rfl) ?_
        repeat (go_big_quiet_step (fail))
        refine wpQuiet_nil ?_
        rintro _ ⟨Z, rfl⟩
        have BE := Lib.hid (HB.out.trans ((over_below wr.heap.size wr Z).mono (by omega)))
        clear oB oB2
        generalize over wr.heap.size wr Z = w2 at *
        go_wp2
        go_ret
        exact ⟨by rw [HE.out]; rfl, BE.out⟩
      by_cases e2 : X.low = Y.low
      case neg =>
        have e2b : (X.low == Y.low) = false := beq_eq_false_iff_ne.2 e2
        have HE := Lib.hid (HF.out (by unfold sameLicence; simp only [eqS, e2b, Bool.false_and, Bool.and_false]))
        clear e2b
        refine wp_region_over wr.heap.size wr (Below.refl _ _) (by kernel_rfl) (by kernel_rfl) ?_
        repeat (go_big_quiet_step (fail))
        refine wpQuiet_nil ?_
        rintro _ ⟨Z, rfl⟩
        have BE := Lib.hid (HB.out.trans ((over_below wr.heap.size wr Z).mono (by omega)))
        clear oB oB2
        generalize over wr.heap.size wr Z = w2 at *
        go_wp2
        go_ret
        exact ⟨by rw [HE.out]; rfl, BE.out⟩
      by_cases e3 : X.high = Y.high
      case neg =>
        have e3b : (X.high == Y.high) = false := beq_eq_false_iff_ne.2 e3
        have HE := Lib.hid (HF.out (by unfold sameLicence; simp only [eqS, e3b, Bool.false_and, Bool.and_false]))
        clear e3b
        refine wp_region_over wr.heap.size wr (Below.refl _ _) (by kernel_rfl) (by kernel_rfl) ?_
        repeat (go_big_quiet_step (fail))
        refine wpQuiet_nil ?_
        rintro _ ⟨Z, rfl⟩
        have BE := Lib.hid (HB.out.trans ((over_below wr.heap.size wr Z).mono (by omega)))
        clear oB oB2
        generalize over wr.heap.size wr Z = w2 at *
        go_wp2
        go_ret
        exact ⟨by rw [HE.out]; rfl, BE.out⟩
      by_cases e4 : X.area.west = Y.area.west
      case neg =>
        have e4b : (X.area.west == Y.area.west) = false := beq_eq_false_iff_ne.2 e4
        have HE := Lib.hid (HF.out (by unfold sameLicence; simp only [eqS, e4b, Bool.false_and, Bool.and_false]))
        clear e4b
        refine wp_region_over wr.heap.size wr (Below.refl _ _) (by kernel_rfl) (by kernel_rfl) ?_
        repeat (go_big_quiet_step (fail))
        refine wpQuiet_nil ?_
        rintro _ ⟨Z, rfl⟩
        have BE := Lib.hid (HB.out.trans ((over_below wr.heap.size wr Z).mono (by omega)))
        clear oB oB2
        generalize over wr.heap.size wr Z = w2 at *
        go_wp2
        go_ret
        exact ⟨by rw [HE.out]; rfl, BE.out⟩
      by_cases e5 : X.area.south = Y.area.south
      case neg =>
        have e5b : (X.area.south == Y.area.south) = false := beq_eq_false_iff_ne.2 e5
        have HE := Lib.hid (HF.out (by unfold sameLicence; simp only [eqS, e5b, Bool.false_and, Bool.and_false]))
        clear e5b
        refine wp_region_over wr.heap.size wr (Below.refl _ _) (by kernel_rfl) (by kernel_rfl) ?_
        repeat (go_big_quiet_step (fail))
        refine wpQuiet_nil ?_
        rintro _ ⟨Z, rfl⟩
        have BE := Lib.hid (HB.out.trans ((over_below wr.heap.size wr Z).mono (by omega)))
        clear oB oB2
        generalize over wr.heap.size wr Z = w2 at *
        go_wp2
        go_ret
        exact ⟨by rw [HE.out]; rfl, BE.out⟩
      by_cases e6 : X.area.east = Y.area.east
      case neg =>
        have e6b : (X.area.east == Y.area.east) = false := beq_eq_false_iff_ne.2 e6
        have HE := Lib.hid (HF.out (by unfold sameLicence; simp only [eqS, e6b, Bool.false_and, Bool.and_false]))
        clear e6b
        refine wp_region_over wr.heap.size wr (Below.refl _ _) (by kernel_rfl) (by kernel_rfl) ?_
        repeat (go_big_quiet_step (fail))
        refine wpQuiet_nil ?_
        rintro _ ⟨Z, rfl⟩
        have BE := Lib.hid (HB.out.trans ((over_below wr.heap.size wr Z).mono (by omega)))
        clear oB oB2
        generalize over wr.heap.size wr Z = w2 at *
        go_wp2
        go_ret
        exact ⟨by rw [HE.out]; rfl, BE.out⟩
      by_cases e7 : X.area.north = Y.area.north
      case neg =>
        have e7b : (X.area.north == Y.area.north) = false := beq_eq_false_iff_ne.2 e7
        have HE := Lib.hid (HF.out (by unfold sameLicence; simp only [eqS, e7b, Bool.false_and, Bool.and_false]))
        clear e7b
        refine wp_region_over wr.heap.size wr (Below.refl _ _) (by kernel_rfl) (by kernel_rfl) ?_
        repeat (go_big_quiet_step (fail))
        refine wpQuiet_nil ?_
        rintro _ ⟨Z, rfl⟩
        have BE := Lib.hid (HB.out.trans ((over_below wr.heap.size wr Z).mono (by omega)))
        clear oB oB2
        generalize over wr.heap.size wr Z = w2 at *
        go_wp2
        go_ret
        exact ⟨by rw [HE.out]; rfl, BE.out⟩
      by_cases e8 : X.from_ = Y.from_
      case neg =>
        have e8b : (X.from_ == Y.from_) = false := beq_eq_false_iff_ne.2 e8
        have HE := Lib.hid (HF.out (by unfold sameLicence; simp only [eqS, e8b, Bool.false_and, Bool.and_false]))
        clear e8b
        refine wp_region_over wr.heap.size wr (Below.refl _ _) (by kernel_rfl) (by kernel_rfl) ?_
        repeat (go_big_quiet_step (fail))
        refine wpQuiet_nil ?_
        rintro _ ⟨Z, rfl⟩
        have BE := Lib.hid (HB.out.trans ((over_below wr.heap.size wr Z).mono (by omega)))
        clear oB oB2
        generalize over wr.heap.size wr Z = w2 at *
        go_wp2
        go_ret
        exact ⟨by rw [HE.out]; rfl, BE.out⟩
      by_cases e9 : X.until_ = Y.until_
      case neg =>
        have e9b : (X.until_ == Y.until_) = false := beq_eq_false_iff_ne.2 e9
        have HE := Lib.hid (HF.out (by unfold sameLicence; simp only [eqS, e9b, Bool.false_and, Bool.and_false]))
        clear e9b
        refine wp_region_over wr.heap.size wr (Below.refl _ _) (by kernel_rfl) (by kernel_rfl) ?_
        repeat (go_big_quiet_step (fail))
        refine wpQuiet_nil ?_
        rintro _ ⟨Z, rfl⟩
        have BE := Lib.hid (HB.out.trans ((over_below wr.heap.size wr Z).mono (by omega)))
        clear oB oB2
        generalize over wr.heap.size wr Z = w2 at *
        go_wp2
        go_ret
        exact ⟨by rw [HE.out]; rfl, BE.out⟩
      by_cases e10 : X.power = Y.power
      case neg =>
        have e10b : (X.power == Y.power) = false := beq_eq_false_iff_ne.2 e10
        have HE := Lib.hid (HF.out (by unfold sameLicence; simp only [eqS, e10b, Bool.false_and, Bool.and_false]))
        clear e10b
        refine wp_region_over wr.heap.size wr (Below.refl _ _) (by kernel_rfl) (by kernel_rfl) ?_
        repeat (go_big_quiet_step (fail))
        refine wpQuiet_nil ?_
        rintro _ ⟨Z, rfl⟩
        have BE := Lib.hid (HB.out.trans ((over_below wr.heap.size wr Z).mono (by omega)))
        clear oB oB2
        generalize over wr.heap.size wr Z = w2 at *
        go_wp2
        go_ret
        exact ⟨by rw [HE.out]; rfl, BE.out⟩
      have HE := Lib.hid (HT.out (by unfold sameLicence; simp [eqS, e0, e1, e2, e3, e4, e5, e6, e7, e8, e9, e10]))
      refine wp_region_over wr.heap.size wr (Below.refl _ _) (by kernel_rfl) (by kernel_rfl) ?_
      repeat (go_big_quiet_step (fail))
      refine wpQuiet_nil ?_
      rintro _ ⟨Z, rfl⟩
      have BE := Lib.hid (HB.out.trans ((over_below wr.heap.size wr Z).mono (by omega)))
      clear oB oB2
      generalize over wr.heap.size wr Z = w2 at *
      clear e0 e1 e2 e3 e4 e5 e6 e7 e8 e9 e10
      go_wp2
      go_roundw
      case rel => exact ⟨k + 1, by omega, by go_num, HE.out, BE.out⟩
      case measure => simp [intOf]; omega
    · obtain rfl : k = l.length := by omega
      have HE := Lib.hid (sameLicenceS_all HL.out (fun j hl => HA.out j hl hl))
      clear hcells hcells'
      go_wp2
      go_ret
      exact ⟨by rw [HE.out]; rfl, HB.out⟩
set_option maxHeartbeats 2000000 in
set_option maxRecDepth 100000 in
theorem equalProtected_any (l m : List DProtected) (v u : Value) (B : Nat) (w : World) (h : Rd B w (DProtected.sT l) v) (h' : Rd B w (DProtected.sT m) u) (hB : B ≤ w.heap.size) (hn : l.length ≤ 1099511627776) (hm : m.length ≤ 1099511627776) :
    Calls Tryz.prog 33 #[v, u] w fun e w' => e = .returned (.bool (sameProtectedS l m)) ∧ Below w.heap.size w w' := by
  obtain ⟨a, c, rfl, hnc, hcm, hcells⟩ := DProtected.rd h
  obtain ⟨a', c', rfl, hnc', hcm', hcells'⟩ := DProtected.rd h'
  clear h h'
  by_cases hl : l.length = m.length
  case neg =>
    have HE := Lib.hid (sameProtectedS_len hl)
    have hne : ((l.length : Int) != (m.length : Int)) = true := by simp; omega
    clear hcells hcells'
    go_enter Tryz.func33, Tryz.ntmps33
    go_wp2
    go_ret
    exact ⟨by rw [HE.out]; rfl, Below.refl _ _⟩
  have hnb : (l.length : Int) ≤ 1099511627776 := by omega
  have hne : ((l.length : Int) != (m.length : Int)) = false := by simp; omega
  have HL := Lib.hid hl
  clear hl
  go_enter Tryz.func33, Tryz.ntmps33
  go_wp2
  go_loopw [13] (fun i wr => ∃ (k : Nat), k ≤ l.length ∧ i = .int .i64 k ∧ (∀ j (hl : j < l.length), j < k → sameProtected l[j] (m[j]'(by have := HL.out; omega)) = true) ∧ Below w.heap.size w wr) (fun i wr => l.length - (intOf i).toNat)
  case atStart => exact ⟨0, Nat.zero_le _, rfl, fun j hl h => absurd h (by omega), Below.refl _ _⟩
  case round =>
    obtain ⟨k, hk, rfl, hall, hb⟩ := hrel
    have HA := Lib.hid hall
    have HB := Lib.hid hb
    clear hall hb
    by_cases hlt : k < l.length
    · have hlm : k < m.length := by rw [← HL.out]; exact hlt
      obtain ⟨b, off, rfl, hbl, hat⟩ := hcells (by omega)
      obtain ⟨b', off', rfl, hbl', hat'⟩ := hcells' (by omega)
      obtain ⟨s0, s1, s2, s3, s4, s5, s6⟩ := hat k hlt
      obtain ⟨t0, t1, t2, t3, t4, t5, t6⟩ := hat' k hlm
      rw [← HB.out.cell (p := ⟨b, _, none⟩) (show b < w.heap.size by omega)] at s0 s1 s2 s3 s4 s5 s6
      rw [← HB.out.cell (p := ⟨b', _, none⟩) (show b' < w.heap.size by omega)] at t0 t1 t2 t3 t4 t5 t6
      have j0 : (0 : Int) ≤ (k : Int) := by omega
      have j1 : (k : Int) < (l.length : Int) := by omega
      have j2 : (k : Int) < (m.length : Int) := by omega
      have yr : w.heap.size ≤ wr.heap.size := HB.out.size
      clear hcells hat hcells' hat'
      have HF : Hid (sameProtected l[k] m[k] = false → sameProtectedS l m = false) := fun h => sameProtectedS_at hlt hlm h
      have HT : Hid (sameProtected l[k] m[k] = true → ∀ j (hl : j < l.length), j < k + 1 → sameProtected l[j] (m[j]'(by have := HL.out; omega)) = true) := fun h j hl hj => by
        by_cases e : j = k
        · subst e; exact h
        · exact HA.out j hl (by omega)
      have oB := overC (w0 := wr) (show b < wr.heap.size by omega)
      have oB2 := overC (w0 := wr) (show b' < wr.heap.size by omega)
      generalize l[k] = X at *
      generalize m[k] = Y at *
      go_upto_region 6 with (fail)
      by_cases e0 : X.name.toList = Y.name.toList
      case neg =>
        have e0b : (X.name.toList == Y.name.toList) = false := beq_eq_false_iff_ne.2 e0
        have HE := Lib.hid (HF.out (by unfold sameProtected; simp only [eqS, e0b, Bool.false_and, Bool.and_false]))
        clear e0b
        refine wp_region_over wr.heap.size wr (Below.refl _ _) (by kernel_rfl) (by kernel_rfl) ?_
        repeat (go_big_quiet_step (fail))
        refine wpQuiet_nil ?_
        rintro _ ⟨Z, rfl⟩
        have BE := Lib.hid (HB.out.trans ((over_below wr.heap.size wr Z).mono (by omega)))
        clear oB oB2
        generalize over wr.heap.size wr Z = w2 at *
        go_wp2
        go_ret
        exact ⟨by rw [HE.out]; rfl, BE.out⟩
      by_cases e1 : X.at_.place.x = Y.at_.place.x
      case neg =>
        have e1b : (X.at_.place.x == Y.at_.place.x) = false := beq_eq_false_iff_ne.2 e1
        have HE := Lib.hid (HF.out (by unfold sameProtected; simp only [eqS, e1b, Bool.false_and, Bool.and_false]))
        clear e1b
        refine wp_region_over wr.heap.size wr (Below.refl _ _) (by kernel_rfl) (by kernel_rfl) ?_
        repeat (go_big_quiet_step (fail))
        refine wpQuiet_nil ?_
        rintro _ ⟨Z, rfl⟩
        have BE := Lib.hid (HB.out.trans ((over_below wr.heap.size wr Z).mono (by omega)))
        clear oB oB2
        generalize over wr.heap.size wr Z = w2 at *
        go_wp2
        go_ret
        exact ⟨by rw [HE.out]; rfl, BE.out⟩
      by_cases e2 : X.at_.place.y = Y.at_.place.y
      case neg =>
        have e2b : (X.at_.place.y == Y.at_.place.y) = false := beq_eq_false_iff_ne.2 e2
        have HE := Lib.hid (HF.out (by unfold sameProtected; simp only [eqS, e2b, Bool.false_and, Bool.and_false]))
        clear e2b
        refine wp_region_over wr.heap.size wr (Below.refl _ _) (by kernel_rfl) (by kernel_rfl) ?_
        repeat (go_big_quiet_step (fail))
        refine wpQuiet_nil ?_
        rintro _ ⟨Z, rfl⟩
        have BE := Lib.hid (HB.out.trans ((over_below wr.heap.size wr Z).mono (by omega)))
        clear oB oB2
        generalize over wr.heap.size wr Z = w2 at *
        go_wp2
        go_ret
        exact ⟨by rw [HE.out]; rfl, BE.out⟩
      by_cases e3 : X.at_.above = Y.at_.above
      case neg =>
        have e3b : (X.at_.above == Y.at_.above) = false := beq_eq_false_iff_ne.2 e3
        have HE := Lib.hid (HF.out (by unfold sameProtected; simp only [eqS, e3b, Bool.false_and, Bool.and_false]))
        clear e3b
        refine wp_region_over wr.heap.size wr (Below.refl _ _) (by kernel_rfl) (by kernel_rfl) ?_
        repeat (go_big_quiet_step (fail))
        refine wpQuiet_nil ?_
        rintro _ ⟨Z, rfl⟩
        have BE := Lib.hid (HB.out.trans ((over_below wr.heap.size wr Z).mono (by omega)))
        clear oB oB2
        generalize over wr.heap.size wr Z = w2 at *
        go_wp2
        go_ret
        exact ⟨by rw [HE.out]; rfl, BE.out⟩
      by_cases e4 : X.low = Y.low
      case neg =>
        have e4b : (X.low == Y.low) = false := beq_eq_false_iff_ne.2 e4
        have HE := Lib.hid (HF.out (by unfold sameProtected; simp only [eqS, e4b, Bool.false_and, Bool.and_false]))
        clear e4b
        refine wp_region_over wr.heap.size wr (Below.refl _ _) (by kernel_rfl) (by kernel_rfl) ?_
        repeat (go_big_quiet_step (fail))
        refine wpQuiet_nil ?_
        rintro _ ⟨Z, rfl⟩
        have BE := Lib.hid (HB.out.trans ((over_below wr.heap.size wr Z).mono (by omega)))
        clear oB oB2
        generalize over wr.heap.size wr Z = w2 at *
        go_wp2
        go_ret
        exact ⟨by rw [HE.out]; rfl, BE.out⟩
      by_cases e5 : X.high = Y.high
      case neg =>
        have e5b : (X.high == Y.high) = false := beq_eq_false_iff_ne.2 e5
        have HE := Lib.hid (HF.out (by unfold sameProtected; simp only [eqS, e5b, Bool.false_and, Bool.and_false]))
        clear e5b
        refine wp_region_over wr.heap.size wr (Below.refl _ _) (by kernel_rfl) (by kernel_rfl) ?_
        repeat (go_big_quiet_step (fail))
        refine wpQuiet_nil ?_
        rintro _ ⟨Z, rfl⟩
        have BE := Lib.hid (HB.out.trans ((over_below wr.heap.size wr Z).mono (by omega)))
        clear oB oB2
        generalize over wr.heap.size wr Z = w2 at *
        go_wp2
        go_ret
        exact ⟨by rw [HE.out]; rfl, BE.out⟩
      by_cases e6 : X.limit = Y.limit
      case neg =>
        have e6b : (X.limit == Y.limit) = false := beq_eq_false_iff_ne.2 e6
        have HE := Lib.hid (HF.out (by unfold sameProtected; simp only [eqS, e6b, Bool.false_and, Bool.and_false]))
        clear e6b
        refine wp_region_over wr.heap.size wr (Below.refl _ _) (by kernel_rfl) (by kernel_rfl) ?_
        repeat (go_big_quiet_step (fail))
        refine wpQuiet_nil ?_
        rintro _ ⟨Z, rfl⟩
        have BE := Lib.hid (HB.out.trans ((over_below wr.heap.size wr Z).mono (by omega)))
        clear oB oB2
        generalize over wr.heap.size wr Z = w2 at *
        go_wp2
        go_ret
        exact ⟨by rw [HE.out]; rfl, BE.out⟩
      have HE := Lib.hid (HT.out (by unfold sameProtected; simp [eqS, e0, e1, e2, e3, e4, e5, e6]))
      refine wp_region_over wr.heap.size wr (Below.refl _ _) (by kernel_rfl) (by kernel_rfl) ?_
      repeat (go_big_quiet_step (fail))
      refine wpQuiet_nil ?_
      rintro _ ⟨Z, rfl⟩
      have BE := Lib.hid (HB.out.trans ((over_below wr.heap.size wr Z).mono (by omega)))
      clear oB oB2
      generalize over wr.heap.size wr Z = w2 at *
      clear e0 e1 e2 e3 e4 e5 e6
      go_wp2
      go_roundw
      case rel => exact ⟨k + 1, by omega, by go_num, HE.out, BE.out⟩
      case measure => simp [intOf]; omega
    · obtain rfl : k = l.length := by omega
      have HE := Lib.hid (sameProtectedS_all HL.out (fun j hl => HA.out j hl hl))
      clear hcells hcells'
      go_wp2
      go_ret
      exact ⟨by rw [HE.out]; rfl, HB.out⟩
set_option maxHeartbeats 2000000 in
set_option maxRecDepth 100000 in
theorem equalRequest_any (l m : List DRequest) (v u : Value) (B : Nat) (w : World) (h : Rd B w (DRequest.sT l) v) (h' : Rd B w (DRequest.sT m) u) (hB : B ≤ w.heap.size) (hn : l.length ≤ 1099511627776) (hm : m.length ≤ 1099511627776) :
    Calls Tryz.prog 36 #[v, u] w fun e w' => e = .returned (.bool (sameRequestS l m)) ∧ Below w.heap.size w w' := by
  obtain ⟨a, c, rfl, hnc, hcm, hcells⟩ := DRequest.rd h
  obtain ⟨a', c', rfl, hnc', hcm', hcells'⟩ := DRequest.rd h'
  clear h h'
  by_cases hl : l.length = m.length
  case neg =>
    have HE := Lib.hid (sameRequestS_len hl)
    have hne : ((l.length : Int) != (m.length : Int)) = true := by simp; omega
    clear hcells hcells'
    go_enter Tryz.func36, Tryz.ntmps36
    go_wp2
    go_ret
    exact ⟨by rw [HE.out]; rfl, Below.refl _ _⟩
  have hnb : (l.length : Int) ≤ 1099511627776 := by omega
  have hne : ((l.length : Int) != (m.length : Int)) = false := by simp; omega
  have HL := Lib.hid hl
  clear hl
  go_enter Tryz.func36, Tryz.ntmps36
  go_wp2
  go_loopw [13] (fun i wr => ∃ (k : Nat), k ≤ l.length ∧ i = .int .i64 k ∧ (∀ j (hl : j < l.length), j < k → sameRequest l[j] (m[j]'(by have := HL.out; omega)) = true) ∧ Below w.heap.size w wr) (fun i wr => l.length - (intOf i).toNat)
  case atStart => exact ⟨0, Nat.zero_le _, rfl, fun j hl h => absurd h (by omega), Below.refl _ _⟩
  case round =>
    obtain ⟨k, hk, rfl, hall, hb⟩ := hrel
    have HA := Lib.hid hall
    have HB := Lib.hid hb
    clear hall hb
    by_cases hlt : k < l.length
    · have hlm : k < m.length := by rw [← HL.out]; exact hlt
      obtain ⟨b, off, rfl, hbl, hat⟩ := hcells (by omega)
      obtain ⟨b', off', rfl, hbl', hat'⟩ := hcells' (by omega)
      obtain ⟨s0, s1, s2, s3, s4, s5, s6, s7⟩ := hat k hlt
      obtain ⟨t0, t1, t2, t3, t4, t5, t6, t7⟩ := hat' k hlm
      rw [← HB.out.cell (p := ⟨b, _, none⟩) (show b < w.heap.size by omega)] at s0 s1 s2 s3 s4 s5 s6 s7
      rw [← HB.out.cell (p := ⟨b', _, none⟩) (show b' < w.heap.size by omega)] at t0 t1 t2 t3 t4 t5 t6 t7
      have j0 : (0 : Int) ≤ (k : Int) := by omega
      have j1 : (k : Int) < (l.length : Int) := by omega
      have j2 : (k : Int) < (m.length : Int) := by omega
      have yr : w.heap.size ≤ wr.heap.size := HB.out.size
      clear hcells hat hcells' hat'
      have HF : Hid (sameRequest l[k] m[k] = false → sameRequestS l m = false) := fun h => sameRequestS_at hlt hlm h
      have HT : Hid (sameRequest l[k] m[k] = true → ∀ j (hl : j < l.length), j < k + 1 → sameRequest l[j] (m[j]'(by have := HL.out; omega)) = true) := fun h j hl hj => by
        by_cases e : j = k
        · subst e; exact h
        · exact HA.out j hl (by omega)
      have oB := overC (w0 := wr) (show b < wr.heap.size by omega)
      have oB2 := overC (w0 := wr) (show b' < wr.heap.size by omega)
      generalize l[k] = X at *
      generalize m[k] = Y at *
      go_upto_region 6 with (fail)
      by_cases e0 : X.id.toList = Y.id.toList
      case neg =>
        have e0b : (X.id.toList == Y.id.toList) = false := beq_eq_false_iff_ne.2 e0
        have HE := Lib.hid (HF.out (by unfold sameRequest; simp only [eqS, e0b, Bool.false_and, Bool.and_false]))
        clear e0b
        refine wp_region_over wr.heap.size wr (Below.refl _ _) (by kernel_rfl) (by kernel_rfl) ?_
        repeat (go_big_quiet_step (fail))
        refine wpQuiet_nil ?_
        rintro _ ⟨Z, rfl⟩
        have BE := Lib.hid (HB.out.trans ((over_below wr.heap.size wr Z).mono (by omega)))
        clear oB oB2
        generalize over wr.heap.size wr Z = w2 at *
        go_wp2
        go_ret
        exact ⟨by rw [HE.out]; rfl, BE.out⟩
      by_cases e1 : X.applicant.toList = Y.applicant.toList
      case neg =>
        have e1b : (X.applicant.toList == Y.applicant.toList) = false := beq_eq_false_iff_ne.2 e1
        have HE := Lib.hid (HF.out (by unfold sameRequest; simp only [eqS, e1b, Bool.false_and, Bool.and_false]))
        clear e1b
        refine wp_region_over wr.heap.size wr (Below.refl _ _) (by kernel_rfl) (by kernel_rfl) ?_
        repeat (go_big_quiet_step (fail))
        refine wpQuiet_nil ?_
        rintro _ ⟨Z, rfl⟩
        have BE := Lib.hid (HB.out.trans ((over_below wr.heap.size wr Z).mono (by omega)))
        clear oB oB2
        generalize over wr.heap.size wr Z = w2 at *
        go_wp2
        go_ret
        exact ⟨by rw [HE.out]; rfl, BE.out⟩
      by_cases e2 : X.partner.toList = Y.partner.toList
      case neg =>
        have e2b : (X.partner.toList == Y.partner.toList) = false := beq_eq_false_iff_ne.2 e2
        have HE := Lib.hid (HF.out (by unfold sameRequest; simp only [eqS, e2b, Bool.false_and, Bool.and_false]))
        clear e2b
        refine wp_region_over wr.heap.size wr (Below.refl _ _) (by kernel_rfl) (by kernel_rfl) ?_
        repeat (go_big_quiet_step (fail))
        refine wpQuiet_nil ?_
        rintro _ ⟨Z, rfl⟩
        have BE := Lib.hid (HB.out.trans ((over_below wr.heap.size wr Z).mono (by omega)))
        clear oB oB2
        generalize over wr.heap.size wr Z = w2 at *
        go_wp2
        go_ret
        exact ⟨by rw [HE.out]; rfl, BE.out⟩
      by_cases e3 : X.low = Y.low
      case neg =>
        have e3b : (X.low == Y.low) = false := beq_eq_false_iff_ne.2 e3
        have HE := Lib.hid (HF.out (by unfold sameRequest; simp only [eqS, e3b, Bool.false_and, Bool.and_false]))
        clear e3b
        refine wp_region_over wr.heap.size wr (Below.refl _ _) (by kernel_rfl) (by kernel_rfl) ?_
        repeat (go_big_quiet_step (fail))
        refine wpQuiet_nil ?_
        rintro _ ⟨Z, rfl⟩
        have BE := Lib.hid (HB.out.trans ((over_below wr.heap.size wr Z).mono (by omega)))
        clear oB oB2
        generalize over wr.heap.size wr Z = w2 at *
        go_wp2
        go_ret
        exact ⟨by rw [HE.out]; rfl, BE.out⟩
      by_cases e4 : X.high = Y.high
      case neg =>
        have e4b : (X.high == Y.high) = false := beq_eq_false_iff_ne.2 e4
        have HE := Lib.hid (HF.out (by unfold sameRequest; simp only [eqS, e4b, Bool.false_and, Bool.and_false]))
        clear e4b
        refine wp_region_over wr.heap.size wr (Below.refl _ _) (by kernel_rfl) (by kernel_rfl) ?_
        repeat (go_big_quiet_step (fail))
        refine wpQuiet_nil ?_
        rintro _ ⟨Z, rfl⟩
        have BE := Lib.hid (HB.out.trans ((over_below wr.heap.size wr Z).mono (by omega)))
        clear oB oB2
        generalize over wr.heap.size wr Z = w2 at *
        go_wp2
        go_ret
        exact ⟨by rw [HE.out]; rfl, BE.out⟩
      by_cases e5 : X.filed = Y.filed
      case neg =>
        have e5b : (X.filed == Y.filed) = false := beq_eq_false_iff_ne.2 e5
        have HE := Lib.hid (HF.out (by unfold sameRequest; simp only [eqS, e5b, Bool.false_and, Bool.and_false]))
        clear e5b
        refine wp_region_over wr.heap.size wr (Below.refl _ _) (by kernel_rfl) (by kernel_rfl) ?_
        repeat (go_big_quiet_step (fail))
        refine wpQuiet_nil ?_
        rintro _ ⟨Z, rfl⟩
        have BE := Lib.hid (HB.out.trans ((over_below wr.heap.size wr Z).mono (by omega)))
        clear oB oB2
        generalize over wr.heap.size wr Z = w2 at *
        go_wp2
        go_ret
        exact ⟨by rw [HE.out]; rfl, BE.out⟩
      by_cases e6 : X.deadline = Y.deadline
      case neg =>
        have e6b : (X.deadline == Y.deadline) = false := beq_eq_false_iff_ne.2 e6
        have HE := Lib.hid (HF.out (by unfold sameRequest; simp only [eqS, e6b, Bool.false_and, Bool.and_false]))
        clear e6b
        refine wp_region_over wr.heap.size wr (Below.refl _ _) (by kernel_rfl) (by kernel_rfl) ?_
        repeat (go_big_quiet_step (fail))
        refine wpQuiet_nil ?_
        rintro _ ⟨Z, rfl⟩
        have BE := Lib.hid (HB.out.trans ((over_below wr.heap.size wr Z).mono (by omega)))
        clear oB oB2
        generalize over wr.heap.size wr Z = w2 at *
        go_wp2
        go_ret
        exact ⟨by rw [HE.out]; rfl, BE.out⟩
      by_cases e7 : X.state = Y.state
      case neg =>
        have e7b : (X.state == Y.state) = false := beq_eq_false_iff_ne.2 e7
        have HE := Lib.hid (HF.out (by unfold sameRequest; simp only [eqS, e7b, Bool.false_and, Bool.and_false]))
        clear e7b
        refine wp_region_over wr.heap.size wr (Below.refl _ _) (by kernel_rfl) (by kernel_rfl) ?_
        repeat (go_big_quiet_step (fail))
        refine wpQuiet_nil ?_
        rintro _ ⟨Z, rfl⟩
        have BE := Lib.hid (HB.out.trans ((over_below wr.heap.size wr Z).mono (by omega)))
        clear oB oB2
        generalize over wr.heap.size wr Z = w2 at *
        go_wp2
        go_ret
        exact ⟨by rw [HE.out]; rfl, BE.out⟩
      have HE := Lib.hid (HT.out (by unfold sameRequest; simp [eqS, e0, e1, e2, e3, e4, e5, e6, e7]))
      refine wp_region_over wr.heap.size wr (Below.refl _ _) (by kernel_rfl) (by kernel_rfl) ?_
      repeat (go_big_quiet_step (fail))
      refine wpQuiet_nil ?_
      rintro _ ⟨Z, rfl⟩
      have BE := Lib.hid (HB.out.trans ((over_below wr.heap.size wr Z).mono (by omega)))
      clear oB oB2
      generalize over wr.heap.size wr Z = w2 at *
      clear e0 e1 e2 e3 e4 e5 e6 e7
      go_wp2
      go_roundw
      case rel => exact ⟨k + 1, by omega, by go_num, HE.out, BE.out⟩
      case measure => simp [intOf]; omega
    · obtain rfl : k = l.length := by omega
      have HE := Lib.hid (sameRequestS_all HL.out (fun j hl => HA.out j hl hl))
      clear hcells hcells'
      go_wp2
      go_ret
      exact ⟨by rw [HE.out]; rfl, HB.out⟩
set_option maxHeartbeats 2000000 in
set_option maxRecDepth 100000 in
theorem sSameHoldings_any (l m : List DLicence) (v u : Value) (B : Nat) (w : World) (h : Rd B w (DLicence.sT l) v) (h' : Rd B w (DLicence.sT m) u) (hB : B ≤ w.heap.size) (hn : l.length ≤ 1099511627776) (hm : m.length ≤ 1099511627776) :
    Calls Tryz.prog 25 #[v, u] w fun e w' => e = .returned (.bool (sameLicenceS l m)) ∧ Below w.heap.size w w' := by
  obtain ⟨a, c, rfl, hnc, hcm, hcells⟩ := DLicence.rd h
  obtain ⟨a', c', rfl, hnc', hcm', hcells'⟩ := DLicence.rd h'
  clear h h'
  by_cases hl : l.length = m.length
  case neg =>
    have HE := Lib.hid (sameLicenceS_len hl)
    have hne : ((l.length : Int) != (m.length : Int)) = true := by simp; omega
    clear hcells hcells'
    go_enter Tryz.func25, Tryz.ntmps25
    go_wp2
    go_ret
    exact ⟨by rw [HE.out]; rfl, Below.refl _ _⟩
  have hnb : (l.length : Int) ≤ 1099511627776 := by omega
  have hne : ((l.length : Int) != (m.length : Int)) = false := by simp; omega
  have HL := Lib.hid hl
  clear hl
  go_enter Tryz.func25, Tryz.ntmps25
  go_wp2
  go_loopw [5] (fun i wr => ∃ (k : Nat), k ≤ l.length ∧ i = .int .i64 k ∧ (∀ j (hl : j < l.length), j < k → sameLicence l[j] (m[j]'(by have := HL.out; omega)) = true) ∧ Below w.heap.size w wr) (fun i wr => l.length - (intOf i).toNat)
  case atStart => exact ⟨0, Nat.zero_le _, rfl, fun j hl h => absurd h (by omega), Below.refl _ _⟩
  case round =>
    obtain ⟨k, hk, rfl, hall, hb⟩ := hrel
    have HA := Lib.hid hall
    have HB := Lib.hid hb
    clear hall hb
    by_cases hlt : k < l.length
    · have hlm : k < m.length := by rw [← HL.out]; exact hlt
      obtain ⟨b, off, rfl, hbl, hat⟩ := hcells (by omega)
      obtain ⟨b', off', rfl, hbl', hat'⟩ := hcells' (by omega)
      obtain ⟨s0, s1, s2, s3, s4, s5, s6, s7, s8, s9, s10⟩ := hat k hlt
      obtain ⟨t0, t1, t2, t3, t4, t5, t6, t7, t8, t9, t10⟩ := hat' k hlm
      rw [← HB.out.cell (p := ⟨b, _, none⟩) (show b < w.heap.size by omega)] at s0 s1 s2 s3 s4 s5 s6 s7 s8 s9 s10
      rw [← HB.out.cell (p := ⟨b', _, none⟩) (show b' < w.heap.size by omega)] at t0 t1 t2 t3 t4 t5 t6 t7 t8 t9 t10
      have j0 : (0 : Int) ≤ (k : Int) := by omega
      have j1 : (k : Int) < (l.length : Int) := by omega
      have j2 : (k : Int) < (m.length : Int) := by omega
      have yr : w.heap.size ≤ wr.heap.size := HB.out.size
      clear hcells hat hcells' hat'
      have HF : Hid (sameLicence l[k] m[k] = false → sameLicenceS l m = false) := fun h => sameLicenceS_at hlt hlm h
      have HT : Hid (sameLicence l[k] m[k] = true → ∀ j (hl : j < l.length), j < k + 1 → sameLicence l[j] (m[j]'(by have := HL.out; omega)) = true) := fun h j hl hj => by
        by_cases e : j = k
        · subst e; exact h
        · exact HA.out j hl (by omega)
      have oB := overC (w0 := wr) (show b < wr.heap.size by omega)
      have oB2 := overC (w0 := wr) (show b' < wr.heap.size by omega)
      generalize l[k] = X at *
      generalize m[k] = Y at *
      go_upto_region 6 with (fail)
      by_cases e0 : X.id.toList = Y.id.toList
      case neg =>
        have e0b : (X.id.toList == Y.id.toList) = false := beq_eq_false_iff_ne.2 e0
        have HE := Lib.hid (HF.out (by unfold sameLicence; simp only [eqS, e0b, Bool.false_and, Bool.and_false]))
        clear e0b
        refine wp_region_over wr.heap.size wr (Below.refl _ _) (by kernel_rfl) (by kernel_rfl) ?_
        repeat (go_big_quiet_step (fail))
        refine wpQuiet_nil ?_
        rintro _ ⟨Z, rfl⟩
        have BE := Lib.hid (HB.out.trans ((over_below wr.heap.size wr Z).mono (by omega)))
        clear oB oB2
        generalize over wr.heap.size wr Z = w2 at *
        go_wp2
        go_ret
        exact ⟨by rw [HE.out]; rfl, BE.out⟩
      by_cases e1 : X.holder.toList = Y.holder.toList
      case neg =>
        have e1b : (X.holder.toList == Y.holder.toList) = false := beq_eq_false_iff_ne.2 e1
        have HE := Lib.hid (HF.out (by unfold sameLicence; simp only [eqS, e1b, Bool.false_and, Bool.and_false]))
        clear e1b
        refine wp_region_over wr.heap.size wr (Below.refl _ _) (by kernel_rfl) (by kernel_rfl) ?_
        repeat (go_big_quiet_step (fail))
        refine wpQuiet_nil ?_
        rintro _ ⟨Z, rfl⟩
        have BE := Lib.hid (HB.out.trans ((over_below wr.heap.size wr Z).mono (by omega)))
        clear oB oB2
        generalize over wr.heap.size wr Z = w2 at *
        go_wp2
        go_ret
        exact ⟨by rw [HE.out]; rfl, BE.out⟩
      by_cases e2 : X.low = Y.low
      case neg =>
        have e2b : (X.low == Y.low) = false := beq_eq_false_iff_ne.2 e2
        have HE := Lib.hid (HF.out (by unfold sameLicence; simp only [eqS, e2b, Bool.false_and, Bool.and_false]))
        clear e2b
        refine wp_region_over wr.heap.size wr (Below.refl _ _) (by kernel_rfl) (by kernel_rfl) ?_
        repeat (go_big_quiet_step (fail))
        refine wpQuiet_nil ?_
        rintro _ ⟨Z, rfl⟩
        have BE := Lib.hid (HB.out.trans ((over_below wr.heap.size wr Z).mono (by omega)))
        clear oB oB2
        generalize over wr.heap.size wr Z = w2 at *
        go_wp2
        go_ret
        exact ⟨by rw [HE.out]; rfl, BE.out⟩
      by_cases e3 : X.high = Y.high
      case neg =>
        have e3b : (X.high == Y.high) = false := beq_eq_false_iff_ne.2 e3
        have HE := Lib.hid (HF.out (by unfold sameLicence; simp only [eqS, e3b, Bool.false_and, Bool.and_false]))
        clear e3b
        refine wp_region_over wr.heap.size wr (Below.refl _ _) (by kernel_rfl) (by kernel_rfl) ?_
        repeat (go_big_quiet_step (fail))
        refine wpQuiet_nil ?_
        rintro _ ⟨Z, rfl⟩
        have BE := Lib.hid (HB.out.trans ((over_below wr.heap.size wr Z).mono (by omega)))
        clear oB oB2
        generalize over wr.heap.size wr Z = w2 at *
        go_wp2
        go_ret
        exact ⟨by rw [HE.out]; rfl, BE.out⟩
      by_cases e4 : X.area.west = Y.area.west
      case neg =>
        have e4b : (X.area.west == Y.area.west) = false := beq_eq_false_iff_ne.2 e4
        have HE := Lib.hid (HF.out (by unfold sameLicence; simp only [eqS, e4b, Bool.false_and, Bool.and_false]))
        clear e4b
        refine wp_region_over wr.heap.size wr (Below.refl _ _) (by kernel_rfl) (by kernel_rfl) ?_
        repeat (go_big_quiet_step (fail))
        refine wpQuiet_nil ?_
        rintro _ ⟨Z, rfl⟩
        have BE := Lib.hid (HB.out.trans ((over_below wr.heap.size wr Z).mono (by omega)))
        clear oB oB2
        generalize over wr.heap.size wr Z = w2 at *
        go_wp2
        go_ret
        exact ⟨by rw [HE.out]; rfl, BE.out⟩
      by_cases e5 : X.area.south = Y.area.south
      case neg =>
        have e5b : (X.area.south == Y.area.south) = false := beq_eq_false_iff_ne.2 e5
        have HE := Lib.hid (HF.out (by unfold sameLicence; simp only [eqS, e5b, Bool.false_and, Bool.and_false]))
        clear e5b
        refine wp_region_over wr.heap.size wr (Below.refl _ _) (by kernel_rfl) (by kernel_rfl) ?_
        repeat (go_big_quiet_step (fail))
        refine wpQuiet_nil ?_
        rintro _ ⟨Z, rfl⟩
        have BE := Lib.hid (HB.out.trans ((over_below wr.heap.size wr Z).mono (by omega)))
        clear oB oB2
        generalize over wr.heap.size wr Z = w2 at *
        go_wp2
        go_ret
        exact ⟨by rw [HE.out]; rfl, BE.out⟩
      by_cases e6 : X.area.east = Y.area.east
      case neg =>
        have e6b : (X.area.east == Y.area.east) = false := beq_eq_false_iff_ne.2 e6
        have HE := Lib.hid (HF.out (by unfold sameLicence; simp only [eqS, e6b, Bool.false_and, Bool.and_false]))
        clear e6b
        refine wp_region_over wr.heap.size wr (Below.refl _ _) (by kernel_rfl) (by kernel_rfl) ?_
        repeat (go_big_quiet_step (fail))
        refine wpQuiet_nil ?_
        rintro _ ⟨Z, rfl⟩
        have BE := Lib.hid (HB.out.trans ((over_below wr.heap.size wr Z).mono (by omega)))
        clear oB oB2
        generalize over wr.heap.size wr Z = w2 at *
        go_wp2
        go_ret
        exact ⟨by rw [HE.out]; rfl, BE.out⟩
      by_cases e7 : X.area.north = Y.area.north
      case neg =>
        have e7b : (X.area.north == Y.area.north) = false := beq_eq_false_iff_ne.2 e7
        have HE := Lib.hid (HF.out (by unfold sameLicence; simp only [eqS, e7b, Bool.false_and, Bool.and_false]))
        clear e7b
        refine wp_region_over wr.heap.size wr (Below.refl _ _) (by kernel_rfl) (by kernel_rfl) ?_
        repeat (go_big_quiet_step (fail))
        refine wpQuiet_nil ?_
        rintro _ ⟨Z, rfl⟩
        have BE := Lib.hid (HB.out.trans ((over_below wr.heap.size wr Z).mono (by omega)))
        clear oB oB2
        generalize over wr.heap.size wr Z = w2 at *
        go_wp2
        go_ret
        exact ⟨by rw [HE.out]; rfl, BE.out⟩
      by_cases e8 : X.from_ = Y.from_
      case neg =>
        have e8b : (X.from_ == Y.from_) = false := beq_eq_false_iff_ne.2 e8
        have HE := Lib.hid (HF.out (by unfold sameLicence; simp only [eqS, e8b, Bool.false_and, Bool.and_false]))
        clear e8b
        refine wp_region_over wr.heap.size wr (Below.refl _ _) (by kernel_rfl) (by kernel_rfl) ?_
        repeat (go_big_quiet_step (fail))
        refine wpQuiet_nil ?_
        rintro _ ⟨Z, rfl⟩
        have BE := Lib.hid (HB.out.trans ((over_below wr.heap.size wr Z).mono (by omega)))
        clear oB oB2
        generalize over wr.heap.size wr Z = w2 at *
        go_wp2
        go_ret
        exact ⟨by rw [HE.out]; rfl, BE.out⟩
      by_cases e9 : X.until_ = Y.until_
      case neg =>
        have e9b : (X.until_ == Y.until_) = false := beq_eq_false_iff_ne.2 e9
        have HE := Lib.hid (HF.out (by unfold sameLicence; simp only [eqS, e9b, Bool.false_and, Bool.and_false]))
        clear e9b
        refine wp_region_over wr.heap.size wr (Below.refl _ _) (by kernel_rfl) (by kernel_rfl) ?_
        repeat (go_big_quiet_step (fail))
        refine wpQuiet_nil ?_
        rintro _ ⟨Z, rfl⟩
        have BE := Lib.hid (HB.out.trans ((over_below wr.heap.size wr Z).mono (by omega)))
        clear oB oB2
        generalize over wr.heap.size wr Z = w2 at *
        go_wp2
        go_ret
        exact ⟨by rw [HE.out]; rfl, BE.out⟩
      by_cases e10 : X.power = Y.power
      case neg =>
        have e10b : (X.power == Y.power) = false := beq_eq_false_iff_ne.2 e10
        have HE := Lib.hid (HF.out (by unfold sameLicence; simp only [eqS, e10b, Bool.false_and, Bool.and_false]))
        clear e10b
        refine wp_region_over wr.heap.size wr (Below.refl _ _) (by kernel_rfl) (by kernel_rfl) ?_
        repeat (go_big_quiet_step (fail))
        refine wpQuiet_nil ?_
        rintro _ ⟨Z, rfl⟩
        have BE := Lib.hid (HB.out.trans ((over_below wr.heap.size wr Z).mono (by omega)))
        clear oB oB2
        generalize over wr.heap.size wr Z = w2 at *
        go_wp2
        go_ret
        exact ⟨by rw [HE.out]; rfl, BE.out⟩
      have HE := Lib.hid (HT.out (by unfold sameLicence; simp [eqS, e0, e1, e2, e3, e4, e5, e6, e7, e8, e9, e10]))
      refine wp_region_over wr.heap.size wr (Below.refl _ _) (by kernel_rfl) (by kernel_rfl) ?_
      repeat (go_big_quiet_step (fail))
      refine wpQuiet_nil ?_
      rintro _ ⟨Z, rfl⟩
      have BE := Lib.hid (HB.out.trans ((over_below wr.heap.size wr Z).mono (by omega)))
      clear oB oB2
      generalize over wr.heap.size wr Z = w2 at *
      clear e0 e1 e2 e3 e4 e5 e6 e7 e8 e9 e10
      go_wp2
      go_roundw
      case rel => exact ⟨k + 1, by omega, by go_num, HE.out, BE.out⟩
      case measure => simp [intOf]; omega
    · obtain rfl : k = l.length := by omega
      have HE := Lib.hid (sameLicenceS_all HL.out (fun j hl => HA.out j hl hl))
      clear hcells hcells'
      go_wp2
      go_ret
      exact ⟨by rw [HE.out]; rfl, HB.out⟩
set_option maxHeartbeats 2000000 in
set_option maxRecDepth 100000 in
theorem sSameRequests_any (l m : List DRequest) (v u : Value) (B : Nat) (w : World) (h : Rd B w (DRequest.sT l) v) (h' : Rd B w (DRequest.sT m) u) (hB : B ≤ w.heap.size) (hn : l.length ≤ 1099511627776) (hm : m.length ≤ 1099511627776) :
    Calls Tryz.prog 26 #[v, u] w fun e w' => e = .returned (.bool (sameRequestS l m)) ∧ Below w.heap.size w w' := by
  obtain ⟨a, c, rfl, hnc, hcm, hcells⟩ := DRequest.rd h
  obtain ⟨a', c', rfl, hnc', hcm', hcells'⟩ := DRequest.rd h'
  clear h h'
  by_cases hl : l.length = m.length
  case neg =>
    have HE := Lib.hid (sameRequestS_len hl)
    have hne : ((l.length : Int) != (m.length : Int)) = true := by simp; omega
    clear hcells hcells'
    go_enter Tryz.func26, Tryz.ntmps26
    go_wp2
    go_ret
    exact ⟨by rw [HE.out]; rfl, Below.refl _ _⟩
  have hnb : (l.length : Int) ≤ 1099511627776 := by omega
  have hne : ((l.length : Int) != (m.length : Int)) = false := by simp; omega
  have HL := Lib.hid hl
  clear hl
  go_enter Tryz.func26, Tryz.ntmps26
  go_wp2
  go_loopw [5] (fun i wr => ∃ (k : Nat), k ≤ l.length ∧ i = .int .i64 k ∧ (∀ j (hl : j < l.length), j < k → sameRequest l[j] (m[j]'(by have := HL.out; omega)) = true) ∧ Below w.heap.size w wr) (fun i wr => l.length - (intOf i).toNat)
  case atStart => exact ⟨0, Nat.zero_le _, rfl, fun j hl h => absurd h (by omega), Below.refl _ _⟩
  case round =>
    obtain ⟨k, hk, rfl, hall, hb⟩ := hrel
    have HA := Lib.hid hall
    have HB := Lib.hid hb
    clear hall hb
    by_cases hlt : k < l.length
    · have hlm : k < m.length := by rw [← HL.out]; exact hlt
      obtain ⟨b, off, rfl, hbl, hat⟩ := hcells (by omega)
      obtain ⟨b', off', rfl, hbl', hat'⟩ := hcells' (by omega)
      obtain ⟨s0, s1, s2, s3, s4, s5, s6, s7⟩ := hat k hlt
      obtain ⟨t0, t1, t2, t3, t4, t5, t6, t7⟩ := hat' k hlm
      rw [← HB.out.cell (p := ⟨b, _, none⟩) (show b < w.heap.size by omega)] at s0 s1 s2 s3 s4 s5 s6 s7
      rw [← HB.out.cell (p := ⟨b', _, none⟩) (show b' < w.heap.size by omega)] at t0 t1 t2 t3 t4 t5 t6 t7
      have j0 : (0 : Int) ≤ (k : Int) := by omega
      have j1 : (k : Int) < (l.length : Int) := by omega
      have j2 : (k : Int) < (m.length : Int) := by omega
      have yr : w.heap.size ≤ wr.heap.size := HB.out.size
      clear hcells hat hcells' hat'
      have HF : Hid (sameRequest l[k] m[k] = false → sameRequestS l m = false) := fun h => sameRequestS_at hlt hlm h
      have HT : Hid (sameRequest l[k] m[k] = true → ∀ j (hl : j < l.length), j < k + 1 → sameRequest l[j] (m[j]'(by have := HL.out; omega)) = true) := fun h j hl hj => by
        by_cases e : j = k
        · subst e; exact h
        · exact HA.out j hl (by omega)
      have oB := overC (w0 := wr) (show b < wr.heap.size by omega)
      have oB2 := overC (w0 := wr) (show b' < wr.heap.size by omega)
      generalize l[k] = X at *
      generalize m[k] = Y at *
      go_upto_region 6 with (fail)
      by_cases e0 : X.id.toList = Y.id.toList
      case neg =>
        have e0b : (X.id.toList == Y.id.toList) = false := beq_eq_false_iff_ne.2 e0
        have HE := Lib.hid (HF.out (by unfold sameRequest; simp only [eqS, e0b, Bool.false_and, Bool.and_false]))
        clear e0b
        refine wp_region_over wr.heap.size wr (Below.refl _ _) (by kernel_rfl) (by kernel_rfl) ?_
        repeat (go_big_quiet_step (fail))
        refine wpQuiet_nil ?_
        rintro _ ⟨Z, rfl⟩
        have BE := Lib.hid (HB.out.trans ((over_below wr.heap.size wr Z).mono (by omega)))
        clear oB oB2
        generalize over wr.heap.size wr Z = w2 at *
        go_wp2
        go_ret
        exact ⟨by rw [HE.out]; rfl, BE.out⟩
      by_cases e1 : X.applicant.toList = Y.applicant.toList
      case neg =>
        have e1b : (X.applicant.toList == Y.applicant.toList) = false := beq_eq_false_iff_ne.2 e1
        have HE := Lib.hid (HF.out (by unfold sameRequest; simp only [eqS, e1b, Bool.false_and, Bool.and_false]))
        clear e1b
        refine wp_region_over wr.heap.size wr (Below.refl _ _) (by kernel_rfl) (by kernel_rfl) ?_
        repeat (go_big_quiet_step (fail))
        refine wpQuiet_nil ?_
        rintro _ ⟨Z, rfl⟩
        have BE := Lib.hid (HB.out.trans ((over_below wr.heap.size wr Z).mono (by omega)))
        clear oB oB2
        generalize over wr.heap.size wr Z = w2 at *
        go_wp2
        go_ret
        exact ⟨by rw [HE.out]; rfl, BE.out⟩
      by_cases e2 : X.partner.toList = Y.partner.toList
      case neg =>
        have e2b : (X.partner.toList == Y.partner.toList) = false := beq_eq_false_iff_ne.2 e2
        have HE := Lib.hid (HF.out (by unfold sameRequest; simp only [eqS, e2b, Bool.false_and, Bool.and_false]))
        clear e2b
        refine wp_region_over wr.heap.size wr (Below.refl _ _) (by kernel_rfl) (by kernel_rfl) ?_
        repeat (go_big_quiet_step (fail))
        refine wpQuiet_nil ?_
        rintro _ ⟨Z, rfl⟩
        have BE := Lib.hid (HB.out.trans ((over_below wr.heap.size wr Z).mono (by omega)))
        clear oB oB2
        generalize over wr.heap.size wr Z = w2 at *
        go_wp2
        go_ret
        exact ⟨by rw [HE.out]; rfl, BE.out⟩
      by_cases e3 : X.low = Y.low
      case neg =>
        have e3b : (X.low == Y.low) = false := beq_eq_false_iff_ne.2 e3
        have HE := Lib.hid (HF.out (by unfold sameRequest; simp only [eqS, e3b, Bool.false_and, Bool.and_false]))
        clear e3b
        refine wp_region_over wr.heap.size wr (Below.refl _ _) (by kernel_rfl) (by kernel_rfl) ?_
        repeat (go_big_quiet_step (fail))
        refine wpQuiet_nil ?_
        rintro _ ⟨Z, rfl⟩
        have BE := Lib.hid (HB.out.trans ((over_below wr.heap.size wr Z).mono (by omega)))
        clear oB oB2
        generalize over wr.heap.size wr Z = w2 at *
        go_wp2
        go_ret
        exact ⟨by rw [HE.out]; rfl, BE.out⟩
      by_cases e4 : X.high = Y.high
      case neg =>
        have e4b : (X.high == Y.high) = false := beq_eq_false_iff_ne.2 e4
        have HE := Lib.hid (HF.out (by unfold sameRequest; simp only [eqS, e4b, Bool.false_and, Bool.and_false]))
        clear e4b
        refine wp_region_over wr.heap.size wr (Below.refl _ _) (by kernel_rfl) (by kernel_rfl) ?_
        repeat (go_big_quiet_step (fail))
        refine wpQuiet_nil ?_
        rintro _ ⟨Z, rfl⟩
        have BE := Lib.hid (HB.out.trans ((over_below wr.heap.size wr Z).mono (by omega)))
        clear oB oB2
        generalize over wr.heap.size wr Z = w2 at *
        go_wp2
        go_ret
        exact ⟨by rw [HE.out]; rfl, BE.out⟩
      by_cases e5 : X.filed = Y.filed
      case neg =>
        have e5b : (X.filed == Y.filed) = false := beq_eq_false_iff_ne.2 e5
        have HE := Lib.hid (HF.out (by unfold sameRequest; simp only [eqS, e5b, Bool.false_and, Bool.and_false]))
        clear e5b
        refine wp_region_over wr.heap.size wr (Below.refl _ _) (by kernel_rfl) (by kernel_rfl) ?_
        repeat (go_big_quiet_step (fail))
        refine wpQuiet_nil ?_
        rintro _ ⟨Z, rfl⟩
        have BE := Lib.hid (HB.out.trans ((over_below wr.heap.size wr Z).mono (by omega)))
        clear oB oB2
        generalize over wr.heap.size wr Z = w2 at *
        go_wp2
        go_ret
        exact ⟨by rw [HE.out]; rfl, BE.out⟩
      by_cases e6 : X.deadline = Y.deadline
      case neg =>
        have e6b : (X.deadline == Y.deadline) = false := beq_eq_false_iff_ne.2 e6
        have HE := Lib.hid (HF.out (by unfold sameRequest; simp only [eqS, e6b, Bool.false_and, Bool.and_false]))
        clear e6b
        refine wp_region_over wr.heap.size wr (Below.refl _ _) (by kernel_rfl) (by kernel_rfl) ?_
        repeat (go_big_quiet_step (fail))
        refine wpQuiet_nil ?_
        rintro _ ⟨Z, rfl⟩
        have BE := Lib.hid (HB.out.trans ((over_below wr.heap.size wr Z).mono (by omega)))
        clear oB oB2
        generalize over wr.heap.size wr Z = w2 at *
        go_wp2
        go_ret
        exact ⟨by rw [HE.out]; rfl, BE.out⟩
      by_cases e7 : X.state = Y.state
      case neg =>
        have e7b : (X.state == Y.state) = false := beq_eq_false_iff_ne.2 e7
        have HE := Lib.hid (HF.out (by unfold sameRequest; simp only [eqS, e7b, Bool.false_and, Bool.and_false]))
        clear e7b
        refine wp_region_over wr.heap.size wr (Below.refl _ _) (by kernel_rfl) (by kernel_rfl) ?_
        repeat (go_big_quiet_step (fail))
        refine wpQuiet_nil ?_
        rintro _ ⟨Z, rfl⟩
        have BE := Lib.hid (HB.out.trans ((over_below wr.heap.size wr Z).mono (by omega)))
        clear oB oB2
        generalize over wr.heap.size wr Z = w2 at *
        go_wp2
        go_ret
        exact ⟨by rw [HE.out]; rfl, BE.out⟩
      have HE := Lib.hid (HT.out (by unfold sameRequest; simp [eqS, e0, e1, e2, e3, e4, e5, e6, e7]))
      refine wp_region_over wr.heap.size wr (Below.refl _ _) (by kernel_rfl) (by kernel_rfl) ?_
      repeat (go_big_quiet_step (fail))
      refine wpQuiet_nil ?_
      rintro _ ⟨Z, rfl⟩
      have BE := Lib.hid (HB.out.trans ((over_below wr.heap.size wr Z).mono (by omega)))
      clear oB oB2
      generalize over wr.heap.size wr Z = w2 at *
      clear e0 e1 e2 e3 e4 e5 e6 e7
      go_wp2
      go_roundw
      case rel => exact ⟨k + 1, by omega, by go_num, HE.out, BE.out⟩
      case measure => simp [intOf]; omega
    · obtain rfl : k = l.length := by omega
      have HE := Lib.hid (sameRequestS_all HL.out (fun j hl => HA.out j hl hl))
      clear hcells hcells'
      go_wp2
      go_ret
      exact ⟨by rw [HE.out]; rfl, HB.out⟩
end Go.Proofs.YtjfmkmcefnidcaaGreat
