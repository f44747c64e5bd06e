/- slices.EqualFunc over antennas, radios, rows of rows: it answers as the Bools of Same0. Conditions: bounded sizes. -/
import Derived.Test.YtjfmkmcefnidcaaGreatSame3
import Derived.Test.YtjfmkmcefnidcaaGreatHAntenna
import Derived.Test.YtjfmkmcefnidcaaGreatHRadio
namespace Go.Proofs.YtjfmkmcefnidcaaGreat
open Go.RowKit
set_option linter.unusedVariables false

set_option linter.unusedSimpArgs false
set_option maxHeartbeats 4000000 in
set_option maxRecDepth 100000 in
theorem equalfAntenna_any (l m : List DAntenna) (v u : Value) (B : Nat) (w : World) (h : Rd B w (DAntenna.sT l) v) (h' : Rd B w (DAntenna.sT m) u) (hB : B ≤ w.heap.size) (hn : siz (DAntenna.sT l) ≤ 1099511627776) (hm : siz (DAntenna.sT m) ≤ 1099511627776) :
    Calls Tryz.prog 78 #[v, u, .func (.func 79) #[] #[]] w fun e w' => e = .returned (.bool (sameAntennaS l m)) ∧ Below w.heap.size w w' := by
  rw [DAntenna.siz_s] at hn hm
  obtain ⟨a, c, rfl, hnc, hcm, hcells⟩ := DAntenna.rd h
  obtain ⟨a', c', rfl, hnc', hcm', hcells'⟩ := DAntenna.rd h'
  clear h h'
  by_cases hl : l.length = m.length
  case neg =>
    have HE := Lib.hid (sameAntennaS_len hl)
    have hne : ((l.length : Int) != (m.length : Int)) = true := by simp; omega
    clear hcells hcells'
    go_enter Tryz.func78, Tryz.ntmps78
    go_wp2
    go_ret
    exact ⟨by rw [HE.out]; rfl, Below.refl _ _⟩
  have hnb : (l.length : Int) ≤ 1099511627776 := by omega
  have hne : ((l.length : Int) != (m.length : Int)) = false := by simp; omega
  have HL := Lib.hid hl
  clear hl
  go_enter Tryz.func78, Tryz.ntmps78
  go_wp2
  go_loopw [17] (fun i wr => ∃ (k : Nat), k ≤ l.length ∧ i = .int .i64 k ∧ (∀ j (hl : j < l.length), j < k → sameAntenna l[j] (m[j]'(by have := HL.out; omega)) = true) ∧ Below w.heap.size w wr) (fun i wr => l.length - (intOf i).toNat)
  case atStart => exact ⟨0, Nat.zero_le _, rfl, fun j hl h => absurd h (by omega), Below.refl _ _⟩
  case round =>
    obtain ⟨k, hk, rfl, hall, hb⟩ := hrel
    have HA := Lib.hid hall
    have HB := Lib.hid hb
    clear hall hb
    by_cases hlt : k < l.length
    · have hlm : k < m.length := by rw [← HL.out]; exact hlt
      obtain ⟨b, off, rfl, hbl, hat⟩ := hcells (by omega)
      obtain ⟨b', off', rfl, hbl', hat'⟩ := hcells' (by omega)
      obtain ⟨s0, s1, ⟨u2, s2, r2⟩, ⟨u3, s3, r3⟩⟩ := hat k hlt
      obtain ⟨t0, t1, ⟨y2, t2, q2⟩, ⟨y3, t3, q3⟩⟩ := hat' k hlm
      rw [← HB.out.cell (p := ⟨b, _, none⟩) (show b < w.heap.size by omega)] at s0 s1 s2 s3
      rw [← HB.out.cell (p := ⟨b', _, none⟩) (show b' < w.heap.size by omega)] at t0 t1 t2 t3
      have j0 : (0 : Int) ≤ (k : Int) := by omega
      have j1 : (k : Int) < (l.length : Int) := by omega
      have j2 : (k : Int) < (m.length : Int) := by omega
      have yr : w.heap.size ≤ wr.heap.size := HB.out.size
      have yb : b < wr.heap.size := by omega
      have yb' : b' < wr.heap.size := by omega
      have nX2 : l[k].horizontal.length ≤ 1099511627776 := by have h1 := sizL_get_le DAntenna.tr l k hlt; have h2 := DAntenna.siz_tr l[k]; have z2 := siz_ints l[k].horizontal; omega
      have nX3 : l[k].vertical.length ≤ 1099511627776 := by have h1 := sizL_get_le DAntenna.tr l k hlt; have h2 := DAntenna.siz_tr l[k]; have z3 := siz_ints l[k].vertical; omega
      have nY2 : m[k].horizontal.length ≤ 1099511627776 := by have h1 := sizL_get_le DAntenna.tr m k hlm; have h2 := DAntenna.siz_tr m[k]; have z2 := siz_ints m[k].horizontal; omega
      have nY3 : m[k].vertical.length ≤ 1099511627776 := by have h1 := sizL_get_le DAntenna.tr m k hlm; have h2 := DAntenna.siz_tr m[k]; have z3 := siz_ints m[k].vertical; omega
      clear hcells hat hcells' hat'
      have HF : Hid (sameAntenna l[k] m[k] = false → sameAntennaS l m = false) := fun h => sameAntennaS_at hlt hlm h
      have HT : Hid (sameAntenna l[k] m[k] = true → ∀ j (hl : j < l.length), j < k + 1 → sameAntenna l[j] (m[j]'(by have := HL.out; omega)) = true) := fun h j hl hj => by
        by_cases e : j = k
        · subst e; exact h
        · exact HA.out j hl (by omega)
      generalize l[k] = X at *
      generalize m[k] = Y at *
      obtain ⟨ua2, uc2, hu2, _, _, _⟩ := r2.ints
      subst hu2
      obtain ⟨ua3, uc3, hu3, _, _, _⟩ := r3.ints
      subst hu3
      obtain ⟨ya2, yc2, hy2, _, _, _⟩ := q2.ints
      subst hy2
      obtain ⟨ya3, yc3, hy3, _, _, _⟩ := q3.ints
      subst hy3
      have b1 : Below wr.heap.size wr (wr.alloc (.cells #[.string X.name, .int .i64 X.gain, .slice ua2 X.horizontal.length uc2, .slice ua3 X.vertical.length uc3] 135)) := (Below.refl _ _).alloc (Nat.le_refl _) _
      have b2 : Below wr.heap.size wr ((wr.alloc (.cells #[.string X.name, .int .i64 X.gain, .slice ua2 X.horizontal.length uc2, .slice ua3 X.vertical.length uc3] 135)).alloc (.cells #[.string Y.name, .int .i64 Y.gain, .slice ya2 Y.horizontal.length yc2, .slice ya3 Y.vertical.length yc3] 135)) := b1.alloc (by simp) _
      have T0 := (b1.cell (p := ⟨b', _, none⟩) (show b' < wr.heap.size by omega)).trans t0
      have T1 := (b1.cell (p := ⟨b', _, none⟩) (show b' < wr.heap.size by omega)).trans t1
      have T2 := (b1.cell (p := ⟨b', _, none⟩) (show b' < wr.heap.size by omega)).trans t2
      have T3 := (b1.cell (p := ⟨b', _, none⟩) (show b' < wr.heap.size by omega)).trans t3
      have HC := Lib.hid (iSameAntenna_any X Y _ _ _ _ B ((wr.alloc (.cells #[.string X.name, .int .i64 X.gain, .slice ua2 X.horizontal.length uc2, .slice ua3 X.vertical.length uc3] 135)).alloc (.cells #[.string Y.name, .int .i64 Y.gain, .slice ya2 Y.horizontal.length yc2, .slice ya3 Y.vertical.length yc3] 135)) (r2.below ((HB.out.trans (b2.mono yr)).mono hB)) (q2.below ((HB.out.trans (b2.mono yr)).mono hB)) (r3.below ((HB.out.trans (b2.mono yr)).mono hB)) (q3.below ((HB.out.trans (b2.mono yr)).mono hB)) (by have := b2.size; omega) nX2 nY2 nX3 nY3)
      have BB := Lib.hid (HB.out.trans (b2.mono yr))
      have yy := b2.size
      clear b1 b2 r2 q2 r3 q3
      by_cases e : sameAntenna X Y = true
      case neg =>
        replace e : sameAntenna X Y = false := Bool.eq_false_iff.2 e
        have HE := Lib.hid (HF.out e)
        rw [e] at HC
        clear e HT
        go_wp2_with fail
        refine HC.out.mono ?_
        rintro e w1 ⟨rfl, hb1⟩
        have BE := Lib.hid (BB.out.trans (hb1.mono (by omega)))
        clear hb1
        go_wp2
        go_ret
        exact ⟨by rw [HE.out]; rfl, BE.out⟩
      have HE := Lib.hid (HT.out e)
      rw [e] at HC
      clear e HF
      go_wp2_with fail
      refine HC.out.mono ?_
      rintro e w1 ⟨rfl, hb1⟩
      have BE := Lib.hid (BB.out.trans (hb1.mono (by omega)))
      clear hb1
      go_wp2
      go_roundw
      case rel => exact ⟨k + 1, by omega, by go_num, HE.out, BE.out⟩
      case measure => simp [intOf]; omega
    · obtain rfl : k = l.length := by omega
      have HE := Lib.hid (sameAntennaS_all HL.out (fun j hl => HA.out j hl hl))
      clear hcells hcells'
      go_wp2
      go_ret
      exact ⟨by rw [HE.out]; rfl, HB.out⟩
set_option maxHeartbeats 4000000 in
set_option maxRecDepth 100000 in
theorem equalfRadio_any (l m : List DRadio) (v u : Value) (B : Nat) (w : World) (h : Rd B w (DRadio.sT l) v) (h' : Rd B w (DRadio.sT m) u) (hB : B ≤ w.heap.size) (hn : siz (DRadio.sT l) ≤ 1099511627776) (hm : siz (DRadio.sT m) ≤ 1099511627776) :
    Calls Tryz.prog 80 #[v, u, .func (.func 81) #[] #[]] w fun e w' => e = .returned (.bool (sameRadioS l m)) ∧ Below w.heap.size w w' := by
  rw [DRadio.siz_s] at hn hm
  obtain ⟨a, c, rfl, hnc, hcm, hcells⟩ := DRadio.rd h
  obtain ⟨a', c', rfl, hnc', hcm', hcells'⟩ := DRadio.rd h'
  clear h h'
  by_cases hl : l.length = m.length
  case neg =>
    have HE := Lib.hid (sameRadioS_len hl)
    have hne : ((l.length : Int) != (m.length : Int)) = true := by simp; omega
    clear hcells hcells'
    go_enter Tryz.func80, Tryz.ntmps80
    go_wp2
    go_ret
    exact ⟨by rw [HE.out]; rfl, Below.refl _ _⟩
  have hnb : (l.length : Int) ≤ 1099511627776 := by omega
  have hne : ((l.length : Int) != (m.length : Int)) = false := by simp; omega
  have HL := Lib.hid hl
  clear hl
  go_enter Tryz.func80, Tryz.ntmps80
  go_wp2
  go_loopw [17] (fun i wr => ∃ (k : Nat), k ≤ l.length ∧ i = .int .i64 k ∧ (∀ j (hl : j < l.length), j < k → sameRadio l[j] (m[j]'(by have := HL.out; omega)) = true) ∧ Below w.heap.size w wr) (fun i wr => l.length - (intOf i).toNat)
  case atStart => exact ⟨0, Nat.zero_le _, rfl, fun j hl h => absurd h (by omega), Below.refl _ _⟩
  case round =>
    obtain ⟨k, hk, rfl, hall, hb⟩ := hrel
    have HA := Lib.hid hall
    have HB := Lib.hid hb
    clear hall hb
    by_cases hlt : k < l.length
    · have hlm : k < m.length := by rw [← HL.out]; exact hlt
      obtain ⟨b, off, rfl, hbl, hat⟩ := hcells (by omega)
      obtain ⟨b', off', rfl, hbl', hat'⟩ := hcells' (by omega)
      obtain ⟨s0, s1, s2, s3, s4, ⟨u5, s5, r5⟩⟩ := hat k hlt
      obtain ⟨t0, t1, t2, t3, t4, ⟨y5, t5, q5⟩⟩ := hat' k hlm
      rw [← HB.out.cell (p := ⟨b, _, none⟩) (show b < w.heap.size by omega)] at s0 s1 s2 s3 s4 s5
      rw [← HB.out.cell (p := ⟨b', _, none⟩) (show b' < w.heap.size by omega)] at t0 t1 t2 t3 t4 t5
      have j0 : (0 : Int) ≤ (k : Int) := by omega
      have j1 : (k : Int) < (l.length : Int) := by omega
      have j2 : (k : Int) < (m.length : Int) := by omega
      have yr : w.heap.size ≤ wr.heap.size := HB.out.size
      have yb : b < wr.heap.size := by omega
      have yb' : b' < wr.heap.size := by omega
      have nX5 : l[k].modes.length ≤ 1099511627776 := by have h1 := sizL_get_le DRadio.tr l k hlt; have h2 := DRadio.siz_tr l[k]; have z5 := DMode.siz_s l[k].modes; omega
      have nY5 : m[k].modes.length ≤ 1099511627776 := by have h1 := sizL_get_le DRadio.tr m k hlm; have h2 := DRadio.siz_tr m[k]; have z5 := DMode.siz_s m[k].modes; omega
      clear hcells hat hcells' hat'
      have HF : Hid (sameRadio l[k] m[k] = false → sameRadioS l m = false) := fun h => sameRadioS_at hlt hlm h
      have HT : Hid (sameRadio l[k] m[k] = true → ∀ j (hl : j < l.length), j < k + 1 → sameRadio l[j] (m[j]'(by have := HL.out; omega)) = true) := fun h j hl hj => by
        by_cases e : j = k
        · subst e; exact h
        · exact HA.out j hl (by omega)
      generalize l[k] = X at *
      generalize m[k] = Y at *
      obtain ⟨ua5, uc5, hu5, _, _, _⟩ := DMode.rd r5
      subst hu5
      obtain ⟨ya5, yc5, hy5, _, _, _⟩ := DMode.rd q5
      subst hy5
      have b1 : Below wr.heap.size wr (wr.alloc (.cells #[.string X.name, .int .i64 X.power, .int .i64 X.feeder, .int .i64 X.noise, .int .i64 X.width, .slice ua5 X.modes.length uc5] 139)) := (Below.refl _ _).alloc (Nat.le_refl _) _
      have b2 : Below wr.heap.size wr ((wr.alloc (.cells #[.string X.name, .int .i64 X.power, .int .i64 X.feeder, .int .i64 X.noise, .int .i64 X.width, .slice ua5 X.modes.length uc5] 139)).alloc (.cells #[.string Y.name, .int .i64 Y.power, .int .i64 Y.feeder, .int .i64 Y.noise, .int .i64 Y.width, .slice ya5 Y.modes.length yc5] 139)) := b1.alloc (by simp) _
      have T0 := (b1.cell (p := ⟨b', _, none⟩) (show b' < wr.heap.size by omega)).trans t0
      have T1 := (b1.cell (p := ⟨b', _, none⟩) (show b' < wr.heap.size by omega)).trans t1
      have T2 := (b1.cell (p := ⟨b', _, none⟩) (show b' < wr.heap.size by omega)).trans t2
      have T3 := (b1.cell (p := ⟨b', _, none⟩) (show b' < wr.heap.size by omega)).trans t3
      have T4 := (b1.cell (p := ⟨b', _, none⟩) (show b' < wr.heap.size by omega)).trans t4
      have T5 := (b1.cell (p := ⟨b', _, none⟩) (show b' < wr.heap.size by omega)).trans t5
      have HC := Lib.hid (iSameRadio_any X Y _ _ B ((wr.alloc (.cells #[.string X.name, .int .i64 X.power, .int .i64 X.feeder, .int .i64 X.noise, .int .i64 X.width, .slice ua5 X.modes.length uc5] 139)).alloc (.cells #[.string Y.name, .int .i64 Y.power, .int .i64 Y.feeder, .int .i64 Y.noise, .int .i64 Y.width, .slice ya5 Y.modes.length yc5] 139)) (r5.below ((HB.out.trans (b2.mono yr)).mono hB)) (q5.below ((HB.out.trans (b2.mono yr)).mono hB)) (by have := b2.size; omega) nX5 nY5)
      have BB := Lib.hid (HB.out.trans (b2.mono yr))
      have yy := b2.size
      clear b1 b2 r5 q5
      by_cases e : sameRadio X Y = true
      case neg =>
        replace e : sameRadio X Y = false := Bool.eq_false_iff.2 e
        have HE := Lib.hid (HF.out e)
        rw [e] at HC
        clear e HT
        go_wp2_with fail
        refine HC.out.mono ?_
        rintro e w1 ⟨rfl, hb1⟩
        have BE := Lib.hid (BB.out.trans (hb1.mono (by omega)))
        clear hb1
        go_wp2
        go_ret
        exact ⟨by rw [HE.out]; rfl, BE.out⟩
      have HE := Lib.hid (HT.out e)
      rw [e] at HC
      clear e HF
      go_wp2_with fail
      refine HC.out.mono ?_
      rintro e w1 ⟨rfl, hb1⟩
      have BE := Lib.hid (BB.out.trans (hb1.mono (by omega)))
      clear hb1
      go_wp2
      go_roundw
      case rel => exact ⟨k + 1, by omega, by go_num, HE.out, BE.out⟩
      case measure => simp [intOf]; omega
    · obtain rfl : k = l.length := by omega
      have HE := Lib.hid (sameRadioS_all HL.out (fun j hl => HA.out j hl hl))
      clear hcells hcells'
      go_wp2
      go_ret
      exact ⟨by rw [HE.out]; rfl, HB.out⟩
set_option maxHeartbeats 4000000 in
set_option maxRecDepth 100000 in
theorem equalfRow_any (l m : List (List Int)) (v u : Value) (B : Nat) (w : World) (h : Rd B w (intssT l) v) (h' : Rd B w (intssT m) u) (hB : B ≤ w.heap.size) (hn : siz (intssT l) ≤ 1099511627776) (hm : siz (intssT m) ≤ 1099511627776) :
    Calls Tryz.prog 34 #[v, u, .func (.func 35) #[] #[]] w fun e w' => e = .returned (.bool (sameII l m)) ∧ Below w.heap.size w w' := by
  rw [siz_intss] at hn hm
  obtain ⟨a, c, rfl, hnc, hcm, hcells⟩ := h.intss
  obtain ⟨a', c', rfl, hnc', hcm', hcells'⟩ := h'.intss
  clear h h'
  by_cases hl : l.length = m.length
  case neg =>
    have HE := Lib.hid (sameII_len hl)
    have hne : ((l.length : Int) != (m.length : Int)) = true := by simp; omega
    clear hcells hcells'
    go_enter Tryz.func34, Tryz.ntmps34
    go_wp2
    go_ret
    exact ⟨by rw [HE.out]; rfl, Below.refl _ _⟩
  have hnb : (l.length : Int) ≤ 1099511627776 := by omega
  have hne : ((l.length : Int) != (m.length : Int)) = false := by simp; omega
  have HL := Lib.hid hl
  clear hl
  go_enter Tryz.func34, Tryz.ntmps34
  go_wp2
  go_loopw [17] (fun i wr => ∃ (k : Nat), k ≤ l.length ∧ i = .int .i64 k ∧ (∀ j (hl : j < l.length), j < k → sameI l[j] (m[j]'(by have := HL.out; omega)) = true) ∧ Below w.heap.size w wr) (fun i wr => l.length - (intOf i).toNat)
  case atStart => exact ⟨0, Nat.zero_le _, rfl, fun j hl h => absurd h (by omega), Below.refl _ _⟩
  case round =>
    obtain ⟨k, hk, rfl, hall, hb⟩ := hrel
    have HA := Lib.hid hall
    have HB := Lib.hid hb
    clear hall hb
    by_cases hlt : k < l.length
    · have hlm : k < m.length := by rw [← HL.out]; exact hlt
      obtain ⟨b, off, rfl, hbl, hat⟩ := hcells (by omega)
      obtain ⟨b', off', rfl, hbl', hat'⟩ := hcells' (by omega)
      obtain ⟨u0, s0, r0⟩ := hat k hlt
      obtain ⟨y0, t0, q0⟩ := hat' k hlm
      rw [← HB.out.cell (p := ⟨b, _, none⟩) (show b < w.heap.size by omega)] at s0
      rw [← HB.out.cell (p := ⟨b', _, none⟩) (show b' < w.heap.size by omega)] at t0
      have j0 : (0 : Int) ≤ (k : Int) := by omega
      have j1 : (k : Int) < (l.length : Int) := by omega
      have j2 : (k : Int) < (m.length : Int) := by omega
      have yr : w.heap.size ≤ wr.heap.size := HB.out.size
      have yb : b < wr.heap.size := by omega
      have yb' : b' < wr.heap.size := by omega
      have nX0 : l[k].length ≤ 1099511627776 := by have h1 := sumLen_get_le l k hlt; omega
      have nY0 : m[k].length ≤ 1099511627776 := by have h1 := sumLen_get_le m k hlm; omega
      clear hcells hat hcells' hat'
      have HF : Hid (sameI l[k] m[k] = false → sameII l m = false) := fun h => sameII_at hlt hlm h
      have HT : Hid (sameI l[k] m[k] = true → ∀ j (hl : j < l.length), j < k + 1 → sameI l[j] (m[j]'(by have := HL.out; omega)) = true) := fun h j hl hj => by
        by_cases e : j = k
        · subst e; exact h
        · exact HA.out j hl (by omega)
      generalize l[k] = X at *
      generalize m[k] = Y at *
      obtain ⟨ua0, uc0, hu0, _, _, _⟩ := r0.ints
      subst hu0
      obtain ⟨ya0, yc0, hy0, _, _, _⟩ := q0.ints
      subst hy0
      have b1 : Below wr.heap.size wr wr := Below.refl _ _
      have b2 := b1
      have HC := Lib.hid (equalI_any X Y _ _ B wr (r0.below ((HB.out.trans (b2.mono yr)).mono hB)) (q0.below ((HB.out.trans (b2.mono yr)).mono hB)) (by have := b2.size; omega) nX0 nY0)
      have BB := Lib.hid (HB.out.trans (b2.mono yr))
      have yy := b2.size
      clear b1 b2 r0 q0
      by_cases e : sameI X Y = true
      case neg =>
        replace e : sameI X Y = false := Bool.eq_false_iff.2 e
        have HE := Lib.hid (HF.out e)
        rw [e] at HC
        clear e HT
        go_wp2_with fail
        refine HC.out.mono ?_
        rintro e w1 ⟨rfl, hb1⟩
        have BE := Lib.hid (BB.out.trans (hb1.mono (by omega)))
        clear hb1
        go_wp2
        go_ret
        exact ⟨by rw [HE.out]; rfl, BE.out⟩
      have HE := Lib.hid (HT.out e)
      rw [e] at HC
      clear e HF
      go_wp2_with fail
      refine HC.out.mono ?_
      rintro e w1 ⟨rfl, hb1⟩
      have BE := Lib.hid (BB.out.trans (hb1.mono (by omega)))
      clear hb1
      go_wp2
      go_roundw
      case rel => exact ⟨k + 1, by omega, by go_num, HE.out, BE.out⟩
      case measure => simp [intOf]; omega
    · obtain rfl : k = l.length := by omega
      have HE := Lib.hid (sameII_all HL.out (fun j hl => HA.out j hl hl))
      clear hcells hcells'
      go_wp2
      go_ret
      exact ⟨by rw [HE.out]; rfl, HB.out⟩
end Go.Proofs.YtjfmkmcefnidcaaGreat
