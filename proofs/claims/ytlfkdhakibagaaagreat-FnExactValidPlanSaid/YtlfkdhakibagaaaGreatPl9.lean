/- Contracts: plans are valid, for the program and for the reference. Conditions: bounded sizes. -/
import Derived.Test.YtlfkdhakibagaaaGreatPl8
import Derived.Test.YtlfkdhakibagaaaGreatPl6
import Derived.Test.YtlfkdhakibagaaaGreatNetFo
import Derived.Test.YtlfkdhakibagaaaGreatHPlan
namespace Go.Proofs.YtlfkdhakibagaaaGreat
open Go.RowKit
set_option linter.unusedVariables false
set_option linter.unusedSimpArgs false

def planB (p : DPlan) : Bool := terrB p.terrain && (netB p.network && (bandsB p.bands && (holdB p.licences && (protsB p.protected_ && (inB p.day 0 99999 && apS p.apart p.network.sectors.length)))))
structure PlanRd (B : Nat) (w : World) (p : DPlan) (v3 v4 v5 v6 v7 v8 v9 v10 v11 v12 : Value) : Prop where
  r3 : Rd B w (intsT p.terrain.heights) v3
  r4 : Rd B w (intsT p.terrain.clutter) v4
  r5 : Rd B w (DSite.sT p.network.sites) v5
  r6 : Rd B w (DSector.sT p.network.sectors) v6
  r7 : Rd B w (DAntenna.sT p.network.antennas) v7
  r8 : Rd B w (DRadio.sT p.network.radios) v8
  r9 : Rd B w (DBand.sT p.bands) v9
  r10 : Rd B w (DLicence.sT p.licences) v10
  r11 : Rd B w (DProtected.sT p.protected_) v11
  r12 : Rd B w (intssT p.apart) v12
theorem PlanRd.below {B : Nat} {w w' : World} {p : DPlan} {v3 v4 v5 v6 v7 v8 v9 v10 v11 v12 : Value} (h : PlanRd B w p v3 v4 v5 v6 v7 v8 v9 v10 v11 v12) (hb : Below B w w') : PlanRd B w' p v3 v4 v5 v6 v7 v8 v9 v10 v11 v12 := ⟨h.r3.below hb, h.r4.below hb, h.r5.below hb, h.r6.below hb, h.r7.below hb, h.r8.below hb, h.r9.below hb, h.r10.below hb, h.r11.below hb, h.r12.below hb⟩
theorem PlanRd.mono {B B' : Nat} {w : World} {p : DPlan} {v3 v4 v5 v6 v7 v8 v9 v10 v11 v12 : Value} (h : PlanRd B w p v3 v4 v5 v6 v7 v8 v9 v10 v11 v12) (hb : B ≤ B') : PlanRd B' w p v3 v4 v5 v6 v7 v8 v9 v10 v11 v12 := ⟨h.r3.mono hb, h.r4.mono hb, h.r5.mono hb, h.r6.mono hb, h.r7.mono hb, h.r8.mono hb, h.r9.mono hb, h.r10.mono hb, h.r11.mono hb, h.r12.mono hb⟩
theorem rowI_le (m : List (List Int)) : ∀ i, i < m.length → (rowI m i).length ≤ sumLen m := by
  induction m with
  | nil => intro i hi; simp at hi
  | cons r m ih =>
    intro i hi
    cases i with
    | zero => simp [rowI, sumLen]
    | succ i =>
      have := ih i (by simpa using hi)
      simp [rowI, sumLen] at this ⊢
      omega
structure PlanSz (p : DPlan) : Prop where
  heights : p.terrain.heights.length ≤ 1099511627776
  clutter : p.terrain.clutter.length ≤ 1099511627776
  net : sizL p.network.tr ≤ 1099511627776
  sites : p.network.sites.length ≤ 1099511627776
  sectors : p.network.sectors.length ≤ 1099511627776
  antennas : p.network.antennas.length ≤ 1099511627776
  radios : p.network.radios.length ≤ 1099511627776
  bands : p.bands.length ≤ 1099511627776
  licences : p.licences.length ≤ 1099511627776
  prot : p.protected_.length ≤ 1099511627776
  apart : p.apart.length ≤ 1099511627776
  rows : ∀ i, i < p.apart.length → (rowI p.apart i).length ≤ 1099511627776
theorem PlanSz.of {p : DPlan} (h : sizL p.tr ≤ 1099511627776) : PlanSz p := by
  have h1 := DPlan.siz_tr p
  have h2 := DTerrain.siz_tr p.terrain
  have h3 := DNetwork.siz_tr p.network
  rw [siz_ints, siz_ints] at h2
  rw [DSite.siz_s, DSector.siz_s, DAntenna.siz_s, DRadio.siz_s] at h3
  rw [DBand.siz_s, DLicence.siz_s, DProtected.siz_s, siz_intss] at h1
  have h4 := rowI_le p.apart
  constructor <;> first | omega | (intro i hi; have := h4 i hi; omega)
set_option maxHeartbeats 8000000 in
set_option maxRecDepth 100000 in
theorem l30Ok_any (p : DPlan) (v3 v4 v5 v6 v7 v8 v9 v10 v11 v12 : Value) (b off : Nat) (w : World) (h : PlanRd w.heap.size w p v3 v4 v5 v6 v7 v8 v9 v10 v11 v12) (hs : sizL p.tr ≤ 1099511627776) (hk : p.ok) (c0 : w.cell? ⟨b, off, none⟩ = some (.int .i64 p.terrain.step)) (c1 : w.cell? ⟨b, off + 1, none⟩ = some (.int .i64 p.terrain.width)) (c2 : w.cell? ⟨b, off + 2, none⟩ = some (.int .i64 p.terrain.height)) (c3 : w.cell? ⟨b, off + 3, none⟩ = some (v3)) (c4 : w.cell? ⟨b, off + 4, none⟩ = some (v4)) (c5 : w.cell? ⟨b, off + 5, none⟩ = some (v5)) (c6 : w.cell? ⟨b, off + 6, none⟩ = some (v6)) (c7 : w.cell? ⟨b, off + 7, none⟩ = some (v7)) (c8 : w.cell? ⟨b, off + 8, none⟩ = some (v8)) (c9 : w.cell? ⟨b, off + 9, none⟩ = some (v9)) (c10 : w.cell? ⟨b, off + 10, none⟩ = some (v10)) (c11 : w.cell? ⟨b, off + 11, none⟩ = some (v11)) (c12 : w.cell? ⟨b, off + 12, none⟩ = some (v12)) (c13 : w.cell? ⟨b, off + 13, none⟩ = some (.int .i64 p.day)) :
    Calls Tryz.prog 47 #[.pointer (some ⟨b, off, none⟩)] w fun e w' => e = .returned (.bool (planB p)) ∧ Below w.heap.size w w' := by
  have hbl := cell_lt c0
  dsimp only at hbl
  have H := Lib.hid h
  clear h
  have Z := Lib.hid (PlanSz.of hs)
  obtain ⟨a6, k6, e6, _, _, _⟩ := DSector.rd H.out.r6
  subst e6
  have C0 : Hid (∀ W : World, Below w.heap.size w W → Calls Tryz.prog 95 #[.pointer (some ⟨b, off, none⟩)] W fun e w' => e = .returned (.bool (terrB p.terrain)) ∧ Below W.heap.size W w') := fun W hW => l04Ok_any p.terrain v3 v4 b off w.heap.size W (H.out.r3.below hW) (H.out.r4.below hW) hW.size ((hW.cell hbl).trans c0) ((hW.cell hbl).trans c1) ((hW.cell hbl).trans c2) ((hW.cell hbl).trans c3) ((hW.cell hbl).trans c4) Z.out.heights Z.out.clutter
  have C1 : Hid (∀ W : World, Below w.heap.size w W → Calls Tryz.prog 96 #[.pointer (some ⟨b, off + 5, none⟩)] W fun e w' => e = .returned (.bool (netB p.network)) ∧ Below W.heap.size W w') := fun W hW => l14Ok_off p.network v5 _ v7 v8 b (off + 5) W ((H.out.r5.below hW).mono hW.size) ((H.out.r6.below hW).mono hW.size) ((H.out.r7.below hW).mono hW.size) ((H.out.r8.below hW).mono hW.size) (Nat.lt_of_lt_of_le hbl hW.size) ((hW.cell hbl).trans c5) ((hW.cell hbl).trans c6) ((hW.cell hbl).trans c7) ((hW.cell hbl).trans c8) Z.out.net hk.network
  have C2 : Hid (∀ W : World, Below w.heap.size w W → Calls Tryz.prog 97 #[v9] W fun e w' => e = .returned (.bool (bandsB p.bands)) ∧ Below W.heap.size W w') := fun W hW => sl15List_any p.bands v9 w.heap.size W (H.out.r9.below hW) hW.size hk.bands Z.out.bands
  have C3 : Hid (∀ W : World, Below w.heap.size w W → Calls Tryz.prog 98 #[v10] W fun e w' => e = .returned (.bool (holdB p.licences)) ∧ Below W.heap.size W w') := fun W hW => sL26List_any p.licences v10 w.heap.size W (H.out.r10.below hW) hW.size hk.licences Z.out.licences
  have C4 : Hid (∀ W : World, Below w.heap.size w W → Calls Tryz.prog 99 #[v11] W fun e w' => e = .returned (.bool (protsB p.protected_)) ∧ Below W.heap.size W w') := fun W hW => sl27Places_any p.protected_ v11 w.heap.size W (H.out.r11.below hW) hW.size hk.protected_ Z.out.prot
  have C5 : Hid (∀ W : World, Below w.heap.size w W → Calls Tryz.prog 100 #[.int .i64 p.day] W fun e w' => e = .returned (.bool (inB p.day 0 99999)) ∧ W = w') := fun W hW => l28Day_any p.day W
  have C6 : Hid (∀ W : World, Below w.heap.size w W → Calls Tryz.prog 101 #[v12, .int .i64 (p.network.sectors.length : Int)] W fun e w' => e = .returned (.bool (apS p.apart p.network.sectors.length)) ∧ Below W.heap.size W w') := fun W hW => l30Apart_any p.apart p.network.sectors.length v12 w.heap.size W (H.out.r12.below hW) hW.size Z.out.apart Z.out.sectors Z.out.rows
  by_cases h0 : terrB p.terrain = true
  case neg =>
    replace h0 : terrB p.terrain = false := Bool.eq_false_iff.2 h0
    rw [h0] at C0
    have HE : Hid (planB p = false) := by show _ = _; unfold planB; simp only [h0, Bool.and_false, Bool.false_and, Bool.and_true, Bool.true_and, Bool.and_self]
    go_enter Tryz.func47, Tryz.ntmps47
    go_upto_region 1 with (fail)
    have oB := overC (w0 := w) (show b < w.heap.size by omega)
    refine wp_region_over w.heap.size w (Below.refl _ _) (by kernel_rfl) (by kernel_rfl) ?_
    repeat (go_big_quiet_step (first | (go_at_call 95; exact over_left (Nat.le_refl _) (C0.out _ (over_below _ _ _))) | (go_at_call 96; exact over_left (Nat.le_refl _) (C1.out _ (over_below _ _ _))) | (go_at_call 97; exact over_left (Nat.le_refl _) (C2.out _ (over_below _ _ _))) | (go_at_call 98; exact over_left (Nat.le_refl _) (C3.out _ (over_below _ _ _))) | (go_at_call 99; exact over_left (Nat.le_refl _) (C4.out _ (over_below _ _ _))) | (go_at_call 100; exact over_same (C5.out _ (over_below _ _ _))) | (go_at_call 101; exact over_left (Nat.le_refl _) (C6.out _ (over_below _ _ _)))))
    refine wpQuiet_nil ?_
    rintro _ ⟨X, rfl⟩
    have BE := Lib.hid (over_below w.heap.size w X)
    clear oB
    generalize over w.heap.size w X = W9 at *
    go_wp2
    go_ret
    exact ⟨by rw [HE.out]; rfl, BE.out⟩
  rw [h0] at C0
  by_cases h1 : netB p.network = true
  case neg =>
    replace h1 : netB p.network = false := Bool.eq_false_iff.2 h1
    rw [h1] at C1
    have HE : Hid (planB p = false) := by show _ = _; unfold planB; simp only [h0, h1, Bool.and_false, Bool.false_and, Bool.and_true, Bool.true_and, Bool.and_self]
    go_enter Tryz.func47, Tryz.ntmps47
    go_upto_region 1 with (fail)
    have oB := overC (w0 := w) (show b < w.heap.size by omega)
    refine wp_region_over w.heap.size w (Below.refl _ _) (by kernel_rfl) (by kernel_rfl) ?_
    repeat (go_big_quiet_step (first | (go_at_call 95; exact over_left (Nat.le_refl _) (C0.out _ (over_below _ _ _))) | (go_at_call 96; exact over_left (Nat.le_refl _) (C1.out _ (over_below _ _ _))) | (go_at_call 97; exact over_left (Nat.le_refl _) (C2.out _ (over_below _ _ _))) | (go_at_call 98; exact over_left (Nat.le_refl _) (C3.out _ (over_below _ _ _))) | (go_at_call 99; exact over_left (Nat.le_refl _) (C4.out _ (over_below _ _ _))) | (go_at_call 100; exact over_same (C5.out _ (over_below _ _ _))) | (go_at_call 101; exact over_left (Nat.le_refl _) (C6.out _ (over_below _ _ _)))))
    refine wpQuiet_nil ?_
    rintro _ ⟨X, rfl⟩
    have BE := Lib.hid (over_below w.heap.size w X)
    clear oB
    generalize over w.heap.size w X = W9 at *
    go_wp2
    go_ret
    exact ⟨by rw [HE.out]; rfl, BE.out⟩
  rw [h1] at C1
  by_cases h2 : bandsB p.bands = true
  case neg =>
    replace h2 : bandsB p.bands = false := Bool.eq_false_iff.2 h2
    rw [h2] at C2
    have HE : Hid (planB p = false) := by show _ = _; unfold planB; simp only [h0, h1, h2, Bool.and_false, Bool.false_and, Bool.and_true, Bool.true_and, Bool.and_self]
    go_enter Tryz.func47, Tryz.ntmps47
    go_upto_region 1 with (fail)
    have oB := overC (w0 := w) (show b < w.heap.size by omega)
    refine wp_region_over w.heap.size w (Below.refl _ _) (by kernel_rfl) (by kernel_rfl) ?_
    repeat (go_big_quiet_step (first | (go_at_call 95; exact over_left (Nat.le_refl _) (C0.out _ (over_below _ _ _))) | (go_at_call 96; exact over_left (Nat.le_refl _) (C1.out _ (over_below _ _ _))) | (go_at_call 97; exact over_left (Nat.le_refl _) (C2.out _ (over_below _ _ _))) | (go_at_call 98; exact over_left (Nat.le_refl _) (C3.out _ (over_below _ _ _))) | (go_at_call 99; exact over_left (Nat.le_refl _) (C4.out _ (over_below _ _ _))) | (go_at_call 100; exact over_same (C5.out _ (over_below _ _ _))) | (go_at_call 101; exact over_left (Nat.le_refl _) (C6.out _ (over_below _ _ _)))))
    refine wpQuiet_nil ?_
    rintro _ ⟨X, rfl⟩
    have BE := Lib.hid (over_below w.heap.size w X)
    clear oB
    generalize over w.heap.size w X = W9 at *
    go_wp2
    go_ret
    exact ⟨by rw [HE.out]; rfl, BE.out⟩
  rw [h2] at C2
  by_cases h3 : holdB p.licences = true
  case neg =>
    replace h3 : holdB p.licences = false := Bool.eq_false_iff.2 h3
    rw [h3] at C3
    have HE : Hid (planB p = false) := by show _ = _; unfold planB; simp only [h0, h1, h2, h3, Bool.and_false, Bool.false_and, Bool.and_true, Bool.true_and, Bool.and_self]
    go_enter Tryz.func47, Tryz.ntmps47
    go_upto_region 1 with (fail)
    have oB := overC (w0 := w) (show b < w.heap.size by omega)
    refine wp_region_over w.heap.size w (Below.refl _ _) (by kernel_rfl) (by kernel_rfl) ?_
    repeat (go_big_quiet_step (first | (go_at_call 95; exact over_left (Nat.le_refl _) (C0.out _ (over_below _ _ _))) | (go_at_call 96; exact over_left (Nat.le_refl _) (C1.out _ (over_below _ _ _))) | (go_at_call 97; exact over_left (Nat.le_refl _) (C2.out _ (over_below _ _ _))) | (go_at_call 98; exact over_left (Nat.le_refl _) (C3.out _ (over_below _ _ _))) | (go_at_call 99; exact over_left (Nat.le_refl _) (C4.out _ (over_below _ _ _))) | (go_at_call 100; exact over_same (C5.out _ (over_below _ _ _))) | (go_at_call 101; exact over_left (Nat.le_refl _) (C6.out _ (over_below _ _ _)))))
    refine wpQuiet_nil ?_
    rintro _ ⟨X, rfl⟩
    have BE := Lib.hid (over_below w.heap.size w X)
    clear oB
    generalize over w.heap.size w X = W9 at *
    go_wp2
    go_ret
    exact ⟨by rw [HE.out]; rfl, BE.out⟩
  rw [h3] at C3
  by_cases h4 : protsB p.protected_ = true
  case neg =>
    replace h4 : protsB p.protected_ = false := Bool.eq_false_iff.2 h4
    rw [h4] at C4
    have HE : Hid (planB p = false) := by show _ = _; unfold planB; simp only [h0, h1, h2, h3, h4, Bool.and_false, Bool.false_and, Bool.and_true, Bool.true_and, Bool.and_self]
    go_enter Tryz.func47, Tryz.ntmps47
    go_upto_region 1 with (fail)
    have oB := overC (w0 := w) (show b < w.heap.size by omega)
    refine wp_region_over w.heap.size w (Below.refl _ _) (by kernel_rfl) (by kernel_rfl) ?_
    repeat (go_big_quiet_step (first | (go_at_call 95; exact over_left (Nat.le_refl _) (C0.out _ (over_below _ _ _))) | (go_at_call 96; exact over_left (Nat.le_refl _) (C1.out _ (over_below _ _ _))) | (go_at_call 97; exact over_left (Nat.le_refl _) (C2.out _ (over_below _ _ _))) | (go_at_call 98; exact over_left (Nat.le_refl _) (C3.out _ (over_below _ _ _))) | (go_at_call 99; exact over_left (Nat.le_refl _) (C4.out _ (over_below _ _ _))) | (go_at_call 100; exact over_same (C5.out _ (over_below _ _ _))) | (go_at_call 101; exact over_left (Nat.le_refl _) (C6.out _ (over_below _ _ _)))))
    refine wpQuiet_nil ?_
    rintro _ ⟨X, rfl⟩
    have BE := Lib.hid (over_below w.heap.size w X)
    clear oB
    generalize over w.heap.size w X = W9 at *
    go_wp2
    go_ret
    exact ⟨by rw [HE.out]; rfl, BE.out⟩
  rw [h4] at C4
  by_cases h5 : inB p.day 0 99999 = true
  case neg =>
    replace h5 : inB p.day 0 99999 = false := Bool.eq_false_iff.2 h5
    rw [h5] at C5
    have HE : Hid (planB p = false) := by show _ = _; unfold planB; simp only [h0, h1, h2, h3, h4, h5, Bool.and_false, Bool.false_and, Bool.and_true, Bool.true_and, Bool.and_self]
    go_enter Tryz.func47, Tryz.ntmps47
    go_upto_region 1 with (fail)
    have oB := overC (w0 := w) (show b < w.heap.size by omega)
    refine wp_region_over w.heap.size w (Below.refl _ _) (by kernel_rfl) (by kernel_rfl) ?_
    repeat (go_big_quiet_step (first | (go_at_call 95; exact over_left (Nat.le_refl _) (C0.out _ (over_below _ _ _))) | (go_at_call 96; exact over_left (Nat.le_refl _) (C1.out _ (over_below _ _ _))) | (go_at_call 97; exact over_left (Nat.le_refl _) (C2.out _ (over_below _ _ _))) | (go_at_call 98; exact over_left (Nat.le_refl _) (C3.out _ (over_below _ _ _))) | (go_at_call 99; exact over_left (Nat.le_refl _) (C4.out _ (over_below _ _ _))) | (go_at_call 100; exact over_same (C5.out _ (over_below _ _ _))) | (go_at_call 101; exact over_left (Nat.le_refl _) (C6.out _ (over_below _ _ _)))))
    refine wpQuiet_nil ?_
    rintro _ ⟨X, rfl⟩
    have BE := Lib.hid (over_below w.heap.size w X)
    clear oB
    generalize over w.heap.size w X = W9 at *
    go_wp2
    go_ret
    exact ⟨by rw [HE.out]; rfl, BE.out⟩
  rw [h5] at C5
  by_cases h6 : apS p.apart p.network.sectors.length = true
  case neg =>
    replace h6 : apS p.apart p.network.sectors.length = false := Bool.eq_false_iff.2 h6
    rw [h6] at C6
    have HE : Hid (planB p = false) := by show _ = _; unfold planB; simp only [h0, h1, h2, h3, h4, h5, h6, Bool.and_false, Bool.false_and, Bool.and_true, Bool.true_and, Bool.and_self]
    go_enter Tryz.func47, Tryz.ntmps47
    go_upto_region 1 with (fail)
    have oB := overC (w0 := w) (show b < w.heap.size by omega)
    refine wp_region_over w.heap.size w (Below.refl _ _) (by kernel_rfl) (by kernel_rfl) ?_
    repeat (go_big_quiet_step (first | (go_at_call 95; exact over_left (Nat.le_refl _) (C0.out _ (over_below _ _ _))) | (go_at_call 96; exact over_left (Nat.le_refl _) (C1.out _ (over_below _ _ _))) | (go_at_call 97; exact over_left (Nat.le_refl _) (C2.out _ (over_below _ _ _))) | (go_at_call 98; exact over_left (Nat.le_refl _) (C3.out _ (over_below _ _ _))) | (go_at_call 99; exact over_left (Nat.le_refl _) (C4.out _ (over_below _ _ _))) | (go_at_call 100; exact over_same (C5.out _ (over_below _ _ _))) | (go_at_call 101; exact over_left (Nat.le_refl _) (C6.out _ (over_below _ _ _)))))
    refine wpQuiet_nil ?_
    rintro _ ⟨X, rfl⟩
    have BE := Lib.hid (over_below w.heap.size w X)
    clear oB
    generalize over w.heap.size w X = W9 at *
    go_wp2
    go_ret
    exact ⟨by rw [HE.out]; rfl, BE.out⟩
  rw [h6] at C6
  have HE : Hid (planB p = true) := by show _ = _; unfold planB; simp only [h0, h1, h2, h3, h4, h5, h6, Bool.and_false, Bool.false_and, Bool.and_true, Bool.true_and, Bool.and_self]
  go_enter Tryz.func47, Tryz.ntmps47
  go_upto_region 1 with (fail)
  have oB := overC (w0 := w) (show b < w.heap.size by omega)
  refine wp_region_over w.heap.size w (Below.refl _ _) (by kernel_rfl) (by kernel_rfl) ?_
  repeat (go_big_quiet_step (first | (go_at_call 95; exact over_left (Nat.le_refl _) (C0.out _ (over_below _ _ _))) | (go_at_call 96; exact over_left (Nat.le_refl _) (C1.out _ (over_below _ _ _))) | (go_at_call 97; exact over_left (Nat.le_refl _) (C2.out _ (over_below _ _ _))) | (go_at_call 98; exact over_left (Nat.le_refl _) (C3.out _ (over_below _ _ _))) | (go_at_call 99; exact over_left (Nat.le_refl _) (C4.out _ (over_below _ _ _))) | (go_at_call 100; exact over_same (C5.out _ (over_below _ _ _))) | (go_at_call 101; exact over_left (Nat.le_refl _) (C6.out _ (over_below _ _ _)))))
  refine wpQuiet_nil ?_
  rintro _ ⟨X, rfl⟩
  have BE := Lib.hid (over_below w.heap.size w X)
  clear oB
  generalize over w.heap.size w X = W9 at *
  go_wp2
  go_ret
  exact ⟨by rw [HE.out]; rfl, BE.out⟩
set_option maxHeartbeats 2000000 in
set_option maxRecDepth 100000 in
theorem sValidPlan_any (p : DPlan) (v3 v4 v5 v6 v7 v8 v9 v10 v11 v12 : Value) (w : World) (h : PlanRd w.heap.size w p v3 v4 v5 v6 v7 v8 v9 v10 v11 v12) (hs : sizL p.tr ≤ 1099511627776) (hk : p.ok) :
    Calls Tryz.prog 14 #[.agg #[.int .i64 p.terrain.step, .int .i64 p.terrain.width, .int .i64 p.terrain.height, v3, v4, v5, v6, v7, v8, v9, v10, v11, v12, .int .i64 p.day]] w fun e w' => e = .returned (.bool (planB p)) ∧ Below w.heap.size w w' := by
  have b0 := below_alloc w (.cells #[.int .i64 p.terrain.step, .int .i64 p.terrain.width, .int .i64 p.terrain.height, v3, v4, v5, v6, v7, v8, v9, v10, v11, v12, .int .i64 p.day] 53)
  have k0 := bkN w #[.int .i64 p.terrain.step, .int .i64 p.terrain.width, .int .i64 p.terrain.height, v3, v4, v5, v6, v7, v8, v9, v10, v11, v12, .int .i64 p.day] 53
  have z0 : w.heap.size ≤ (w.alloc (.cells #[.int .i64 p.terrain.step, .int .i64 p.terrain.width, .int .i64 p.terrain.height, v3, v4, v5, v6, v7, v8, v9, v10, v11, v12, .int .i64 p.day] 53)).heap.size := b0.size
  have HC := Lib.hid (l30Ok_any p v3 v4 v5 v6 v7 v8 v9 v10 v11 v12 w.heap.size 0 (w.alloc (.cells #[.int .i64 p.terrain.step, .int .i64 p.terrain.width, .int .i64 p.terrain.height, v3, v4, v5, v6, v7, v8, v9, v10, v11, v12, .int .i64 p.day] 53)) ((h.below b0).mono z0) hs hk (bkC k0 0 rfl) (bkC k0 1 rfl) (bkC k0 2 rfl) (bkC k0 3 rfl) (bkC k0 4 rfl) (bkC k0 5 rfl) (bkC k0 6 rfl) (bkC k0 7 rfl) (bkC k0 8 rfl) (bkC k0 9 rfl) (bkC k0 10 rfl) (bkC k0 11 rfl) (bkC k0 12 rfl) (bkC k0 13 rfl))
  have B0 := Lib.hid b0
  clear k0 b0 h
  go_enter Tryz.func14, Tryz.ntmps14
  go_wp2_with fail
  refine (HC.out).mono ?_
  rintro e w1 ⟨rfl, hb1⟩
  have B1 := Lib.hid (B0.out.trans (hb1.mono z0))
  go_wp2
  go_ret
  exact ⟨rfl, B1.out⟩
end Go.Proofs.YtlfkdhakibagaaaGreat
