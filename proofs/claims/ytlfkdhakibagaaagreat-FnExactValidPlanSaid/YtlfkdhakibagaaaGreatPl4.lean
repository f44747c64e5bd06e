/- Contracts: rows of bands, protected places and requests are valid, for the program and for the reference. Conditions: bounded lengths. -/
import Derived.Test.YtlfkdhakibagaaaGreatPl2
import Derived.Test.YtlfkdhakibagaaaGreatHRequest
import Derived.Test.YtlfkdhakibagaaaGreatNetC
namespace Go.Proofs.YtlfkdhakibagaaaGreat
open Go.RowKit
set_option linter.unusedVariables false
set_option linter.unusedSimpArgs false

def gBand (l : List DBand) (i : Nat) : DBand := l.getD i ⟨⟨#[]⟩, 0, 0, 0, 0⟩
theorem gBand_eq {l : List DBand} {i : Nat} (h : i < l.length) : l[i] = gBand l i := by simp [gBand, h]
def ltBand (p x : DBand) : Bool := ltS p.name x.name
def gProtected (l : List DProtected) (i : Nat) : DProtected := l.getD i ⟨⟨#[]⟩, ⟨⟨0, 0⟩, 0⟩, 0, 0, 0⟩
theorem gProtected_eq {l : List DProtected} {i : Nat} (h : i < l.length) : l[i] = gProtected l i := by simp [gProtected, h]
def ltProtected (p x : DProtected) : Bool := ltS p.name x.name
def gRequest (l : List DRequest) (i : Nat) : DRequest := l.getD i ⟨⟨#[]⟩, ⟨#[]⟩, ⟨#[]⟩, 0, 0, 0, 0, 0⟩
theorem gRequest_eq {l : List DRequest} {i : Nat} (h : i < l.length) : l[i] = gRequest l i := by simp [gRequest, h]
def ltRequest (p x : DRequest) : Bool := ltS p.id x.id
def gLicence (l : List DLicence) (i : Nat) : DLicence := l.getD i ⟨⟨#[]⟩, ⟨#[]⟩, 0, 0, ⟨0, 0, 0, 0⟩, 0, 0, 0⟩
theorem gLicence_eq {l : List DLicence} {i : Nat} (h : i < l.length) : l[i] = gLicence l i := by simp [gLicence, h]
def ltLicence (p x : DLicence) : Bool := ltS p.id x.id
def bandsB (l : List DBand) : Bool := decide (l.length ≤ 8) && rowOk bandB ltBand l
def protsB (l : List DProtected) : Bool := decide (l.length ≤ 12) && rowOk protB ltProtected l
def reqsB (l : List DRequest) : Bool := decide (l.length ≤ 24) && rowOk reqB ltRequest l
set_option maxHeartbeats 8000000 in
set_option maxRecDepth 100000 in
theorem iValidBands_any (l : List DBand) (v : Value) (B : Nat) (w : World) (h : Rd B w (DBand.sT l) v) (hB : B ≤ w.heap.size) (hk : ∀ x ∈ l, x.ok) (hn : l.length ≤ 1099511627776) :
    Calls Tryz.prog 56 #[v] w fun e w' => e = .returned (.bool (bandsB l)) ∧ Below w.heap.size w w' := by
  obtain ⟨a, c, rfl, hnc, hcm, hcells⟩ := DBand.rd h
  clear h
  have HCL := Lib.hid hcells
  clear hcells
  by_cases hlim : l.length ≤ 8
  case neg =>
    have hx : 8 < l.length := by omega
    have hx2 : (8 : Int) < (l.length : Int) := by omega
    have HE : Hid (bandsB l = false) := by show _ = _; unfold bandsB; rw [decide_eq_false hlim]; simp
    go_enter Tryz.func56, Tryz.ntmps56
    go_wp2
    go_ret
    exact ⟨by rw [HE.out]; rfl, Below.refl _ _⟩
  have hli : (l.length : Int) ≤ 8 := by omega
  have HE : Hid (bandsB l = rowOk bandB ltBand l) := by show _ = _; unfold bandsB; rw [decide_eq_true hlim]; simp
  go_enter Tryz.func56, Tryz.ntmps56
  go_wp2
  go_loopw [10] (fun i wr => ∃ (k : Nat), k ≤ l.length ∧ i = .int .i64 k ∧ (∀ j, j < k → upOk bandB ltBand l j = true) ∧ Below w.heap.size w wr) (fun i wr => l.length - (intOf i).toNat)
  case atStart => exact ⟨0, Nat.zero_le _, rfl, fun j hj => absurd hj (by omega), Below.refl _ _⟩
  case round =>
    obtain ⟨k, hk1, rfl, hno, hb⟩ := hrel
    have HN := Lib.hid hno
    have HB := Lib.hid hb
    have zb := hb.size
    clear hno hb
    by_cases hlt : k < l.length
    · obtain ⟨b, off, ea, hbl, hat⟩ := HCL.out (by omega)
      subst ea
      obtain ⟨s0, s1, s2, s3, s4⟩ := hat k hlt
      have hok := hk _ (List.getElem_mem hlt)
      have ks0 := hok.name
      have hbw : b < w.heap.size := by omega
      rw [← bat HB.out b _ hbw] at s0 s1 s2 s3 s4
      have sp : 0 < k → wr.cell? ⟨b, off + (k - 1) * 5, none⟩ = some (.string (gBand l (k - 1)).name) := fun h => by
        have t := (hat (k - 1) (by omega)).1
        rw [← bat HB.out b _ hbw, gBand_eq (show k - 1 < l.length by omega)] at t
        exact t
      have SP := Lib.hid sp
      clear sp hat
      have HUN : Hid (bandB (gBand l k) = false → rowOk bandB ltBand l = false) := fun h => rowOk_false hlt (upOk_not hlt (by rw [gBand_eq hlt]; exact h))
      have HUZ : Hid (k = 0 → bandB (gBand l k) = true → upOk bandB ltBand l k = true) := fun e h => by subst e; rw [upOk_zero hlt, gBand_eq hlt]; exact h
      have HUP : Hid (0 < k → upOk bandB ltBand l k = (bandB (gBand l k) && ltBand (gBand l (k - 1)) (gBand l k))) := fun h => by rw [upOk_pos h hlt, gBand_eq hlt, gBand_eq (show k - 1 < l.length by omega)]
      rw [gBand_eq hlt] at s0 s1 s2 s3 s4 ks0
      generalize hA : gBand l k = A at *
      generalize hP : gBand l (k - 1) = P at *
      clear hA hP hok
      have i1 : (0 : Int) ≤ (k : Int) := by omega
      have i2 : (k : Int) < (l.length : Int) := by omega
      have yb : b < wr.heap.size := by omega
      have HV : Hid (∀ W : World, Calls Tryz.prog 116 #[.agg #[.string A.name, .int .i64 A.low, .int .i64 A.high, .int .i64 A.raster, .int .i64 A.duplex]] W fun e w' => e = .returned (.bool (bandB A)) ∧ Below W.heap.size W w') := fun W => validBand_any A ks0 W
      go_wp2
      have b1 : Below wr.heap.size wr (wr.alloc (.cells #[.string A.name, .int .i64 A.low, .int .i64 A.high, .int .i64 A.raster, .int .i64 A.duplex] 82)) := (Below.refl _ _).alloc (Nat.le_refl _) _
      have f0 : (wr.alloc (.cells #[.string A.name, .int .i64 A.low, .int .i64 A.high, .int .i64 A.raster, .int .i64 A.duplex] 82)).cell? ⟨wr.heap.size, 0, none⟩ = some (.string A.name) := by simp [go_sem]
      have f1 : (wr.alloc (.cells #[.string A.name, .int .i64 A.low, .int .i64 A.high, .int .i64 A.raster, .int .i64 A.duplex] 82)).cell? ⟨wr.heap.size, 1, none⟩ = some (.int .i64 A.low) := by simp [go_sem]
      have f2 : (wr.alloc (.cells #[.string A.name, .int .i64 A.low, .int .i64 A.high, .int .i64 A.raster, .int .i64 A.duplex] 82)).cell? ⟨wr.heap.size, 2, none⟩ = some (.int .i64 A.high) := by simp [go_sem]
      have f3 : (wr.alloc (.cells #[.string A.name, .int .i64 A.low, .int .i64 A.high, .int .i64 A.raster, .int .i64 A.duplex] 82)).cell? ⟨wr.heap.size, 3, none⟩ = some (.int .i64 A.raster) := by simp [go_sem]
      have f4 : (wr.alloc (.cells #[.string A.name, .int .i64 A.low, .int .i64 A.high, .int .i64 A.raster, .int .i64 A.duplex] 82)).cell? ⟨wr.heap.size, 4, none⟩ = some (.int .i64 A.duplex) := by simp [go_sem]
      have fz : wr.heap.size < (wr.alloc (.cells #[.string A.name, .int .i64 A.low, .int .i64 A.high, .int .i64 A.raster, .int .i64 A.duplex] 82)).heap.size := by simp
      generalize hW1 : (wr.alloc (.cells #[.string A.name, .int .i64 A.low, .int .i64 A.high, .int .i64 A.raster, .int .i64 A.duplex] 82)) = W1 at *
      have BH := Lib.hid (HB.out.trans (b1.mono (by omega)))
      have B1 := Lib.hid b1
      have zz := b1.size
      clear b1 hW1
      by_cases c1 : bandB A = true
      case neg =>
        replace c1 : bandB A = false := Bool.eq_false_iff.2 c1
        have HF : Hid (rowOk bandB ltBand l = false) := HUN.out c1
        have oX := overC (w0 := W1) fz
        have oB := overC (w0 := W1) (show b < W1.heap.size by omega)
        rw [c1] at HV
        refine wp_region_over W1.heap.size W1 (Below.refl _ _) (by kernel_rfl) (by kernel_rfl) ?_
        repeat (go_big_quiet_step ((go_at_call 116; exact over_left (Nat.le_refl _) (HV.out _))))
        refine wpQuiet_nil ?_
        rintro _ ⟨X, rfl⟩
        have hX := over_below W1.heap.size W1 X
        clear oB oX
        generalize over W1.heap.size W1 X = w2 at *
        have BF := Lib.hid (BH.out.trans (hX.mono (by omega)))
        clear hX
        have HQ : Hid (bandsB l = false) := by show _ = _; rw [HE.out]; exact HF.out
        go_wp2
        go_ret
        exact ⟨by rw [HQ.out]; rfl, BF.out⟩
      have HM : Hid (bandB A = true) := c1
      by_cases c3 : 0 < k
      case neg =>
        have i8 : decide (0 < k) = false := by simpa using c3
        have HF : Hid (upOk bandB ltBand l k = true) := HUZ.out (by omega) HM.out
        have oX := overC (w0 := W1) fz
        have oB := overC (w0 := W1) (show b < W1.heap.size by omega)
        rw [c1] at HV
        refine wp_region_over W1.heap.size W1 (Below.refl _ _) (by kernel_rfl) (by kernel_rfl) ?_
        repeat (go_big_quiet_step ((go_at_call 116; exact over_left (Nat.le_refl _) (HV.out _))))
        refine wpQuiet_nil ?_
        rintro _ ⟨X, rfl⟩
        have hX := over_below W1.heap.size W1 X
        clear oB oX
        generalize over W1.heap.size W1 X = w2 at *
        have BF := Lib.hid (BH.out.trans (hX.mono (by omega)))
        clear hX
        go_wp2
        go_roundw
        case rel => exact ⟨k + 1, by omega, by go_num, upTo_succ HN.out (HF.out), BF.out⟩
        case measure => simp [intOf]; omega
      have i3 : IntKind.i64.wrap ((k : Int) - 1) = (k : Int) - 1 := IntWalk.i64_in _ (by omega)
      have i4 : (0 : Int) ≤ (k : Int) - 1 := by omega
      have i6 : (k : Int) - 1 < (l.length : Int) := by omega
      have i7 : (1 : Int) ≤ (k : Int) := by omega
      have i8 : decide (0 < k) = true := by simpa using c3
      have i5 : ((k : Int) - 1).toNat = k - 1 := by omega
      by_cases c4 : ltS P.name A.name = true
      case neg =>
        replace c4 : ltS P.name A.name = false := Bool.eq_false_iff.2 c4
        have le4 := geS_of_not c4
        have HF : Hid (rowOk bandB ltBand l = false) := rowOk_false hlt (by rw [HUP.out c3, show ltBand P A = false from c4]; simp)
        have fp := (bat B1.out b _ yb).trans (SP.out c3)
        have oX := overC (w0 := W1) fz
        have oB := overC (w0 := W1) (show b < W1.heap.size by omega)
        rw [c1] at HV
        refine wp_region_over W1.heap.size W1 (Below.refl _ _) (by kernel_rfl) (by kernel_rfl) ?_
        repeat (go_big_quiet_step ((go_at_call 116; exact over_left (Nat.le_refl _) (HV.out _))))
        refine wpQuiet_nil ?_
        rintro _ ⟨X, rfl⟩
        have hX := over_below W1.heap.size W1 X
        clear oB oX
        generalize over W1.heap.size W1 X = w2 at *
        have BF := Lib.hid (BH.out.trans (hX.mono (by omega)))
        clear hX
        clear i3 i5
        have HQ : Hid (bandsB l = false) := by show _ = _; rw [HE.out]; exact HF.out
        go_wp2
        go_ret
        exact ⟨by rw [HQ.out]; rfl, BF.out⟩
      have le4 := geS_of_lt c4
      have HF : Hid (upOk bandB ltBand l k = true) := by show _ = _; rw [HUP.out c3, Bool.and_eq_true]; exact ⟨HM.out, c4⟩
      have fp := (bat B1.out b _ yb).trans (SP.out c3)
      have oX := overC (w0 := W1) fz
      have oB := overC (w0 := W1) (show b < W1.heap.size by omega)
      rw [c1] at HV
      refine wp_region_over W1.heap.size W1 (Below.refl _ _) (by kernel_rfl) (by kernel_rfl) ?_
      repeat (go_big_quiet_step ((go_at_call 116; exact over_left (Nat.le_refl _) (HV.out _))))
      refine wpQuiet_nil ?_
      rintro _ ⟨X, rfl⟩
      have hX := over_below W1.heap.size W1 X
      clear oB oX
      generalize over W1.heap.size W1 X = w2 at *
      have BF := Lib.hid (BH.out.trans (hX.mono (by omega)))
      clear hX
      clear i3 i5
      go_wp2
      go_roundw
      case rel => exact ⟨k + 1, by omega, by go_num, upTo_succ HN.out (HF.out), BF.out⟩
      case measure => simp [intOf]; omega
    · obtain rfl : k = l.length := by omega
      have HR : Hid (rowOk bandB ltBand l = true) := rowOk_true HN.out
      have HQ : Hid (bandsB l = true) := by show _ = _; rw [HE.out]; exact HR.out
      go_wp2
      go_ret
      exact ⟨by rw [HQ.out]; rfl, HB.out⟩
set_option maxHeartbeats 8000000 in
set_option maxRecDepth 100000 in
theorem sl15List_any (l : List DBand) (v : Value) (B : Nat) (w : World) (h : Rd B w (DBand.sT l) v) (hB : B ≤ w.heap.size) (hk : ∀ x ∈ l, x.ok) (hn : l.length ≤ 1099511627776) :
    Calls Tryz.prog 97 #[v] w fun e w' => e = .returned (.bool (bandsB l)) ∧ Below w.heap.size w w' := by
  obtain ⟨a, c, rfl, hnc, hcm, hcells⟩ := DBand.rd h
  clear h
  have HCL := Lib.hid hcells
  clear hcells
  have hli : (l.length : Int) ≤ 1099511627776 := by omega
  go_enter Tryz.func97, Tryz.ntmps97
  go_wp2
  go_loopw [3] (fun i wr => ∃ (k : Nat), k ≤ l.length ∧ i = .int .i64 k ∧ (∀ j, j < k → upOk bandB ltBand l j = true) ∧ Below w.heap.size w wr) (fun i wr => l.length - (intOf i).toNat)
  case atStart => exact ⟨0, Nat.zero_le _, rfl, fun j hj => absurd hj (by omega), Below.refl _ _⟩
  case round =>
    obtain ⟨k, hk1, rfl, hno, hb⟩ := hrel
    have HN := Lib.hid hno
    have HB := Lib.hid hb
    have zb := hb.size
    clear hno hb
    by_cases hlt : k < l.length
    · obtain ⟨b, off, ea, hbl, hat⟩ := HCL.out (by omega)
      subst ea
      obtain ⟨s0, s1, s2, s3, s4⟩ := hat k hlt
      have hok := hk _ (List.getElem_mem hlt)
      have ks0 := hok.name
      have hbw : b < w.heap.size := by omega
      rw [← bat HB.out b _ hbw] at s0 s1 s2 s3 s4
      have sp : 0 < k → wr.cell? ⟨b, off + (k - 1) * 5, none⟩ = some (.string (gBand l (k - 1)).name) := fun h => by
        have t := (hat (k - 1) (by omega)).1
        rw [← bat HB.out b _ hbw, gBand_eq (show k - 1 < l.length by omega)] at t
        exact t
      have SP := Lib.hid sp
      clear sp hat
      have HUN : Hid (bandB (gBand l k) = false → rowOk bandB ltBand l = false) := fun h => rowOk_false hlt (upOk_not hlt (by rw [gBand_eq hlt]; exact h))
      have HUZ : Hid (k = 0 → bandB (gBand l k) = true → upOk bandB ltBand l k = true) := fun e h => by subst e; rw [upOk_zero hlt, gBand_eq hlt]; exact h
      have HUP : Hid (0 < k → upOk bandB ltBand l k = (bandB (gBand l k) && ltBand (gBand l (k - 1)) (gBand l k))) := fun h => by rw [upOk_pos h hlt, gBand_eq hlt, gBand_eq (show k - 1 < l.length by omega)]
      rw [gBand_eq hlt] at s0 s1 s2 s3 s4 ks0
      generalize hA : gBand l k = A at *
      generalize hP : gBand l (k - 1) = P at *
      clear hA hP hok
      have i1 : (0 : Int) ≤ (k : Int) := by omega
      have i2 : (k : Int) < (l.length : Int) := by omega
      have yb : b < wr.heap.size := by omega
      have HV : Hid (∀ W : World, Below wr.heap.size wr W → Calls Tryz.prog 155 #[.pointer (some ⟨b, off + k * 5, none⟩)] W fun e w' => e = .returned (.bool (bandB A)) ∧ Below W.heap.size W w') := fun W hW => by have t := l15Ok_any A b (off + k * 5) W ((bat hW b _ yb).trans s0) ((bat hW b _ yb).trans s1) ((bat hW b _ yb).trans s2) ((bat hW b _ yb).trans s3) ((bat hW b _ yb).trans s4) ks0; rw [bandS_eq] at t; exact t
      by_cases c1 : bandB A = true
      case neg =>
        replace c1 : bandB A = false := Bool.eq_false_iff.2 c1
        have HF : Hid (rowOk bandB ltBand l = false) := HUN.out c1
        have oB := overC (w0 := wr) (show b < wr.heap.size by omega)
        rw [c1] at HV
        go_wp2
        refine wp_region_over wr.heap.size wr (Below.refl _ _) (by kernel_rfl) (by kernel_rfl) ?_
        repeat (go_big_quiet_step ((go_at_call 155; exact over_left (Nat.le_refl _) (HV.out _ (over_below _ _ _)))))
        refine wpQuiet_nil ?_
        rintro _ ⟨X, rfl⟩
        have hX := over_below wr.heap.size wr X
        clear oB
        generalize over wr.heap.size wr X = w2 at *
        have BF := Lib.hid (HB.out.trans (hX.mono (by omega)))
        clear hX
        have HQ : Hid (bandsB l = false) := by show _ = _; unfold bandsB; rw [HF.out]; simp
        go_wp2
        go_ret
        exact ⟨by rw [HQ.out]; rfl, BF.out⟩
      have HM : Hid (bandB A = true) := c1
      by_cases c3 : 0 < k
      case neg =>
        have i8 : decide (0 < k) = false := by simpa using c3
        have HF : Hid (upOk bandB ltBand l k = true) := HUZ.out (by omega) HM.out
        have oB := overC (w0 := wr) (show b < wr.heap.size by omega)
        rw [c1] at HV
        go_wp2
        refine wp_region_over wr.heap.size wr (Below.refl _ _) (by kernel_rfl) (by kernel_rfl) ?_
        repeat (go_big_quiet_step ((go_at_call 155; exact over_left (Nat.le_refl _) (HV.out _ (over_below _ _ _)))))
        refine wpQuiet_nil ?_
        rintro _ ⟨X, rfl⟩
        have hX := over_below wr.heap.size wr X
        clear oB
        generalize over wr.heap.size wr X = w2 at *
        have BF := Lib.hid (HB.out.trans (hX.mono (by omega)))
        clear hX
        go_wp2
        go_roundw
        case rel => exact ⟨k + 1, by omega, by go_num, upTo_succ HN.out (HF.out), BF.out⟩
        case measure => simp [intOf]; omega
      have i3 : IntKind.i64.wrap ((k : Int) - 1) = (k : Int) - 1 := IntWalk.i64_in _ (by omega)
      have i4 : (0 : Int) ≤ (k : Int) - 1 := by omega
      have i6 : (k : Int) - 1 < (l.length : Int) := by omega
      have i7 : (1 : Int) ≤ (k : Int) := by omega
      have i8 : decide (0 < k) = true := by simpa using c3
      have i5 : ((k : Int) - 1).toNat = k - 1 := by omega
      by_cases c4 : ltS P.name A.name = true
      case neg =>
        replace c4 : ltS P.name A.name = false := Bool.eq_false_iff.2 c4
        have le4 : Op.bytesLess P.name.toList A.name.toList = false := c4
        have HF : Hid (rowOk bandB ltBand l = false) := rowOk_false hlt (by rw [HUP.out c3, show ltBand P A = false from c4]; simp)
        have fp := SP.out c3
        have oB := overC (w0 := wr) (show b < wr.heap.size by omega)
        rw [c1] at HV
        go_wp2
        refine wp_region_over wr.heap.size wr (Below.refl _ _) (by kernel_rfl) (by kernel_rfl) ?_
        repeat (go_big_quiet_step ((go_at_call 155; exact over_left (Nat.le_refl _) (HV.out _ (over_below _ _ _)))))
        refine wpQuiet_nil ?_
        rintro _ ⟨X, rfl⟩
        have hX := over_below wr.heap.size wr X
        clear oB
        generalize over wr.heap.size wr X = w2 at *
        have BF := Lib.hid (HB.out.trans (hX.mono (by omega)))
        clear hX
        clear i3 i5
        have HQ : Hid (bandsB l = false) := by show _ = _; unfold bandsB; rw [HF.out]; simp
        go_wp2
        go_ret
        exact ⟨by rw [HQ.out]; rfl, BF.out⟩
      have le4 : Op.bytesLess P.name.toList A.name.toList = true := c4
      have HF : Hid (upOk bandB ltBand l k = true) := by show _ = _; rw [HUP.out c3, Bool.and_eq_true]; exact ⟨HM.out, c4⟩
      have fp := SP.out c3
      have oB := overC (w0 := wr) (show b < wr.heap.size by omega)
      rw [c1] at HV
      go_wp2
      refine wp_region_over wr.heap.size wr (Below.refl _ _) (by kernel_rfl) (by kernel_rfl) ?_
      repeat (go_big_quiet_step ((go_at_call 155; exact over_left (Nat.le_refl _) (HV.out _ (over_below _ _ _)))))
      refine wpQuiet_nil ?_
      rintro _ ⟨X, rfl⟩
      have hX := over_below wr.heap.size wr X
      clear oB
      generalize over wr.heap.size wr X = w2 at *
      have BF := Lib.hid (HB.out.trans (hX.mono (by omega)))
      clear hX
      clear i3 i5
      go_wp2
      go_roundw
      case rel => exact ⟨k + 1, by omega, by go_num, upTo_succ HN.out (HF.out), BF.out⟩
      case measure => simp [intOf]; omega
    · obtain rfl : k = l.length := by omega
      have HR : Hid (rowOk bandB ltBand l = true) := rowOk_true HN.out
      by_cases hlim : l.length ≤ 8
      · have hlj : (l.length : Int) ≤ 8 := by omega
        have HQ : Hid (bandsB l = true) := by show _ = _; unfold bandsB; rw [HR.out, decide_eq_true hlim]; rfl
        go_wp2
        go_ret
        exact ⟨by rw [HQ.out]; rfl, HB.out⟩
      · have hlj : 8 < l.length := by omega
        have hlk : (8 : Int) < (l.length : Int) := by omega
        have HQ : Hid (bandsB l = false) := by show _ = _; unfold bandsB; rw [HR.out, decide_eq_false hlim]; rfl
        have HZ : Hid (decide ((l.length : Int) ≤ 8) = false) := decide_eq_false (by omega)
        go_wp2
        go_ret
        exact ⟨by rw [HQ.out, ← HZ.out]; rfl, HB.out⟩
set_option maxHeartbeats 8000000 in
set_option maxRecDepth 100000 in
theorem iValidProtected_any (l : List DProtected) (v : Value) (B : Nat) (w : World) (h : Rd B w (DProtected.sT l) v) (hB : B ≤ w.heap.size) (hk : ∀ x ∈ l, x.ok) (hn : l.length ≤ 1099511627776) :
    Calls Tryz.prog 58 #[v] w fun e w' => e = .returned (.bool (protsB l)) ∧ Below w.heap.size w w' := by
  obtain ⟨a, c, rfl, hnc, hcm, hcells⟩ := DProtected.rd h
  clear h
  have HCL := Lib.hid hcells
  clear hcells
  by_cases hlim : l.length ≤ 12
  case neg =>
    have hx : 12 < l.length := by omega
    have hx2 : (12 : Int) < (l.length : Int) := by omega
    have HE : Hid (protsB l = false) := by show _ = _; unfold protsB; rw [decide_eq_false hlim]; simp
    go_enter Tryz.func58, Tryz.ntmps58
    go_wp2
    go_ret
    exact ⟨by rw [HE.out]; rfl, Below.refl _ _⟩
  have hli : (l.length : Int) ≤ 12 := by omega
  have HE : Hid (protsB l = rowOk protB ltProtected l) := by show _ = _; unfold protsB; rw [decide_eq_true hlim]; simp
  go_enter Tryz.func58, Tryz.ntmps58
  go_wp2
  go_loopw [10] (fun i wr => ∃ (k : Nat), k ≤ l.length ∧ i = .int .i64 k ∧ (∀ j, j < k → upOk protB ltProtected l j = true) ∧ Below w.heap.size w wr) (fun i wr => l.length - (intOf i).toNat)
  case atStart => exact ⟨0, Nat.zero_le _, rfl, fun j hj => absurd hj (by omega), Below.refl _ _⟩
  case round =>
    obtain ⟨k, hk1, rfl, hno, hb⟩ := hrel
    have HN := Lib.hid hno
    have HB := Lib.hid hb
    have zb := hb.size
    clear hno hb
    by_cases hlt : k < l.length
    · obtain ⟨b, off, ea, hbl, hat⟩ := HCL.out (by omega)
      subst ea
      obtain ⟨s0, s1, s2, s3, s4, s5, s6⟩ := hat k hlt
      have hok := hk _ (List.getElem_mem hlt)
      have ks0 := hok.name
      have hbw : b < w.heap.size := by omega
      rw [← bat HB.out b _ hbw] at s0 s1 s2 s3 s4 s5 s6
      have sp : 0 < k → wr.cell? ⟨b, off + (k - 1) * 7, none⟩ = some (.string (gProtected l (k - 1)).name) := fun h => by
        have t := (hat (k - 1) (by omega)).1
        rw [← bat HB.out b _ hbw, gProtected_eq (show k - 1 < l.length by omega)] at t
        exact t
      have SP := Lib.hid sp
      clear sp hat
      have HUN : Hid (protB (gProtected l k) = false → rowOk protB ltProtected l = false) := fun h => rowOk_false hlt (upOk_not hlt (by rw [gProtected_eq hlt]; exact h))
      have HUZ : Hid (k = 0 → protB (gProtected l k) = true → upOk protB ltProtected l k = true) := fun e h => by subst e; rw [upOk_zero hlt, gProtected_eq hlt]; exact h
      have HUP : Hid (0 < k → upOk protB ltProtected l k = (protB (gProtected l k) && ltProtected (gProtected l (k - 1)) (gProtected l k))) := fun h => by rw [upOk_pos h hlt, gProtected_eq hlt, gProtected_eq (show k - 1 < l.length by omega)]
      rw [gProtected_eq hlt] at s0 s1 s2 s3 s4 s5 s6 ks0
      generalize hA : gProtected l k = A at *
      generalize hP : gProtected l (k - 1) = P at *
      clear hA hP hok
      have i1 : (0 : Int) ≤ (k : Int) := by omega
      have i2 : (k : Int) < (l.length : Int) := by omega
      have yb : b < wr.heap.size := by omega
      have HV : Hid (∀ W : World, Calls Tryz.prog 121 #[.agg #[.string A.name, .int .i64 A.at_.place.x, .int .i64 A.at_.place.y, .int .i64 A.at_.above, .int .i64 A.low, .int .i64 A.high, .int .i64 A.limit]] W fun e w' => e = .returned (.bool (protB A)) ∧ Below W.heap.size W w') := fun W => protectedValid_any A ks0 W
      go_wp2
      have b1 : Below wr.heap.size wr (wr.alloc (.cells #[.string A.name, .int .i64 A.at_.place.x, .int .i64 A.at_.place.y, .int .i64 A.at_.above, .int .i64 A.low, .int .i64 A.high, .int .i64 A.limit] 88)) := (Below.refl _ _).alloc (Nat.le_refl _) _
      have f0 : (wr.alloc (.cells #[.string A.name, .int .i64 A.at_.place.x, .int .i64 A.at_.place.y, .int .i64 A.at_.above, .int .i64 A.low, .int .i64 A.high, .int .i64 A.limit] 88)).cell? ⟨wr.heap.size, 0, none⟩ = some (.string A.name) := by simp [go_sem]
      have f1 : (wr.alloc (.cells #[.string A.name, .int .i64 A.at_.place.x, .int .i64 A.at_.place.y, .int .i64 A.at_.above, .int .i64 A.low, .int .i64 A.high, .int .i64 A.limit] 88)).cell? ⟨wr.heap.size, 1, none⟩ = some (.int .i64 A.at_.place.x) := by simp [go_sem]
      have f2 : (wr.alloc (.cells #[.string A.name, .int .i64 A.at_.place.x, .int .i64 A.at_.place.y, .int .i64 A.at_.above, .int .i64 A.low, .int .i64 A.high, .int .i64 A.limit] 88)).cell? ⟨wr.heap.size, 2, none⟩ = some (.int .i64 A.at_.place.y) := by simp [go_sem]
      have f3 : (wr.alloc (.cells #[.string A.name, .int .i64 A.at_.place.x, .int .i64 A.at_.place.y, .int .i64 A.at_.above, .int .i64 A.low, .int .i64 A.high, .int .i64 A.limit] 88)).cell? ⟨wr.heap.size, 3, none⟩ = some (.int .i64 A.at_.above) := by simp [go_sem]
      have f4 : (wr.alloc (.cells #[.string A.name, .int .i64 A.at_.place.x, .int .i64 A.at_.place.y, .int .i64 A.at_.above, .int .i64 A.low, .int .i64 A.high, .int .i64 A.limit] 88)).cell? ⟨wr.heap.size, 4, none⟩ = some (.int .i64 A.low) := by simp [go_sem]
      have f5 : (wr.alloc (.cells #[.string A.name, .int .i64 A.at_.place.x, .int .i64 A.at_.place.y, .int .i64 A.at_.above, .int .i64 A.low, .int .i64 A.high, .int .i64 A.limit] 88)).cell? ⟨wr.heap.size, 5, none⟩ = some (.int .i64 A.high) := by simp [go_sem]
      have f6 : (wr.alloc (.cells #[.string A.name, .int .i64 A.at_.place.x, .int .i64 A.at_.place.y, .int .i64 A.at_.above, .int .i64 A.low, .int .i64 A.high, .int .i64 A.limit] 88)).cell? ⟨wr.heap.size, 6, none⟩ = some (.int .i64 A.limit) := by simp [go_sem]
      have fz : wr.heap.size < (wr.alloc (.cells #[.string A.name, .int .i64 A.at_.place.x, .int .i64 A.at_.place.y, .int .i64 A.at_.above, .int .i64 A.low, .int .i64 A.high, .int .i64 A.limit] 88)).heap.size := by simp
      generalize hW1 : (wr.alloc (.cells #[.string A.name, .int .i64 A.at_.place.x, .int .i64 A.at_.place.y, .int .i64 A.at_.above, .int .i64 A.low, .int .i64 A.high, .int .i64 A.limit] 88)) = W1 at *
      have BH := Lib.hid (HB.out.trans (b1.mono (by omega)))
      have B1 := Lib.hid b1
      have zz := b1.size
      clear b1 hW1
      by_cases c1 : protB A = true
      case neg =>
        replace c1 : protB A = false := Bool.eq_false_iff.2 c1
        have HF : Hid (rowOk protB ltProtected l = false) := HUN.out c1
        have oX := overC (w0 := W1) fz
        have oB := overC (w0 := W1) (show b < W1.heap.size by omega)
        rw [c1] at HV
        refine wp_region_over W1.heap.size W1 (Below.refl _ _) (by kernel_rfl) (by kernel_rfl) ?_
        repeat (go_big_quiet_step ((go_at_call 121; exact over_left (Nat.le_refl _) (HV.out _))))
        refine wpQuiet_nil ?_
        rintro _ ⟨X, rfl⟩
        have hX := over_below W1.heap.size W1 X
        clear oB oX
        generalize over W1.heap.size W1 X = w2 at *
        have BF := Lib.hid (BH.out.trans (hX.mono (by omega)))
        clear hX
        have HQ : Hid (protsB l = false) := by show _ = _; rw [HE.out]; exact HF.out
        go_wp2
        go_ret
        exact ⟨by rw [HQ.out]; rfl, BF.out⟩
      have HM : Hid (protB A = true) := c1
      by_cases c3 : 0 < k
      case neg =>
        have i8 : decide (0 < k) = false := by simpa using c3
        have HF : Hid (upOk protB ltProtected l k = true) := HUZ.out (by omega) HM.out
        have oX := overC (w0 := W1) fz
        have oB := overC (w0 := W1) (show b < W1.heap.size by omega)
        rw [c1] at HV
        refine wp_region_over W1.heap.size W1 (Below.refl _ _) (by kernel_rfl) (by kernel_rfl) ?_
        repeat (go_big_quiet_step ((go_at_call 121; exact over_left (Nat.le_refl _) (HV.out _))))
        refine wpQuiet_nil ?_
        rintro _ ⟨X, rfl⟩
        have hX := over_below W1.heap.size W1 X
        clear oB oX
        generalize over W1.heap.size W1 X = w2 at *
        have BF := Lib.hid (BH.out.trans (hX.mono (by omega)))
        clear hX
        go_wp2
        go_roundw
        case rel => exact ⟨k + 1, by omega, by go_num, upTo_succ HN.out (HF.out), BF.out⟩
        case measure => simp [intOf]; omega
      have i3 : IntKind.i64.wrap ((k : Int) - 1) = (k : Int) - 1 := IntWalk.i64_in _ (by omega)
      have i4 : (0 : Int) ≤ (k : Int) - 1 := by omega
      have i6 : (k : Int) - 1 < (l.length : Int) := by omega
      have i7 : (1 : Int) ≤ (k : Int) := by omega
      have i8 : decide (0 < k) = true := by simpa using c3
      have i5 : ((k : Int) - 1).toNat = k - 1 := by omega
      by_cases c4 : ltS P.name A.name = true
      case neg =>
        replace c4 : ltS P.name A.name = false := Bool.eq_false_iff.2 c4
        have le4 := geS_of_not c4
        have HF : Hid (rowOk protB ltProtected l = false) := rowOk_false hlt (by rw [HUP.out c3, show ltProtected P A = false from c4]; simp)
        have fp := (bat B1.out b _ yb).trans (SP.out c3)
        have oX := overC (w0 := W1) fz
        have oB := overC (w0 := W1) (show b < W1.heap.size by omega)
        rw [c1] at HV
        refine wp_region_over W1.heap.size W1 (Below.refl _ _) (by kernel_rfl) (by kernel_rfl) ?_
        repeat (go_big_quiet_step ((go_at_call 121; exact over_left (Nat.le_refl _) (HV.out _))))
        refine wpQuiet_nil ?_
        rintro _ ⟨X, rfl⟩
        have hX := over_below W1.heap.size W1 X
        clear oB oX
        generalize over W1.heap.size W1 X = w2 at *
        have BF := Lib.hid (BH.out.trans (hX.mono (by omega)))
        clear hX
        clear i3 i5
        have HQ : Hid (protsB l = false) := by show _ = _; rw [HE.out]; exact HF.out
        go_wp2
        go_ret
        exact ⟨by rw [HQ.out]; rfl, BF.out⟩
      have le4 := geS_of_lt c4
      have HF : Hid (upOk protB ltProtected l k = true) := by show _ = _; rw [HUP.out c3, Bool.and_eq_true]; exact ⟨HM.out, c4⟩
      have fp := (bat B1.out b _ yb).trans (SP.out c3)
      have oX := overC (w0 := W1) fz
      have oB := overC (w0 := W1) (show b < W1.heap.size by omega)
      rw [c1] at HV
      refine wp_region_over W1.heap.size W1 (Below.refl _ _) (by kernel_rfl) (by kernel_rfl) ?_
      repeat (go_big_quiet_step ((go_at_call 121; exact over_left (Nat.le_refl _) (HV.out _))))
      refine wpQuiet_nil ?_
      rintro _ ⟨X, rfl⟩
      have hX := over_below W1.heap.size W1 X
      clear oB oX
      generalize over W1.heap.size W1 X = w2 at *
      have BF := Lib.hid (BH.out.trans (hX.mono (by omega)))
      clear hX
      clear i3 i5
      go_wp2
      go_roundw
      case rel => exact ⟨k + 1, by omega, by go_num, upTo_succ HN.out (HF.out), BF.out⟩
      case measure => simp [intOf]; omega
    · obtain rfl : k = l.length := by omega
      have HR : Hid (rowOk protB ltProtected l = true) := rowOk_true HN.out
      have HQ : Hid (protsB l = true) := by show _ = _; rw [HE.out]; exact HR.out
      go_wp2
      go_ret
      exact ⟨by rw [HQ.out]; rfl, HB.out⟩
set_option maxHeartbeats 8000000 in
set_option maxRecDepth 100000 in
theorem sl27Places_any (l : List DProtected) (v : Value) (B : Nat) (w : World) (h : Rd B w (DProtected.sT l) v) (hB : B ≤ w.heap.size) (hk : ∀ x ∈ l, x.ok) (hn : l.length ≤ 1099511627776) :
    Calls Tryz.prog 99 #[v] w fun e w' => e = .returned (.bool (protsB l)) ∧ Below w.heap.size w w' := by
  obtain ⟨a, c, rfl, hnc, hcm, hcells⟩ := DProtected.rd h
  clear h
  have HCL := Lib.hid hcells
  clear hcells
  have hli : (l.length : Int) ≤ 1099511627776 := by omega
  go_enter Tryz.func99, Tryz.ntmps99
  go_wp2
  go_loopw [3] (fun i wr => ∃ (k : Nat), k ≤ l.length ∧ i = .int .i64 k ∧ (∀ j, j < k → upOk protB ltProtected l j = true) ∧ Below w.heap.size w wr) (fun i wr => l.length - (intOf i).toNat)
  case atStart => exact ⟨0, Nat.zero_le _, rfl, fun j hj => absurd hj (by omega), Below.refl _ _⟩
  case round =>
    obtain ⟨k, hk1, rfl, hno, hb⟩ := hrel
    have HN := Lib.hid hno
    have HB := Lib.hid hb
    have zb := hb.size
    clear hno hb
    by_cases hlt : k < l.length
    · obtain ⟨b, off, ea, hbl, hat⟩ := HCL.out (by omega)
      subst ea
      obtain ⟨s0, s1, s2, s3, s4, s5, s6⟩ := hat k hlt
      have hok := hk _ (List.getElem_mem hlt)
      have ks0 := hok.name
      have hbw : b < w.heap.size := by omega
      rw [← bat HB.out b _ hbw] at s0 s1 s2 s3 s4 s5 s6
      have sp : 0 < k → wr.cell? ⟨b, off + (k - 1) * 7, none⟩ = some (.string (gProtected l (k - 1)).name) := fun h => by
        have t := (hat (k - 1) (by omega)).1
        rw [← bat HB.out b _ hbw, gProtected_eq (show k - 1 < l.length by omega)] at t
        exact t
      have SP := Lib.hid sp
      clear sp hat
      have HUN : Hid (protB (gProtected l k) = false → rowOk protB ltProtected l = false) := fun h => rowOk_false hlt (upOk_not hlt (by rw [gProtected_eq hlt]; exact h))
      have HUZ : Hid (k = 0 → protB (gProtected l k) = true → upOk protB ltProtected l k = true) := fun e h => by subst e; rw [upOk_zero hlt, gProtected_eq hlt]; exact h
      have HUP : Hid (0 < k → upOk protB ltProtected l k = (protB (gProtected l k) && ltProtected (gProtected l (k - 1)) (gProtected l k))) := fun h => by rw [upOk_pos h hlt, gProtected_eq hlt, gProtected_eq (show k - 1 < l.length by omega)]
      rw [gProtected_eq hlt] at s0 s1 s2 s3 s4 s5 s6 ks0
      generalize hA : gProtected l k = A at *
      generalize hP : gProtected l (k - 1) = P at *
      clear hA hP hok
      have i1 : (0 : Int) ≤ (k : Int) := by omega
      have i2 : (k : Int) < (l.length : Int) := by omega
      have yb : b < wr.heap.size := by omega
      have HV : Hid (∀ W : World, Below wr.heap.size wr W → Calls Tryz.prog 158 #[.pointer (some ⟨b, off + k * 7, none⟩)] W fun e w' => e = .returned (.bool (protB A)) ∧ Below W.heap.size W w') := fun W hW => l27Place_any A b (off + k * 7) W ((bat hW b _ yb).trans s0) ((bat hW b _ yb).trans s1) ((bat hW b _ yb).trans s2) ((bat hW b _ yb).trans s3) ((bat hW b _ yb).trans s4) ((bat hW b _ yb).trans s5) ((bat hW b _ yb).trans s6) ks0
      by_cases c1 : protB A = true
      case neg =>
        replace c1 : protB A = false := Bool.eq_false_iff.2 c1
        have HF : Hid (rowOk protB ltProtected l = false) := HUN.out c1
        have oB := overC (w0 := wr) (show b < wr.heap.size by omega)
        rw [c1] at HV
        go_wp2
        refine wp_region_over wr.heap.size wr (Below.refl _ _) (by kernel_rfl) (by kernel_rfl) ?_
        repeat (go_big_quiet_step ((go_at_call 158; exact over_left (Nat.le_refl _) (HV.out _ (over_below _ _ _)))))
        refine wpQuiet_nil ?_
        rintro _ ⟨X, rfl⟩
        have hX := over_below wr.heap.size wr X
        clear oB
        generalize over wr.heap.size wr X = w2 at *
        have BF := Lib.hid (HB.out.trans (hX.mono (by omega)))
        clear hX
        have HQ : Hid (protsB l = false) := by show _ = _; unfold protsB; rw [HF.out]; simp
        go_wp2
        go_ret
        exact ⟨by rw [HQ.out]; rfl, BF.out⟩
      have HM : Hid (protB A = true) := c1
      by_cases c3 : 0 < k
      case neg =>
        have i8 : decide (0 < k) = false := by simpa using c3
        have HF : Hid (upOk protB ltProtected l k = true) := HUZ.out (by omega) HM.out
        have oB := overC (w0 := wr) (show b < wr.heap.size by omega)
        rw [c1] at HV
        go_wp2
        refine wp_region_over wr.heap.size wr (Below.refl _ _) (by kernel_rfl) (by kernel_rfl) ?_
        repeat (go_big_quiet_step ((go_at_call 158; exact over_left (Nat.le_refl _) (HV.out _ (over_below _ _ _)))))
        refine wpQuiet_nil ?_
        rintro _ ⟨X, rfl⟩
        have hX := over_below wr.heap.size wr X
        clear oB
        generalize over wr.heap.size wr X = w2 at *
        have BF := Lib.hid (HB.out.trans (hX.mono (by omega)))
        clear hX
        go_wp2
        go_roundw
        case rel => exact ⟨k + 1, by omega, by go_num, upTo_succ HN.out (HF.out), BF.out⟩
        case measure => simp [intOf]; omega
      have i3 : IntKind.i64.wrap ((k : Int) - 1) = (k : Int) - 1 := IntWalk.i64_in _ (by omega)
      have i4 : (0 : Int) ≤ (k : Int) - 1 := by omega
      have i6 : (k : Int) - 1 < (l.length : Int) := by omega
      have i7 : (1 : Int) ≤ (k : Int) := by omega
      have i8 : decide (0 < k) = true := by simpa using c3
      have i5 : ((k : Int) - 1).toNat = k - 1 := by omega
      by_cases c4 : ltS P.name A.name = true
      case neg =>
        replace c4 : ltS P.name A.name = false := Bool.eq_false_iff.2 c4
        have le4 : Op.bytesLess P.name.toList A.name.toList = false := c4
        have HF : Hid (rowOk protB ltProtected l = false) := rowOk_false hlt (by rw [HUP.out c3, show ltProtected P A = false from c4]; simp)
        have fp := SP.out c3
        have oB := overC (w0 := wr) (show b < wr.heap.size by omega)
        rw [c1] at HV
        go_wp2
        refine wp_region_over wr.heap.size wr (Below.refl _ _) (by kernel_rfl) (by kernel_rfl) ?_
        repeat (go_big_quiet_step ((go_at_call 158; exact over_left (Nat.le_refl _) (HV.out _ (over_below _ _ _)))))
        refine wpQuiet_nil ?_
        rintro _ ⟨X, rfl⟩
        have hX := over_below wr.heap.size wr X
        clear oB
        generalize over wr.heap.size wr X = w2 at *
        have BF := Lib.hid (HB.out.trans (hX.mono (by omega)))
        clear hX
        clear i3 i5
        have HQ : Hid (protsB l = false) := by show _ = _; unfold protsB; rw [HF.out]; simp
        go_wp2
        go_ret
        exact ⟨by rw [HQ.out]; rfl, BF.out⟩
      have le4 : Op.bytesLess P.name.toList A.name.toList = true := c4
      have HF : Hid (upOk protB ltProtected l k = true) := by show _ = _; rw [HUP.out c3, Bool.and_eq_true]; exact ⟨HM.out, c4⟩
      have fp := SP.out c3
      have oB := overC (w0 := wr) (show b < wr.heap.size by omega)
      rw [c1] at HV
      go_wp2
      refine wp_region_over wr.heap.size wr (Below.refl _ _) (by kernel_rfl) (by kernel_rfl) ?_
      repeat (go_big_quiet_step ((go_at_call 158; exact over_left (Nat.le_refl _) (HV.out _ (over_below _ _ _)))))
      refine wpQuiet_nil ?_
      rintro _ ⟨X, rfl⟩
      have hX := over_below wr.heap.size wr X
      clear oB
      generalize over wr.heap.size wr X = w2 at *
      have BF := Lib.hid (HB.out.trans (hX.mono (by omega)))
      clear hX
      clear i3 i5
      go_wp2
      go_roundw
      case rel => exact ⟨k + 1, by omega, by go_num, upTo_succ HN.out (HF.out), BF.out⟩
      case measure => simp [intOf]; omega
    · obtain rfl : k = l.length := by omega
      have HR : Hid (rowOk protB ltProtected l = true) := rowOk_true HN.out
      by_cases hlim : l.length ≤ 12
      · have hlj : (l.length : Int) ≤ 12 := by omega
        have HQ : Hid (protsB l = true) := by show _ = _; unfold protsB; rw [HR.out, decide_eq_true hlim]; rfl
        go_wp2
        go_ret
        exact ⟨by rw [HQ.out]; rfl, HB.out⟩
      · have hlj : 12 < l.length := by omega
        have hlk : (12 : Int) < (l.length : Int) := by omega
        have HQ : Hid (protsB l = false) := by show _ = _; unfold protsB; rw [HR.out, decide_eq_false hlim]; rfl
        have HZ : Hid (decide ((l.length : Int) ≤ 12) = false) := decide_eq_false (by omega)
        go_wp2
        go_ret
        exact ⟨by rw [HQ.out, ← HZ.out]; rfl, HB.out⟩
set_option maxHeartbeats 8000000 in
set_option maxRecDepth 100000 in
theorem iValidRequests_any (l : List DRequest) (v : Value) (B : Nat) (w : World) (h : Rd B w (DRequest.sT l) v) (hB : B ≤ w.heap.size) (hk : ∀ x ∈ l, x.ok) (hn : l.length ≤ 1099511627776) :
    Calls Tryz.prog 68 #[v] w fun e w' => e = .returned (.bool (reqsB l)) ∧ Below w.heap.size w w' := by
  obtain ⟨a, c, rfl, hnc, hcm, hcells⟩ := DRequest.rd h
  clear h
  have HCL := Lib.hid hcells
  clear hcells
  by_cases hlim : l.length ≤ 24
  case neg =>
    have hx : 24 < l.length := by omega
    have hx2 : (24 : Int) < (l.length : Int) := by omega
    have HE : Hid (reqsB l = false) := by show _ = _; unfold reqsB; rw [decide_eq_false hlim]; simp
    go_enter Tryz.func68, Tryz.ntmps68
    go_wp2
    go_ret
    exact ⟨by rw [HE.out]; rfl, Below.refl _ _⟩
  have hli : (l.length : Int) ≤ 24 := by omega
  have HE : Hid (reqsB l = rowOk reqB ltRequest l) := by show _ = _; unfold reqsB; rw [decide_eq_true hlim]; simp
  go_enter Tryz.func68, Tryz.ntmps68
  go_wp2
  go_loopw [10] (fun i wr => ∃ (k : Nat), k ≤ l.length ∧ i = .int .i64 k ∧ (∀ j, j < k → upOk reqB ltRequest l j = true) ∧ Below w.heap.size w wr) (fun i wr => l.length - (intOf i).toNat)
  case atStart => exact ⟨0, Nat.zero_le _, rfl, fun j hj => absurd hj (by omega), Below.refl _ _⟩
  case round =>
    obtain ⟨k, hk1, rfl, hno, hb⟩ := hrel
    have HN := Lib.hid hno
    have HB := Lib.hid hb
    have zb := hb.size
    clear hno hb
    by_cases hlt : k < l.length
    · obtain ⟨b, off, ea, hbl, hat⟩ := HCL.out (by omega)
      subst ea
      obtain ⟨s0, s1, s2, s3, s4, s5, s6, s7⟩ := hat k hlt
      have hok := hk _ (List.getElem_mem hlt)
      have ks0 := hok.id
      have ks1 := hok.applicant
      have ks2 := hok.partner
      have hbw : b < w.heap.size := by omega
      rw [← bat HB.out b _ hbw] at s0 s1 s2 s3 s4 s5 s6 s7
      have sp : 0 < k → wr.cell? ⟨b, off + (k - 1) * 8, none⟩ = some (.string (gRequest l (k - 1)).id) := fun h => by
        have t := (hat (k - 1) (by omega)).1
        rw [← bat HB.out b _ hbw, gRequest_eq (show k - 1 < l.length by omega)] at t
        exact t
      have SP := Lib.hid sp
      clear sp hat
      have HUN : Hid (reqB (gRequest l k) = false → rowOk reqB ltRequest l = false) := fun h => rowOk_false hlt (upOk_not hlt (by rw [gRequest_eq hlt]; exact h))
      have HUZ : Hid (k = 0 → reqB (gRequest l k) = true → upOk reqB ltRequest l k = true) := fun e h => by subst e; rw [upOk_zero hlt, gRequest_eq hlt]; exact h
      have HUP : Hid (0 < k → upOk reqB ltRequest l k = (reqB (gRequest l k) && ltRequest (gRequest l (k - 1)) (gRequest l k))) := fun h => by rw [upOk_pos h hlt, gRequest_eq hlt, gRequest_eq (show k - 1 < l.length by omega)]
      rw [gRequest_eq hlt] at s0 s1 s2 s3 s4 s5 s6 s7 ks0 ks1 ks2
      generalize hA : gRequest l k = A at *
      generalize hP : gRequest l (k - 1) = P at *
      clear hA hP hok
      have i1 : (0 : Int) ≤ (k : Int) := by omega
      have i2 : (k : Int) < (l.length : Int) := by omega
      have yb : b < wr.heap.size := by omega
      have HV : Hid (∀ W : World, Calls Tryz.prog 133 #[.agg #[.string A.id, .string A.applicant, .string A.partner, .int .i64 A.low, .int .i64 A.high, .int .i64 A.filed, .int .i64 A.deadline, .int .i64 A.state]] W fun e w' => e = .returned (.bool (reqB A)) ∧ Below W.heap.size W w') := fun W => requestValid_any A ks0 ks1 ks2 W
      go_wp2
      have b1 : Below wr.heap.size wr (wr.alloc (.cells #[.string A.id, .string A.applicant, .string A.partner, .int .i64 A.low, .int .i64 A.high, .int .i64 A.filed, .int .i64 A.deadline, .int .i64 A.state] 95)) := (Below.refl _ _).alloc (Nat.le_refl _) _
      have f0 : (wr.alloc (.cells #[.string A.id, .string A.applicant, .string A.partner, .int .i64 A.low, .int .i64 A.high, .int .i64 A.filed, .int .i64 A.deadline, .int .i64 A.state] 95)).cell? ⟨wr.heap.size, 0, none⟩ = some (.string A.id) := by simp [go_sem]
      have f1 : (wr.alloc (.cells #[.string A.id, .string A.applicant, .string A.partner, .int .i64 A.low, .int .i64 A.high, .int .i64 A.filed, .int .i64 A.deadline, .int .i64 A.state] 95)).cell? ⟨wr.heap.size, 1, none⟩ = some (.string A.applicant) := by simp [go_sem]
      have f2 : (wr.alloc (.cells #[.string A.id, .string A.applicant, .string A.partner, .int .i64 A.low, .int .i64 A.high, .int .i64 A.filed, .int .i64 A.deadline, .int .i64 A.state] 95)).cell? ⟨wr.heap.size, 2, none⟩ = some (.string A.partner) := by simp [go_sem]
      have f3 : (wr.alloc (.cells #[.string A.id, .string A.applicant, .string A.partner, .int .i64 A.low, .int .i64 A.high, .int .i64 A.filed, .int .i64 A.deadline, .int .i64 A.state] 95)).cell? ⟨wr.heap.size, 3, none⟩ = some (.int .i64 A.low) := by simp [go_sem]
      have f4 : (wr.alloc (.cells #[.string A.id, .string A.applicant, .string A.partner, .int .i64 A.low, .int .i64 A.high, .int .i64 A.filed, .int .i64 A.deadline, .int .i64 A.state] 95)).cell? ⟨wr.heap.size, 4, none⟩ = some (.int .i64 A.high) := by simp [go_sem]
      have f5 : (wr.alloc (.cells #[.string A.id, .string A.applicant, .string A.partner, .int .i64 A.low, .int .i64 A.high, .int .i64 A.filed, .int .i64 A.deadline, .int .i64 A.state] 95)).cell? ⟨wr.heap.size, 5, none⟩ = some (.int .i64 A.filed) := by simp [go_sem]
      have f6 : (wr.alloc (.cells #[.string A.id, .string A.applicant, .string A.partner, .int .i64 A.low, .int .i64 A.high, .int .i64 A.filed, .int .i64 A.deadline, .int .i64 A.state] 95)).cell? ⟨wr.heap.size, 6, none⟩ = some (.int .i64 A.deadline) := by simp [go_sem]
      have f7 : (wr.alloc (.cells #[.string A.id, .string A.applicant, .string A.partner, .int .i64 A.low, .int .i64 A.high, .int .i64 A.filed, .int .i64 A.deadline, .int .i64 A.state] 95)).cell? ⟨wr.heap.size, 7, none⟩ = some (.int .i64 A.state) := by simp [go_sem]
      have fz : wr.heap.size < (wr.alloc (.cells #[.string A.id, .string A.applicant, .string A.partner, .int .i64 A.low, .int .i64 A.high, .int .i64 A.filed, .int .i64 A.deadline, .int .i64 A.state] 95)).heap.size := by simp
      generalize hW1 : (wr.alloc (.cells #[.string A.id, .string A.applicant, .string A.partner, .int .i64 A.low, .int .i64 A.high, .int .i64 A.filed, .int .i64 A.deadline, .int .i64 A.state] 95)) = W1 at *
      have BH := Lib.hid (HB.out.trans (b1.mono (by omega)))
      have B1 := Lib.hid b1
      have zz := b1.size
      clear b1 hW1
      by_cases c1 : reqB A = true
      case neg =>
        replace c1 : reqB A = false := Bool.eq_false_iff.2 c1
        have HF : Hid (rowOk reqB ltRequest l = false) := HUN.out c1
        have oX := overC (w0 := W1) fz
        have oB := overC (w0 := W1) (show b < W1.heap.size by omega)
        rw [c1] at HV
        refine wp_region_over W1.heap.size W1 (Below.refl _ _) (by kernel_rfl) (by kernel_rfl) ?_
        repeat (go_big_quiet_step ((go_at_call 133; exact over_left (Nat.le_refl _) (HV.out _))))
        refine wpQuiet_nil ?_
        rintro _ ⟨X, rfl⟩
        have hX := over_below W1.heap.size W1 X
        clear oB oX
        generalize over W1.heap.size W1 X = w2 at *
        have BF := Lib.hid (BH.out.trans (hX.mono (by omega)))
        clear hX
        have HQ : Hid (reqsB l = false) := by show _ = _; rw [HE.out]; exact HF.out
        go_wp2
        go_ret
        exact ⟨by rw [HQ.out]; rfl, BF.out⟩
      have HM : Hid (reqB A = true) := c1
      by_cases c3 : 0 < k
      case neg =>
        have i8 : decide (0 < k) = false := by simpa using c3
        have HF : Hid (upOk reqB ltRequest l k = true) := HUZ.out (by omega) HM.out
        have oX := overC (w0 := W1) fz
        have oB := overC (w0 := W1) (show b < W1.heap.size by omega)
        rw [c1] at HV
        refine wp_region_over W1.heap.size W1 (Below.refl _ _) (by kernel_rfl) (by kernel_rfl) ?_
        repeat (go_big_quiet_step ((go_at_call 133; exact over_left (Nat.le_refl _) (HV.out _))))
        refine wpQuiet_nil ?_
        rintro _ ⟨X, rfl⟩
        have hX := over_below W1.heap.size W1 X
        clear oB oX
        generalize over W1.heap.size W1 X = w2 at *
        have BF := Lib.hid (BH.out.trans (hX.mono (by omega)))
        clear hX
        go_wp2
        go_roundw
        case rel => exact ⟨k + 1, by omega, by go_num, upTo_succ HN.out (HF.out), BF.out⟩
        case measure => simp [intOf]; omega
      have i3 : IntKind.i64.wrap ((k : Int) - 1) = (k : Int) - 1 := IntWalk.i64_in _ (by omega)
      have i4 : (0 : Int) ≤ (k : Int) - 1 := by omega
      have i6 : (k : Int) - 1 < (l.length : Int) := by omega
      have i7 : (1 : Int) ≤ (k : Int) := by omega
      have i8 : decide (0 < k) = true := by simpa using c3
      have i5 : ((k : Int) - 1).toNat = k - 1 := by omega
      by_cases c4 : ltS P.id A.id = true
      case neg =>
        replace c4 : ltS P.id A.id = false := Bool.eq_false_iff.2 c4
        have le4 := geS_of_not c4
        have HF : Hid (rowOk reqB ltRequest l = false) := rowOk_false hlt (by rw [HUP.out c3, show ltRequest P A = false from c4]; simp)
        have fp := (bat B1.out b _ yb).trans (SP.out c3)
        have oX := overC (w0 := W1) fz
        have oB := overC (w0 := W1) (show b < W1.heap.size by omega)
        rw [c1] at HV
        refine wp_region_over W1.heap.size W1 (Below.refl _ _) (by kernel_rfl) (by kernel_rfl) ?_
        repeat (go_big_quiet_step ((go_at_call 133; exact over_left (Nat.le_refl _) (HV.out _))))
        refine wpQuiet_nil ?_
        rintro _ ⟨X, rfl⟩
        have hX := over_below W1.heap.size W1 X
        clear oB oX
        generalize over W1.heap.size W1 X = w2 at *
        have BF := Lib.hid (BH.out.trans (hX.mono (by omega)))
        clear hX
        clear i3 i5
        have HQ : Hid (reqsB l = false) := by show _ = _; rw [HE.out]; exact HF.out
        go_wp2
        go_ret
        exact ⟨by rw [HQ.out]; rfl, BF.out⟩
      have le4 := geS_of_lt c4
      have HF : Hid (upOk reqB ltRequest l k = true) := by show _ = _; rw [HUP.out c3, Bool.and_eq_true]; exact ⟨HM.out, c4⟩
      have fp := (bat B1.out b _ yb).trans (SP.out c3)
      have oX := overC (w0 := W1) fz
      have oB := overC (w0 := W1) (show b < W1.heap.size by omega)
      rw [c1] at HV
      refine wp_region_over W1.heap.size W1 (Below.refl _ _) (by kernel_rfl) (by kernel_rfl) ?_
      repeat (go_big_quiet_step ((go_at_call 133; exact over_left (Nat.le_refl _) (HV.out _))))
      refine wpQuiet_nil ?_
      rintro _ ⟨X, rfl⟩
      have hX := over_below W1.heap.size W1 X
      clear oB oX
      generalize over W1.heap.size W1 X = w2 at *
      have BF := Lib.hid (BH.out.trans (hX.mono (by omega)))
      clear hX
      clear i3 i5
      go_wp2
      go_roundw
      case rel => exact ⟨k + 1, by omega, by go_num, upTo_succ HN.out (HF.out), BF.out⟩
      case measure => simp [intOf]; omega
    · obtain rfl : k = l.length := by omega
      have HR : Hid (rowOk reqB ltRequest l = true) := rowOk_true HN.out
      have HQ : Hid (reqsB l = true) := by show _ = _; rw [HE.out]; exact HR.out
      go_wp2
      go_ret
      exact ⟨by rw [HQ.out]; rfl, HB.out⟩
set_option maxHeartbeats 8000000 in
set_option maxRecDepth 100000 in
theorem sl27Ok_any (l : List DRequest) (v : Value) (B : Nat) (w : World) (h : Rd B w (DRequest.sT l) v) (hB : B ≤ w.heap.size) (hk : ∀ x ∈ l, x.ok) (hn : l.length ≤ 1099511627776) :
    Calls Tryz.prog 132 #[v] w fun e w' => e = .returned (.bool (reqsB l)) ∧ Below w.heap.size w w' := by
  obtain ⟨a, c, rfl, hnc, hcm, hcells⟩ := DRequest.rd h
  clear h
  have HCL := Lib.hid hcells
  clear hcells
  have hli : (l.length : Int) ≤ 1099511627776 := by omega
  go_enter Tryz.func132, Tryz.ntmps132
  go_wp2
  go_loopw [3] (fun i wr => ∃ (k : Nat), k ≤ l.length ∧ i = .int .i64 k ∧ (∀ j, j < k → upOk reqB ltRequest l j = true) ∧ Below w.heap.size w wr) (fun i wr => l.length - (intOf i).toNat)
  case atStart => exact ⟨0, Nat.zero_le _, rfl, fun j hj => absurd hj (by omega), Below.refl _ _⟩
  case round =>
    obtain ⟨k, hk1, rfl, hno, hb⟩ := hrel
    have HN := Lib.hid hno
    have HB := Lib.hid hb
    have zb := hb.size
    clear hno hb
    by_cases hlt : k < l.length
    · obtain ⟨b, off, ea, hbl, hat⟩ := HCL.out (by omega)
      subst ea
      obtain ⟨s0, s1, s2, s3, s4, s5, s6, s7⟩ := hat k hlt
      have hok := hk _ (List.getElem_mem hlt)
      have ks0 := hok.id
      have ks1 := hok.applicant
      have ks2 := hok.partner
      have hbw : b < w.heap.size := by omega
      rw [← bat HB.out b _ hbw] at s0 s1 s2 s3 s4 s5 s6 s7
      have sp : 0 < k → wr.cell? ⟨b, off + (k - 1) * 8, none⟩ = some (.string (gRequest l (k - 1)).id) := fun h => by
        have t := (hat (k - 1) (by omega)).1
        rw [← bat HB.out b _ hbw, gRequest_eq (show k - 1 < l.length by omega)] at t
        exact t
      have SP := Lib.hid sp
      clear sp hat
      have HUN : Hid (reqB (gRequest l k) = false → rowOk reqB ltRequest l = false) := fun h => rowOk_false hlt (upOk_not hlt (by rw [gRequest_eq hlt]; exact h))
      have HUZ : Hid (k = 0 → reqB (gRequest l k) = true → upOk reqB ltRequest l k = true) := fun e h => by subst e; rw [upOk_zero hlt, gRequest_eq hlt]; exact h
      have HUP : Hid (0 < k → upOk reqB ltRequest l k = (reqB (gRequest l k) && ltRequest (gRequest l (k - 1)) (gRequest l k))) := fun h => by rw [upOk_pos h hlt, gRequest_eq hlt, gRequest_eq (show k - 1 < l.length by omega)]
      rw [gRequest_eq hlt] at s0 s1 s2 s3 s4 s5 s6 s7 ks0 ks1 ks2
      generalize hA : gRequest l k = A at *
      generalize hP : gRequest l (k - 1) = P at *
      clear hA hP hok
      have i1 : (0 : Int) ≤ (k : Int) := by omega
      have i2 : (k : Int) < (l.length : Int) := by omega
      have yb : b < wr.heap.size := by omega
      have HV : Hid (∀ W : World, Below wr.heap.size wr W → Calls Tryz.prog 184 #[.pointer (some ⟨b, off + k * 8, none⟩)] W fun e w' => e = .returned (.bool (reqB A)) ∧ Below W.heap.size W w') := fun W hW => by have t := l27One_any A b (off + k * 8) W ((bat hW b _ yb).trans s0) ((bat hW b _ yb).trans s1) ((bat hW b _ yb).trans s2) ((bat hW b _ yb).trans s3) ((bat hW b _ yb).trans s4) ((bat hW b _ yb).trans s5) ((bat hW b _ yb).trans s6) ((bat hW b _ yb).trans s7) ks0 ks1 ks2; rw [reqS_eq] at t; exact t
      by_cases c1 : reqB A = true
      case neg =>
        replace c1 : reqB A = false := Bool.eq_false_iff.2 c1
        have HF : Hid (rowOk reqB ltRequest l = false) := HUN.out c1
        have oB := overC (w0 := wr) (show b < wr.heap.size by omega)
        rw [c1] at HV
        go_wp2
        refine wp_region_over wr.heap.size wr (Below.refl _ _) (by kernel_rfl) (by kernel_rfl) ?_
        repeat (go_big_quiet_step ((go_at_call 184; exact over_left (Nat.le_refl _) (HV.out _ (over_below _ _ _)))))
        refine wpQuiet_nil ?_
        rintro _ ⟨X, rfl⟩
        have hX := over_below wr.heap.size wr X
        clear oB
        generalize over wr.heap.size wr X = w2 at *
        have BF := Lib.hid (HB.out.trans (hX.mono (by omega)))
        clear hX
        have HQ : Hid (reqsB l = false) := by show _ = _; unfold reqsB; rw [HF.out]; simp
        go_wp2
        go_ret
        exact ⟨by rw [HQ.out]; rfl, BF.out⟩
      have HM : Hid (reqB A = true) := c1
      by_cases c3 : 0 < k
      case neg =>
        have i8 : decide (0 < k) = false := by simpa using c3
        have HF : Hid (upOk reqB ltRequest l k = true) := HUZ.out (by omega) HM.out
        have oB := overC (w0 := wr) (show b < wr.heap.size by omega)
        rw [c1] at HV
        go_wp2
        refine wp_region_over wr.heap.size wr (Below.refl _ _) (by kernel_rfl) (by kernel_rfl) ?_
        repeat (go_big_quiet_step ((go_at_call 184; exact over_left (Nat.le_refl _) (HV.out _ (over_below _ _ _)))))
        refine wpQuiet_nil ?_
        rintro _ ⟨X, rfl⟩
        have hX := over_below wr.heap.size wr X
        clear oB
        generalize over wr.heap.size wr X = w2 at *
        have BF := Lib.hid (HB.out.trans (hX.mono (by omega)))
        clear hX
        go_wp2
        go_roundw
        case rel => exact ⟨k + 1, by omega, by go_num, upTo_succ HN.out (HF.out), BF.out⟩
        case measure => simp [intOf]; omega
      have i3 : IntKind.i64.wrap ((k : Int) - 1) = (k : Int) - 1 := IntWalk.i64_in _ (by omega)
      have i4 : (0 : Int) ≤ (k : Int) - 1 := by omega
      have i6 : (k : Int) - 1 < (l.length : Int) := by omega
      have i7 : (1 : Int) ≤ (k : Int) := by omega
      have i8 : decide (0 < k) = true := by simpa using c3
      have i5 : ((k : Int) - 1).toNat = k - 1 := by omega
      by_cases c4 : ltS P.id A.id = true
      case neg =>
        replace c4 : ltS P.id A.id = false := Bool.eq_false_iff.2 c4
        have le4 : Op.bytesLess P.id.toList A.id.toList = false := c4
        have HF : Hid (rowOk reqB ltRequest l = false) := rowOk_false hlt (by rw [HUP.out c3, show ltRequest P A = false from c4]; simp)
        have fp := SP.out c3
        have oB := overC (w0 := wr) (show b < wr.heap.size by omega)
        rw [c1] at HV
        go_wp2
        refine wp_region_over wr.heap.size wr (Below.refl _ _) (by kernel_rfl) (by kernel_rfl) ?_
        repeat (go_big_quiet_step ((go_at_call 184; exact over_left (Nat.le_refl _) (HV.out _ (over_below _ _ _)))))
        refine wpQuiet_nil ?_
        rintro _ ⟨X, rfl⟩
        have hX := over_below wr.heap.size wr X
        clear oB
        generalize over wr.heap.size wr X = w2 at *
        have BF := Lib.hid (HB.out.trans (hX.mono (by omega)))
        clear hX
        clear i3 i5
        have HQ : Hid (reqsB l = false) := by show _ = _; unfold reqsB; rw [HF.out]; simp
        go_wp2
        go_ret
        exact ⟨by rw [HQ.out]; rfl, BF.out⟩
      have le4 : Op.bytesLess P.id.toList A.id.toList = true := c4
      have HF : Hid (upOk reqB ltRequest l k = true) := by show _ = _; rw [HUP.out c3, Bool.and_eq_true]; exact ⟨HM.out, c4⟩
      have fp := SP.out c3
      have oB := overC (w0 := wr) (show b < wr.heap.size by omega)
      rw [c1] at HV
      go_wp2
      refine wp_region_over wr.heap.size wr (Below.refl _ _) (by kernel_rfl) (by kernel_rfl) ?_
      repeat (go_big_quiet_step ((go_at_call 184; exact over_left (Nat.le_refl _) (HV.out _ (over_below _ _ _)))))
      refine wpQuiet_nil ?_
      rintro _ ⟨X, rfl⟩
      have hX := over_below wr.heap.size wr X
      clear oB
      generalize over wr.heap.size wr X = w2 at *
      have BF := Lib.hid (HB.out.trans (hX.mono (by omega)))
      clear hX
      clear i3 i5
      go_wp2
      go_roundw
      case rel => exact ⟨k + 1, by omega, by go_num, upTo_succ HN.out (HF.out), BF.out⟩
      case measure => simp [intOf]; omega
    · obtain rfl : k = l.length := by omega
      have HR : Hid (rowOk reqB ltRequest l = true) := rowOk_true HN.out
      by_cases hlim : l.length ≤ 24
      · have hlj : (l.length : Int) ≤ 24 := by omega
        have HQ : Hid (reqsB l = true) := by show _ = _; unfold reqsB; rw [HR.out, decide_eq_true hlim]; rfl
        go_wp2
        go_ret
        exact ⟨by rw [HQ.out]; rfl, HB.out⟩
      · have hlj : 24 < l.length := by omega
        have hlk : (24 : Int) < (l.length : Int) := by omega
        have HQ : Hid (reqsB l = false) := by show _ = _; unfold reqsB; rw [HR.out, decide_eq_false hlim]; rfl
        have HZ : Hid (decide ((l.length : Int) ≤ 24) = false) := decide_eq_false (by omega)
        go_wp2
        go_ret
        exact ⟨by rw [HQ.out, ← HZ.out]; rfl, HB.out⟩
end Go.Proofs.YtlfkdhakibagaaaGreat
