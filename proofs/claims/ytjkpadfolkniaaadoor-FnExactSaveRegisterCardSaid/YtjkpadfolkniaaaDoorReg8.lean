/- Contracts: records are valid, changes are valid and in order, for the reference. Conditions: bounded lengths. -/
import Derived.Test.YtjkpadfolkniaaaDoorReg1
import Derived.Test.YtjkpadfolkniaaaDoorBlk
import Derived.Test.YtjkpadfolkniaaaDoorOver
import Derived.Deep.DeepCutAuto
import Derived.IntWalk
namespace Go.Proofs.YtjkpadfolkniaaaDoor
open Go.RowKit
set_option linter.unusedVariables false
set_option linter.unusedSimpArgs false

set_option maxHeartbeats 8000000 in
set_option maxRecDepth 100000 in
theorem l28State_any (xs : List DRecord) (v : Value) (w : World) (h : Rd w.heap.size w (DRecord.sT xs) v) (hn : xs.length ≤ 1048576) (hok : ∀ x ∈ xs, x.ok) :
    Calls Tryd.prog 22 #[v] w fun e w' => e = .returned (.bool (stateB xs)) ∧ Below w.heap.size w w' := by
  obtain ⟨a, c, rfl, hnc, hcm, hcells⟩ := DRecord.rd h
  have HC := Lib.hid hcells
  have HOK := Lib.hid hok
  clear h hcells hok
  have hnb : (xs.length : Int) ≤ 1048576 := by omega
  go_enter Tryd.func22, Tryd.ntmps22
  go_wp2
  go_loopw [3] (fun i wr => ∃ (k : Nat), k ≤ xs.length ∧ i = .int .i64 k ∧ (∀ j, j < k → upOk recB ltRec xs j = true) ∧ Below w.heap.size w wr) (fun i wr => xs.length - (intOf i).toNat)
  case atStart => exact ⟨0, Nat.zero_le _, rfl, fun j h => absurd h (by omega), Below.refl _ _⟩
  case round =>
    obtain ⟨k, hk, rfl, hno, hb⟩ := hrel
    have HN := Lib.hid hno
    have HB := Lib.hid hb
    have zr : w.heap.size ≤ wr.heap.size := hb.size
    clear hno hb
    by_cases hlt : k < xs.length
    · obtain ⟨b, off, rfl, hbl, hat⟩ := HC.out (by omega)
      obtain ⟨s0, s1⟩ := hat k hlt
      rw [← HB.out.cell (p := ⟨b, _, none⟩) hbl] at s0 s1
      have yb : b < wr.heap.size := by omega
      have hko := HOK.out _ (List.getElem_mem hlt)
      have j0 : (0 : Int) ≤ (k : Int) := by omega
      have j1 : (k : Int) < (xs.length : Int) := by omega
      have HPV : Hid (∀ h : 0 < k, wr.cell? ⟨b, off + (k - 1) * 2, none⟩ = some (.string (xs[k - 1]'(by omega)).key)) := fun h => (HB.out.cell (p := ⟨b, _, none⟩) hbl).trans (hat (k - 1) (by omega)).1
      have HUZ : Hid (k = 0 → upOk recB ltRec xs k = recB xs[k]) := fun h => by subst h; exact upOk_zero hlt
      have HUP : Hid (∀ h : 0 < k, upOk recB ltRec xs k = (recB xs[k] && ltRec (xs[k - 1]'(by omega)) xs[k])) := fun h => upOk_pos h hlt
      have HNO : Hid (upOk recB ltRec xs k = false → stateB xs = false) := fun h => by unfold stateB; rw [rowOk_false hlt h]; rfl
      clear hat HC HOK
      generalize xs[k] = A at *
      have oB := overC (w0 := wr) yb
      obtain ⟨hk1, hk2⟩ : A.key.size ≤ maxLen ∧ A.value.size ≤ maxLen := ⟨hko.key, hko.value⟩
      have HNM : Hid (∀ W : World, Calls Tryd.prog 37 #[.string A.key] W fun e w' => e = .returned (.bool (nameB A.key)) ∧ W = w') := fun W => l01Name_any A.key W hk1
      have HVA : Hid (∀ W : World, Calls Tryd.prog 38 #[.string A.value] W fun e w' => e = .returned (.bool (valueB A.value)) ∧ W = w') := fun W => l28Value_any A.value W hk2
      clear hko
      by_cases h1 : nameB A.key = true
      case neg =>
        replace h1 : nameB A.key = false := Bool.eq_false_iff.2 h1
        rw [h1] at HNM
        have hx : recB A = false := by unfold recB; simp only [h1, Bool.and_false, Bool.false_and, Bool.and_true, Bool.true_and]
        have HU0 : Hid (upOk recB ltRec xs k = false) := by
          show _ = _
          by_cases h : 0 < k
          · rw [HUP.out h, hx]; rfl
          · rw [HUZ.out (by omega), hx]
        clear hx
        have HE := Lib.hid (HNO.out (HU0.out))
        go_upto_region 4 with (fail)
        refine wp_region_over wr.heap.size wr (Below.refl _ _) (by kernel_rfl) (by kernel_rfl) ?_
        repeat (go_big_quiet_step (first | (go_at_call 37; exact over_same (HNM.out _)) | (go_at_call 38; exact over_same (HVA.out _))))
        refine wpQuiet_nil ?_
        rintro _ ⟨X, rfl⟩
        have BE := Lib.hid (HB.out.trans ((over_below wr.heap.size wr X).mono zr))
        clear oB
        generalize over wr.heap.size wr X = w2 at *
        go_wp2
        go_ret
        exact ⟨by rw [HE.out]; rfl, BE.out⟩
      rw [h1] at HNM
      by_cases h2 : valueB A.value = true
      case neg =>
        replace h2 : valueB A.value = false := Bool.eq_false_iff.2 h2
        rw [h2] at HVA
        have hx : recB A = false := by unfold recB; simp only [h1, h2, Bool.and_false, Bool.false_and, Bool.and_true, Bool.true_and]
        have HU0 : Hid (upOk recB ltRec xs k = false) := by
          show _ = _
          by_cases h : 0 < k
          · rw [HUP.out h, hx]; rfl
          · rw [HUZ.out (by omega), hx]
        clear hx
        have HE := Lib.hid (HNO.out (HU0.out))
        go_upto_region 4 with (fail)
        refine wp_region_over wr.heap.size wr (Below.refl _ _) (by kernel_rfl) (by kernel_rfl) ?_
        repeat (go_big_quiet_step (first | (go_at_call 37; exact over_same (HNM.out _)) | (go_at_call 38; exact over_same (HVA.out _))))
        refine wpQuiet_nil ?_
        rintro _ ⟨X, rfl⟩
        have BE := Lib.hid (HB.out.trans ((over_below wr.heap.size wr X).mono zr))
        clear oB
        generalize over wr.heap.size wr X = w2 at *
        go_wp2
        go_ret
        exact ⟨by rw [HE.out]; rfl, BE.out⟩
      rw [h2] at HVA
      have HM : Hid (recB A = true) := by show _ = _; unfold recB; rw [h1, h2]; rfl
      by_cases c3 : 0 < k
      · skip
        have i3 : IntKind.i64.wrap ((k : Int) - 1) = (k : Int) - 1 := IntWalk.i64_in _ (by omega)
        have i4 : (0 : Int) ≤ (k : Int) - 1 := by omega
        have i6 : (k : Int) - 1 < (xs.length : Int) := by omega
        have i7 : (1 : Int) ≤ (k : Int) := by omega
        have i8 : decide (0 < k) = true := by simpa using c3
        have i5 : ((k : Int) - 1).toNat = k - 1 := by omega
        have fp1 := HPV.out c3
        have HUP2 := Lib.hid (HUP.out c3)
        generalize xs[k - 1]'(by omega) = D at *
        by_cases c4 : ltS D.key A.key = true
        case neg =>
          replace c4 : ltS D.key A.key = false := Bool.eq_false_iff.2 c4
          have e4 : Op.bytesLess D.key.toList A.key.toList = false := c4
          have HU0 : Hid (upOk recB ltRec xs k = false) := by show _ = _; rw [HUP2.out]; unfold ltRec; rw [c4, Bool.and_false]
          clear c4
          have HE := Lib.hid (HNO.out (HU0.out))
          go_upto_region 4 with (fail)
          refine wp_region_over wr.heap.size wr (Below.refl _ _) (by kernel_rfl) (by kernel_rfl) ?_
          repeat (go_big_quiet_step (first | (go_at_call 37; exact over_same (HNM.out _)) | (go_at_call 38; exact over_same (HVA.out _))))
          refine wpQuiet_nil ?_
          rintro _ ⟨X, rfl⟩
          have BE := Lib.hid (HB.out.trans ((over_below wr.heap.size wr X).mono zr))
          clear oB
          generalize over wr.heap.size wr X = w2 at *
          go_wp2
          go_ret
          exact ⟨by rw [HE.out]; rfl, BE.out⟩
        have e4 : Op.bytesLess D.key.toList A.key.toList = true := c4
        have HU : Hid (upOk recB ltRec xs k = true) := by show _ = _; rw [HUP2.out, HM.out]; unfold ltRec; rw [c4]; rfl
        clear c4
        go_upto_region 4 with (fail)
        refine wp_region_over wr.heap.size wr (Below.refl _ _) (by kernel_rfl) (by kernel_rfl) ?_
        repeat (go_big_quiet_step (first | (go_at_call 37; exact over_same (HNM.out _)) | (go_at_call 38; exact over_same (HVA.out _))))
        refine wpQuiet_nil ?_
        rintro _ ⟨X, rfl⟩
        have BE := Lib.hid (HB.out.trans ((over_below wr.heap.size wr X).mono zr))
        clear oB
        generalize over wr.heap.size wr X = w2 at *
        clear i3 i5 e4 fp1
        go_wp2
        go_roundw
        case rel => exact ⟨k + 1, by omega, by go_num, upTo_succ HN.out HU.out, BE.out⟩
        case measure => simp [intOf]; omega
      · skip
        have i8 : decide (0 < k) = false := by simpa using c3
        have HU : Hid (upOk recB ltRec xs k = true) := by show _ = _; rw [HUZ.out (by omega)]; exact HM.out
        go_upto_region 4 with (fail)
        refine wp_region_over wr.heap.size wr (Below.refl _ _) (by kernel_rfl) (by kernel_rfl) ?_
        repeat (go_big_quiet_step (first | (go_at_call 37; exact over_same (HNM.out _)) | (go_at_call 38; exact over_same (HVA.out _))))
        refine wpQuiet_nil ?_
        rintro _ ⟨X, rfl⟩
        have BE := Lib.hid (HB.out.trans ((over_below wr.heap.size wr X).mono zr))
        clear oB
        generalize over wr.heap.size wr X = w2 at *
        go_wp2
        go_roundw
        case rel => exact ⟨k + 1, by omega, by go_num, upTo_succ HN.out HU.out, BE.out⟩
        case measure => simp [intOf]; omega
    · obtain rfl : k = xs.length := by omega
      have HE : Hid (stateB xs = decide ((xs.length : Int) ≤ 32)) := by show _ = _; unfold stateB; rw [rowOk_true (fun j hj => HN.out j hj), Bool.true_and]; simp; omega
      clear HC
      go_wp2
      go_ret
      exact ⟨by rw [HE.out]; rfl, HB.out⟩
end Go.Proofs.YtjkpadfolkniaaaDoor
