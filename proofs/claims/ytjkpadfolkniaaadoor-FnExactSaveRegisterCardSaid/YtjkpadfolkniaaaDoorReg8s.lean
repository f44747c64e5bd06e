/- Contract: changes are valid and in order, for the reference. Conditions: bounded lengths. -/
import Derived.Test.YtjkpadfolkniaaaDoorReg1s
import Derived.Test.YtjkpadfolkniaaaDoorBlk
import Derived.Test.YtjkpadfolkniaaaDoorOver
import Derived.Deep.DeepCutAuto
import Derived.IntWalk
namespace Go.Proofs.YtjkpadfolkniaaaDoor
open Go.RowKit
set_option linter.unusedVariables false
set_option linter.unusedSimpArgs false

set_option maxHeartbeats 8000000 in
set_option maxRecDepth 100000 in
theorem l28Story_any (xs : List DChange) (v : Value) (w : World) (h : Rd w.heap.size w (DChange.sT xs) v) (hn : xs.length ≤ 1048576) (hok : ∀ x ∈ xs, x.ok) :
    Calls Tryd.prog 23 #[v] w fun e w' => e = .returned (.bool (storyB xs)) ∧ Below w.heap.size w w' := by
  obtain ⟨a, c, rfl, hnc, hcm, hcells⟩ := DChange.rd h
  have HC := Lib.hid hcells
  have HOK := Lib.hid hok
  clear h hcells hok
  have hnb : (xs.length : Int) ≤ 1048576 := by omega
  go_enter Tryd.func23, Tryd.ntmps23
  go_wp2
  go_loopw [3] (fun i wr => ∃ (k : Nat), k ≤ xs.length ∧ i = .int .i64 k ∧ (∀ j, j < k → upOk changeB dayLe xs j = true) ∧ Below w.heap.size w wr) (fun i wr => xs.length - (intOf i).toNat)
  case atStart => exact ⟨0, Nat.zero_le _, rfl, fun j h => absurd h (by omega), Below.refl _ _⟩
  case round =>
    obtain ⟨k, hk, rfl, hno, hb⟩ := hrel
    have HN := Lib.hid hno
    have HB := Lib.hid hb
    have zr : w.heap.size ≤ wr.heap.size := hb.size
    clear hno hb
    by_cases hlt : k < xs.length
    · obtain ⟨b, off, rfl, hbl, hat⟩ := HC.out (by omega)
      obtain ⟨s0, s1, s2, s3⟩ := hat k hlt
      rw [← HB.out.cell (p := ⟨b, _, none⟩) hbl] at s0 s1 s2 s3
      have yb : b < wr.heap.size := by omega
      have hko := HOK.out _ (List.getElem_mem hlt)
      have j0 : (0 : Int) ≤ (k : Int) := by omega
      have j1 : (k : Int) < (xs.length : Int) := by omega
      have HPV : Hid (∀ h : 0 < k, wr.cell? ⟨b, off + (k - 1) * 4, none⟩ = some (.int .i64 (xs[k - 1]'(by omega)).day)) := fun h => (HB.out.cell (p := ⟨b, _, none⟩) hbl).trans (hat (k - 1) (by omega)).1
      have HUZ : Hid (k = 0 → upOk changeB dayLe xs k = changeB xs[k]) := fun h => by subst h; exact upOk_zero hlt
      have HUP : Hid (∀ h : 0 < k, upOk changeB dayLe xs k = (changeB xs[k] && dayLe (xs[k - 1]'(by omega)) xs[k])) := fun h => upOk_pos h hlt
      have HNO : Hid (upOk changeB dayLe xs k = false → storyB xs = false) := fun h => by unfold storyB; rw [rowOk_false hlt h]; rfl
      clear hat HC HOK
      generalize xs[k] = A at *
      have oB := overC (w0 := wr) yb
      skip
      have HCH : Hid (∀ W : World, Below wr.heap.size wr W → Calls Tryd.prog 39 #[.pointer (some ⟨b, off + k * 4, none⟩)] W fun e w' => e = .returned (.bool (changeB A)) ∧ Below W.heap.size W w') := fun W hW => l28Change_any A b (off + k * 4) W ((hW.cell (p := ⟨b, _, none⟩) yb).trans s0) ((hW.cell (p := ⟨b, _, none⟩) yb).trans s1) ((hW.cell (p := ⟨b, _, none⟩) yb).trans s2) ((hW.cell (p := ⟨b, _, none⟩) yb).trans s3) (by have := hW.size; omega) hko.key hko.old_ hko.new_
      clear hko
      by_cases h1 : changeB A = true
      case neg =>
        replace h1 : changeB A = false := Bool.eq_false_iff.2 h1
        rw [h1] at HCH
        have hx : changeB A = false := by exact h1
        have HU0 : Hid (upOk changeB dayLe xs k = false) := by
          show _ = _
          by_cases h : 0 < k
          · rw [HUP.out h, hx]; rfl
          · rw [HUZ.out (by omega), hx]
        clear hx
        have HE := Lib.hid (HNO.out (HU0.out))
        go_upto_region 4 with (fail)
        refine wp_region_over wr.heap.size wr (Below.refl _ _) (by kernel_rfl) (by kernel_rfl) ?_
        repeat (go_big_quiet_step (first | (go_at_call 39; exact over_left (Nat.le_refl _) (HCH.out _ (over_below _ _ _)))))
        refine wpQuiet_nil ?_
        rintro _ ⟨X, rfl⟩
        have BE := Lib.hid (HB.out.trans ((over_below wr.heap.size wr X).mono zr))
        clear oB
        generalize over wr.heap.size wr X = w2 at *
        go_wp2
        go_ret
        exact ⟨by rw [HE.out]; rfl, BE.out⟩
      rw [h1] at HCH
      have HM : Hid (changeB A = true) := by show _ = _; exact h1
      by_cases c3 : 0 < k
      · skip
        have i3 : IntKind.i64.wrap ((k : Int) - 1) = (k : Int) - 1 := IntWalk.i64_in _ (by omega)
        have i4 : (0 : Int) ≤ (k : Int) - 1 := by omega
        have i6 : (k : Int) - 1 < (xs.length : Int) := by omega
        have i7 : (1 : Int) ≤ (k : Int) := by omega
        have i8 : decide (0 < k) = true := by simpa using c3
        have i5 : ((k : Int) - 1).toNat = k - 1 := by omega
        have fp1 := HPV.out c3
        have HUP2 := Lib.hid (HUP.out c3)
        generalize xs[k - 1]'(by omega) = D at *
        by_cases c4 : A.day < D.day
        case pos =>
          have e4 : decide (A.day < D.day) = true := by simpa using c4
          have HU0 : Hid (upOk changeB dayLe xs k = false) := by show _ = _; rw [HUP2.out]; unfold dayLe; rw [decide_eq_false (by omega), Bool.and_false]
          have HE := Lib.hid (HNO.out (HU0.out))
          go_upto_region 4 with (fail)
          refine wp_region_over wr.heap.size wr (Below.refl _ _) (by kernel_rfl) (by kernel_rfl) ?_
          repeat (go_big_quiet_step (first | (go_at_call 39; exact over_left (Nat.le_refl _) (HCH.out _ (over_below _ _ _)))))
          refine wpQuiet_nil ?_
          rintro _ ⟨X, rfl⟩
          have BE := Lib.hid (HB.out.trans ((over_below wr.heap.size wr X).mono zr))
          clear oB
          generalize over wr.heap.size wr X = w2 at *
          go_wp2
          go_ret
          exact ⟨by rw [HE.out]; rfl, BE.out⟩
        have e4 : decide (A.day < D.day) = false := by simp; omega
        have HU : Hid (upOk changeB dayLe xs k = true) := by show _ = _; rw [HUP2.out, HM.out]; unfold dayLe; rw [decide_eq_true (by omega)]; rfl
        go_upto_region 4 with (fail)
        refine wp_region_over wr.heap.size wr (Below.refl _ _) (by kernel_rfl) (by kernel_rfl) ?_
        repeat (go_big_quiet_step (first | (go_at_call 39; exact over_left (Nat.le_refl _) (HCH.out _ (over_below _ _ _)))))
        refine wpQuiet_nil ?_
        rintro _ ⟨X, rfl⟩
        have BE := Lib.hid (HB.out.trans ((over_below wr.heap.size wr X).mono zr))
        clear oB
        generalize over wr.heap.size wr X = w2 at *
        clear i3 i5 e4 fp1
        go_wp2
        go_roundw
        case rel => exact ⟨k + 1, by omega, by go_num, upTo_succ HN.out HU.out, BE.out⟩
        case measure => simp [intOf]; omega
      · skip
        have i8 : decide (0 < k) = false := by simpa using c3
        have HU : Hid (upOk changeB dayLe xs k = true) := by show _ = _; rw [HUZ.out (by omega)]; exact HM.out
        go_upto_region 4 with (fail)
        refine wp_region_over wr.heap.size wr (Below.refl _ _) (by kernel_rfl) (by kernel_rfl) ?_
        repeat (go_big_quiet_step (first | (go_at_call 39; exact over_left (Nat.le_refl _) (HCH.out _ (over_below _ _ _)))))
        refine wpQuiet_nil ?_
        rintro _ ⟨X, rfl⟩
        have BE := Lib.hid (HB.out.trans ((over_below wr.heap.size wr X).mono zr))
        clear oB
        generalize over wr.heap.size wr X = w2 at *
        go_wp2
        go_roundw
        case rel => exact ⟨k + 1, by omega, by go_num, upTo_succ HN.out HU.out, BE.out⟩
        case measure => simp [intOf]; omega
    · obtain rfl : k = xs.length := by omega
      have HE : Hid (storyB xs = decide ((xs.length : Int) ≤ 48)) := by show _ = _; unfold storyB; rw [rowOk_true (fun j hj => HN.out j hj), Bool.true_and]; simp; omega
      clear HC
      go_wp2
      go_ret
      exact ⟨by rw [HE.out]; rfl, HB.out⟩
end Go.Proofs.YtjkpadfolkniaaaDoor
