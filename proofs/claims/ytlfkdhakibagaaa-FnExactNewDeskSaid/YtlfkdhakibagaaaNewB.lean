/- Contract: slices.Repeat of one zero, a hundred times. No condition. -/
import Derived.Test.YtlfkdhakibagaaaNewA
namespace Go.Proofs.Ytlfkdhakibagaaa
open Go.RowKit
set_option linter.unusedVariables false
set_option linter.unusedSimpArgs false

set_option maxHeartbeats 2000000 in
set_option maxRecDepth 100000 in
theorem repeat_desk (xb : Nat) (w : World) (hx : w.heap[xb]? = some (.cells #[.int .i64 0] 2 (0, 0))) :
    Calls Try.prog 20 #[.slice (some ⟨xb, 0, none⟩) 1 1, .int .i64 100] w fun e w' => ∃ g, e = .returned (.slice (some ⟨g, 0, none⟩) 100 100) ∧ Below w.heap.size w w' ∧ w.heap.size ≤ g ∧ g < w'.heap.size ∧ w'.heap[g]? = some (.cells zrow 2 (0, 0)) := by
  obtain ⟨i0, hi0, hz0, hz1, hz2⟩ := info_parts infoI
  have hmk : ∀ W : World, (Instr.makeSlice 22 (.int .i64 100) (.int .i64 100)).run Try.prog W = .ok (.slice (some ⟨W.heap.size, 0, none⟩) 100 100) (W.alloc (.cells zrow 2)) := fun W => by
    have h := run_make_rowN (P := Try.prog) 22 2 i0 _ Try.underlying22 hi0 hz0 .i64 .i64 100 100 (Nat.le_refl _) (by rw [hz2]; omega) (by omega) W
    rw [hz1] at h
    exact h
  have hsz : (Try.prog.info? 2).map (·.size) = some 1 := by rw [hi0]; simp [hz1]
  have HSZ := Lib.hid hsz
  have hxl : xb < w.heap.size := by
    rcases Nat.lt_or_ge xb w.heap.size with h | h
    · exact h
    · rw [Array.getElem?_eq_none h] at hx; cases hx
  have hb1 : Below w.heap.size w (w.alloc (.cells zrow 2)) := below_alloc _ _
  have k1 := bkN w zrow 2
  have kx := bkA hx hxl (.cells zrow 2)
  have z1 : w.heap.size < (w.alloc (.cells zrow 2)).heap.size := by simp
  have HC1 : Hid (∀ ty, (Builtin.copy_ #[22, 22] ty #[.slice (some ⟨w.heap.size, 0, none⟩) 100 100, .slice (some ⟨xb, 0, none⟩) 1 1]).run Try.prog (w.alloc (.cells zrow 2)) = .ok (goInt (Nat.min 1 100)) (w.alloc (.cells zrow 2))) := fun ty =>
    copyZ _ 22 ty 2 w.heap.size 0 100 100 xb 0 1 1 Try.underlying22 HSZ.out (fun j hj => by rw [Nat.zero_add]; exact cellZ k1 (by have h9 : j < 1 := hj; omega)) (fun j => bkF k1 j) (fun j hj => by
      have : j = 0 := by have h9 : j < 1 := hj; omega
      subst this
      exact bkC kx 0 rfl)
  clear hi0 hz0 hz1 hz2 hsz
  go_enter Try.func20, Try.ntmps20
  go_upto_region 7 with (go_at_call 41; refine (mul_desk _).mono ?_; rintro e w1 ⟨rfl, rfl⟩)
  clear hmk
  go_wp2_with (with_reducible refine wpList_copy_run rfl (.tmp 31) (.tmp 32) _ _ rfl rfl rfl (HC1.out _) ?_)
  have B1 := Lib.hid hb1
  have K1 := Lib.hid k1
  clear HC1 kx
  generalize w.alloc (.cells zrow 2) = W1 at *
  clear hb1 k1
  go_loopw [8] (fun nv wr => ∃ (n : Nat), 1 ≤ n ∧ n ≤ 100 ∧ nv = .int .i64 n ∧ Below W1.heap.size W1 wr) (fun nv wr => 100 - (intOf nv).toNat)
  case atStart => exact ⟨1, by omega, by omega, rfl, Below.refl _ _⟩
  case round =>
    obtain ⟨n, h1, h2, rfl, hb⟩ := hrel
    have HB := Lib.hid hb
    have zr : W1.heap.size ≤ wr.heap.size := hb.size
    have K2 := Lib.hid (bkB K1.out hb z1)
    clear hb
    by_cases hlt : n < 100
    · have c1 : (n : Int) < 100 := by omega
      have c2 : (0 : Int) ≤ (n : Int) := by omega
      have c3 : (n : Int) ≤ 100 := by omega
      have c4 : ¬ (100 = n) := by omega
      have h9 : Nat.min n (100 - n) ≤ 100 - n := Nat.min_le_right _ _
      have h8 : 1 ≤ Nat.min n (100 - n) := Nat.le_min.2 ⟨h1, by omega⟩
      have HM : Hid (∃ m, Nat.min n (100 - n) = m ∧ 1 ≤ m ∧ n + m ≤ 100) := ⟨_, rfl, h8, by omega⟩
      clear h8 h9
      obtain ⟨m, hm, hm1, hm2⟩ := HM.out
      have HCP : Hid (∀ ty dc sc, (Builtin.copy_ #[22, 22] ty #[.slice (some ⟨w.heap.size, n, none⟩) (100 - n) dc, .slice (some ⟨w.heap.size, 0, none⟩) n sc]).run Try.prog wr.drew = .ok (goInt m) wr.drew) := fun ty dc sc => by
        have h := copyZ (P := Try.prog) wr.drew 22 ty 2 w.heap.size n (100 - n) dc w.heap.size 0 n sc Try.underlying22 HSZ.out (fun j hj => by rw [hm] at hj; exact cellZ (W := wr.drew) K2.out (by omega)) (fun j => bkF (w := wr.drew) K2.out j) (fun j hj => by rw [hm] at hj; rw [Nat.zero_add]; exact cellZ (W := wr.drew) K2.out (by omega))
        rw [hm] at h
        exact h
      have hmI : goInt m = .int .i64 (m : Int) := rfl
      have kw : IntKind.i64.wrap ((n : Int) + (m : Int)) = (n : Int) + (m : Int) := IntWalk.i64_in _ (by omega)
      have KW := Lib.hid kw
      clear HM hm kw
      go_upto_region 9 with (fail)
      refine wp_region_ord 8 [(0, true), (1, true), (2, true), (3, true), (4, true), (5, true), (6, true), (7, false)] (fun W => True) (by kernel_rfl) (by kernel_rfl) trivial (fun hHeld => ?_)
      refine wpOrd_read (v := ?_) rfl (fun _ _ _ h => h) ?_ ?_
      rotate_left
      · (intro W hSW; (try dsimp only at hSW); (go_simp <;> with_reducible rfl))
      (try simp only [Act.put, List.setIfInBounds_toArray, List.set_cons_zero, List.set_cons_succ])
      refine wpOrd_read (v := ?_) rfl (fun _ _ _ h => h) ?_ ?_
      rotate_left
      · (intro W hSW; (try dsimp only at hSW); (go_simp <;> with_reducible rfl))
      (try simp only [Act.put, List.setIfInBounds_toArray, List.set_cons_zero, List.set_cons_succ])
      refine wpOrd_read (v := ?_) rfl (fun _ _ _ h => h) ?_ ?_
      rotate_left
      · (intro W hSW; (try dsimp only at hSW); (go_simp <;> with_reducible rfl))
      (try simp only [Act.put, List.setIfInBounds_toArray, List.set_cons_zero, List.set_cons_succ])
      refine wpOrd_read (v := ?_) rfl (fun _ _ _ h => h) ?_ ?_
      rotate_left
      · (intro W hSW; (try dsimp only at hSW); (go_simp <;> with_reducible rfl))
      (try simp only [Act.put, List.setIfInBounds_toArray, List.set_cons_zero, List.set_cons_succ])
      refine wpOrd_read (v := ?_) rfl (fun _ _ _ h => h) ?_ ?_
      rotate_left
      · (intro W hSW; (try dsimp only at hSW); (go_simp <;> with_reducible rfl))
      (try simp only [Act.put, List.setIfInBounds_toArray, List.set_cons_zero, List.set_cons_succ])
      refine wpOrd_read (v := ?_) rfl (fun _ _ _ h => h) ?_ ?_
      rotate_left
      · (intro W hSW; (try dsimp only at hSW); (go_simp <;> with_reducible rfl))
      (try simp only [Act.put, List.setIfInBounds_toArray, List.set_cons_zero, List.set_cons_succ])
      refine wpOrd_read (v := ?_) rfl (fun _ _ _ h => h) ?_ ?_
      rotate_left
      · (intro W hSW; (try dsimp only at hSW); (go_simp <;> with_reducible rfl))
      (try simp only [Act.put, List.setIfInBounds_toArray, List.set_cons_zero, List.set_cons_succ])
      refine wpOrd_step rfl (fun K hK => ?_)
      refine wp_copy_run (.tmp 41) (.tmp 44) _ _ rfl rfl rfl (HCP.out _ _ _) ?_
      refine hK.out _ _ trivial ?_
      clear hK K
      (try simp only [Act.put, List.setIfInBounds_toArray, List.set_cons_zero, List.set_cons_succ])
      refine wpOrd_nil ?_
      simp only [List.drop_succ_cons, List.drop_zero]
      have hmI2 : (m : Int) ≤ 100 := by omega
      have hmI3 : (1 : Int) ≤ (m : Int) := by omega
      have HBD := Lib.hid (HB.out.trans ((below_drew1 wr).mono zr))
      go_wp2
      go_roundw
      case rel => exact ⟨n + m, by omega, hm2, by go_num, HBD.out⟩
      case measure => simp [intOf]; omega
    · obtain rfl : n = 100 := by omega
      go_wp2
      go_ret
      exact ⟨w.heap.size, rfl, B1.out.trans (HB.out.mono (by omega)), Nat.le_refl _, by omega, K2.out⟩
end Go.Proofs.Ytlfkdhakibagaaa
