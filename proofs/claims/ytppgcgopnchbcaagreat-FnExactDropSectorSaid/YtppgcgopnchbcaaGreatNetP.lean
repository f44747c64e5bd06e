/- Contracts: l14Without and DropSector of the reference. Conditions: bounded lengths. -/
import Derived.Test.YtppgcgopnchbcaaGreatNetN
import Derived.Test.YtppgcgopnchbcaaGreatApp3
import Derived.Deep.DeepCutAuto
import Derived.IntWalk
namespace Go.Proofs.YtppgcgopnchbcaaGreat
open Go.RowKit
set_option linter.unusedVariables false

set_option maxHeartbeats 8000000 in
set_option maxRecDepth 100000 in
theorem l14Without_any (n : DNetwork) (k : Nat) (v0 v1 v2 v3 : Value) (bp : Nat) (w : World) (r0 : Rd w.heap.size w (DSite.sT n.sites) v0) (r1 : Rd w.heap.size w (DSector.sT n.sectors) v1) (r2 : Rd w.heap.size w (DAntenna.sT n.antennas) v2) (r3 : Rd w.heap.size w (DRadio.sT n.radios) v3) (hbp : bp < w.heap.size) (p0 : w.cell? ⟨bp, 0, none⟩ = some v0) (p1 : w.cell? ⟨bp, 1, none⟩ = some v1) (p2 : w.cell? ⟨bp, 2, none⟩ = some v2) (p3 : w.cell? ⟨bp, 3, none⟩ = some v3) (hs : sizL n.tr ≤ 1048576) (hk : k < n.sectors.length) :
    Calls Tryz.prog 71 #[.pointer (some ⟨bp, 0, none⟩), .int .i64 (k : Int)] w (NetP { n with sectors := n.sectors.eraseIdx k } w) := by
  have hq := DNetwork.siz_tr n
  rw [DSite.siz_s, DSector.siz_s, DAntenna.siz_s, DRadio.siz_s] at hq
  obtain ⟨A0, C0, e0, -, -, -⟩ := DSite.rd r0
  obtain ⟨A1, C1, e1, -, -, -⟩ := DSector.rd r1
  obtain ⟨A2, C2, e2, -, -, -⟩ := DAntenna.rd r2
  obtain ⟨A3, C3, e3, -, -, -⟩ := DRadio.rd r3
  subst e0 e1 e2 e3
  have R0 := Lib.hid r0
  have R1 := Lib.hid r1
  have R2 := Lib.hid r2
  have R3 := Lib.hid r3
  have PN0 := Lib.hid p0
  have PN1 := Lib.hid p1
  have PN2 := Lib.hid p2
  have PN3 := Lib.hid p3
  clear r0 r1 r2 r3 p0 p1 p2 p3
  have rs_ := R1.out
  rw [DSector.sT_vs] at rs_
  have RS := Lib.hid (rs_.readsV (by omega))
  obtain ⟨_, _, ee_, hlc, hcm_, -⟩ := DSector.rd R1.out
  injection ee_ with ee1_ _ ee3_
  subst ee1_ ee3_
  unfold maxLen at hcm_
  have ON := Lib.hid (DSector.vs_one n.sectors)
  clear rs_
  have hsl : n.sectors.length ≤ 1048576 := by omega
  have hkn : k ≤ n.sectors.length := by omega
  have kc1 : (k : Int) ≤ (C1 : Int) := by omega
  have kc2 : k ≤ C1 := by omega
  have BB0_ : Below w.heap.size w (w.alloc (.cells #[.slice none 0 0, .slice none 0 0, .slice none 0 0, .slice none 0 0] 35)) := Below.alloc (Below.refl _ _) (by first | exact Nat.le_refl _ | (simp; done) | (simp; omega)) _
  have zz0 : w.heap.size + 1 ≤ (w.alloc (.cells #[.slice none 0 0, .slice none 0 0, .slice none 0 0, .slice none 0 0] 35)).heap.size := by simp
  have k_R : (w.alloc (.cells #[.slice none 0 0, .slice none 0 0, .slice none 0 0, .slice none 0 0] 35)).heap[w.heap.size]? = some (.cells #[.slice none 0 0, .slice none 0 0, .slice none 0 0, .slice none 0 0] 35 (0, 0)) := by
    have h := blkN w #[.slice none 0 0, .slice none 0 0, .slice none 0 0, .slice none 0 0] 35
    exact h
  have KR_0 := Lib.hid k_R
  clear k_R
  have BB_0 := Lib.hid BB0_
  clear BB0_
  go_enter Tryz.func71, Tryz.ntmps71
  go_upto_region 1 with (fail)
  generalize (w.alloc (.cells #[.slice none 0 0, .slice none 0 0, .slice none 0 0, .slice none 0 0] 35)) = W0 at *
  have fR0 := blkC (v := .slice none 0 0) KR_0.out 0 rfl
  have fR1 := blkC (v := .slice none 0 0) KR_0.out 1 rfl
  have fR2 := blkC (v := .slice none 0 0) KR_0.out 2 rfl
  have fR3 := blkC (v := .slice none 0 0) KR_0.out 3 rfl
  go_wp2_with fail
  refine (l14Own_any n _ _ _ _ bp _ ((R0.out.below BB_0.out).mono (by have := BB_0.out.size; omega)) ((R1.out.below BB_0.out).mono (by have := BB_0.out.size; omega)) ((R2.out.below BB_0.out).mono (by have := BB_0.out.size; omega)) ((R3.out.below BB_0.out).mono (by have := BB_0.out.size; omega)) (by have := BB_0.out.size; omega) ((bat BB_0.out bp 0 hbp).trans PN0.out) ((bat BB_0.out bp 1 hbp).trans PN1.out) ((bat BB_0.out bp 2 hbp).trans PN2.out) ((bat BB_0.out bp 3 hbp).trans PN3.out) hs).mono ?_
  rintro e X1 ⟨a0, c0, a1, c1, a2, c2, a3, c3, fp, rfl, hb, ov, iv_⟩
  clear fR0 fR1 fR2 fR3
  have KR_1 := Lib.hid (blkB KR_0.out hb (by omega))
  have BB_1 := Lib.hid (BB_0.out.trans (hb.mono (by omega)))
  have zz1 : W0.heap.size ≤ X1.heap.size := hb.size
  clear KR_0 BB_0 hb
  obtain ⟨f0, f1, f2, f3, fpm, O0, O1, O2, O3, d0, d1, d2⟩ := netSplit ov
  have iv : In (w.heap.size + 1) X1.heap.size fp := iv_.mono (by omega) (Nat.le_refl _)
  clear ov iv_
  have fR0 := blkC (v := .slice none 0 0) KR_1.out 0 rfl
  have fR1 := blkC (v := .slice none 0 0) KR_1.out 1 rfl
  have fR2 := blkC (v := .slice none 0 0) KR_1.out 2 rfl
  have fR3 := blkC (v := .slice none 0 0) KR_1.out 3 rfl
  go_upto_region 2 with (fail)
  clear fR0 fR1 fR2 fR3
  have hbA : Below X1.heap.size X1 (X1.alloc (.cells #[.slice a0 n.sites.length c0, .slice a1 n.sectors.length c1, .slice a2 n.antennas.length c2, .slice a3 n.radios.length c3] 35)) := (Below.refl _ _).alloc (Nat.le_refl _) _
  have kL := blkN X1 #[.slice a0 n.sites.length c0, .slice a1 n.sectors.length c1, .slice a2 n.antennas.length c2, .slice a3 n.radios.length c3] 35
  have zL : X1.heap.size + 1 ≤ (X1.alloc (.cells #[.slice a0 n.sites.length c0, .slice a1 n.sectors.length c1, .slice a2 n.antennas.length c2, .slice a3 n.radios.length c3] 35)).heap.size := by simp
  have P0 := Lib.hid (O0.below (lo := w.heap.size + 1) (hi := X1.heap.size) (fun y hy => iv y ((fpm y).2 (by simp [hy]))) (Nat.le_refl _) hbA)
  have P1 := Lib.hid (O1.below (lo := w.heap.size + 1) (hi := X1.heap.size) (fun y hy => iv y ((fpm y).2 (by simp [hy]))) (Nat.le_refl _) hbA)
  have P2 := Lib.hid (O2.below (lo := w.heap.size + 1) (hi := X1.heap.size) (fun y hy => iv y ((fpm y).2 (by simp [hy]))) (Nat.le_refl _) hbA)
  have P3 := Lib.hid (O3.below (lo := w.heap.size + 1) (hi := X1.heap.size) (fun y hy => iv y ((fpm y).2 (by simp [hy]))) (Nat.le_refl _) hbA)
  clear O0 O1 O2 O3
  generalize (X1.alloc (.cells #[.slice a0 n.sites.length c0, .slice a1 n.sectors.length c1, .slice a2 n.antennas.length c2, .slice a3 n.radios.length c3] 35)) = Y at *
  have KL_2 := Lib.hid kL
  clear kL
  have KR_2 := Lib.hid (blkB KR_1.out hbA (by omega))
  have BB_2 := Lib.hid (BB_1.out.trans (hbA.mono (by omega)))
  have zz2 : X1.heap.size ≤ Y.heap.size := hbA.size
  clear KR_1 BB_1 hbA
  obtain ⟨ti, hi0, hi1, hi2, hi3⟩ := info_parts infoSector
  have IN0 : Hid (In (w.heap.size + 1) X1.heap.size f0) := fun y hy => iv y ((fpm y).2 (by simp [hy]))
  have IN2 : Hid (In (w.heap.size + 1) X1.heap.size f2) := fun y hy => iv y ((fpm y).2 (by simp [hy]))
  have IN3 : Hid (In (w.heap.size + 1) X1.heap.size f3) := fun y hy => iv y ((fpm y).2 (by simp [hy]))
  have hYb : X1.heap.size < Y.heap.size := by omega
  have BW_2 := Lib.hid BB_2.out
  have P0_2 := P0
  have P2_2 := P2
  have P3_2 := P3
  have zY_2 : Y.heap.size ≤ Y.heap.size := Nat.le_refl _
  have fL0 := blkC (v := .slice a0 n.sites.length c0) KL_2.out 0 rfl
  have fL1 := blkC (v := .slice a1 n.sectors.length c1) KL_2.out 1 rfl
  have fL2 := blkC (v := .slice a2 n.antennas.length c2) KL_2.out 2 rfl
  have fL3 := blkC (v := .slice a3 n.radios.length c3) KL_2.out 3 rfl
  have zLz := blkF KL_2.out
  have hnc := (bat BW_2.out bp 1 hbp).trans PN1.out
  have hby : bp < Y.heap.size := by have := BW_2.out.size; omega
  go_wp2_with (at_builtin; refine wpList_append_first rfl (.tmp 8) (.tmp 14) _ rfl 49 ti _ 9 112 Tryz.underlying31 hi0 hi1 hi2 hi3 rfl (by omega) rfl w.heap.size A1 k C1 ((n.sectors.flatMap DSector.vs).take (k * 9)) rfl ((RS.out.below BW_2.out).head hkn) (by omega) (fun u hu => ON.out u (List.mem_of_mem_take hu)) (by simp only [maxLen]; omega) (by omega) ?_; intro a5 c5 Z1 hown1 hb1 hz1; have HO_3 := Lib.hid hown1; have HB1 := Lib.hid hb1; have kl1 := ((hb1.block X1.heap.size (by omega)).trans KL_2.out); have g1 := blkC (v := .slice a1 n.sectors.length c1) kl1 1 rfl; have gz := blkF kl1; clear hown1 hb1 kl1)
  have hb1 := HB1.out
  clear HB1 hnc hby gz g1 fL0 fL1 fL2 fL3 zLz
  have KR_3 := Lib.hid ((hb1.block (w.heap.size) (by omega)).trans KR_2.out)
  have KL_3 := Lib.hid ((hb1.block (X1.heap.size) (by omega)).trans KL_2.out)
  have BW_3 := Lib.hid (BW_2.out.trans (hb1.mono (by omega)))
  have P0_3 := Lib.hid (P0_2.out.below IN0.out (by omega) hb1)
  have P2_3 := Lib.hid (P2_2.out.below IN2.out (by omega) hb1)
  have P3_3 := Lib.hid (P3_2.out.below IN3.out (by omega) hb1)
  have zY_3 : Y.heap.size ≤ Z1.heap.size := by have := hb1.size; omega
  clear KR_2 KL_2 BW_2 P0_2 P2_2 P3_2
  clear hb1
  have KR_4 : Hid ((Z1.setCell ⟨X1.heap.size, 1, none⟩ (.slice a5 k c5)).heap[(w.heap.size)]? = _) := Lib.hid (blkO KR_3.out (p := ⟨X1.heap.size, 1, none⟩) (by show w.heap.size ≠ X1.heap.size; omega) (.slice a5 k c5))
  have kl_ : (Z1.setCell ⟨X1.heap.size, 1, none⟩ (.slice a5 k c5)).heap[X1.heap.size]? = some (.cells #[.slice a0 n.sites.length c0, .slice a5 k c5, .slice a2 n.antennas.length c2, .slice a3 n.radios.length c3] 35 (0, 0)) := by
    have h_ := blkS KL_3.out 1 (.slice a5 k c5)
    simpa using h_
  have KL_4 := Lib.hid kl_
  clear kl_
  have BW_4 := Lib.hid (BW_3.out.setCell (p := ⟨X1.heap.size, 1, none⟩) (by show w.heap.size ≤ X1.heap.size; omega) (.slice a5 k c5))
  have P0_4 := Lib.hid (P0_3.out.frame (w' := (Z1.setCell ⟨X1.heap.size, 1, none⟩ (.slice a5 k c5))) (fun b hb => Below.heap_setCell _ _ _ b (by have := (IN0.out b hb).2; show b ≠ X1.heap.size; omega)))
  have P2_4 := Lib.hid (P2_3.out.frame (w' := (Z1.setCell ⟨X1.heap.size, 1, none⟩ (.slice a5 k c5))) (fun b hb => Below.heap_setCell _ _ _ b (by have := (IN2.out b hb).2; show b ≠ X1.heap.size; omega)))
  have P3_4 := Lib.hid (P3_3.out.frame (w' := (Z1.setCell ⟨X1.heap.size, 1, none⟩ (.slice a5 k c5))) (fun b hb => Below.heap_setCell _ _ _ b (by have := (IN3.out b hb).2; show b ≠ X1.heap.size; omega)))
  have zY_4 : Y.heap.size ≤ (Z1.setCell ⟨X1.heap.size, 1, none⟩ (.slice a5 k c5)).heap.size := by rw [size_setCell]; omega
  have HO_4 := Lib.hid (ownsRow_frame (w' := (Z1.setCell ⟨X1.heap.size, 1, none⟩ (.slice a5 k c5))) HO_3.out (fun g hg => Below.heap_setCell _ _ _ g (by have := (ownsRow_block HO_3.out hg).1; show g ≠ X1.heap.size; omega)))
  clear KR_3 KL_3 BW_3 P0_3 P2_3 P3_3
  clear HO_3
  generalize (Z1.setCell ⟨X1.heap.size, 1, none⟩ (.slice a5 k c5)) = Z2 at *
  have kd1 : (k : Int) + 1 ≤ (n.sectors.length : Int) := by omega
  have kd2 : IntKind.i64.wrap ((k : Int) + 1) = (k : Int) + 1 := IntWalk.i64_in _ (by omega)
  have kd3 : (0 : Int) ≤ (k : Int) + 1 := by omega
  have kd4 : ((k : Int) + 1).toNat = k + 1 := by omega
  have fL0 := blkC (v := .slice a0 n.sites.length c0) KL_4.out 0 rfl
  have fL1 := blkC (v := .slice a5 k c5) KL_4.out 1 rfl
  have fL2 := blkC (v := .slice a2 n.antennas.length c2) KL_4.out 2 rfl
  have fL3 := blkC (v := .slice a3 n.radios.length c3) KL_4.out 3 rfl
  have zLz := blkF KL_4.out
  have fN_ : Z2.cell? ⟨bp, 1, none⟩ = some (.slice A1 n.sectors.length C1) := (bat BW_4.out bp 1 hbp).trans PN1.out
  refine wp_region_ord 9 [(0, true), (1, true), (2, true), (3, true), (4, true), (5, true), (6, true), (7, true), (8, true)] (fun W => W.cell? ⟨X1.heap.size, 1, none⟩ = some (.slice a5 k c5) ∧ W.cell? ⟨bp, 1, none⟩ = some (.slice A1 n.sectors.length C1)) (by kernel_rfl) (by kernel_rfl) ⟨fL1, fN_⟩ (fun hHeld => ?_)
  refine wpOrd_read (v := ?_) rfl (fun _ _ _ h => h) ?_ ?_
  rotate_left
  · (intro W hSW; (try dsimp only at hSW); (go_simp <;> with_reducible rfl))
  (try simp only [Act.put, List.setIfInBounds_toArray, List.set_cons_zero, List.set_cons_succ])
  refine wpOrd_read (v := ?_) rfl (fun _ _ _ h => h) ?_ ?_
  rotate_left
  · (intro W hSW; (try dsimp only at hSW); (go_simp <;> with_reducible rfl))
  (try simp only [Act.put, List.setIfInBounds_toArray, List.set_cons_zero, List.set_cons_succ])
  refine wpOrd_read (v := ?_) rfl (fun _ _ _ h => h) ?_ ?_
  rotate_left
  · (intro W hSW; (try dsimp only at hSW); (go_simp <;> with_reducible rfl))
  (try simp only [Act.put, List.setIfInBounds_toArray, List.set_cons_zero, List.set_cons_succ])
  refine wpOrd_read (v := ?_) rfl (fun _ _ _ h => h) ?_ ?_
  rotate_left
  · (intro W hSW; (try dsimp only at hSW); (go_simp <;> with_reducible rfl))
  (try simp only [Act.put, List.setIfInBounds_toArray, List.set_cons_zero, List.set_cons_succ])
  refine wpOrd_read (v := ?_) rfl (fun _ _ _ h => h) ?_ ?_
  rotate_left
  · (intro W hSW; (try dsimp only at hSW); (go_simp <;> with_reducible rfl))
  (try simp only [Act.put, List.setIfInBounds_toArray, List.set_cons_zero, List.set_cons_succ])
  refine wpOrd_read (v := ?_) rfl (fun _ _ _ h => h) ?_ ?_
  rotate_left
  · (intro W hSW; (try dsimp only at hSW); (go_simp <;> with_reducible rfl))
  (try simp only [Act.put, List.setIfInBounds_toArray, List.set_cons_zero, List.set_cons_succ])
  refine wpOrd_read (v := ?_) rfl (fun _ _ _ h => h) ?_ ?_
  rotate_left
  · (intro W hSW; (try dsimp only at hSW); (go_simp <;> with_reducible rfl))
  (try simp only [Act.put, List.setIfInBounds_toArray, List.set_cons_zero, List.set_cons_succ])
  refine wpOrd_read (v := ?_) rfl (fun _ _ _ h => h) ?_ ?_
  rotate_left
  · (intro W hSW; (try dsimp only at hSW); (go_simp <;> with_reducible rfl))
  (try simp only [Act.put, List.setIfInBounds_toArray, List.set_cons_zero, List.set_cons_succ])
  refine wpOrd_read (v := ?_) rfl (fun _ _ _ h => h) ?_ ?_
  rotate_left
  · (intro W hSW; (try dsimp only at hSW); (go_simp <;> with_reducible rfl))
  (try simp only [Act.put, List.setIfInBounds_toArray, List.set_cons_zero, List.set_cons_succ])
  refine wpOrd_nil ?_
  simp only [List.drop_succ_cons, List.drop_zero]
  clear fN_ fL0 fL1 fL2 fL3 zLz
  refine wpList_append_more rfl (.tmp 18) (.tmp 25) _ rfl Y.heap.size 49 ti _ 9 112 Tryz.underlying31 hi0 hi1 hi2 hi3 rfl (by omega) (.slice a5 k c5) _ _ rfl HO_4.out.drew w.heap.size (if C1 = k + 1 then A1 else A1.map (·.add ((k + 1) * 9))) (n.sectors.length - (k + 1)) (C1 - (k + 1)) ((n.sectors.flatMap DSector.vs).drop ((k + 1) * 9)) rfl ((RS.out.below (BW_4.out.drew)).cut (by omega) (by omega)) (fun u hu => ON.out u (List.mem_of_mem_drop hu)) (by simp only [maxLen]; omega) (by omega) (by show Y.heap.size ≤ Z2.heap.size; omega) ?_
  intro a6 c6 Z3 hown hb
  have HO_5 := Lib.hid hown
  clear hown
  have hbd : Below Y.heap.size Z2 Z3 := ((Below.refl _ _).drew).trans hb
  clear hb
  have KR_5 := Lib.hid ((hbd.block (w.heap.size) (by omega)).trans KR_4.out)
  have KL_5 := Lib.hid ((hbd.block (X1.heap.size) (by omega)).trans KL_4.out)
  have BW_5 := Lib.hid (BW_4.out.trans (hbd.mono (by omega)))
  have P0_5 := Lib.hid (P0_4.out.below IN0.out (by omega) hbd)
  have P2_5 := Lib.hid (P2_4.out.below IN2.out (by omega) hbd)
  have P3_5 := Lib.hid (P3_4.out.below IN3.out (by omega) hbd)
  have zY_5 : Y.heap.size ≤ Z3.heap.size := by have := hbd.size; omega
  clear KR_4 KL_4 BW_4 P0_4 P2_4 P3_4
  clear hbd HO_4
  clear kd1 kd2 kd3 kd4
  have hle : (n.sectors.eraseIdx k).length = k + (n.sectors.length - (k + 1)) := by rw [List.length_eraseIdx_of_lt hk]; omega
  obtain ⟨ax, cx, fq, ex_, oq, iq⟩ := ownsRow_own (lo := Y.heap.size) HO_5.out (by omega) (Nat.le_refl _)
  injection ex_ with ex1 _ ex3
  subst ex1 ex3
  have oq2 : Own Z3 (DSector.sT (n.sectors.eraseIdx k)) (.slice a6 (k + (n.sectors.length - (k + 1))) c6) fq := by rw [DSector.sT_vs, erase_flatv DSector.vs 9 DSector.vs_len n.sectors k]; exact oq
  have ov := netJoin (n := { n with sectors := n.sectors.eraseIdx k }) P0_5.out oq2 P2_5.out P3_5.out (fun y hy => ⟨fun h => (by have := (IN0.out y hy).2; have := (iq y h).1; omega), (d0 y hy).2⟩) (fun y hy => ⟨fun h => (by have := (IN2.out y h).2; have := (iq y hy).1; omega), fun h => (by have := (IN3.out y h).2; have := (iq y hy).1; omega)⟩) d2
  have ivn : ∀ y ∈ (f0 ++ (fq ++ (f2 ++ (f3 ++ [])))), (w.heap.size + 1 ≤ y ∧ y < Z3.heap.size) ∧ y ≠ X1.heap.size ∧ y ≠ w.heap.size := fun y hy => by
    simp only [List.mem_append, List.not_mem_nil, or_false] at hy
    rcases hy with h | h | h | h
    · have := IN0.out y h; omega
    · have := iq y h; omega
    · have := IN2.out y h; omega
    · have := IN3.out y h; omega
  have BF := Lib.hid ((((((BW_5.out).setCell (p := ⟨X1.heap.size, 1, none⟩) (by show w.heap.size ≤ X1.heap.size; omega) (.slice a6 (k + (n.sectors.length - (k + 1))) c6)).setCell (p := ⟨w.heap.size, 0, none⟩) (by show w.heap.size ≤ w.heap.size; omega) (.slice a0 n.sites.length c0)).setCell (p := ⟨w.heap.size, 1, none⟩) (by show w.heap.size ≤ w.heap.size; omega) (.slice a6 (k + (n.sectors.length - (k + 1))) c6)).setCell (p := ⟨w.heap.size, 2, none⟩) (by show w.heap.size ≤ w.heap.size; omega) (.slice a2 n.antennas.length c2)).setCell (p := ⟨w.heap.size, 3, none⟩) (by show w.heap.size ≤ w.heap.size; omega) (.slice a3 n.radios.length c3))
  have OF := Lib.hid ((((((ov).setFar (p := ⟨X1.heap.size, 1, none⟩) (fun e => (ivn _ e).2.1 rfl) (.slice a6 (k + (n.sectors.length - (k + 1))) c6)).setFar (p := ⟨w.heap.size, 0, none⟩) (fun e => (ivn _ e).2.2 rfl) (.slice a0 n.sites.length c0)).setFar (p := ⟨w.heap.size, 1, none⟩) (fun e => (ivn _ e).2.2 rfl) (.slice a6 (k + (n.sectors.length - (k + 1))) c6)).setFar (p := ⟨w.heap.size, 2, none⟩) (fun e => (ivn _ e).2.2 rfl) (.slice a2 n.antennas.length c2)).setFar (p := ⟨w.heap.size, 3, none⟩) (fun e => (ivn _ e).2.2 rfl) (.slice a3 n.radios.length c3))
  have IVF : Hid (In w.heap.size Z3.heap.size (f0 ++ (fq ++ (f2 ++ (f3 ++ []))))) := fun y hy => by have := (ivn y hy).1; omega
  clear ivn ov d0 d1 d2 fpm iv oq oq2 iq
  have fL0 := blkC (v := .slice a0 n.sites.length c0) KL_5.out 0 rfl
  have fL1 := blkC (v := .slice a5 k c5) KL_5.out 1 rfl
  have fL2 := blkC (v := .slice a2 n.antennas.length c2) KL_5.out 2 rfl
  have fL3 := blkC (v := .slice a3 n.radios.length c3) KL_5.out 3 rfl
  have zLz := blkF KL_5.out
  have fR0 := blkC (v := .slice none 0 0) KR_5.out 0 rfl
  have fR1 := blkC (v := .slice none 0 0) KR_5.out 1 rfl
  have fR2 := blkC (v := .slice none 0 0) KR_5.out 2 rfl
  have fR3 := blkC (v := .slice none 0 0) KR_5.out 3 rfl
  have zR := blkF KR_5.out
  have hneR : X1.heap.size ≠ (w.heap.size) := by omega
  go_wp2
  all_goals
    refine bodyPost_ret (v := .agg #[.slice a0 n.sites.length c0, .slice a6 (k + (n.sectors.length - (k + 1))) c6, .slice a2 n.antennas.length c2, .slice a3 n.radios.length c3]) (by simp [results, Tryz.results71, go_sem, *]) rfl ?_
    unfold NetP
    simp only [hle]
    refine ⟨a0, c0, a6, c6, a2, c2, a3, c3, _, rfl, BF.out, OF.out, ?_⟩
    simp only [size_setCell]
    exact IVF.out
set_option maxHeartbeats 8000000 in
set_option maxRecDepth 100000 in
theorem sDropSector_std (n : DNetwork) (nm : ByteArray) (vn0 vn1 vn2 vn3 : Value) (w : World) (rn0 : Rd w.heap.size w (DSite.sT n.sites) vn0) (rn1 : Rd w.heap.size w (DSector.sT n.sectors) vn1) (rn2 : Rd w.heap.size w (DAntenna.sT n.antennas) vn2) (rn3 : Rd w.heap.size w (DRadio.sT n.radios) vn3) (hs_n : sizL n.tr ≤ 1048576) (hk_n : n.ok) (hs_nm : nm.size ≤ 1048576) :
    Calls Tryz.prog 25 #[.agg #[vn0, vn1, vn2, vn3], .string nm] w (fun e w' => ∃ a0_0 c0_0 a0_1 c0_1 a0_2 c0_2 a0_3 c0_3 fp0, e = .returned (.tuple #[.agg #[.slice a0_0 (dropSecR n nm).1.sites.length c0_0, .slice a0_1 (dropSecR n nm).1.sectors.length c0_1, .slice a0_2 (dropSecR n nm).1.antennas.length c0_2, .slice a0_3 (dropSecR n nm).1.radios.length c0_3], .int .i64 (dropSecR n nm).2]) ∧ Below w.heap.size w w' ∧ OwnV w' (dropSecR n nm).1.tr [.slice a0_0 (dropSecR n nm).1.sites.length c0_0, .slice a0_1 (dropSecR n nm).1.sectors.length c0_1, .slice a0_2 (dropSecR n nm).1.antennas.length c0_2, .slice a0_3 (dropSecR n nm).1.radios.length c0_3] fp0 ∧ In w.heap.size w'.heap.size fp0) := by
  have hq := DNetwork.siz_tr n
  rw [DSite.siz_s, DSector.siz_s, DAntenna.siz_s, DRadio.siz_s] at hq
  obtain ⟨A0, C0, e0, -, -, -⟩ := DSite.rd rn0
  obtain ⟨A1, C1, e1, -, -, -⟩ := DSector.rd rn1
  obtain ⟨A2, C2, e2, -, -, -⟩ := DAntenna.rd rn2
  obtain ⟨A3, C3, e3, -, -, -⟩ := DRadio.rd rn3
  subst e0 e1 e2 e3
  have R0 := Lib.hid rn0
  have R1 := Lib.hid rn1
  have R2 := Lib.hid rn2
  have R3 := Lib.hid rn3
  clear rn0 rn1 rn2 rn3
  by_cases hv : netB n = true
  case neg =>
    replace hv : netB n = false := Bool.eq_false_iff.2 hv
    have HE := Lib.hid (dropSecR_bad (nm := nm) hv)
    have BB0_ : Below w.heap.size w ((w.alloc (.cells #[.slice A0 n.sites.length C0, .slice A1 n.sectors.length C1, .slice A2 n.antennas.length C2, .slice A3 n.radios.length C3] 35)).alloc (.cells #[.slice none 0 0, .slice none 0 0, .slice none 0 0, .slice none 0 0] 35)) := Below.alloc (Below.alloc (Below.refl _ _) (by first | exact Nat.le_refl _ | (simp; done) | (simp; omega)) _) (by first | exact Nat.le_refl _ | (simp; done) | (simp; omega)) _
    have zz0 : w.heap.size + 2 ≤ ((w.alloc (.cells #[.slice A0 n.sites.length C0, .slice A1 n.sectors.length C1, .slice A2 n.antennas.length C2, .slice A3 n.radios.length C3] 35)).alloc (.cells #[.slice none 0 0, .slice none 0 0, .slice none 0 0, .slice none 0 0] 35)).heap.size := by simp
    have k_N : ((w.alloc (.cells #[.slice A0 n.sites.length C0, .slice A1 n.sectors.length C1, .slice A2 n.antennas.length C2, .slice A3 n.radios.length C3] 35)).alloc (.cells #[.slice none 0 0, .slice none 0 0, .slice none 0 0, .slice none 0 0] 35)).heap[w.heap.size]? = some (.cells #[.slice A0 n.sites.length C0, .slice A1 n.sectors.length C1, .slice A2 n.antennas.length C2, .slice A3 n.radios.length C3] 35 (0, 0)) := by
      have h := blkN w #[.slice A0 n.sites.length C0, .slice A1 n.sectors.length C1, .slice A2 n.antennas.length C2, .slice A3 n.radios.length C3] 35
      replace h := blkA h (by first | (simp; done) | (simp; omega)) (.cells #[.slice none 0 0, .slice none 0 0, .slice none 0 0, .slice none 0 0] 35)
      exact h
    have KN_0 := Lib.hid k_N
    have k_R : ((w.alloc (.cells #[.slice A0 n.sites.length C0, .slice A1 n.sectors.length C1, .slice A2 n.antennas.length C2, .slice A3 n.radios.length C3] 35)).alloc (.cells #[.slice none 0 0, .slice none 0 0, .slice none 0 0, .slice none 0 0] 35)).heap[w.heap.size + 1]? = some (.cells #[.slice none 0 0, .slice none 0 0, .slice none 0 0, .slice none 0 0] 35 (0, 0)) := by
      have h := blkN (w.alloc (.cells #[.slice A0 n.sites.length C0, .slice A1 n.sectors.length C1, .slice A2 n.antennas.length C2, .slice A3 n.radios.length C3] 35)) #[.slice none 0 0, .slice none 0 0, .slice none 0 0, .slice none 0 0] 35
      rw [show (w.alloc (.cells #[.slice A0 n.sites.length C0, .slice A1 n.sectors.length C1, .slice A2 n.antennas.length C2, .slice A3 n.radios.length C3] 35)).heap.size = w.heap.size + 1 by simp] at h
      exact h
    have KR_0 := Lib.hid k_R
    clear k_N k_R
    have BB_0 := Lib.hid BB0_
    clear BB0_
    go_enter Tryz.func25, Tryz.ntmps25
    go_upto_region 1 with (fail)
    generalize ((w.alloc (.cells #[.slice A0 n.sites.length C0, .slice A1 n.sectors.length C1, .slice A2 n.antennas.length C2, .slice A3 n.radios.length C3] 35)).alloc (.cells #[.slice none 0 0, .slice none 0 0, .slice none 0 0, .slice none 0 0] 35)) = W0 at *
    have fN0 := blkC (v := .slice A0 n.sites.length C0) KN_0.out 0 rfl
    have fN1 := blkC (v := .slice A1 n.sectors.length C1) KN_0.out 1 rfl
    have fN2 := blkC (v := .slice A2 n.antennas.length C2) KN_0.out 2 rfl
    have fN3 := blkC (v := .slice A3 n.radios.length C3) KN_0.out 3 rfl
    have fR0 := blkC (v := .slice none 0 0) KR_0.out 0 rfl
    have fR1 := blkC (v := .slice none 0 0) KR_0.out 1 rfl
    have fR2 := blkC (v := .slice none 0 0) KR_0.out 2 rfl
    have fR3 := blkC (v := .slice none 0 0) KR_0.out 3 rfl
    go_wp2_with fail
    refine (l14Ok_any n _ _ _ _ w.heap.size _ ((R0.out.below BB_0.out).mono (by have := BB_0.out.size; omega)) ((R1.out.below BB_0.out).mono (by have := BB_0.out.size; omega)) ((R2.out.below BB_0.out).mono (by have := BB_0.out.size; omega)) ((R3.out.below BB_0.out).mono (by have := BB_0.out.size; omega)) (by omega) (blkC KN_0.out 0 rfl) (blkC KN_0.out 1 rfl) (blkC KN_0.out 2 rfl) (blkC KN_0.out 3 rfl) (by omega) hk_n).mono ?_
    rintro e X1 ⟨rfl, hb⟩
    clear fN0 fN1 fN2 fN3 fR0 fR1 fR2 fR3
    have KN_1 := Lib.hid (blkB KN_0.out hb (by omega))
    have KR_1 := Lib.hid (blkB KR_0.out hb (by omega))
    have BB_1 := Lib.hid (BB_0.out.trans (hb.mono (by omega)))
    have zz1 : W0.heap.size ≤ X1.heap.size := hb.size
    clear KN_0 KR_0 BB_0 hb
    rw [hv]
    have fN0 := blkC (v := .slice A0 n.sites.length C0) KN_1.out 0 rfl
    have fN1 := blkC (v := .slice A1 n.sectors.length C1) KN_1.out 1 rfl
    have fN2 := blkC (v := .slice A2 n.antennas.length C2) KN_1.out 2 rfl
    have fN3 := blkC (v := .slice A3 n.radios.length C3) KN_1.out 3 rfl
    have fR0 := blkC (v := .slice none 0 0) KR_1.out 0 rfl
    have fR1 := blkC (v := .slice none 0 0) KR_1.out 1 rfl
    have fR2 := blkC (v := .slice none 0 0) KR_1.out 2 rfl
    have fR3 := blkC (v := .slice none 0 0) KR_1.out 3 rfl
    have zR := blkF KR_1.out
    go_wp2
    have BF := Lib.hid (((((BB_1.out).setCell (p := ⟨w.heap.size + 1, 0, none⟩) (by show w.heap.size ≤ w.heap.size + 1; omega) (.slice none 0 0)).setCell (p := ⟨w.heap.size + 1, 1, none⟩) (by show w.heap.size ≤ w.heap.size + 1; omega) (.slice none 0 0)).setCell (p := ⟨w.heap.size + 1, 2, none⟩) (by show w.heap.size ≤ w.heap.size + 1; omega) (.slice none 0 0)).setCell (p := ⟨w.heap.size + 1, 3, none⟩) (by show w.heap.size ≤ w.heap.size + 1; omega) (.slice none 0 0))
    refine bodyPost_ret (v := .tuple #[.agg #[.slice none 0 0, .slice none 0 0, .slice none 0 0, .slice none 0 0], .int .i64 1]) (by simp [results, Tryz.results25, go_sem, *]) rfl ?_
    rw [HE.out]
    first | exact ⟨none, 0, none, 0, none, 0, none, 0, [], rfl, BF.out, ownV_zero _, In.nil⟩ | exact ⟨none, 0, none, 0, none, 0, none, 0, rfl, BF.out, [], ownV_zero _, In.nil⟩
  rcases firstIdx_cases' (fun y : DSector => eqS y.name nm) n.sectors with ⟨hi, _⟩ | ⟨k, hk, hi, _, _⟩
  · have HE := Lib.hid (dropSecR_none hv hi)
    have HI : Hid (idxSector n.sectors nm = -1) := hi
    clear hi
    have BB0_ : Below w.heap.size w ((w.alloc (.cells #[.slice A0 n.sites.length C0, .slice A1 n.sectors.length C1, .slice A2 n.antennas.length C2, .slice A3 n.radios.length C3] 35)).alloc (.cells #[.slice none 0 0, .slice none 0 0, .slice none 0 0, .slice none 0 0] 35)) := Below.alloc (Below.alloc (Below.refl _ _) (by first | exact Nat.le_refl _ | (simp; done) | (simp; omega)) _) (by first | exact Nat.le_refl _ | (simp; done) | (simp; omega)) _
    have zz0 : w.heap.size + 2 ≤ ((w.alloc (.cells #[.slice A0 n.sites.length C0, .slice A1 n.sectors.length C1, .slice A2 n.antennas.length C2, .slice A3 n.radios.length C3] 35)).alloc (.cells #[.slice none 0 0, .slice none 0 0, .slice none 0 0, .slice none 0 0] 35)).heap.size := by simp
    have k_N : ((w.alloc (.cells #[.slice A0 n.sites.length C0, .slice A1 n.sectors.length C1, .slice A2 n.antennas.length C2, .slice A3 n.radios.length C3] 35)).alloc (.cells #[.slice none 0 0, .slice none 0 0, .slice none 0 0, .slice none 0 0] 35)).heap[w.heap.size]? = some (.cells #[.slice A0 n.sites.length C0, .slice A1 n.sectors.length C1, .slice A2 n.antennas.length C2, .slice A3 n.radios.length C3] 35 (0, 0)) := by
      have h := blkN w #[.slice A0 n.sites.length C0, .slice A1 n.sectors.length C1, .slice A2 n.antennas.length C2, .slice A3 n.radios.length C3] 35
      replace h := blkA h (by first | (simp; done) | (simp; omega)) (.cells #[.slice none 0 0, .slice none 0 0, .slice none 0 0, .slice none 0 0] 35)
      exact h
    have KN_0 := Lib.hid k_N
    have k_R : ((w.alloc (.cells #[.slice A0 n.sites.length C0, .slice A1 n.sectors.length C1, .slice A2 n.antennas.length C2, .slice A3 n.radios.length C3] 35)).alloc (.cells #[.slice none 0 0, .slice none 0 0, .slice none 0 0, .slice none 0 0] 35)).heap[w.heap.size + 1]? = some (.cells #[.slice none 0 0, .slice none 0 0, .slice none 0 0, .slice none 0 0] 35 (0, 0)) := by
      have h := blkN (w.alloc (.cells #[.slice A0 n.sites.length C0, .slice A1 n.sectors.length C1, .slice A2 n.antennas.length C2, .slice A3 n.radios.length C3] 35)) #[.slice none 0 0, .slice none 0 0, .slice none 0 0, .slice none 0 0] 35
      rw [show (w.alloc (.cells #[.slice A0 n.sites.length C0, .slice A1 n.sectors.length C1, .slice A2 n.antennas.length C2, .slice A3 n.radios.length C3] 35)).heap.size = w.heap.size + 1 by simp] at h
      exact h
    have KR_0 := Lib.hid k_R
    clear k_N k_R
    have BB_0 := Lib.hid BB0_
    clear BB0_
    go_enter Tryz.func25, Tryz.ntmps25
    go_upto_region 1 with (fail)
    generalize ((w.alloc (.cells #[.slice A0 n.sites.length C0, .slice A1 n.sectors.length C1, .slice A2 n.antennas.length C2, .slice A3 n.radios.length C3] 35)).alloc (.cells #[.slice none 0 0, .slice none 0 0, .slice none 0 0, .slice none 0 0] 35)) = W0 at *
    have fN0 := blkC (v := .slice A0 n.sites.length C0) KN_0.out 0 rfl
    have fN1 := blkC (v := .slice A1 n.sectors.length C1) KN_0.out 1 rfl
    have fN2 := blkC (v := .slice A2 n.antennas.length C2) KN_0.out 2 rfl
    have fN3 := blkC (v := .slice A3 n.radios.length C3) KN_0.out 3 rfl
    have fR0 := blkC (v := .slice none 0 0) KR_0.out 0 rfl
    have fR1 := blkC (v := .slice none 0 0) KR_0.out 1 rfl
    have fR2 := blkC (v := .slice none 0 0) KR_0.out 2 rfl
    have fR3 := blkC (v := .slice none 0 0) KR_0.out 3 rfl
    go_wp2_with fail
    refine (l14Ok_any n _ _ _ _ w.heap.size _ ((R0.out.below BB_0.out).mono (by have := BB_0.out.size; omega)) ((R1.out.below BB_0.out).mono (by have := BB_0.out.size; omega)) ((R2.out.below BB_0.out).mono (by have := BB_0.out.size; omega)) ((R3.out.below BB_0.out).mono (by have := BB_0.out.size; omega)) (by omega) (blkC KN_0.out 0 rfl) (blkC KN_0.out 1 rfl) (blkC KN_0.out 2 rfl) (blkC KN_0.out 3 rfl) (by omega) hk_n).mono ?_
    rintro e X1 ⟨rfl, hb⟩
    clear fN0 fN1 fN2 fN3 fR0 fR1 fR2 fR3
    have KN_1 := Lib.hid (blkB KN_0.out hb (by omega))
    have KR_1 := Lib.hid (blkB KR_0.out hb (by omega))
    have BB_1 := Lib.hid (BB_0.out.trans (hb.mono (by omega)))
    have zz1 : W0.heap.size ≤ X1.heap.size := hb.size
    clear KN_0 KR_0 BB_0 hb
    rw [hv]
    have fN0 := blkC (v := .slice A0 n.sites.length C0) KN_1.out 0 rfl
    have fN1 := blkC (v := .slice A1 n.sectors.length C1) KN_1.out 1 rfl
    have fN2 := blkC (v := .slice A2 n.antennas.length C2) KN_1.out 2 rfl
    have fN3 := blkC (v := .slice A3 n.radios.length C3) KN_1.out 3 rfl
    have fR0 := blkC (v := .slice none 0 0) KR_1.out 0 rfl
    have fR1 := blkC (v := .slice none 0 0) KR_1.out 1 rfl
    have fR2 := blkC (v := .slice none 0 0) KR_1.out 2 rfl
    have fR3 := blkC (v := .slice none 0 0) KR_1.out 3 rfl
    go_wp2_with fail
    refine (l14Find_any n.sectors nm _ w.heap.size w.heap.size _ (R1.out.below BB_1.out) (by have := BB_1.out.size; omega) (blkC KN_1.out 1 rfl) (by omega)).mono ?_
    rintro e _ ⟨rfl, rfl⟩
    clear fN0 fN1 fN2 fN3 fR0 fR1 fR2 fR3
    rw [HI.out]
    have fN0 := blkC (v := .slice A0 n.sites.length C0) KN_1.out 0 rfl
    have fN1 := blkC (v := .slice A1 n.sectors.length C1) KN_1.out 1 rfl
    have fN2 := blkC (v := .slice A2 n.antennas.length C2) KN_1.out 2 rfl
    have fN3 := blkC (v := .slice A3 n.radios.length C3) KN_1.out 3 rfl
    have fR0 := blkC (v := .slice none 0 0) KR_1.out 0 rfl
    have fR1 := blkC (v := .slice none 0 0) KR_1.out 1 rfl
    have fR2 := blkC (v := .slice none 0 0) KR_1.out 2 rfl
    have fR3 := blkC (v := .slice none 0 0) KR_1.out 3 rfl
    have zR := blkF KR_1.out
    go_wp2
    have BF := Lib.hid (((((BB_1.out).setCell (p := ⟨w.heap.size + 1, 0, none⟩) (by show w.heap.size ≤ w.heap.size + 1; omega) (.slice none 0 0)).setCell (p := ⟨w.heap.size + 1, 1, none⟩) (by show w.heap.size ≤ w.heap.size + 1; omega) (.slice none 0 0)).setCell (p := ⟨w.heap.size + 1, 2, none⟩) (by show w.heap.size ≤ w.heap.size + 1; omega) (.slice none 0 0)).setCell (p := ⟨w.heap.size + 1, 3, none⟩) (by show w.heap.size ≤ w.heap.size + 1; omega) (.slice none 0 0))
    refine bodyPost_ret (v := .tuple #[.agg #[.slice none 0 0, .slice none 0 0, .slice none 0 0, .slice none 0 0], .int .i64 3]) (by simp [results, Tryz.results25, go_sem, *]) rfl ?_
    rw [HE.out]
    first | exact ⟨none, 0, none, 0, none, 0, none, 0, [], rfl, BF.out, ownV_zero _, In.nil⟩ | exact ⟨none, 0, none, 0, none, 0, none, 0, rfl, BF.out, [], ownV_zero _, In.nil⟩
  have HE := Lib.hid (dropSecR_ok hv hi)
  have HI : Hid (idxSector n.sectors nm = (k : Int)) := hi
  clear hi
  have hsl : n.sectors.length ≤ 1048576 := by omega
  have BB0_ : Below w.heap.size w ((w.alloc (.cells #[.slice A0 n.sites.length C0, .slice A1 n.sectors.length C1, .slice A2 n.antennas.length C2, .slice A3 n.radios.length C3] 35)).alloc (.cells #[.slice none 0 0, .slice none 0 0, .slice none 0 0, .slice none 0 0] 35)) := Below.alloc (Below.alloc (Below.refl _ _) (by first | exact Nat.le_refl _ | (simp; done) | (simp; omega)) _) (by first | exact Nat.le_refl _ | (simp; done) | (simp; omega)) _
  have zz0 : w.heap.size + 2 ≤ ((w.alloc (.cells #[.slice A0 n.sites.length C0, .slice A1 n.sectors.length C1, .slice A2 n.antennas.length C2, .slice A3 n.radios.length C3] 35)).alloc (.cells #[.slice none 0 0, .slice none 0 0, .slice none 0 0, .slice none 0 0] 35)).heap.size := by simp
  have k_N : ((w.alloc (.cells #[.slice A0 n.sites.length C0, .slice A1 n.sectors.length C1, .slice A2 n.antennas.length C2, .slice A3 n.radios.length C3] 35)).alloc (.cells #[.slice none 0 0, .slice none 0 0, .slice none 0 0, .slice none 0 0] 35)).heap[w.heap.size]? = some (.cells #[.slice A0 n.sites.length C0, .slice A1 n.sectors.length C1, .slice A2 n.antennas.length C2, .slice A3 n.radios.length C3] 35 (0, 0)) := by
    have h := blkN w #[.slice A0 n.sites.length C0, .slice A1 n.sectors.length C1, .slice A2 n.antennas.length C2, .slice A3 n.radios.length C3] 35
    replace h := blkA h (by first | (simp; done) | (simp; omega)) (.cells #[.slice none 0 0, .slice none 0 0, .slice none 0 0, .slice none 0 0] 35)
    exact h
  have KN_0 := Lib.hid k_N
  have k_R : ((w.alloc (.cells #[.slice A0 n.sites.length C0, .slice A1 n.sectors.length C1, .slice A2 n.antennas.length C2, .slice A3 n.radios.length C3] 35)).alloc (.cells #[.slice none 0 0, .slice none 0 0, .slice none 0 0, .slice none 0 0] 35)).heap[w.heap.size + 1]? = some (.cells #[.slice none 0 0, .slice none 0 0, .slice none 0 0, .slice none 0 0] 35 (0, 0)) := by
    have h := blkN (w.alloc (.cells #[.slice A0 n.sites.length C0, .slice A1 n.sectors.length C1, .slice A2 n.antennas.length C2, .slice A3 n.radios.length C3] 35)) #[.slice none 0 0, .slice none 0 0, .slice none 0 0, .slice none 0 0] 35
    rw [show (w.alloc (.cells #[.slice A0 n.sites.length C0, .slice A1 n.sectors.length C1, .slice A2 n.antennas.length C2, .slice A3 n.radios.length C3] 35)).heap.size = w.heap.size + 1 by simp] at h
    exact h
  have KR_0 := Lib.hid k_R
  clear k_N k_R
  have BB_0 := Lib.hid BB0_
  clear BB0_
  go_enter Tryz.func25, Tryz.ntmps25
  go_upto_region 1 with (fail)
  generalize ((w.alloc (.cells #[.slice A0 n.sites.length C0, .slice A1 n.sectors.length C1, .slice A2 n.antennas.length C2, .slice A3 n.radios.length C3] 35)).alloc (.cells #[.slice none 0 0, .slice none 0 0, .slice none 0 0, .slice none 0 0] 35)) = W0 at *
  have fN0 := blkC (v := .slice A0 n.sites.length C0) KN_0.out 0 rfl
  have fN1 := blkC (v := .slice A1 n.sectors.length C1) KN_0.out 1 rfl
  have fN2 := blkC (v := .slice A2 n.antennas.length C2) KN_0.out 2 rfl
  have fN3 := blkC (v := .slice A3 n.radios.length C3) KN_0.out 3 rfl
  have fR0 := blkC (v := .slice none 0 0) KR_0.out 0 rfl
  have fR1 := blkC (v := .slice none 0 0) KR_0.out 1 rfl
  have fR2 := blkC (v := .slice none 0 0) KR_0.out 2 rfl
  have fR3 := blkC (v := .slice none 0 0) KR_0.out 3 rfl
  go_wp2_with fail
  refine (l14Ok_any n _ _ _ _ w.heap.size _ ((R0.out.below BB_0.out).mono (by have := BB_0.out.size; omega)) ((R1.out.below BB_0.out).mono (by have := BB_0.out.size; omega)) ((R2.out.below BB_0.out).mono (by have := BB_0.out.size; omega)) ((R3.out.below BB_0.out).mono (by have := BB_0.out.size; omega)) (by omega) (blkC KN_0.out 0 rfl) (blkC KN_0.out 1 rfl) (blkC KN_0.out 2 rfl) (blkC KN_0.out 3 rfl) (by omega) hk_n).mono ?_
  rintro e X1 ⟨rfl, hb⟩
  clear fN0 fN1 fN2 fN3 fR0 fR1 fR2 fR3
  have KN_1 := Lib.hid (blkB KN_0.out hb (by omega))
  have KR_1 := Lib.hid (blkB KR_0.out hb (by omega))
  have BB_1 := Lib.hid (BB_0.out.trans (hb.mono (by omega)))
  have zz1 : W0.heap.size ≤ X1.heap.size := hb.size
  clear KN_0 KR_0 BB_0 hb
  rw [hv]
  have fN0 := blkC (v := .slice A0 n.sites.length C0) KN_1.out 0 rfl
  have fN1 := blkC (v := .slice A1 n.sectors.length C1) KN_1.out 1 rfl
  have fN2 := blkC (v := .slice A2 n.antennas.length C2) KN_1.out 2 rfl
  have fN3 := blkC (v := .slice A3 n.radios.length C3) KN_1.out 3 rfl
  have fR0 := blkC (v := .slice none 0 0) KR_1.out 0 rfl
  have fR1 := blkC (v := .slice none 0 0) KR_1.out 1 rfl
  have fR2 := blkC (v := .slice none 0 0) KR_1.out 2 rfl
  have fR3 := blkC (v := .slice none 0 0) KR_1.out 3 rfl
  go_wp2_with fail
  refine (l14Find_any n.sectors nm _ w.heap.size w.heap.size _ (R1.out.below BB_1.out) (by have := BB_1.out.size; omega) (blkC KN_1.out 1 rfl) (by omega)).mono ?_
  rintro e _ ⟨rfl, rfl⟩
  clear fN0 fN1 fN2 fN3 fR0 fR1 fR2 fR3
  rw [HI.out]
  have hneg : decide ((k : Int) < 0) = false := by simp
  have fN0 := blkC (v := .slice A0 n.sites.length C0) KN_1.out 0 rfl
  have fN1 := blkC (v := .slice A1 n.sectors.length C1) KN_1.out 1 rfl
  have fN2 := blkC (v := .slice A2 n.antennas.length C2) KN_1.out 2 rfl
  have fN3 := blkC (v := .slice A3 n.radios.length C3) KN_1.out 3 rfl
  have fR0 := blkC (v := .slice none 0 0) KR_1.out 0 rfl
  have fR1 := blkC (v := .slice none 0 0) KR_1.out 1 rfl
  have fR2 := blkC (v := .slice none 0 0) KR_1.out 2 rfl
  have fR3 := blkC (v := .slice none 0 0) KR_1.out 3 rfl
  go_wp2_with fail
  refine (l14Without_any n k _ _ _ _ w.heap.size _ ((R0.out.below BB_1.out).mono (by have := BB_1.out.size; omega)) ((R1.out.below BB_1.out).mono (by have := BB_1.out.size; omega)) ((R2.out.below BB_1.out).mono (by have := BB_1.out.size; omega)) ((R3.out.below BB_1.out).mono (by have := BB_1.out.size; omega)) (by omega) (blkC KN_1.out 0 rfl) (blkC KN_1.out 1 rfl) (blkC KN_1.out 2 rfl) (blkC KN_1.out 3 rfl) hs_n hk).mono ?_
  rintro e X2 ⟨a0, c0, a1, c1, a2, c2, a3, c3, fp, rfl, hb, ov, iv_⟩
  clear fN0 fN1 fN2 fN3 fR0 fR1 fR2 fR3
  have KN_2 := Lib.hid (blkB KN_1.out hb (by omega))
  have KR_2 := Lib.hid (blkB KR_1.out hb (by omega))
  have BB_2 := Lib.hid (BB_1.out.trans (hb.mono (by omega)))
  have zz2 : X1.heap.size ≤ X2.heap.size := hb.size
  clear KN_1 KR_1 BB_1 hb
  clear hneg
  have ivf : In (w.heap.size + 2) X2.heap.size fp := iv_.mono (by omega) (Nat.le_refl _)
  have BF := Lib.hid (((((BB_2.out).setCell (p := ⟨w.heap.size + 1, 0, none⟩) (by show w.heap.size ≤ w.heap.size + 1; omega) (.slice a0 n.sites.length c0)).setCell (p := ⟨w.heap.size + 1, 1, none⟩) (by show w.heap.size ≤ w.heap.size + 1; omega) (.slice a1 (n.sectors.eraseIdx k).length c1)).setCell (p := ⟨w.heap.size + 1, 2, none⟩) (by show w.heap.size ≤ w.heap.size + 1; omega) (.slice a2 n.antennas.length c2)).setCell (p := ⟨w.heap.size + 1, 3, none⟩) (by show w.heap.size ≤ w.heap.size + 1; omega) (.slice a3 n.radios.length c3))
  have OF := Lib.hid (((((ov).setFar (p := ⟨w.heap.size + 1, 0, none⟩) (fun e => by have := (ivf _ e).1; simp only at this; omega) (.slice a0 n.sites.length c0)).setFar (p := ⟨w.heap.size + 1, 1, none⟩) (fun e => by have := (ivf _ e).1; simp only at this; omega) (.slice a1 (n.sectors.eraseIdx k).length c1)).setFar (p := ⟨w.heap.size + 1, 2, none⟩) (fun e => by have := (ivf _ e).1; simp only at this; omega) (.slice a2 n.antennas.length c2)).setFar (p := ⟨w.heap.size + 1, 3, none⟩) (fun e => by have := (ivf _ e).1; simp only at this; omega) (.slice a3 n.radios.length c3))
  have IVF := Lib.hid ivf
  clear ivf ov iv_
  have fR0 := blkC (v := .slice none 0 0) KR_2.out 0 rfl
  have fR1 := blkC (v := .slice none 0 0) KR_2.out 1 rfl
  have fR2 := blkC (v := .slice none 0 0) KR_2.out 2 rfl
  have fR3 := blkC (v := .slice none 0 0) KR_2.out 3 rfl
  have zR := blkF KR_2.out
  go_wp2
  refine bodyPost_ret (v := .tuple #[.agg #[.slice a0 n.sites.length c0, .slice a1 (n.sectors.eraseIdx k).length c1, .slice a2 n.antennas.length c2, .slice a3 n.radios.length c3], .int .i64 0]) (by simp [results, Tryz.results25, go_sem, *]) rfl ?_
  rw [HE.out]
  first | refine ⟨a0, c0, a1, c1, a2, c2, a3, c3, _, rfl, BF.out, OF.out, ?_⟩ | refine ⟨a0, c0, a1, c1, a2, c2, a3, c3, rfl, BF.out, _, OF.out, ?_⟩
  simp only [size_setCell]
  exact IVF.out.mono (by omega) (Nat.le_refl _)
end Go.Proofs.YtppgcgopnchbcaaGreat
