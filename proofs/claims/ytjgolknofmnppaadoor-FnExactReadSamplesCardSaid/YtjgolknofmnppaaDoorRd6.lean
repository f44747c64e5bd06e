/- Contracts: sectors, read and written, for the program and for the reference. Conditions: bounded sizes; the library's own variables hold what they hold at the start. -/
import Derived.Test.YtjgolknofmnppaaDoorRd5
namespace Go.Proofs.YtjgolknofmnppaaDoor
open Go.RowKit
set_option linter.unusedVariables false
set_option linter.unusedSimpArgs false

theorem rd_cellsI (W : World) (b : Nat) (l : List Int) (c : Nat) (h0 : 0 < l.length) (hc : l.length ≤ c) (hm : c ≤ maxLen) (h : ∀ (i : Nat) (hi : i < l.length), W.cell? ⟨b, i, none⟩ = some (.int .i64 l[i])) :
    Rd (b + 1) W (intsT l) (.slice (some ⟨b, 0, none⟩) l.length c) := by
  refine ⟨[b], Rep_sl.2 ⟨_, l.length, c, rfl, by simp, hc, hm, Or.inr ⟨b, 0, [], by have := List.length_pos_iff.1 h0; simpa using this, rfl, rfl, ?_⟩⟩, fun b hb => by simp at hb; omega⟩
  have e : l.map intT = (l.map (Value.int .i64)).map Tr.lit := by rw [List.map_map]; rfl
  rw [e]
  refine Reps.lits _ _ _ (fun i hi => ?_)
  have hi' : i < l.length := by simpa using hi
  simp only [List.getElem_map, Nat.zero_add]
  exact h i hi'
theorem joinC_any (W : World) (b c : Nat) (l : List ByteArray) (m : Nat) (hc : l.length ≤ c) (hl : l.length ≤ 64) (hb : b < W.heap.size) (hm : ∀ x ∈ l, x.size ≤ m) (hm2 : m ≤ 1073741824) (h : ∀ (i : Nat) (hi : i < l.length), W.cell? ⟨b, i, none⟩ = some (.string l[i])) :
    Calls Tryd.prog 54 #[.slice (some ⟨b, 0, none⟩) l.length c, .string ⟨#[32]⟩] W fun e w' => e = .returned (.string (ofL (Go.Lib.join (l.map bl) [32]))) ∧ Below W.heap.size W w' := by
  refine Tryd.strings_Join b 0 c l ⟨#[32]⟩ W (fun j x hx => by
    obtain ⟨hj, e⟩ := List.getElem?_eq_some_iff.1 hx
    rw [Nat.zero_add, h j hj, e]) hb (by omega) hc ?_
  have := join_len (l.map bl) 32 m (fun x hx => by
    obtain ⟨n, hn, rfl⟩ := List.mem_map.1 hx
    exact hm n hn)
  rw [List.length_map] at this
  have h2 : l.length * (m + 1) ≤ 64 * (m + 1) := Nat.mul_le_mul_right _ hl
  exact Nat.le_trans this (by omega)
theorem listText_len (l : List Int) (h : ∀ n ∈ l, I64 n) : (listText l).length ≤ 1408 := by
  unfold listText
  split
  · simp
  · rename_i h64
    split
    · simp
    · split
      · have := join_len (l.map Go.Lib.itoa) 44 21 (fun x hx => by
          obtain ⟨n, hn, rfl⟩ := List.mem_map.1 hx
          have := h n hn
          exact Go.Lib.itoa_length_le n this.1 this.2)
        rw [List.length_map] at this
        have : l.length * (21 + 1) ≤ 64 * 22 := Nat.mul_le_mul_right _ (by omega)
        omega
      · simp
theorem numsR_four (l : List UInt8) : ∃ x y z u, numsR l 4 = [x, y, z, u] := by
  have := numsR_len l 4
  match h : numsR l 4, this with
  | [x, y, z, u], _ => exact ⟨x, y, z, u, rfl⟩
theorem numsR_some {l : List UInt8} {k : Nat} {vs : List Int} (h : readM l k = some vs) : numsR l k = vs ∧ numsB l k = true := by unfold numsR numsB; rw [h]; exact ⟨rfl, rfl⟩
theorem numsB_none {l : List UInt8} {k : Nat} (h : readM l k = none) : numsB l k = false := by unfold numsB; rw [h]; rfl

def zSector : DSector := ⟨ofL [], ofL [], ofL [], ofL [], ofL [], 0, 0, 0, 0⟩
set_option maxHeartbeats 8000000 in
set_option maxRecDepth 100000 in
theorem sectorText_any (x : DSector) (h0 : x.name.size ≤ 1048576) (h1 : x.site.size ≤ 1048576) (h2 : x.antenna.size ≤ 1048576) (h3 : x.radio.size ≤ 1048576) (h4 : x.band.size ≤ 1048576) (w : World) (L : LibW w) : Calls Tryd.prog 33 #[.agg #[.string x.name, .string x.site, .string x.antenna, .string x.radio, .string x.band, .int .i64 x.azimuth, .int .i64 x.tilt, .int .i64 x.above, .int .i64 x.channel]] w fun e w' => e = .returned (.string (sectorText x)) ∧ Below w.heap.size w w' := by
  obtain ⟨W0, hW0, b0, z0, k0⟩ := boxes1 w #[.string x.name, .string x.site, .string x.antenna, .string x.radio, .string x.band, .int .i64 x.azimuth, .int .i64 x.tilt, .int .i64 x.above, .int .i64 x.channel] 29
  have HW0 := Lib.hid hW0
  clear hW0
  have B0 := Lib.hid b0
  clear b0
  have K0 := Lib.hid k0
  clear k0
  have HD : Hid (∀ W : World, Below W0.heap.size W0 W → (W.cell? ⟨w.heap.size, 0, none⟩ = some (.string x.name) ∧ W.cell? ⟨w.heap.size, 1, none⟩ = some (.string x.site) ∧ W.cell? ⟨w.heap.size, 2, none⟩ = some (.string x.antenna) ∧ W.cell? ⟨w.heap.size, 3, none⟩ = some (.string x.radio) ∧ W.cell? ⟨w.heap.size, 4, none⟩ = some (.string x.band) ∧ W.cell? ⟨w.heap.size, 5, none⟩ = some (.int .i64 x.azimuth) ∧ W.cell? ⟨w.heap.size, 6, none⟩ = some (.int .i64 x.tilt) ∧ W.cell? ⟨w.heap.size, 7, none⟩ = some (.int .i64 x.above) ∧ W.cell? ⟨w.heap.size, 8, none⟩ = some (.int .i64 x.channel))) := fun W hW => ⟨bkC (bkB K0.out hW (by omega)) 0 rfl, bkC (bkB K0.out hW (by omega)) 1 rfl, bkC (bkB K0.out hW (by omega)) 2 rfl, bkC (bkB K0.out hW (by omega)) 3 rfl, bkC (bkB K0.out hW (by omega)) 4 rfl, bkC (bkB K0.out hW (by omega)) 5 rfl, bkC (bkB K0.out hW (by omega)) 6 rfl, bkC (bkB K0.out hW (by omega)) 7 rfl, bkC (bkB K0.out hW (by omega)) 8 rfl⟩
  have HB : Hid (Below W0.heap.size W0 W0) := Below.refl _ _
  have HH : Hid (∀ W : World, Below W0.heap.size W0 W → Below w.heap.size w W) := fun W hW => B0.out.trans (hW.mono (by omega))
  have CV : Hid (∀ W : World, Calls Tryd.prog 58 #[.agg #[.string x.name, .string x.site, .string x.antenna, .string x.radio, .string x.band, .int .i64 x.azimuth, .int .i64 x.tilt, .int .i64 x.above, .int .i64 x.channel]] W fun e w' => e = .returned (.bool (sectorB x)) ∧ Below W.heap.size W w') := fun W => sectorValid_any x (by unfold maxLen; omega) (by unfold maxLen; omega) (by unfold maxLen; omega) (by unfold maxLen; omega) (by unfold maxLen; omega) W
  have HLW : Hid (∀ W, Below W0.heap.size W0 W → LibW W) := fun W hW => L.mono (HH.out W hW)
  clear L
  by_cases hv : sectorB x = true
  case neg =>
    have hv' : sectorB x = false := Bool.eq_false_iff.2 hv
    rw [hv'] at CV
    have HE : Hid (sectorText x = ofL []) := by show _ = _; unfold sectorText; rw [if_neg hv]
    clear hv hv' h0 h1 h2 h3 h4
    go_enter Tryd.func33, Tryd.ntmps33
    go_upto_region 1 with (fail)
    rw [HW0.out]
    obtain ⟨t0, t1, t2, t3, t4, t5, t6, t7, t8⟩ := HD.out _ HB.out
    go_wp2_with (go_at_call 58; with_reducible refine (CV.out _).mono ?_; rintro e w2 ⟨rfl, hb2⟩; (try clear t0 t1 t2 t3 t4 t5 t6 t7 t8); replace HB := Lib.hid (HB.out.trans (hb2.mono HB.out.size)); clear hb2; obtain ⟨t0, t1, t2, t3, t4, t5, t6, t7, t8⟩ := HD.out _ HB.out)
    go_ret
    exact ⟨by rw [HE.out]; rfl, HH.out _ HB.out⟩
  case pos =>
    rw [hv] at CV
    have hI : ∀ n ∈ [x.azimuth, x.tilt, x.above, x.channel], I64 n := by
      have hv2 := hv
      simp only [sectorB, inB, Bool.and_eq_true, decide_eq_true_eq] at hv2
      intro n hn
      simp only [List.mem_cons, List.not_mem_nil, or_false] at hn
      rcases hn with rfl | rfl | rfl | rfl <;> constructor <;> omega
    have HE : Hid (ofL (Go.Lib.join ([x.name, x.site, x.antenna, x.radio, x.band, ofL (listText [x.azimuth, x.tilt, x.above, x.channel])].map bl) [32]) = sectorText x) := by
      show _ = _
      unfold sectorText
      rw [if_pos hv]
      simp only [List.map_cons, List.map_nil, bl_ofL]
    have hlx : (ofL (listText [x.azimuth, x.tilt, x.above, x.channel])).size ≤ 1048576 := Nat.le_trans (listText_len _ hI) (by omega)
    have HLT : Hid (∀ (W : World) (b : Nat), LibW W → b < W.heap.size → W.heap[b]? = some (.cells #[.int .i64 x.azimuth, .int .i64 x.tilt, .int .i64 x.above, .int .i64 x.channel] 2 (0, 0)) → Calls Tryd.prog 59 #[.slice (some ⟨b, 0, none⟩) 4 4] W fun e w' => e = .returned (.string (ofL (listText [x.azimuth, x.tilt, x.above, x.channel]))) ∧ Below W.heap.size W w') := fun W b hL hb hk =>
      listText_any [x.azimuth, x.tilt, x.above, x.channel] _ (b + 1) W hL (rd_cellsI W b [x.azimuth, x.tilt, x.above, x.channel] 4 (by simp) (by simp) (by unfold maxLen; omega) (fun i hi => by
        have : i < 4 := hi
        match i, this with
        | 0, _ => exact bkC hk 0 rfl
        | 1, _ => exact bkC hk 1 rfl
        | 2, _ => exact bkC hk 2 rfl
        | 3, _ => exact bkC hk 3 rfl)) (by omega) (by simp) hI
    clear hv hI
    generalize ofL (listText [x.azimuth, x.tilt, x.above, x.channel]) = tx at *
    have HJ : Hid (∀ (W : World) (b : Nat), b < W.heap.size → W.heap[b]? = some (.cells #[.string x.name, .string x.site, .string x.antenna, .string x.radio, .string x.band, .string tx] 9 (0, 0)) → Calls Tryd.prog 54 #[.slice (some ⟨b, 0, none⟩) 6 6, .string ⟨#[32]⟩] W fun e w' => e = .returned (.string (sectorText x)) ∧ Below W.heap.size W w') := fun W b hb hk => by
      rw [← HE.out]
      refine joinC_any W b 6 [x.name, x.site, x.antenna, x.radio, x.band, tx] 1048576 (by simp) (by simp) hb (fun y hy => ?_) (by omega) (fun i hi => ?_)
      · simp only [List.mem_cons, List.not_mem_nil, or_false] at hy
        rcases hy with rfl | rfl | rfl | rfl | rfl | rfl <;> assumption
      · have : i < 6 := hi
        match i, this with
        | 0, _ => exact bkC hk 0 rfl
        | 1, _ => exact bkC hk 1 rfl
        | 2, _ => exact bkC hk 2 rfl
        | 3, _ => exact bkC hk 3 rfl
        | 4, _ => exact bkC hk 4 rfl
        | 5, _ => exact bkC hk 5 rfl
    clear HE hlx h0 h1 h2 h3 h4
    go_enter Tryd.func33, Tryd.ntmps33
    go_upto_region 1 with (fail)
    rw [HW0.out]
    obtain ⟨t0, t1, t2, t3, t4, t5, t6, t7, t8⟩ := HD.out _ HB.out
    go_upto_region 3 with (go_at_call 58; with_reducible refine (CV.out _).mono ?_; rintro e w2 ⟨rfl, hb2⟩; (try clear t0 t1 t2 t3 t4 t5 t6 t7 t8); replace HB := Lib.hid (HB.out.trans (hb2.mono HB.out.size)); clear hb2; obtain ⟨t0, t1, t2, t3, t4, t5, t6, t7, t8⟩ := HD.out _ HB.out)
    have HS2 : Hid (∀ W, Below w2.heap.size w2 W → (W.cell? ⟨w.heap.size, 0, none⟩ = some (.string x.name) ∧ W.cell? ⟨w.heap.size, 1, none⟩ = some (.string x.site) ∧ W.cell? ⟨w.heap.size, 2, none⟩ = some (.string x.antenna) ∧ W.cell? ⟨w.heap.size, 3, none⟩ = some (.string x.radio) ∧ W.cell? ⟨w.heap.size, 4, none⟩ = some (.string x.band) ∧ W.cell? ⟨w.heap.size, 5, none⟩ = some (.int .i64 x.azimuth) ∧ W.cell? ⟨w.heap.size, 6, none⟩ = some (.int .i64 x.tilt) ∧ W.cell? ⟨w.heap.size, 7, none⟩ = some (.int .i64 x.above) ∧ W.cell? ⟨w.heap.size, 8, none⟩ = some (.int .i64 x.channel))) := fun W hW => HD.out W (HB.out.trans (hW.mono HB.out.size))
    clear t0 t1 t2 t3 t4 t5 t6 t7 t8
    refine wp_region_ord 20 [(0, true), (1, true), (2, true), (3, true), (4, true), (5, true), (6, true), (7, true), (8, true), (9, true), (10, true), (11, true), (12, true), (13, true), (14, true), (15, true), (16, true), (17, true), (18, false), (19, false)] (fun W => W.cell? ⟨w.heap.size, 0, none⟩ = some (.string x.name) ∧ W.cell? ⟨w.heap.size, 1, none⟩ = some (.string x.site) ∧ W.cell? ⟨w.heap.size, 2, none⟩ = some (.string x.antenna) ∧ W.cell? ⟨w.heap.size, 3, none⟩ = some (.string x.radio) ∧ W.cell? ⟨w.heap.size, 4, none⟩ = some (.string x.band) ∧ W.cell? ⟨w.heap.size, 5, none⟩ = some (.int .i64 x.azimuth) ∧ W.cell? ⟨w.heap.size, 6, none⟩ = some (.int .i64 x.tilt) ∧ W.cell? ⟨w.heap.size, 7, none⟩ = some (.int .i64 x.above) ∧ W.cell? ⟨w.heap.size, 8, none⟩ = some (.int .i64 x.channel)) (by kernel_rfl) (by kernel_rfl) (HS2.out _ (below_drew1 _)) (fun hHeld => ?_)
    refine wpOrd_read (v := ?_) rfl (fun _ _ _ h => h) ?_ ?_
    rotate_left
    · (intro W hSW; (try dsimp only at hSW); (go_simp <;> with_reducible rfl))
    (try simp only [Act.put, List.setIfInBounds_toArray, List.set_cons_zero, List.set_cons_succ])
    refine wpOrd_read (v := ?_) rfl (fun _ _ _ h => h) ?_ ?_
    rotate_left
    · (intro W hSW; (try dsimp only at hSW); (go_simp <;> with_reducible rfl))
    (try simp only [Act.put, List.setIfInBounds_toArray, List.set_cons_zero, List.set_cons_succ])
    refine wpOrd_read (v := ?_) rfl (fun _ _ _ h => h) ?_ ?_
    rotate_left
    · (intro W hSW; (try dsimp only at hSW); (go_simp <;> with_reducible rfl))
    (try simp only [Act.put, List.setIfInBounds_toArray, List.set_cons_zero, List.set_cons_succ])
    refine wpOrd_read (v := ?_) rfl (fun _ _ _ h => h) ?_ ?_
    rotate_left
    · (intro W hSW; (try dsimp only at hSW); (go_simp <;> with_reducible rfl))
    (try simp only [Act.put, List.setIfInBounds_toArray, List.set_cons_zero, List.set_cons_succ])
    refine wpOrd_read (v := ?_) rfl (fun _ _ _ h => h) ?_ ?_
    rotate_left
    · (intro W hSW; (try dsimp only at hSW); (go_simp <;> with_reducible rfl))
    (try simp only [Act.put, List.setIfInBounds_toArray, List.set_cons_zero, List.set_cons_succ])
    refine wpOrd_read (v := ?_) rfl (fun _ _ _ h => h) ?_ ?_
    rotate_left
    · (intro W hSW; (try dsimp only at hSW); (go_simp <;> with_reducible rfl))
    (try simp only [Act.put, List.setIfInBounds_toArray, List.set_cons_zero, List.set_cons_succ])
    refine wpOrd_read (v := ?_) rfl (fun _ _ _ h => h) ?_ ?_
    rotate_left
    · (intro W hSW; (try dsimp only at hSW); (go_simp <;> with_reducible rfl))
    (try simp only [Act.put, List.setIfInBounds_toArray, List.set_cons_zero, List.set_cons_succ])
    refine wpOrd_read (v := ?_) rfl (fun _ _ _ h => h) ?_ ?_
    rotate_left
    · (intro W hSW; (try dsimp only at hSW); (go_simp <;> with_reducible rfl))
    (try simp only [Act.put, List.setIfInBounds_toArray, List.set_cons_zero, List.set_cons_succ])
    refine wpOrd_read (v := ?_) rfl (fun _ _ _ h => h) ?_ ?_
    rotate_left
    · (intro W hSW; (try dsimp only at hSW); (go_simp <;> with_reducible rfl))
    (try simp only [Act.put, List.setIfInBounds_toArray, List.set_cons_zero, List.set_cons_succ])
    refine wpOrd_read (v := ?_) rfl (fun _ _ _ h => h) ?_ ?_
    rotate_left
    · (intro W hSW; (try dsimp only at hSW); (go_simp <;> with_reducible rfl))
    (try simp only [Act.put, List.setIfInBounds_toArray, List.set_cons_zero, List.set_cons_succ])
    refine wpOrd_read (v := ?_) rfl (fun _ _ _ h => h) ?_ ?_
    rotate_left
    · (intro W hSW; (try dsimp only at hSW); (go_simp <;> with_reducible rfl))
    (try simp only [Act.put, List.setIfInBounds_toArray, List.set_cons_zero, List.set_cons_succ])
    refine wpOrd_read (v := ?_) rfl (fun _ _ _ h => h) ?_ ?_
    rotate_left
    · (intro W hSW; (try dsimp only at hSW); (go_simp <;> with_reducible rfl))
    (try simp only [Act.put, List.setIfInBounds_toArray, List.set_cons_zero, List.set_cons_succ])
    refine wpOrd_read (v := ?_) rfl (fun _ _ _ h => h) ?_ ?_
    rotate_left
    · (intro W hSW; (try dsimp only at hSW); (go_simp <;> with_reducible rfl))
    (try simp only [Act.put, List.setIfInBounds_toArray, List.set_cons_zero, List.set_cons_succ])
    refine wpOrd_read (v := ?_) rfl (fun _ _ _ h => h) ?_ ?_
    rotate_left
    · (intro W hSW; (try dsimp only at hSW); (go_simp <;> with_reducible rfl))
    (try simp only [Act.put, List.setIfInBounds_toArray, List.set_cons_zero, List.set_cons_succ])
    refine wpOrd_read (v := ?_) rfl (fun _ _ _ h => h) ?_ ?_
    rotate_left
    · (intro W hSW; (try dsimp only at hSW); (go_simp <;> with_reducible rfl))
    (try simp only [Act.put, List.setIfInBounds_toArray, List.set_cons_zero, List.set_cons_succ])
    refine wpOrd_read (v := ?_) rfl (fun _ _ _ h => h) ?_ ?_
    rotate_left
    · (intro W hSW; (try dsimp only at hSW); (go_simp <;> with_reducible rfl))
    (try simp only [Act.put, List.setIfInBounds_toArray, List.set_cons_zero, List.set_cons_succ])
    refine wpOrd_read (v := ?_) rfl (fun _ _ _ h => h) ?_ ?_
    rotate_left
    · (intro W hSW; (try dsimp only at hSW); (go_simp <;> with_reducible rfl))
    (try simp only [Act.put, List.setIfInBounds_toArray, List.set_cons_zero, List.set_cons_succ])
    refine wpOrd_read (v := ?_) rfl (fun _ _ _ h => h) ?_ ?_
    rotate_left
    · (intro W hSW; (try dsimp only at hSW); (go_simp <;> with_reducible rfl))
    (try simp only [Act.put, List.setIfInBounds_toArray, List.set_cons_zero, List.set_cons_succ])
    have HBD := Lib.hid (HB.out.trans ((below_drew1 w2).mono HB.out.size))
    have hzd : w2.heap.size ≤ w2.drew.heap.size := Nat.le_refl _
    have HSD : Hid (∀ W, Below w2.drew.heap.size w2.drew W → (W.cell? ⟨w.heap.size, 0, none⟩ = some (.string x.name) ∧ W.cell? ⟨w.heap.size, 1, none⟩ = some (.string x.site) ∧ W.cell? ⟨w.heap.size, 2, none⟩ = some (.string x.antenna) ∧ W.cell? ⟨w.heap.size, 3, none⟩ = some (.string x.radio) ∧ W.cell? ⟨w.heap.size, 4, none⟩ = some (.string x.band) ∧ W.cell? ⟨w.heap.size, 5, none⟩ = some (.int .i64 x.azimuth) ∧ W.cell? ⟨w.heap.size, 6, none⟩ = some (.int .i64 x.tilt) ∧ W.cell? ⟨w.heap.size, 7, none⟩ = some (.int .i64 x.above) ∧ W.cell? ⟨w.heap.size, 8, none⟩ = some (.int .i64 x.channel))) := fun W hW => HS2.out W ((below_drew1 w2).trans (hW.mono hzd))
    generalize w2.drew = w4 at *
    refine wpOrd_step rfl (fun K hK => ?_)
    go_simp
    refine hK.out _ _ (HSD.out _ (below_alloc w4 _)) ?_
    clear hK K
    (try simp only [Act.put, List.setIfInBounds_toArray, List.set_cons_zero, List.set_cons_succ])
    obtain ⟨W5, hW5, b5, z5, k5⟩ := boxes1 w4 #[.int .i64 x.azimuth, .int .i64 x.tilt, .int .i64 x.above, .int .i64 x.channel] 2
    rw [hW5]
    clear hW5
    have HB5 := Lib.hid (HBD.out.trans (b5.mono HBD.out.size))
    have HS5 : Hid (∀ W, Below W5.heap.size W5 W → (W.cell? ⟨w.heap.size, 0, none⟩ = some (.string x.name) ∧ W.cell? ⟨w.heap.size, 1, none⟩ = some (.string x.site) ∧ W.cell? ⟨w.heap.size, 2, none⟩ = some (.string x.antenna) ∧ W.cell? ⟨w.heap.size, 3, none⟩ = some (.string x.radio) ∧ W.cell? ⟨w.heap.size, 4, none⟩ = some (.string x.band) ∧ W.cell? ⟨w.heap.size, 5, none⟩ = some (.int .i64 x.azimuth) ∧ W.cell? ⟨w.heap.size, 6, none⟩ = some (.int .i64 x.tilt) ∧ W.cell? ⟨w.heap.size, 7, none⟩ = some (.int .i64 x.above) ∧ W.cell? ⟨w.heap.size, 8, none⟩ = some (.int .i64 x.channel))) := fun W hW => HSD.out W (b5.trans (hW.mono (by omega)))
    have K5 := Lib.hid k5
    clear b5 k5
    refine wpOrd_step rfl (fun K hK => ?_)
    go_simp
    refine (HLT.out W5 w4.heap.size (HLW.out _ HB5.out) (by omega) K5.out).mono ?_
    rintro e w6 ⟨rfl, hb6⟩
    refine hK.out _ _ (HS5.out _ hb6) ?_
    clear hK K
    (try simp only [Act.put, List.setIfInBounds_toArray, List.set_cons_zero, List.set_cons_succ])
    have HB6 := Lib.hid (HB5.out.trans (hb6.mono HB5.out.size))
    have HS6 : Hid (∀ W, Below w6.heap.size w6 W → (W.cell? ⟨w.heap.size, 0, none⟩ = some (.string x.name) ∧ W.cell? ⟨w.heap.size, 1, none⟩ = some (.string x.site) ∧ W.cell? ⟨w.heap.size, 2, none⟩ = some (.string x.antenna) ∧ W.cell? ⟨w.heap.size, 3, none⟩ = some (.string x.radio) ∧ W.cell? ⟨w.heap.size, 4, none⟩ = some (.string x.band) ∧ W.cell? ⟨w.heap.size, 5, none⟩ = some (.int .i64 x.azimuth) ∧ W.cell? ⟨w.heap.size, 6, none⟩ = some (.int .i64 x.tilt) ∧ W.cell? ⟨w.heap.size, 7, none⟩ = some (.int .i64 x.above) ∧ W.cell? ⟨w.heap.size, 8, none⟩ = some (.int .i64 x.channel))) := fun W hW => HS5.out W (hb6.trans (hW.mono hb6.size))
    clear hb6
    refine wpOrd_nil ?_
    simp only [List.drop_succ_cons, List.drop_zero]
    go_wp2_with fail
    obtain ⟨W8, hW8, b8, z8, k8⟩ := boxes1 w6 #[.string x.name, .string x.site, .string x.antenna, .string x.radio, .string x.band, .string tx] 9
    rw [hW8]
    clear hW8
    refine (HJ.out W8 w6.heap.size (by omega) k8).mono ?_
    rintro e w9 ⟨rfl, hb9⟩
    have HB9 := Lib.hid (HH.out _ (HB6.out.trans ((b8.trans (hb9.mono (by omega))).mono HB6.out.size)))
    clear b8 k8 hb9
    go_wp2
    go_ret
    exact ⟨rfl, HB9.out⟩
set_option maxHeartbeats 8000000 in
set_option maxRecDepth 100000 in
theorem iReadSector_any (s : ByteArray) (hs : s.size ≤ 1048576) (w : World) (L : LibW w) : Calls Tryd.prog 13 #[.string s] w fun e w' => e = .returned (.tuple #[.agg #[.string ((sectorR s).getD zSector).name, .string ((sectorR s).getD zSector).site, .string ((sectorR s).getD zSector).antenna, .string ((sectorR s).getD zSector).radio, .string ((sectorR s).getD zSector).band, .int .i64 ((sectorR s).getD zSector).azimuth, .int .i64 ((sectorR s).getD zSector).tilt, .int .i64 ((sectorR s).getD zSector).above, .int .i64 ((sectorR s).getD zSector).channel], .bool (sectorR s).isSome]) ∧ Below w.heap.size w w' := by
  obtain ⟨W0, hW0, b0, z0, k0⟩ := boxes1 w #[.string ⟨#[]⟩, .string ⟨#[]⟩, .string ⟨#[]⟩, .string ⟨#[]⟩, .string ⟨#[]⟩, .int .i64 0, .int .i64 0, .int .i64 0, .int .i64 0] 29
  have HW0 := Lib.hid hW0
  clear hW0
  have B0 := Lib.hid b0
  clear b0
  have K0 := Lib.hid k0
  clear k0
  have HD : Hid (∀ W : World, Below W0.heap.size W0 W → (W.cell? ⟨w.heap.size, 0, none⟩ = some (.string ⟨#[]⟩) ∧ W.cell? ⟨w.heap.size, 1, none⟩ = some (.string ⟨#[]⟩) ∧ W.cell? ⟨w.heap.size, 2, none⟩ = some (.string ⟨#[]⟩) ∧ W.cell? ⟨w.heap.size, 3, none⟩ = some (.string ⟨#[]⟩) ∧ W.cell? ⟨w.heap.size, 4, none⟩ = some (.string ⟨#[]⟩) ∧ W.cell? ⟨w.heap.size, 5, none⟩ = some (.int .i64 0) ∧ W.cell? ⟨w.heap.size, 6, none⟩ = some (.int .i64 0) ∧ W.cell? ⟨w.heap.size, 7, none⟩ = some (.int .i64 0) ∧ W.cell? ⟨w.heap.size, 8, none⟩ = some (.int .i64 0))) := fun W hW => ⟨bkC (bkB K0.out hW (by omega)) 0 rfl, bkC (bkB K0.out hW (by omega)) 1 rfl, bkC (bkB K0.out hW (by omega)) 2 rfl, bkC (bkB K0.out hW (by omega)) 3 rfl, bkC (bkB K0.out hW (by omega)) 4 rfl, bkC (bkB K0.out hW (by omega)) 5 rfl, bkC (bkB K0.out hW (by omega)) 6 rfl, bkC (bkB K0.out hW (by omega)) 7 rfl, bkC (bkB K0.out hW (by omega)) 8 rfl⟩
  have HB : Hid (Below W0.heap.size W0 W0) := Below.refl _ _
  have HH : Hid (∀ W : World, Below W0.heap.size W0 W → Below w.heap.size w W) := fun W hW => B0.out.trans (hW.mono (by omega))
  have HSP : Hid (∀ W, Below W0.heap.size W0 W → Calls Tryd.prog 31 #[.string s, .string ⟨#[32]⟩] W fun e w' => ∃ a cc, e = .returned (.slice a (wordsB 32 s).length cc) ∧ Below W.heap.size W w' ∧ Rd w'.heap.size w' (strsT (wordsB 32 s)) (.slice a (wordsB 32 s).length cc)) := fun W hW => iSplit_any s 32 hs W (L.mono (HH.out W hW))
  have hsz : ∀ p ∈ wordsB 32 s, p.size ≤ 1048576 := fun p hp => Nat.le_trans (words_size _ _ _ hp) hs
  have hwl : (wordsB 32 s).length = (splitC 32 (bl s)).length := List.length_map _
  by_cases h2 : (splitC 32 (bl s)).length = 6
  case neg =>
    have HE : Hid (sectorR s = none) := by
      show _ = _
      unfold sectorR
      split
      · rename_i pa pb pc pd pe n e_; rw [e_] at h2; exact absurd rfl h2
      · rfl
    rw [← hwl] at h2
    generalize wordsB 32 s = ws at *
    have hq : ((ws.length : Int) != 6) = true := by rw [bne_iff_ne]; omega
    have hq2 : ((ws.length : Int) == 6) = false := by rw [beq_eq_false_iff_ne]; omega
    clear hwl h2 hsz
    go_enter Tryd.func13, Tryd.ntmps13
    go_upto_region 1 with (fail)
    rw [HW0.out]
    obtain ⟨t0, t1, t2, t3, t4, t5, t6, t7, t8⟩ := HD.out _ HB.out
    go_wp2_with (go_at_call 31; with_reducible refine (HSP.out _ HB.out).mono ?_; rintro e w2 ⟨a, c, rfl, hb2, hr2⟩; clear hr2; have HB2 := Lib.hid (HB.out.trans (hb2.mono HB.out.size)); clear hb2 t0 t1 t2 t3 t4 t5 t6 t7 t8; obtain ⟨t0, t1, t2, t3, t4, t5, t6, t7, t8⟩ := HD.out _ HB2.out; have gz := bkF (bkB K0.out HB2.out (by omega)); have BF := Lib.hid (HH.out _ HB2.out))
    refine bodyPost_ret (v := .tuple #[.agg #[.string ⟨#[]⟩, .string ⟨#[]⟩, .string ⟨#[]⟩, .string ⟨#[]⟩, .string ⟨#[]⟩, .int .i64 0, .int .i64 0, .int .i64 0, .int .i64 0], .bool false]) (by simp [results, Tryd.results13, go_sem, *]) rfl ?_
    exact ⟨by rw [HE.out]; rfl, (bset (bset (bset (bset (bset (bset (bset (bset (bset BF.out (by omega) 0 _) (by omega) 1 _) (by omega) 2 _) (by omega) 3 _) (by omega) 4 _) (by omega) 5 _) (by omega) 6 _) (by omega) 7 _) (by omega) 8 _)⟩
  obtain ⟨pa, pb, pc, pd, pe, n, hab⟩ : ∃ pa pb pc pd pe n, splitC 32 (bl s) = [pa, pb, pc, pd, pe, n] := by
    match h : splitC 32 (bl s), h2 with
    | [pa, pb, pc, pd, pe, n], _ => exact ⟨pa, pb, pc, pd, pe, n, rfl⟩
  have hwd : wordsB 32 s = [ofL pa, ofL pb, ofL pc, ofL pd, ofL pe, ofL n] := words_of _ _ _ hab
  rw [hwd] at HSP hsz
  have hspa : (ofL pa).size ≤ 1048576 := hsz (ofL pa) (by simp)
  have hspb : (ofL pb).size ≤ 1048576 := hsz (ofL pb) (by simp)
  have hspc : (ofL pc).size ≤ 1048576 := hsz (ofL pc) (by simp)
  have hspd : (ofL pd).size ≤ 1048576 := hsz (ofL pd) (by simp)
  have hspe : (ofL pe).size ≤ 1048576 := hsz (ofL pe) (by simp)
  have hsn : (ofL n).size ≤ 1048576 := hsz (ofL n) (by simp)
  have HRN : Hid (∀ W, Below W0.heap.size W0 W → Calls Tryd.prog 32 #[.string (ofL n), .int .i64 4] W fun e w' => ∃ a c, e = .returned (.tuple #[.slice a 4 c, .bool (numsB n 4)]) ∧ Below W.heap.size W w' ∧ Rd w'.heap.size w' (intsT (numsR n 4)) (.slice a 4 c)) := fun W hW => by
    have := readNumbers4_any (ofL n) hsn W (L.mono (HH.out W hW))
    rw [bl_ofL] at this
    exact this
  obtain ⟨x, y, z, u, hxy⟩ := numsR_four n
  rw [hxy] at HRN
  have HTX : Hid (∀ W, Below W0.heap.size W0 W → Calls Tryd.prog 33 #[.agg #[.string (ofL pa), .string (ofL pb), .string (ofL pc), .string (ofL pd), .string (ofL pe), .int .i64 x, .int .i64 y, .int .i64 z, .int .i64 u]] W fun e w' => e = .returned (.string (sectorText ⟨ofL pa, ofL pb, ofL pc, ofL pd, ofL pe, x, y, z, u⟩)) ∧ Below W.heap.size W w') := fun W hW => sectorText_any ⟨ofL pa, ofL pb, ofL pc, ofL pd, ofL pe, x, y, z, u⟩ hspa hspb hspc hspd hspe W (L.mono (HH.out W hW))
  clear L hwl h2 hwd hsz
  cases hpr : readM n 4 with
  | none =>
    have HE : Hid (sectorR s = none) := by show _ = _; unfold sectorR; rw [hab]; simp [hpr]
    rw [numsB_none hpr] at HRN
    clear hpr hab hspa hspb hspc hspd hspe hsn HTX hxy
  
    generalize ofL pa = spa at *
    generalize ofL pb = spb at *
    generalize ofL pc = spc at *
    generalize ofL pd = spd at *
    generalize ofL pe = spe at *
    go_enter Tryd.func13, Tryd.ntmps13
    go_upto_region 1 with (fail)
    rw [HW0.out]
    obtain ⟨t0, t1, t2, t3, t4, t5, t6, t7, t8⟩ := HD.out _ HB.out
    go_wp2_with fail
    refine (HSP.out _ HB.out).mono ?_
    rintro e w2 ⟨a1, c1, rfl, hb2, hr2⟩
    obtain ⟨_, _, e1, _, _, hcl⟩ := Rd.strs hr2
    injection e1 with e1 _ e3
    subst e1 e3
    obtain ⟨b1, off, ea, hbb, hat⟩ := hcl (by simp)
    subst ea
    have x0 := hat 0 (by simp)
    have x1 := hat 1 (by simp)
    have x2 := hat 2 (by simp)
    have x3 := hat 3 (by simp)
    have x4 := hat 4 (by simp)
    have x5 := hat 5 (by simp)
    simp only [List.getElem_cons_zero, List.getElem_cons_succ, Nat.add_zero] at x0 x1 x2 x3 x4 x5
    have HBX := Lib.hid (HB.out.trans (hb2.mono HB.out.size))
    clear hb2 hr2 hcl hat t0 t1 t2 t3 t4 t5 t6 t7 t8
    go_wp2_with fail
    refine (HRN.out _ HBX.out).mono ?_
    rintro e w3 ⟨a2, c2, rfl, hb3, hr3⟩
    obtain ⟨_, _, e1, _, _, hcl⟩ := Rd.ints hr3
    injection e1 with e1 _ e3
    subst e1 e3
    obtain ⟨b2, of2, ea, hbb2, hat⟩ := hcl (by simp)
    subst ea
    have y0 := hat 0 (by simp)
    have y1 := hat 1 (by simp)
    have y2 := hat 2 (by simp)
    have y3 := hat 3 (by simp)
    simp only [List.getElem_cons_zero, List.getElem_cons_succ, Nat.add_zero] at y0 y1 y2 y3
    have z3 := hb3.size
    have hc0 := (bat hb3 b1 _ hbb).trans x0
    have hc1 := (bat hb3 b1 _ hbb).trans x1
    have hc2 := (bat hb3 b1 _ hbb).trans x2
    have hc3 := (bat hb3 b1 _ hbb).trans x3
    have hc4 := (bat hb3 b1 _ hbb).trans x4
    have HB3 := Lib.hid (HBX.out.trans (hb3.mono HBX.out.size))
    have HS3 : Hid (∀ W, Below w3.heap.size w3 W → (W.cell? ⟨b1, off, none⟩ = some (.string spa) ∧ W.cell? ⟨b1, off + 1, none⟩ = some (.string spb) ∧ W.cell? ⟨b1, off + 2, none⟩ = some (.string spc) ∧ W.cell? ⟨b1, off + 3, none⟩ = some (.string spd) ∧ W.cell? ⟨b1, off + 4, none⟩ = some (.string spe) ∧ W.cell? ⟨b2, of2, none⟩ = some (.int .i64 x) ∧ W.cell? ⟨b2, of2 + 1, none⟩ = some (.int .i64 y) ∧ W.cell? ⟨b2, of2 + 2, none⟩ = some (.int .i64 z) ∧ W.cell? ⟨b2, of2 + 3, none⟩ = some (.int .i64 u))) := fun W hW => ⟨(bat hW b1 _ (by omega)).trans hc0, (bat hW b1 _ (by omega)).trans hc1, (bat hW b1 _ (by omega)).trans hc2, (bat hW b1 _ (by omega)).trans hc3, (bat hW b1 _ (by omega)).trans hc4, (bat hW b2 _ (by omega)).trans y0, (bat hW b2 _ (by omega)).trans y1, (bat hW b2 _ (by omega)).trans y2, (bat hW b2 _ (by omega)).trans y3⟩
    clear hb3 hr3 hcl hat hc0 hc1 hc2 hc3 hc4 y0 y1 y2 y3 x0 x1 x2 x3 x4 x5
    go_upto_region 5 with (fail)
    refine wp_region_ord 29 [(0, true), (1, true), (2, true), (3, true), (4, true), (5, true), (6, true), (7, true), (8, true), (9, true), (10, true), (11, true), (12, true), (13, true), (14, true), (15, true), (16, true), (17, true), (18, true), (19, true), (20, true), (21, true), (22, true), (23, true), (24, true), (25, true), (26, true), (27, true), (28, false)] (fun W => W.cell? ⟨b1, off, none⟩ = some (.string spa) ∧ W.cell? ⟨b1, off + 1, none⟩ = some (.string spb) ∧ W.cell? ⟨b1, off + 2, none⟩ = some (.string spc) ∧ W.cell? ⟨b1, off + 3, none⟩ = some (.string spd) ∧ W.cell? ⟨b1, off + 4, none⟩ = some (.string spe) ∧ W.cell? ⟨b2, of2, none⟩ = some (.int .i64 x) ∧ W.cell? ⟨b2, of2 + 1, none⟩ = some (.int .i64 y) ∧ W.cell? ⟨b2, of2 + 2, none⟩ = some (.int .i64 z) ∧ W.cell? ⟨b2, of2 + 3, none⟩ = some (.int .i64 u)) (by kernel_rfl) (by kernel_rfl) (HS3.out _ (below_drew1 _)) (fun hHeld => ?_)
    refine wpOrd_read (v := ?_) rfl (fun _ _ _ h => h) ?_ ?_
    rotate_left
    · (intro W hSW; (try dsimp only at hSW); (go_simp <;> with_reducible rfl))
    (try simp only [Act.put, List.setIfInBounds_toArray, List.set_cons_zero, List.set_cons_succ])
    refine wpOrd_read (v := ?_) rfl (fun _ _ _ h => h) ?_ ?_
    rotate_left
    · (intro W hSW; (try dsimp only at hSW); (go_simp <;> with_reducible rfl))
    (try simp only [Act.put, List.setIfInBounds_toArray, List.set_cons_zero, List.set_cons_succ])
    refine wpOrd_read (v := ?_) rfl (fun _ _ _ h => h) ?_ ?_
    rotate_left
    · (intro W hSW; (try dsimp only at hSW); (go_simp <;> with_reducible rfl))
    (try simp only [Act.put, List.setIfInBounds_toArray, List.set_cons_zero, List.set_cons_succ])
    refine wpOrd_read (v := ?_) rfl (fun _ _ _ h => h) ?_ ?_
    rotate_left
    · (intro W hSW; (try dsimp only at hSW); (go_simp <;> with_reducible rfl))
    (try simp only [Act.put, List.setIfInBounds_toArray, List.set_cons_zero, List.set_cons_succ])
    refine wpOrd_read (v := ?_) rfl (fun _ _ _ h => h) ?_ ?_
    rotate_left
    · (intro W hSW; (try dsimp only at hSW); (go_simp <;> with_reducible rfl))
    (try simp only [Act.put, List.setIfInBounds_toArray, List.set_cons_zero, List.set_cons_succ])
    refine wpOrd_read (v := ?_) rfl (fun _ _ _ h => h) ?_ ?_
    rotate_left
    · (intro W hSW; (try dsimp only at hSW); (go_simp <;> with_reducible rfl))
    (try simp only [Act.put, List.setIfInBounds_toArray, List.set_cons_zero, List.set_cons_succ])
    refine wpOrd_read (v := ?_) rfl (fun _ _ _ h => h) ?_ ?_
    rotate_left
    · (intro W hSW; (try dsimp only at hSW); (go_simp <;> with_reducible rfl))
    (try simp only [Act.put, List.setIfInBounds_toArray, List.set_cons_zero, List.set_cons_succ])
    refine wpOrd_read (v := ?_) rfl (fun _ _ _ h => h) ?_ ?_
    rotate_left
    · (intro W hSW; (try dsimp only at hSW); (go_simp <;> with_reducible rfl))
    (try simp only [Act.put, List.setIfInBounds_toArray, List.set_cons_zero, List.set_cons_succ])
    refine wpOrd_read (v := ?_) rfl (fun _ _ _ h => h) ?_ ?_
    rotate_left
    · (intro W hSW; (try dsimp only at hSW); (go_simp <;> with_reducible rfl))
    (try simp only [Act.put, List.setIfInBounds_toArray, List.set_cons_zero, List.set_cons_succ])
    refine wpOrd_read (v := ?_) rfl (fun _ _ _ h => h) ?_ ?_
    rotate_left
    · (intro W hSW; (try dsimp only at hSW); (go_simp <;> with_reducible rfl))
    (try simp only [Act.put, List.setIfInBounds_toArray, List.set_cons_zero, List.set_cons_succ])
    refine wpOrd_read (v := ?_) rfl (fun _ _ _ h => h) ?_ ?_
    rotate_left
    · (intro W hSW; (try dsimp only at hSW); (go_simp <;> with_reducible rfl))
    (try simp only [Act.put, List.setIfInBounds_toArray, List.set_cons_zero, List.set_cons_succ])
    refine wpOrd_read (v := ?_) rfl (fun _ _ _ h => h) ?_ ?_
    rotate_left
    · (intro W hSW; (try dsimp only at hSW); (go_simp <;> with_reducible rfl))
    (try simp only [Act.put, List.setIfInBounds_toArray, List.set_cons_zero, List.set_cons_succ])
    refine wpOrd_read (v := ?_) rfl (fun _ _ _ h => h) ?_ ?_
    rotate_left
    · (intro W hSW; (try dsimp only at hSW); (go_simp <;> with_reducible rfl))
    (try simp only [Act.put, List.setIfInBounds_toArray, List.set_cons_zero, List.set_cons_succ])
    refine wpOrd_read (v := ?_) rfl (fun _ _ _ h => h) ?_ ?_
    rotate_left
    · (intro W hSW; (try dsimp only at hSW); (go_simp <;> with_reducible rfl))
    (try simp only [Act.put, List.setIfInBounds_toArray, List.set_cons_zero, List.set_cons_succ])
    refine wpOrd_read (v := ?_) rfl (fun _ _ _ h => h) ?_ ?_
    rotate_left
    · (intro W hSW; (try dsimp only at hSW); (go_simp <;> with_reducible rfl))
    (try simp only [Act.put, List.setIfInBounds_toArray, List.set_cons_zero, List.set_cons_succ])
    refine wpOrd_read (v := ?_) rfl (fun _ _ _ h => h) ?_ ?_
    rotate_left
    · (intro W hSW; (try dsimp only at hSW); (go_simp <;> with_reducible rfl))
    (try simp only [Act.put, List.setIfInBounds_toArray, List.set_cons_zero, List.set_cons_succ])
    refine wpOrd_read (v := ?_) rfl (fun _ _ _ h => h) ?_ ?_
    rotate_left
    · (intro W hSW; (try dsimp only at hSW); (go_simp <;> with_reducible rfl))
    (try simp only [Act.put, List.setIfInBounds_toArray, List.set_cons_zero, List.set_cons_succ])
    refine wpOrd_read (v := ?_) rfl (fun _ _ _ h => h) ?_ ?_
    rotate_left
    · (intro W hSW; (try dsimp only at hSW); (go_simp <;> with_reducible rfl))
    (try simp only [Act.put, List.setIfInBounds_toArray, List.set_cons_zero, List.set_cons_succ])
    refine wpOrd_read (v := ?_) rfl (fun _ _ _ h => h) ?_ ?_
    rotate_left
    · (intro W hSW; (try dsimp only at hSW); (go_simp <;> with_reducible rfl))
    (try simp only [Act.put, List.setIfInBounds_toArray, List.set_cons_zero, List.set_cons_succ])
    refine wpOrd_read (v := ?_) rfl (fun _ _ _ h => h) ?_ ?_
    rotate_left
    · (intro W hSW; (try dsimp only at hSW); (go_simp <;> with_reducible rfl))
    (try simp only [Act.put, List.setIfInBounds_toArray, List.set_cons_zero, List.set_cons_succ])
    refine wpOrd_read (v := ?_) rfl (fun _ _ _ h => h) ?_ ?_
    rotate_left
    · (intro W hSW; (try dsimp only at hSW); (go_simp <;> with_reducible rfl))
    (try simp only [Act.put, List.setIfInBounds_toArray, List.set_cons_zero, List.set_cons_succ])
    refine wpOrd_read (v := ?_) rfl (fun _ _ _ h => h) ?_ ?_
    rotate_left
    · (intro W hSW; (try dsimp only at hSW); (go_simp <;> with_reducible rfl))
    (try simp only [Act.put, List.setIfInBounds_toArray, List.set_cons_zero, List.set_cons_succ])
    refine wpOrd_read (v := ?_) rfl (fun _ _ _ h => h) ?_ ?_
    rotate_left
    · (intro W hSW; (try dsimp only at hSW); (go_simp <;> with_reducible rfl))
    (try simp only [Act.put, List.setIfInBounds_toArray, List.set_cons_zero, List.set_cons_succ])
    refine wpOrd_read (v := ?_) rfl (fun _ _ _ h => h) ?_ ?_
    rotate_left
    · (intro W hSW; (try dsimp only at hSW); (go_simp <;> with_reducible rfl))
    (try simp only [Act.put, List.setIfInBounds_toArray, List.set_cons_zero, List.set_cons_succ])
    refine wpOrd_read (v := ?_) rfl (fun _ _ _ h => h) ?_ ?_
    rotate_left
    · (intro W hSW; (try dsimp only at hSW); (go_simp <;> with_reducible rfl))
    (try simp only [Act.put, List.setIfInBounds_toArray, List.set_cons_zero, List.set_cons_succ])
    refine wpOrd_read (v := ?_) rfl (fun _ _ _ h => h) ?_ ?_
    rotate_left
    · (intro W hSW; (try dsimp only at hSW); (go_simp <;> with_reducible rfl))
    (try simp only [Act.put, List.setIfInBounds_toArray, List.set_cons_zero, List.set_cons_succ])
    refine wpOrd_read (v := ?_) rfl (fun _ _ _ h => h) ?_ ?_
    rotate_left
    · (intro W hSW; (try dsimp only at hSW); (go_simp <;> with_reducible rfl))
    (try simp only [Act.put, List.setIfInBounds_toArray, List.set_cons_zero, List.set_cons_succ])
    refine wpOrd_read (v := ?_) rfl (fun _ _ _ h => h) ?_ ?_
    rotate_left
    · (intro W hSW; (try dsimp only at hSW); (go_simp <;> with_reducible rfl))
    (try simp only [Act.put, List.setIfInBounds_toArray, List.set_cons_zero, List.set_cons_succ])
    have HBD := Lib.hid (HB3.out.trans ((below_drew1 w3).mono HB3.out.size))
    have hzd : w3.heap.size ≤ w3.drew.heap.size := Nat.le_refl _
    have HSD : Hid (∀ W, Below w3.drew.heap.size w3.drew W → (W.cell? ⟨b1, off, none⟩ = some (.string spa) ∧ W.cell? ⟨b1, off + 1, none⟩ = some (.string spb) ∧ W.cell? ⟨b1, off + 2, none⟩ = some (.string spc) ∧ W.cell? ⟨b1, off + 3, none⟩ = some (.string spd) ∧ W.cell? ⟨b1, off + 4, none⟩ = some (.string spe) ∧ W.cell? ⟨b2, of2, none⟩ = some (.int .i64 x) ∧ W.cell? ⟨b2, of2 + 1, none⟩ = some (.int .i64 y) ∧ W.cell? ⟨b2, of2 + 2, none⟩ = some (.int .i64 z) ∧ W.cell? ⟨b2, of2 + 3, none⟩ = some (.int .i64 u))) := fun W hW => HS3.out W ((below_drew1 w3).trans (hW.mono hzd))
    generalize w3.drew = w4 at *
    refine wpOrd_step rfl (fun K hK => ?_)
    go_simp
    refine hK.out _ _ (HSD.out _ (below_alloc w4 _)) ?_
    clear hK K
    (try simp only [Act.put, List.setIfInBounds_toArray, List.set_cons_zero, List.set_cons_succ])
    refine wpOrd_nil ?_
    simp only [List.drop_succ_cons, List.drop_zero]
    go_upto_region 6 with (fail)
    obtain ⟨W5, hW5, b5, z5, k5⟩ := boxes1 w4 #[.string spa, .string spb, .string spc, .string spd, .string spe, .int .i64 x, .int .i64 y, .int .i64 z, .int .i64 u] 29
    rw [hW5]
    clear hW5
    have HB5 := Lib.hid (HBD.out.trans (b5.mono HBD.out.size))
    have K5 := Lib.hid k5
    have zb5 := HBD.out.size
    clear b5 k5
    obtain ⟨t0, t1, t2, t3, t4, t5, t6, t7, t8⟩ := HD.out _ HB5.out
    have gz := bkF (bkB K0.out HB5.out (by omega))
    have q0 := bkC (v := .string spa) K5.out 0 rfl
    have q1 := bkC (v := .string spb) K5.out 1 rfl
    have q2 := bkC (v := .string spc) K5.out 2 rfl
    have q3 := bkC (v := .string spd) K5.out 3 rfl
    have q4 := bkC (v := .string spe) K5.out 4 rfl
    have q5 := bkC (v := .int .i64 x) K5.out 5 rfl
    have q6 := bkC (v := .int .i64 y) K5.out 6 rfl
    have q7 := bkC (v := .int .i64 z) K5.out 7 rfl
    have q8 := bkC (v := .int .i64 u) K5.out 8 rfl
    have BF := Lib.hid (HH.out _ HB5.out)
    go_wp2_with fail
    refine bodyPost_ret (v := .tuple #[.agg #[.string ⟨#[]⟩, .string ⟨#[]⟩, .string ⟨#[]⟩, .string ⟨#[]⟩, .string ⟨#[]⟩, .int .i64 0, .int .i64 0, .int .i64 0, .int .i64 0], .bool false]) (by simp [results, Tryd.results13, go_sem, *]) rfl ?_
    exact ⟨by rw [HE.out]; rfl, (bset (bset (bset (bset (bset (bset (bset (bset (bset BF.out (by omega) 0 _) (by omega) 1 _) (by omega) 2 _) (by omega) 3 _) (by omega) 4 _) (by omega) 5 _) (by omega) 6 _) (by omega) 7 _) (by omega) 8 _)⟩
  | some vs =>
    obtain ⟨hn1, hn2⟩ := numsR_some hpr
    obtain rfl : vs = [x, y, z, u] := by rw [← hn1, hxy]
    rw [hn2] at HRN
    clear hn1 hn2 hxy
    by_cases hv : sectorB ⟨ofL pa, ofL pb, ofL pc, ofL pd, ofL pe, x, y, z, u⟩ = true
    · have HE : Hid (sectorR s = some ⟨ofL pa, ofL pb, ofL pc, ofL pd, ofL pe, x, y, z, u⟩) := by show _ = _; unfold sectorR; rw [hab]; simp [hpr, hv]
      rw [(sectorText_of hab hpr).2 hv] at HTX
      have hq : (s.toList == s.toList) = true := beq_iff_eq.2 rfl
      have hqn : (s.toList != s.toList) = false := by unfold bne; rw [hq]; rfl
      clear hpr hab hv hspa hspb hspc hspd hspe hsn
      generalize ofL pa = spa at *
      generalize ofL pb = spb at *
      generalize ofL pc = spc at *
      generalize ofL pd = spd at *
      generalize ofL pe = spe at *
      go_enter Tryd.func13, Tryd.ntmps13
      go_upto_region 1 with (fail)
      rw [HW0.out]
      obtain ⟨t0, t1, t2, t3, t4, t5, t6, t7, t8⟩ := HD.out _ HB.out
      go_wp2_with fail
      refine (HSP.out _ HB.out).mono ?_
      rintro e w2 ⟨a1, c1, rfl, hb2, hr2⟩
      obtain ⟨_, _, e1, _, _, hcl⟩ := Rd.strs hr2
      injection e1 with e1 _ e3
      subst e1 e3
      obtain ⟨b1, off, ea, hbb, hat⟩ := hcl (by simp)
      subst ea
      have x0 := hat 0 (by simp)
      have x1 := hat 1 (by simp)
      have x2 := hat 2 (by simp)
      have x3 := hat 3 (by simp)
      have x4 := hat 4 (by simp)
      have x5 := hat 5 (by simp)
      simp only [List.getElem_cons_zero, List.getElem_cons_succ, Nat.add_zero] at x0 x1 x2 x3 x4 x5
      have HBX := Lib.hid (HB.out.trans (hb2.mono HB.out.size))
      clear hb2 hr2 hcl hat t0 t1 t2 t3 t4 t5 t6 t7 t8
      go_wp2_with fail
      refine (HRN.out _ HBX.out).mono ?_
      rintro e w3 ⟨a2, c2, rfl, hb3, hr3⟩
      obtain ⟨_, _, e1, _, _, hcl⟩ := Rd.ints hr3
      injection e1 with e1 _ e3
      subst e1 e3
      obtain ⟨b2, of2, ea, hbb2, hat⟩ := hcl (by simp)
      subst ea
      have y0 := hat 0 (by simp)
      have y1 := hat 1 (by simp)
      have y2 := hat 2 (by simp)
      have y3 := hat 3 (by simp)
      simp only [List.getElem_cons_zero, List.getElem_cons_succ, Nat.add_zero] at y0 y1 y2 y3
      have z3 := hb3.size
      have hc0 := (bat hb3 b1 _ hbb).trans x0
      have hc1 := (bat hb3 b1 _ hbb).trans x1
      have hc2 := (bat hb3 b1 _ hbb).trans x2
      have hc3 := (bat hb3 b1 _ hbb).trans x3
      have hc4 := (bat hb3 b1 _ hbb).trans x4
      have HB3 := Lib.hid (HBX.out.trans (hb3.mono HBX.out.size))
      have HS3 : Hid (∀ W, Below w3.heap.size w3 W → (W.cell? ⟨b1, off, none⟩ = some (.string spa) ∧ W.cell? ⟨b1, off + 1, none⟩ = some (.string spb) ∧ W.cell? ⟨b1, off + 2, none⟩ = some (.string spc) ∧ W.cell? ⟨b1, off + 3, none⟩ = some (.string spd) ∧ W.cell? ⟨b1, off + 4, none⟩ = some (.string spe) ∧ W.cell? ⟨b2, of2, none⟩ = some (.int .i64 x) ∧ W.cell? ⟨b2, of2 + 1, none⟩ = some (.int .i64 y) ∧ W.cell? ⟨b2, of2 + 2, none⟩ = some (.int .i64 z) ∧ W.cell? ⟨b2, of2 + 3, none⟩ = some (.int .i64 u))) := fun W hW => ⟨(bat hW b1 _ (by omega)).trans hc0, (bat hW b1 _ (by omega)).trans hc1, (bat hW b1 _ (by omega)).trans hc2, (bat hW b1 _ (by omega)).trans hc3, (bat hW b1 _ (by omega)).trans hc4, (bat hW b2 _ (by omega)).trans y0, (bat hW b2 _ (by omega)).trans y1, (bat hW b2 _ (by omega)).trans y2, (bat hW b2 _ (by omega)).trans y3⟩
      clear hb3 hr3 hcl hat hc0 hc1 hc2 hc3 hc4 y0 y1 y2 y3 x0 x1 x2 x3 x4 x5
      go_upto_region 5 with (fail)
      refine wp_region_ord 29 [(0, true), (1, true), (2, true), (3, true), (4, true), (5, true), (6, true), (7, true), (8, true), (9, true), (10, true), (11, true), (12, true), (13, true), (14, true), (15, true), (16, true), (17, true), (18, true), (19, true), (20, true), (21, true), (22, true), (23, true), (24, true), (25, true), (26, true), (27, true), (28, false)] (fun W => W.cell? ⟨b1, off, none⟩ = some (.string spa) ∧ W.cell? ⟨b1, off + 1, none⟩ = some (.string spb) ∧ W.cell? ⟨b1, off + 2, none⟩ = some (.string spc) ∧ W.cell? ⟨b1, off + 3, none⟩ = some (.string spd) ∧ W.cell? ⟨b1, off + 4, none⟩ = some (.string spe) ∧ W.cell? ⟨b2, of2, none⟩ = some (.int .i64 x) ∧ W.cell? ⟨b2, of2 + 1, none⟩ = some (.int .i64 y) ∧ W.cell? ⟨b2, of2 + 2, none⟩ = some (.int .i64 z) ∧ W.cell? ⟨b2, of2 + 3, none⟩ = some (.int .i64 u)) (by kernel_rfl) (by kernel_rfl) (HS3.out _ (below_drew1 _)) (fun hHeld => ?_)
      refine wpOrd_read (v := ?_) rfl (fun _ _ _ h => h) ?_ ?_
      rotate_left
      · (intro W hSW; (try dsimp only at hSW); (go_simp <;> with_reducible rfl))
      (try simp only [Act.put, List.setIfInBounds_toArray, List.set_cons_zero, List.set_cons_succ])
      refine wpOrd_read (v := ?_) rfl (fun _ _ _ h => h) ?_ ?_
      rotate_left
      · (intro W hSW; (try dsimp only at hSW); (go_simp <;> with_reducible rfl))
      (try simp only [Act.put, List.setIfInBounds_toArray, List.set_cons_zero, List.set_cons_succ])
      refine wpOrd_read (v := ?_) rfl (fun _ _ _ h => h) ?_ ?_
      rotate_left
      · (intro W hSW; (try dsimp only at hSW); (go_simp <;> with_reducible rfl))
      (try simp only [Act.put, List.setIfInBounds_toArray, List.set_cons_zero, List.set_cons_succ])
      refine wpOrd_read (v := ?_) rfl (fun _ _ _ h => h) ?_ ?_
      rotate_left
      · (intro W hSW; (try dsimp only at hSW); (go_simp <;> with_reducible rfl))
      (try simp only [Act.put, List.setIfInBounds_toArray, List.set_cons_zero, List.set_cons_succ])
      refine wpOrd_read (v := ?_) rfl (fun _ _ _ h => h) ?_ ?_
      rotate_left
      · (intro W hSW; (try dsimp only at hSW); (go_simp <;> with_reducible rfl))
      (try simp only [Act.put, List.setIfInBounds_toArray, List.set_cons_zero, List.set_cons_succ])
      refine wpOrd_read (v := ?_) rfl (fun _ _ _ h => h) ?_ ?_
      rotate_left
      · (intro W hSW; (try dsimp only at hSW); (go_simp <;> with_reducible rfl))
      (try simp only [Act.put, List.setIfInBounds_toArray, List.set_cons_zero, List.set_cons_succ])
      refine wpOrd_read (v := ?_) rfl (fun _ _ _ h => h) ?_ ?_
      rotate_left
      · (intro W hSW; (try dsimp only at hSW); (go_simp <;> with_reducible rfl))
      (try simp only [Act.put, List.setIfInBounds_toArray, List.set_cons_zero, List.set_cons_succ])
      refine wpOrd_read (v := ?_) rfl (fun _ _ _ h => h) ?_ ?_
      rotate_left
      · (intro W hSW; (try dsimp only at hSW); (go_simp <;> with_reducible rfl))
      (try simp only [Act.put, List.setIfInBounds_toArray, List.set_cons_zero, List.set_cons_succ])
      refine wpOrd_read (v := ?_) rfl (fun _ _ _ h => h) ?_ ?_
      rotate_left
      · (intro W hSW; (try dsimp only at hSW); (go_simp <;> with_reducible rfl))
      (try simp only [Act.put, List.setIfInBounds_toArray, List.set_cons_zero, List.set_cons_succ])
      refine wpOrd_read (v := ?_) rfl (fun _ _ _ h => h) ?_ ?_
      rotate_left
      · (intro W hSW; (try dsimp only at hSW); (go_simp <;> with_reducible rfl))
      (try simp only [Act.put, List.setIfInBounds_toArray, List.set_cons_zero, List.set_cons_succ])
      refine wpOrd_read (v := ?_) rfl (fun _ _ _ h => h) ?_ ?_
      rotate_left
      · (intro W hSW; (try dsimp only at hSW); (go_simp <;> with_reducible rfl))
      (try simp only [Act.put, List.setIfInBounds_toArray, List.set_cons_zero, List.set_cons_succ])
      refine wpOrd_read (v := ?_) rfl (fun _ _ _ h => h) ?_ ?_
      rotate_left
      · (intro W hSW; (try dsimp only at hSW); (go_simp <;> with_reducible rfl))
      (try simp only [Act.put, List.setIfInBounds_toArray, List.set_cons_zero, List.set_cons_succ])
      refine wpOrd_read (v := ?_) rfl (fun _ _ _ h => h) ?_ ?_
      rotate_left
      · (intro W hSW; (try dsimp only at hSW); (go_simp <;> with_reducible rfl))
      (try simp only [Act.put, List.setIfInBounds_toArray, List.set_cons_zero, List.set_cons_succ])
      refine wpOrd_read (v := ?_) rfl (fun _ _ _ h => h) ?_ ?_
      rotate_left
      · (intro W hSW; (try dsimp only at hSW); (go_simp <;> with_reducible rfl))
      (try simp only [Act.put, List.setIfInBounds_toArray, List.set_cons_zero, List.set_cons_succ])
      refine wpOrd_read (v := ?_) rfl (fun _ _ _ h => h) ?_ ?_
      rotate_left
      · (intro W hSW; (try dsimp only at hSW); (go_simp <;> with_reducible rfl))
      (try simp only [Act.put, List.setIfInBounds_toArray, List.set_cons_zero, List.set_cons_succ])
      refine wpOrd_read (v := ?_) rfl (fun _ _ _ h => h) ?_ ?_
      rotate_left
      · (intro W hSW; (try dsimp only at hSW); (go_simp <;> with_reducible rfl))
      (try simp only [Act.put, List.setIfInBounds_toArray, List.set_cons_zero, List.set_cons_succ])
      refine wpOrd_read (v := ?_) rfl (fun _ _ _ h => h) ?_ ?_
      rotate_left
      · (intro W hSW; (try dsimp only at hSW); (go_simp <;> with_reducible rfl))
      (try simp only [Act.put, List.setIfInBounds_toArray, List.set_cons_zero, List.set_cons_succ])
      refine wpOrd_read (v := ?_) rfl (fun _ _ _ h => h) ?_ ?_
      rotate_left
      · (intro W hSW; (try dsimp only at hSW); (go_simp <;> with_reducible rfl))
      (try simp only [Act.put, List.setIfInBounds_toArray, List.set_cons_zero, List.set_cons_succ])
      refine wpOrd_read (v := ?_) rfl (fun _ _ _ h => h) ?_ ?_
      rotate_left
      · (intro W hSW; (try dsimp only at hSW); (go_simp <;> with_reducible rfl))
      (try simp only [Act.put, List.setIfInBounds_toArray, List.set_cons_zero, List.set_cons_succ])
      refine wpOrd_read (v := ?_) rfl (fun _ _ _ h => h) ?_ ?_
      rotate_left
      · (intro W hSW; (try dsimp only at hSW); (go_simp <;> with_reducible rfl))
      (try simp only [Act.put, List.setIfInBounds_toArray, List.set_cons_zero, List.set_cons_succ])
      refine wpOrd_read (v := ?_) rfl (fun _ _ _ h => h) ?_ ?_
      rotate_left
      · (intro W hSW; (try dsimp only at hSW); (go_simp <;> with_reducible rfl))
      (try simp only [Act.put, List.setIfInBounds_toArray, List.set_cons_zero, List.set_cons_succ])
      refine wpOrd_read (v := ?_) rfl (fun _ _ _ h => h) ?_ ?_
      rotate_left
      · (intro W hSW; (try dsimp only at hSW); (go_simp <;> with_reducible rfl))
      (try simp only [Act.put, List.setIfInBounds_toArray, List.set_cons_zero, List.set_cons_succ])
      refine wpOrd_read (v := ?_) rfl (fun _ _ _ h => h) ?_ ?_
      rotate_left
      · (intro W hSW; (try dsimp only at hSW); (go_simp <;> with_reducible rfl))
      (try simp only [Act.put, List.setIfInBounds_toArray, List.set_cons_zero, List.set_cons_succ])
      refine wpOrd_read (v := ?_) rfl (fun _ _ _ h => h) ?_ ?_
      rotate_left
      · (intro W hSW; (try dsimp only at hSW); (go_simp <;> with_reducible rfl))
      (try simp only [Act.put, List.setIfInBounds_toArray, List.set_cons_zero, List.set_cons_succ])
      refine wpOrd_read (v := ?_) rfl (fun _ _ _ h => h) ?_ ?_
      rotate_left
      · (intro W hSW; (try dsimp only at hSW); (go_simp <;> with_reducible rfl))
      (try simp only [Act.put, List.setIfInBounds_toArray, List.set_cons_zero, List.set_cons_succ])
      refine wpOrd_read (v := ?_) rfl (fun _ _ _ h => h) ?_ ?_
      rotate_left
      · (intro W hSW; (try dsimp only at hSW); (go_simp <;> with_reducible rfl))
      (try simp only [Act.put, List.setIfInBounds_toArray, List.set_cons_zero, List.set_cons_succ])
      refine wpOrd_read (v := ?_) rfl (fun _ _ _ h => h) ?_ ?_
      rotate_left
      · (intro W hSW; (try dsimp only at hSW); (go_simp <;> with_reducible rfl))
      (try simp only [Act.put, List.setIfInBounds_toArray, List.set_cons_zero, List.set_cons_succ])
      refine wpOrd_read (v := ?_) rfl (fun _ _ _ h => h) ?_ ?_
      rotate_left
      · (intro W hSW; (try dsimp only at hSW); (go_simp <;> with_reducible rfl))
      (try simp only [Act.put, List.setIfInBounds_toArray, List.set_cons_zero, List.set_cons_succ])
      have HBD := Lib.hid (HB3.out.trans ((below_drew1 w3).mono HB3.out.size))
      have hzd : w3.heap.size ≤ w3.drew.heap.size := Nat.le_refl _
      have HSD : Hid (∀ W, Below w3.drew.heap.size w3.drew W → (W.cell? ⟨b1, off, none⟩ = some (.string spa) ∧ W.cell? ⟨b1, off + 1, none⟩ = some (.string spb) ∧ W.cell? ⟨b1, off + 2, none⟩ = some (.string spc) ∧ W.cell? ⟨b1, off + 3, none⟩ = some (.string spd) ∧ W.cell? ⟨b1, off + 4, none⟩ = some (.string spe) ∧ W.cell? ⟨b2, of2, none⟩ = some (.int .i64 x) ∧ W.cell? ⟨b2, of2 + 1, none⟩ = some (.int .i64 y) ∧ W.cell? ⟨b2, of2 + 2, none⟩ = some (.int .i64 z) ∧ W.cell? ⟨b2, of2 + 3, none⟩ = some (.int .i64 u))) := fun W hW => HS3.out W ((below_drew1 w3).trans (hW.mono hzd))
      generalize w3.drew = w4 at *
      refine wpOrd_step rfl (fun K hK => ?_)
      go_simp
      refine hK.out _ _ (HSD.out _ (below_alloc w4 _)) ?_
      clear hK K
      (try simp only [Act.put, List.setIfInBounds_toArray, List.set_cons_zero, List.set_cons_succ])
      refine wpOrd_nil ?_
      simp only [List.drop_succ_cons, List.drop_zero]
      go_upto_region 6 with (fail)
      obtain ⟨W5, hW5, b5, z5, k5⟩ := boxes1 w4 #[.string spa, .string spb, .string spc, .string spd, .string spe, .int .i64 x, .int .i64 y, .int .i64 z, .int .i64 u] 29
      rw [hW5]
      clear hW5
      have HB5 := Lib.hid (HBD.out.trans (b5.mono HBD.out.size))
      have K5 := Lib.hid k5
      have zb5 := HBD.out.size
      clear b5 k5
      obtain ⟨t0, t1, t2, t3, t4, t5, t6, t7, t8⟩ := HD.out _ HB5.out
      have gz := bkF (bkB K0.out HB5.out (by omega))
      have q0 := bkC (v := .string spa) K5.out 0 rfl
      have q1 := bkC (v := .string spb) K5.out 1 rfl
      have q2 := bkC (v := .string spc) K5.out 2 rfl
      have q3 := bkC (v := .string spd) K5.out 3 rfl
      have q4 := bkC (v := .string spe) K5.out 4 rfl
      have q5 := bkC (v := .int .i64 x) K5.out 5 rfl
      have q6 := bkC (v := .int .i64 y) K5.out 6 rfl
      have q7 := bkC (v := .int .i64 z) K5.out 7 rfl
      have q8 := bkC (v := .int .i64 u) K5.out 8 rfl
      have BF := Lib.hid (HH.out _ HB5.out)
      go_wp2_with (go_at_call 33; with_reducible refine (HTX.out _ HB5.out).mono ?_; rintro e w6 ⟨rfl, hb6⟩; clear t0 t1 t2 t3 t4 t5 t6 t7 t8 gz q0 q1 q2 q3 q4 q5 q6 q7 q8 BF; have HB6 := Lib.hid (HB5.out.trans (hb6.mono HB5.out.size)); have K6 := Lib.hid (bkB K5.out hb6 (by omega)); clear hb6; obtain ⟨t0, t1, t2, t3, t4, t5, t6, t7, t8⟩ := HD.out _ HB6.out; have gz := bkF (bkB K0.out HB6.out (by omega)); have q0 := bkC (v := .string spa) K6.out 0 rfl; have q1 := bkC (v := .string spb) K6.out 1 rfl; have q2 := bkC (v := .string spc) K6.out 2 rfl; have q3 := bkC (v := .string spd) K6.out 3 rfl; have q4 := bkC (v := .string spe) K6.out 4 rfl; have q5 := bkC (v := .int .i64 x) K6.out 5 rfl; have q6 := bkC (v := .int .i64 y) K6.out 6 rfl; have q7 := bkC (v := .int .i64 z) K6.out 7 rfl; have q8 := bkC (v := .int .i64 u) K6.out 8 rfl; have BF := Lib.hid (HH.out _ HB6.out))
      refine bodyPost_ret (v := .tuple #[.agg #[.string spa, .string spb, .string spc, .string spd, .string spe, .int .i64 x, .int .i64 y, .int .i64 z, .int .i64 u], .bool true]) (by simp [results, Tryd.results13, go_sem, *]) rfl ?_
      exact ⟨by rw [HE.out]; rfl, (bset (bset (bset (bset (bset (bset (bset (bset (bset BF.out (by omega) 0 _) (by omega) 1 _) (by omega) 2 _) (by omega) 3 _) (by omega) 4 _) (by omega) 5 _) (by omega) 6 _) (by omega) 7 _) (by omega) 8 _)⟩
    · have HE : Hid (sectorR s = none) := by show _ = _; unfold sectorR; rw [hab]; simp [hpr, hv]
      have hne : eqS (sectorText ⟨ofL pa, ofL pb, ofL pc, ofL pd, ofL pe, x, y, z, u⟩) s = false := by
        rw [Bool.eq_false_iff]
        intro e
        exact hv ((sectorText_of hab hpr).1 (eqS_iff.1 e))
      generalize sectorText ⟨ofL pa, ofL pb, ofL pc, ofL pd, ofL pe, x, y, z, u⟩ = tx at *
      have hq : (tx.toList == s.toList) = false := hne
      have hqn : (tx.toList != s.toList) = true := by unfold bne; rw [hq]; rfl
      clear hne
      clear hpr hab hv hspa hspb hspc hspd hspe hsn
      generalize ofL pa = spa at *
      generalize ofL pb = spb at *
      generalize ofL pc = spc at *
      generalize ofL pd = spd at *
      generalize ofL pe = spe at *
      go_enter Tryd.func13, Tryd.ntmps13
      go_upto_region 1 with (fail)
      rw [HW0.out]
      obtain ⟨t0, t1, t2, t3, t4, t5, t6, t7, t8⟩ := HD.out _ HB.out
      go_wp2_with fail
      refine (HSP.out _ HB.out).mono ?_
      rintro e w2 ⟨a1, c1, rfl, hb2, hr2⟩
      obtain ⟨_, _, e1, _, _, hcl⟩ := Rd.strs hr2
      injection e1 with e1 _ e3
      subst e1 e3
      obtain ⟨b1, off, ea, hbb, hat⟩ := hcl (by simp)
      subst ea
      have x0 := hat 0 (by simp)
      have x1 := hat 1 (by simp)
      have x2 := hat 2 (by simp)
      have x3 := hat 3 (by simp)
      have x4 := hat 4 (by simp)
      have x5 := hat 5 (by simp)
      simp only [List.getElem_cons_zero, List.getElem_cons_succ, Nat.add_zero] at x0 x1 x2 x3 x4 x5
      have HBX := Lib.hid (HB.out.trans (hb2.mono HB.out.size))
      clear hb2 hr2 hcl hat t0 t1 t2 t3 t4 t5 t6 t7 t8
      go_wp2_with fail
      refine (HRN.out _ HBX.out).mono ?_
      rintro e w3 ⟨a2, c2, rfl, hb3, hr3⟩
      obtain ⟨_, _, e1, _, _, hcl⟩ := Rd.ints hr3
      injection e1 with e1 _ e3
      subst e1 e3
      obtain ⟨b2, of2, ea, hbb2, hat⟩ := hcl (by simp)
      subst ea
      have y0 := hat 0 (by simp)
      have y1 := hat 1 (by simp)
      have y2 := hat 2 (by simp)
      have y3 := hat 3 (by simp)
      simp only [List.getElem_cons_zero, List.getElem_cons_succ, Nat.add_zero] at y0 y1 y2 y3
      have z3 := hb3.size
      have hc0 := (bat hb3 b1 _ hbb).trans x0
      have hc1 := (bat hb3 b1 _ hbb).trans x1
      have hc2 := (bat hb3 b1 _ hbb).trans x2
      have hc3 := (bat hb3 b1 _ hbb).trans x3
      have hc4 := (bat hb3 b1 _ hbb).trans x4
      have HB3 := Lib.hid (HBX.out.trans (hb3.mono HBX.out.size))
      have HS3 : Hid (∀ W, Below w3.heap.size w3 W → (W.cell? ⟨b1, off, none⟩ = some (.string spa) ∧ W.cell? ⟨b1, off + 1, none⟩ = some (.string spb) ∧ W.cell? ⟨b1, off + 2, none⟩ = some (.string spc) ∧ W.cell? ⟨b1, off + 3, none⟩ = some (.string spd) ∧ W.cell? ⟨b1, off + 4, none⟩ = some (.string spe) ∧ W.cell? ⟨b2, of2, none⟩ = some (.int .i64 x) ∧ W.cell? ⟨b2, of2 + 1, none⟩ = some (.int .i64 y) ∧ W.cell? ⟨b2, of2 + 2, none⟩ = some (.int .i64 z) ∧ W.cell? ⟨b2, of2 + 3, none⟩ = some (.int .i64 u))) := fun W hW => ⟨(bat hW b1 _ (by omega)).trans hc0, (bat hW b1 _ (by omega)).trans hc1, (bat hW b1 _ (by omega)).trans hc2, (bat hW b1 _ (by omega)).trans hc3, (bat hW b1 _ (by omega)).trans hc4, (bat hW b2 _ (by omega)).trans y0, (bat hW b2 _ (by omega)).trans y1, (bat hW b2 _ (by omega)).trans y2, (bat hW b2 _ (by omega)).trans y3⟩
      clear hb3 hr3 hcl hat hc0 hc1 hc2 hc3 hc4 y0 y1 y2 y3 x0 x1 x2 x3 x4 x5
      go_upto_region 5 with (fail)
      refine wp_region_ord 29 [(0, true), (1, true), (2, true), (3, true), (4, true), (5, true), (6, true), (7, true), (8, true), (9, true), (10, true), (11, true), (12, true), (13, true), (14, true), (15, true), (16, true), (17, true), (18, true), (19, true), (20, true), (21, true), (22, true), (23, true), (24, true), (25, true), (26, true), (27, true), (28, false)] (fun W => W.cell? ⟨b1, off, none⟩ = some (.string spa) ∧ W.cell? ⟨b1, off + 1, none⟩ = some (.string spb) ∧ W.cell? ⟨b1, off + 2, none⟩ = some (.string spc) ∧ W.cell? ⟨b1, off + 3, none⟩ = some (.string spd) ∧ W.cell? ⟨b1, off + 4, none⟩ = some (.string spe) ∧ W.cell? ⟨b2, of2, none⟩ = some (.int .i64 x) ∧ W.cell? ⟨b2, of2 + 1, none⟩ = some (.int .i64 y) ∧ W.cell? ⟨b2, of2 + 2, none⟩ = some (.int .i64 z) ∧ W.cell? ⟨b2, of2 + 3, none⟩ = some (.int .i64 u)) (by kernel_rfl) (by kernel_rfl) (HS3.out _ (below_drew1 _)) (fun hHeld => ?_)
      refine wpOrd_read (v := ?_) rfl (fun _ _ _ h => h) ?_ ?_
      rotate_left
      · (intro W hSW; (try dsimp only at hSW); (go_simp <;> with_reducible rfl))
      (try simp only [Act.put, List.setIfInBounds_toArray, List.set_cons_zero, List.set_cons_succ])
      refine wpOrd_read (v := ?_) rfl (fun _ _ _ h => h) ?_ ?_
      rotate_left
      · (intro W hSW; (try dsimp only at hSW); (go_simp <;> with_reducible rfl))
      (try simp only [Act.put, List.setIfInBounds_toArray, List.set_cons_zero, List.set_cons_succ])
      refine wpOrd_read (v := ?_) rfl (fun _ _ _ h => h) ?_ ?_
      rotate_left
      · (intro W hSW; (try dsimp only at hSW); (go_simp <;> with_reducible rfl))
      (try simp only [Act.put, List.setIfInBounds_toArray, List.set_cons_zero, List.set_cons_succ])
      refine wpOrd_read (v := ?_) rfl (fun _ _ _ h => h) ?_ ?_
      rotate_left
      · (intro W hSW; (try dsimp only at hSW); (go_simp <;> with_reducible rfl))
      (try simp only [Act.put, List.setIfInBounds_toArray, List.set_cons_zero, List.set_cons_succ])
      refine wpOrd_read (v := ?_) rfl (fun _ _ _ h => h) ?_ ?_
      rotate_left
      · (intro W hSW; (try dsimp only at hSW); (go_simp <;> with_reducible rfl))
      (try simp only [Act.put, List.setIfInBounds_toArray, List.set_cons_zero, List.set_cons_succ])
      refine wpOrd_read (v := ?_) rfl (fun _ _ _ h => h) ?_ ?_
      rotate_left
      · (intro W hSW; (try dsimp only at hSW); (go_simp <;> with_reducible rfl))
      (try simp only [Act.put, List.setIfInBounds_toArray, List.set_cons_zero, List.set_cons_succ])
      refine wpOrd_read (v := ?_) rfl (fun _ _ _ h => h) ?_ ?_
      rotate_left
      · (intro W hSW; (try dsimp only at hSW); (go_simp <;> with_reducible rfl))
      (try simp only [Act.put, List.setIfInBounds_toArray, List.set_cons_zero, List.set_cons_succ])
      refine wpOrd_read (v := ?_) rfl (fun _ _ _ h => h) ?_ ?_
      rotate_left
      · (intro W hSW; (try dsimp only at hSW); (go_simp <;> with_reducible rfl))
      (try simp only [Act.put, List.setIfInBounds_toArray, List.set_cons_zero, List.set_cons_succ])
      refine wpOrd_read (v := ?_) rfl (fun _ _ _ h => h) ?_ ?_
      rotate_left
      · (intro W hSW; (try dsimp only at hSW); (go_simp <;> with_reducible rfl))
      (try simp only [Act.put, List.setIfInBounds_toArray, List.set_cons_zero, List.set_cons_succ])
      refine wpOrd_read (v := ?_) rfl (fun _ _ _ h => h) ?_ ?_
      rotate_left
      · (intro W hSW; (try dsimp only at hSW); (go_simp <;> with_reducible rfl))
      (try simp only [Act.put, List.setIfInBounds_toArray, List.set_cons_zero, List.set_cons_succ])
      refine wpOrd_read (v := ?_) rfl (fun _ _ _ h => h) ?_ ?_
      rotate_left
      · (intro W hSW; (try dsimp only at hSW); (go_simp <;> with_reducible rfl))
      (try simp only [Act.put, List.setIfInBounds_toArray, List.set_cons_zero, List.set_cons_succ])
      refine wpOrd_read (v := ?_) rfl (fun _ _ _ h => h) ?_ ?_
      rotate_left
      · (intro W hSW; (try dsimp only at hSW); (go_simp <;> with_reducible rfl))
      (try simp only [Act.put, List.setIfInBounds_toArray, List.set_cons_zero, List.set_cons_succ])
      refine wpOrd_read (v := ?_) rfl (fun _ _ _ h => h) ?_ ?_
      rotate_left
      · (intro W hSW; (try dsimp only at hSW); (go_simp <;> with_reducible rfl))
      (try simp only [Act.put, List.setIfInBounds_toArray, List.set_cons_zero, List.set_cons_succ])
      refine wpOrd_read (v := ?_) rfl (fun _ _ _ h => h) ?_ ?_
      rotate_left
      · (intro W hSW; (try dsimp only at hSW); (go_simp <;> with_reducible rfl))
      (try simp only [Act.put, List.setIfInBounds_toArray, List.set_cons_zero, List.set_cons_succ])
      refine wpOrd_read (v := ?_) rfl (fun _ _ _ h => h) ?_ ?_
      rotate_left
      · (intro W hSW; (try dsimp only at hSW); (go_simp <;> with_reducible rfl))
      (try simp only [Act.put, List.setIfInBounds_toArray, List.set_cons_zero, List.set_cons_succ])
      refine wpOrd_read (v := ?_) rfl (fun _ _ _ h => h) ?_ ?_
      rotate_left
      · (intro W hSW; (try dsimp only at hSW); (go_simp <;> with_reducible rfl))
      (try simp only [Act.put, List.setIfInBounds_toArray, List.set_cons_zero, List.set_cons_succ])
      refine wpOrd_read (v := ?_) rfl (fun _ _ _ h => h) ?_ ?_
      rotate_left
      · (intro W hSW; (try dsimp only at hSW); (go_simp <;> with_reducible rfl))
      (try simp only [Act.put, List.setIfInBounds_toArray, List.set_cons_zero, List.set_cons_succ])
      refine wpOrd_read (v := ?_) rfl (fun _ _ _ h => h) ?_ ?_
      rotate_left
      · (intro W hSW; (try dsimp only at hSW); (go_simp <;> with_reducible rfl))
      (try simp only [Act.put, List.setIfInBounds_toArray, List.set_cons_zero, List.set_cons_succ])
      refine wpOrd_read (v := ?_) rfl (fun _ _ _ h => h) ?_ ?_
      rotate_left
      · (intro W hSW; (try dsimp only at hSW); (go_simp <;> with_reducible rfl))
      (try simp only [Act.put, List.setIfInBounds_toArray, List.set_cons_zero, List.set_cons_succ])
      refine wpOrd_read (v := ?_) rfl (fun _ _ _ h => h) ?_ ?_
      rotate_left
      · (intro W hSW; (try dsimp only at hSW); (go_simp <;> with_reducible rfl))
      (try simp only [Act.put, List.setIfInBounds_toArray, List.set_cons_zero, List.set_cons_succ])
      refine wpOrd_read (v := ?_) rfl (fun _ _ _ h => h) ?_ ?_
      rotate_left
      · (intro W hSW; (try dsimp only at hSW); (go_simp <;> with_reducible rfl))
      (try simp only [Act.put, List.setIfInBounds_toArray, List.set_cons_zero, List.set_cons_succ])
      refine wpOrd_read (v := ?_) rfl (fun _ _ _ h => h) ?_ ?_
      rotate_left
      · (intro W hSW; (try dsimp only at hSW); (go_simp <;> with_reducible rfl))
      (try simp only [Act.put, List.setIfInBounds_toArray, List.set_cons_zero, List.set_cons_succ])
      refine wpOrd_read (v := ?_) rfl (fun _ _ _ h => h) ?_ ?_
      rotate_left
      · (intro W hSW; (try dsimp only at hSW); (go_simp <;> with_reducible rfl))
      (try simp only [Act.put, List.setIfInBounds_toArray, List.set_cons_zero, List.set_cons_succ])
      refine wpOrd_read (v := ?_) rfl (fun _ _ _ h => h) ?_ ?_
      rotate_left
      · (intro W hSW; (try dsimp only at hSW); (go_simp <;> with_reducible rfl))
      (try simp only [Act.put, List.setIfInBounds_toArray, List.set_cons_zero, List.set_cons_succ])
      refine wpOrd_read (v := ?_) rfl (fun _ _ _ h => h) ?_ ?_
      rotate_left
      · (intro W hSW; (try dsimp only at hSW); (go_simp <;> with_reducible rfl))
      (try simp only [Act.put, List.setIfInBounds_toArray, List.set_cons_zero, List.set_cons_succ])
      refine wpOrd_read (v := ?_) rfl (fun _ _ _ h => h) ?_ ?_
      rotate_left
      · (intro W hSW; (try dsimp only at hSW); (go_simp <;> with_reducible rfl))
      (try simp only [Act.put, List.setIfInBounds_toArray, List.set_cons_zero, List.set_cons_succ])
      refine wpOrd_read (v := ?_) rfl (fun _ _ _ h => h) ?_ ?_
      rotate_left
      · (intro W hSW; (try dsimp only at hSW); (go_simp <;> with_reducible rfl))
      (try simp only [Act.put, List.setIfInBounds_toArray, List.set_cons_zero, List.set_cons_succ])
      refine wpOrd_read (v := ?_) rfl (fun _ _ _ h => h) ?_ ?_
      rotate_left
      · (intro W hSW; (try dsimp only at hSW); (go_simp <;> with_reducible rfl))
      (try simp only [Act.put, List.setIfInBounds_toArray, List.set_cons_zero, List.set_cons_succ])
      have HBD := Lib.hid (HB3.out.trans ((below_drew1 w3).mono HB3.out.size))
      have hzd : w3.heap.size ≤ w3.drew.heap.size := Nat.le_refl _
      have HSD : Hid (∀ W, Below w3.drew.heap.size w3.drew W → (W.cell? ⟨b1, off, none⟩ = some (.string spa) ∧ W.cell? ⟨b1, off + 1, none⟩ = some (.string spb) ∧ W.cell? ⟨b1, off + 2, none⟩ = some (.string spc) ∧ W.cell? ⟨b1, off + 3, none⟩ = some (.string spd) ∧ W.cell? ⟨b1, off + 4, none⟩ = some (.string spe) ∧ W.cell? ⟨b2, of2, none⟩ = some (.int .i64 x) ∧ W.cell? ⟨b2, of2 + 1, none⟩ = some (.int .i64 y) ∧ W.cell? ⟨b2, of2 + 2, none⟩ = some (.int .i64 z) ∧ W.cell? ⟨b2, of2 + 3, none⟩ = some (.int .i64 u))) := fun W hW => HS3.out W ((below_drew1 w3).trans (hW.mono hzd))
      generalize w3.drew = w4 at *
      refine wpOrd_step rfl (fun K hK => ?_)
      go_simp
      refine hK.out _ _ (HSD.out _ (below_alloc w4 _)) ?_
      clear hK K
      (try simp only [Act.put, List.setIfInBounds_toArray, List.set_cons_zero, List.set_cons_succ])
      refine wpOrd_nil ?_
      simp only [List.drop_succ_cons, List.drop_zero]
      go_upto_region 6 with (fail)
      obtain ⟨W5, hW5, b5, z5, k5⟩ := boxes1 w4 #[.string spa, .string spb, .string spc, .string spd, .string spe, .int .i64 x, .int .i64 y, .int .i64 z, .int .i64 u] 29
      rw [hW5]
      clear hW5
      have HB5 := Lib.hid (HBD.out.trans (b5.mono HBD.out.size))
      have K5 := Lib.hid k5
      have zb5 := HBD.out.size
      clear b5 k5
      obtain ⟨t0, t1, t2, t3, t4, t5, t6, t7, t8⟩ := HD.out _ HB5.out
      have gz := bkF (bkB K0.out HB5.out (by omega))
      have q0 := bkC (v := .string spa) K5.out 0 rfl
      have q1 := bkC (v := .string spb) K5.out 1 rfl
      have q2 := bkC (v := .string spc) K5.out 2 rfl
      have q3 := bkC (v := .string spd) K5.out 3 rfl
      have q4 := bkC (v := .string spe) K5.out 4 rfl
      have q5 := bkC (v := .int .i64 x) K5.out 5 rfl
      have q6 := bkC (v := .int .i64 y) K5.out 6 rfl
      have q7 := bkC (v := .int .i64 z) K5.out 7 rfl
      have q8 := bkC (v := .int .i64 u) K5.out 8 rfl
      have BF := Lib.hid (HH.out _ HB5.out)
      go_wp2_with (go_at_call 33; with_reducible refine (HTX.out _ HB5.out).mono ?_; rintro e w6 ⟨rfl, hb6⟩; clear t0 t1 t2 t3 t4 t5 t6 t7 t8 gz q0 q1 q2 q3 q4 q5 q6 q7 q8 BF; have HB6 := Lib.hid (HB5.out.trans (hb6.mono HB5.out.size)); have K6 := Lib.hid (bkB K5.out hb6 (by omega)); clear hb6; obtain ⟨t0, t1, t2, t3, t4, t5, t6, t7, t8⟩ := HD.out _ HB6.out; have gz := bkF (bkB K0.out HB6.out (by omega)); have q0 := bkC (v := .string spa) K6.out 0 rfl; have q1 := bkC (v := .string spb) K6.out 1 rfl; have q2 := bkC (v := .string spc) K6.out 2 rfl; have q3 := bkC (v := .string spd) K6.out 3 rfl; have q4 := bkC (v := .string spe) K6.out 4 rfl; have q5 := bkC (v := .int .i64 x) K6.out 5 rfl; have q6 := bkC (v := .int .i64 y) K6.out 6 rfl; have q7 := bkC (v := .int .i64 z) K6.out 7 rfl; have q8 := bkC (v := .int .i64 u) K6.out 8 rfl; have BF := Lib.hid (HH.out _ HB6.out))
      refine bodyPost_ret (v := .tuple #[.agg #[.string ⟨#[]⟩, .string ⟨#[]⟩, .string ⟨#[]⟩, .string ⟨#[]⟩, .string ⟨#[]⟩, .int .i64 0, .int .i64 0, .int .i64 0, .int .i64 0], .bool false]) (by simp [results, Tryd.results13, go_sem, *]) rfl ?_
      exact ⟨by rw [HE.out]; rfl, (bset (bset (bset (bset (bset (bset (bset (bset (bset BF.out (by omega) 0 _) (by omega) 1 _) (by omega) 2 _) (by omega) 3 _) (by omega) 4 _) (by omega) 5 _) (by omega) 6 _) (by omega) 7 _) (by omega) 8 _)⟩
set_option maxHeartbeats 8000000 in
set_option maxRecDepth 100000 in
theorem sReadSector_any (s : ByteArray) (hs : s.size ≤ 1048576) (w : World) : Calls Tryd.prog 12 #[.string s] w fun e w' => e = .returned (.tuple #[.agg #[.string ((sectorR s).getD zSector).name, .string ((sectorR s).getD zSector).site, .string ((sectorR s).getD zSector).antenna, .string ((sectorR s).getD zSector).radio, .string ((sectorR s).getD zSector).band, .int .i64 ((sectorR s).getD zSector).azimuth, .int .i64 ((sectorR s).getD zSector).tilt, .int .i64 ((sectorR s).getD zSector).above, .int .i64 ((sectorR s).getD zSector).channel], .bool (sectorR s).isSome]) ∧ Below w.heap.size w w' := by
  obtain ⟨W0, hW0, b0, z0, k0⟩ := boxes1 w #[.string ⟨#[]⟩, .string ⟨#[]⟩, .string ⟨#[]⟩, .string ⟨#[]⟩, .string ⟨#[]⟩, .int .i64 0, .int .i64 0, .int .i64 0, .int .i64 0] 29
  have HW0 := Lib.hid hW0
  clear hW0
  have B0 := Lib.hid b0
  clear b0
  have K0 := Lib.hid k0
  clear k0
  have HD : Hid (∀ W : World, Below W0.heap.size W0 W → (W.cell? ⟨w.heap.size, 0, none⟩ = some (.string ⟨#[]⟩) ∧ W.cell? ⟨w.heap.size, 1, none⟩ = some (.string ⟨#[]⟩) ∧ W.cell? ⟨w.heap.size, 2, none⟩ = some (.string ⟨#[]⟩) ∧ W.cell? ⟨w.heap.size, 3, none⟩ = some (.string ⟨#[]⟩) ∧ W.cell? ⟨w.heap.size, 4, none⟩ = some (.string ⟨#[]⟩) ∧ W.cell? ⟨w.heap.size, 5, none⟩ = some (.int .i64 0) ∧ W.cell? ⟨w.heap.size, 6, none⟩ = some (.int .i64 0) ∧ W.cell? ⟨w.heap.size, 7, none⟩ = some (.int .i64 0) ∧ W.cell? ⟨w.heap.size, 8, none⟩ = some (.int .i64 0))) := fun W hW => ⟨bkC (bkB K0.out hW (by omega)) 0 rfl, bkC (bkB K0.out hW (by omega)) 1 rfl, bkC (bkB K0.out hW (by omega)) 2 rfl, bkC (bkB K0.out hW (by omega)) 3 rfl, bkC (bkB K0.out hW (by omega)) 4 rfl, bkC (bkB K0.out hW (by omega)) 5 rfl, bkC (bkB K0.out hW (by omega)) 6 rfl, bkC (bkB K0.out hW (by omega)) 7 rfl, bkC (bkB K0.out hW (by omega)) 8 rfl⟩
  have HB : Hid (Below W0.heap.size W0 W0) := Below.refl _ _
  have HH : Hid (∀ W : World, Below W0.heap.size W0 W → Below w.heap.size w W) := fun W hW => B0.out.trans (hW.mono (by omega))
  have HSP : Hid (∀ W, Below W0.heap.size W0 W → Calls Tryd.prog 21 #[.string s, .int .u8 32] W fun e w' => ∃ a cc, e = .returned (.slice a (wordsB 32 s).length cc) ∧ Below W.heap.size W w' ∧ Rd w'.heap.size w' (strsT (wordsB 32 s)) (.slice a (wordsB 32 s).length cc)) := fun W hW => l01Split_any s 32 32 rfl hs W
  have hsz : ∀ p ∈ wordsB 32 s, p.size ≤ 1048576 := fun p hp => Nat.le_trans (words_size _ _ _ hp) hs
  have hwl : (wordsB 32 s).length = (splitC 32 (bl s)).length := List.length_map _
  by_cases h2 : (splitC 32 (bl s)).length = 6
  case neg =>
    have HE : Hid (sectorR s = none) := by
      show _ = _
      unfold sectorR
      split
      · rename_i pa pb pc pd pe n e_; rw [e_] at h2; exact absurd rfl h2
      · rfl
    rw [← hwl] at h2
    generalize wordsB 32 s = ws at *
    have hq : ((ws.length : Int) != 6) = true := by rw [bne_iff_ne]; omega
    have hq2 : ((ws.length : Int) == 6) = false := by rw [beq_eq_false_iff_ne]; omega
    clear hwl h2 hsz
    go_enter Tryd.func12, Tryd.ntmps12
    go_upto_region 1 with (fail)
    rw [HW0.out]
    obtain ⟨t0, t1, t2, t3, t4, t5, t6, t7, t8⟩ := HD.out _ HB.out
    go_wp2_with (go_at_call 21; with_reducible refine (HSP.out _ HB.out).mono ?_; rintro e w2 ⟨a, c, rfl, hb2, hr2⟩; clear hr2; have HB2 := Lib.hid (HB.out.trans (hb2.mono HB.out.size)); clear hb2 t0 t1 t2 t3 t4 t5 t6 t7 t8; obtain ⟨t0, t1, t2, t3, t4, t5, t6, t7, t8⟩ := HD.out _ HB2.out; have gz := bkF (bkB K0.out HB2.out (by omega)); have BF := Lib.hid (HH.out _ HB2.out))
    refine bodyPost_ret (v := .tuple #[.agg #[.string ⟨#[]⟩, .string ⟨#[]⟩, .string ⟨#[]⟩, .string ⟨#[]⟩, .string ⟨#[]⟩, .int .i64 0, .int .i64 0, .int .i64 0, .int .i64 0], .bool false]) (by simp [results, Tryd.results12, go_sem, *]) rfl ?_
    exact ⟨by rw [HE.out]; rfl, (bset (bset (bset (bset (bset (bset (bset (bset (bset BF.out (by omega) 0 _) (by omega) 1 _) (by omega) 2 _) (by omega) 3 _) (by omega) 4 _) (by omega) 5 _) (by omega) 6 _) (by omega) 7 _) (by omega) 8 _)⟩
  obtain ⟨pa, pb, pc, pd, pe, n, hab⟩ : ∃ pa pb pc pd pe n, splitC 32 (bl s) = [pa, pb, pc, pd, pe, n] := by
    match h : splitC 32 (bl s), h2 with
    | [pa, pb, pc, pd, pe, n], _ => exact ⟨pa, pb, pc, pd, pe, n, rfl⟩
  have hwd : wordsB 32 s = [ofL pa, ofL pb, ofL pc, ofL pd, ofL pe, ofL n] := words_of _ _ _ hab
  rw [hwd] at HSP hsz
  have hspa : (ofL pa).size ≤ 1048576 := hsz (ofL pa) (by simp)
  have hspb : (ofL pb).size ≤ 1048576 := hsz (ofL pb) (by simp)
  have hspc : (ofL pc).size ≤ 1048576 := hsz (ofL pc) (by simp)
  have hspd : (ofL pd).size ≤ 1048576 := hsz (ofL pd) (by simp)
  have hspe : (ofL pe).size ≤ 1048576 := hsz (ofL pe) (by simp)
  have hsn : (ofL n).size ≤ 1048576 := hsz (ofL n) (by simp)
  have HRL : Hid (∀ W, Calls Tryd.prog 29 #[.string (ofL n)] W (ReadP (readL n) W)) := fun W => by
    have := sReadList_any (ofL n) hsn W
    rw [bl_ofL, ← readL_eq] at this
    exact this
  clear hwl h2 hwd hsz
  cases hpr : readL n with
  | none =>
    have HE : Hid (sectorR s = none) := by show _ = _; unfold sectorR; rw [hab]; simp [readM, hpr]
    rw [hpr] at HRL
    clear hpr hab hspa hspb hspc hspd hspe hsn
    generalize ofL pa = spa at *
    generalize ofL pb = spb at *
    generalize ofL pc = spc at *
    generalize ofL pd = spd at *
    generalize ofL pe = spe at *
    go_enter Tryd.func12, Tryd.ntmps12
    go_upto_region 1 with (fail)
    rw [HW0.out]
    obtain ⟨t0, t1, t2, t3, t4, t5, t6, t7, t8⟩ := HD.out _ HB.out
    go_wp2_with fail
    refine (HSP.out _ HB.out).mono ?_
    rintro e w2 ⟨a1, c1, rfl, hb2, hr2⟩
    obtain ⟨_, _, e1, _, _, hcl⟩ := Rd.strs hr2
    injection e1 with e1 _ e3
    subst e1 e3
    obtain ⟨b1, off, ea, hbb, hat⟩ := hcl (by simp)
    subst ea
    have x0 := hat 0 (by simp)
    have x1 := hat 1 (by simp)
    have x2 := hat 2 (by simp)
    have x3 := hat 3 (by simp)
    have x4 := hat 4 (by simp)
    have x5 := hat 5 (by simp)
    simp only [List.getElem_cons_zero, List.getElem_cons_succ, Nat.add_zero] at x0 x1 x2 x3 x4 x5
    have HBX := Lib.hid (HB.out.trans (hb2.mono HB.out.size))
    clear hb2 hr2 hcl hat t0 t1 t2 t3 t4 t5 t6 t7 t8
    go_wp2_with fail
    refine (HRL.out _).mono ?_
    rintro e w3 ⟨rfl, hb3⟩
    have HB3 := Lib.hid (HBX.out.trans (hb3.mono HBX.out.size))
    clear x0 x1 x2 x3 x4 x5 hb3
    obtain ⟨t0, t1, t2, t3, t4, t5, t6, t7, t8⟩ := HD.out _ HB3.out
    have gz := bkF (bkB K0.out HB3.out (by omega))
    have BF := Lib.hid (HH.out _ HB3.out)
    go_wp2
    refine bodyPost_ret (v := .tuple #[.agg #[.string ⟨#[]⟩, .string ⟨#[]⟩, .string ⟨#[]⟩, .string ⟨#[]⟩, .string ⟨#[]⟩, .int .i64 0, .int .i64 0, .int .i64 0, .int .i64 0], .bool false]) (by simp [results, Tryd.results12, go_sem, *]) rfl ?_
    exact ⟨by rw [HE.out]; rfl, (bset (bset (bset (bset (bset (bset (bset (bset (bset BF.out (by omega) 0 _) (by omega) 1 _) (by omega) 2 _) (by omega) 3 _) (by omega) 4 _) (by omega) 5 _) (by omega) 6 _) (by omega) 7 _) (by omega) 8 _)⟩
  | some vs =>
    rw [hpr] at HRL
    by_cases hl4 : vs.length = 4
    case neg =>
      have HE : Hid (sectorR s = none) := by show _ = _; unfold sectorR; rw [hab]; simp [readM, hpr, hl4]
      have hq : ((vs.length : Int) != 4) = true := by rw [bne_iff_ne]; omega
      have hq2 : ((vs.length : Int) == 4) = false := by rw [beq_eq_false_iff_ne]; omega
      clear hpr hab hl4 hspa hspb hspc hspd hspe hsn
      generalize ofL pa = spa at *
      generalize ofL pb = spb at *
      generalize ofL pc = spc at *
      generalize ofL pd = spd at *
      generalize ofL pe = spe at *
      go_enter Tryd.func12, Tryd.ntmps12
      go_upto_region 1 with (fail)
      rw [HW0.out]
      obtain ⟨t0, t1, t2, t3, t4, t5, t6, t7, t8⟩ := HD.out _ HB.out
      go_wp2_with fail
      refine (HSP.out _ HB.out).mono ?_
      rintro e w2 ⟨a1, c1, rfl, hb2, hr2⟩
      obtain ⟨_, _, e1, _, _, hcl⟩ := Rd.strs hr2
      injection e1 with e1 _ e3
      subst e1 e3
      obtain ⟨b1, off, ea, hbb, hat⟩ := hcl (by simp)
      subst ea
      have x0 := hat 0 (by simp)
      have x1 := hat 1 (by simp)
      have x2 := hat 2 (by simp)
      have x3 := hat 3 (by simp)
      have x4 := hat 4 (by simp)
      have x5 := hat 5 (by simp)
      simp only [List.getElem_cons_zero, List.getElem_cons_succ, Nat.add_zero] at x0 x1 x2 x3 x4 x5
      have HBX := Lib.hid (HB.out.trans (hb2.mono HB.out.size))
      clear hb2 hr2 hcl hat t0 t1 t2 t3 t4 t5 t6 t7 t8
      go_wp2_with fail
      refine (HRL.out _).mono ?_
      rintro e w3 ⟨a2, c2, rfl, hb3, hr3⟩
      have HB3 := Lib.hid (HBX.out.trans (hb3.mono HBX.out.size))
      clear x0 x1 x2 x3 x4 x5 hb3 hr3
      obtain ⟨t0, t1, t2, t3, t4, t5, t6, t7, t8⟩ := HD.out _ HB3.out
      have gz := bkF (bkB K0.out HB3.out (by omega))
      have BF := Lib.hid (HH.out _ HB3.out)
      go_wp2
      refine bodyPost_ret (v := .tuple #[.agg #[.string ⟨#[]⟩, .string ⟨#[]⟩, .string ⟨#[]⟩, .string ⟨#[]⟩, .string ⟨#[]⟩, .int .i64 0, .int .i64 0, .int .i64 0, .int .i64 0], .bool false]) (by simp [results, Tryd.results12, go_sem, *]) rfl ?_
      exact ⟨by rw [HE.out]; rfl, (bset (bset (bset (bset (bset (bset (bset (bset (bset BF.out (by omega) 0 _) (by omega) 1 _) (by omega) 2 _) (by omega) 3 _) (by omega) 4 _) (by omega) 5 _) (by omega) 6 _) (by omega) 7 _) (by omega) 8 _)⟩
    obtain ⟨x, y, z, u, rfl⟩ : ∃ x y z u, vs = [x, y, z, u] := by
      match vs, hl4 with
      | [x, y, z, u], _ => exact ⟨x, y, z, u, rfl⟩
    have hpm : readM n 4 = some [x, y, z, u] := by unfold readM; rw [hpr]; rfl
    clear hpr hl4
    by_cases hv : sectorB ⟨ofL pa, ofL pb, ofL pc, ofL pd, ofL pe, x, y, z, u⟩ = true
    · have HE : Hid (sectorR s = some ⟨ofL pa, ofL pb, ofL pc, ofL pd, ofL pe, x, y, z, u⟩) := by show _ = _; unfold sectorR; rw [hab]; simp [hpm, hv]
      have HV : Hid (∀ (W : World) {bb : Nat}, W.cell? ⟨bb, 0, none⟩ = some (.string (ofL pa)) → W.cell? ⟨bb, 1, none⟩ = some (.string (ofL pb)) → W.cell? ⟨bb, 2, none⟩ = some (.string (ofL pc)) → W.cell? ⟨bb, 3, none⟩ = some (.string (ofL pd)) → W.cell? ⟨bb, 4, none⟩ = some (.string (ofL pe)) → W.cell? ⟨bb, 5, none⟩ = some (.int .i64 x) → W.cell? ⟨bb, 6, none⟩ = some (.int .i64 y) → W.cell? ⟨bb, 7, none⟩ = some (.int .i64 z) → W.cell? ⟨bb, 8, none⟩ = some (.int .i64 u) → Calls Tryd.prog 30 #[.pointer (some ⟨bb, 0, none⟩)] W fun e w' => e = .returned (.bool true) ∧ Below W.heap.size W w') := fun W bb c0 c1 c2 c3 c4 c5 c6 c7 c8 => by
        have := l14Sector_any ⟨ofL pa, ofL pb, ofL pc, ofL pd, ofL pe, x, y, z, u⟩ bb 0 W c0 c1 c2 c3 c4 c5 c6 c7 c8 (Nat.le_trans hspa (by unfold maxLen; omega)) (Nat.le_trans hspb (by unfold maxLen; omega)) (Nat.le_trans hspc (by unfold maxLen; omega)) (Nat.le_trans hspd (by unfold maxLen; omega)) (Nat.le_trans hspe (by unfold maxLen; omega))
        rw [hv] at this
        exact this
      clear hpm hab hv hspa hspb hspc hspd hspe hsn
      generalize ofL pa = spa at *
      generalize ofL pb = spb at *
      generalize ofL pc = spc at *
      generalize ofL pd = spd at *
      generalize ofL pe = spe at *
      go_enter Tryd.func12, Tryd.ntmps12
      go_upto_region 1 with (fail)
      rw [HW0.out]
      obtain ⟨t0, t1, t2, t3, t4, t5, t6, t7, t8⟩ := HD.out _ HB.out
      go_wp2_with fail
      refine (HSP.out _ HB.out).mono ?_
      rintro e w2 ⟨a1, c1, rfl, hb2, hr2⟩
      obtain ⟨_, _, e1, _, _, hcl⟩ := Rd.strs hr2
      injection e1 with e1 _ e3
      subst e1 e3
      obtain ⟨b1, off, ea, hbb, hat⟩ := hcl (by simp)
      subst ea
      have x0 := hat 0 (by simp)
      have x1 := hat 1 (by simp)
      have x2 := hat 2 (by simp)
      have x3 := hat 3 (by simp)
      have x4 := hat 4 (by simp)
      have x5 := hat 5 (by simp)
      simp only [List.getElem_cons_zero, List.getElem_cons_succ, Nat.add_zero] at x0 x1 x2 x3 x4 x5
      have HBX := Lib.hid (HB.out.trans (hb2.mono HB.out.size))
      clear hb2 hr2 hcl hat t0 t1 t2 t3 t4 t5 t6 t7 t8
      go_wp2_with fail
      refine (HRL.out _).mono ?_
      rintro e w3 ⟨a2, c2, rfl, hb3, hr3⟩
      obtain ⟨_, _, e1, _, _, hcl⟩ := Rd.ints hr3
      injection e1 with e1 _ e3
      subst e1 e3
      obtain ⟨b2, of2, ea, hbb2, hat⟩ := hcl (by simp)
      subst ea
      have y0 := hat 0 (by simp)
      have y1 := hat 1 (by simp)
      have y2 := hat 2 (by simp)
      have y3 := hat 3 (by simp)
      simp only [List.getElem_cons_zero, List.getElem_cons_succ, Nat.add_zero] at y0 y1 y2 y3
      have z3 := hb3.size
      have hc0 := (bat hb3 b1 _ hbb).trans x0
      have hc1 := (bat hb3 b1 _ hbb).trans x1
      have hc2 := (bat hb3 b1 _ hbb).trans x2
      have hc3 := (bat hb3 b1 _ hbb).trans x3
      have hc4 := (bat hb3 b1 _ hbb).trans x4
      have HB3 := Lib.hid (HBX.out.trans (hb3.mono HBX.out.size))
      have HS3 : Hid (∀ W, Below w3.heap.size w3 W → (W.cell? ⟨b1, off, none⟩ = some (.string spa) ∧ W.cell? ⟨b1, off + 1, none⟩ = some (.string spb) ∧ W.cell? ⟨b1, off + 2, none⟩ = some (.string spc) ∧ W.cell? ⟨b1, off + 3, none⟩ = some (.string spd) ∧ W.cell? ⟨b1, off + 4, none⟩ = some (.string spe) ∧ W.cell? ⟨b2, of2, none⟩ = some (.int .i64 x) ∧ W.cell? ⟨b2, of2 + 1, none⟩ = some (.int .i64 y) ∧ W.cell? ⟨b2, of2 + 2, none⟩ = some (.int .i64 z) ∧ W.cell? ⟨b2, of2 + 3, none⟩ = some (.int .i64 u))) := fun W hW => ⟨(bat hW b1 _ (by omega)).trans hc0, (bat hW b1 _ (by omega)).trans hc1, (bat hW b1 _ (by omega)).trans hc2, (bat hW b1 _ (by omega)).trans hc3, (bat hW b1 _ (by omega)).trans hc4, (bat hW b2 _ (by omega)).trans y0, (bat hW b2 _ (by omega)).trans y1, (bat hW b2 _ (by omega)).trans y2, (bat hW b2 _ (by omega)).trans y3⟩
      clear hb3 hr3 hcl hat hc0 hc1 hc2 hc3 hc4 y0 y1 y2 y3 x0 x1 x2 x3 x4 x5
      go_upto_region 7 with (fail)
      refine wp_region_ord 29 [(0, true), (1, true), (2, true), (3, true), (4, true), (5, true), (6, true), (7, true), (8, true), (9, true), (10, true), (11, true), (12, true), (13, true), (14, true), (15, true), (16, true), (17, true), (18, true), (19, true), (20, true), (21, true), (22, true), (23, true), (24, true), (25, true), (26, true), (27, true), (28, false)] (fun W => W.cell? ⟨b1, off, none⟩ = some (.string spa) ∧ W.cell? ⟨b1, off + 1, none⟩ = some (.string spb) ∧ W.cell? ⟨b1, off + 2, none⟩ = some (.string spc) ∧ W.cell? ⟨b1, off + 3, none⟩ = some (.string spd) ∧ W.cell? ⟨b1, off + 4, none⟩ = some (.string spe) ∧ W.cell? ⟨b2, of2, none⟩ = some (.int .i64 x) ∧ W.cell? ⟨b2, of2 + 1, none⟩ = some (.int .i64 y) ∧ W.cell? ⟨b2, of2 + 2, none⟩ = some (.int .i64 z) ∧ W.cell? ⟨b2, of2 + 3, none⟩ = some (.int .i64 u)) (by kernel_rfl) (by kernel_rfl) (HS3.out _ (below_drew1 _)) (fun hHeld => ?_)
      refine wpOrd_read (v := ?_) rfl (fun _ _ _ h => h) ?_ ?_
      rotate_left
      · (intro W hSW; (try dsimp only at hSW); (go_simp <;> with_reducible rfl))
      (try simp only [Act.put, List.setIfInBounds_toArray, List.set_cons_zero, List.set_cons_succ])
      refine wpOrd_read (v := ?_) rfl (fun _ _ _ h => h) ?_ ?_
      rotate_left
      · (intro W hSW; (try dsimp only at hSW); (go_simp <;> with_reducible rfl))
      (try simp only [Act.put, List.setIfInBounds_toArray, List.set_cons_zero, List.set_cons_succ])
      refine wpOrd_read (v := ?_) rfl (fun _ _ _ h => h) ?_ ?_
      rotate_left
      · (intro W hSW; (try dsimp only at hSW); (go_simp <;> with_reducible rfl))
      (try simp only [Act.put, List.setIfInBounds_toArray, List.set_cons_zero, List.set_cons_succ])
      refine wpOrd_read (v := ?_) rfl (fun _ _ _ h => h) ?_ ?_
      rotate_left
      · (intro W hSW; (try dsimp only at hSW); (go_simp <;> with_reducible rfl))
      (try simp only [Act.put, List.setIfInBounds_toArray, List.set_cons_zero, List.set_cons_succ])
      refine wpOrd_read (v := ?_) rfl (fun _ _ _ h => h) ?_ ?_
      rotate_left
      · (intro W hSW; (try dsimp only at hSW); (go_simp <;> with_reducible rfl))
      (try simp only [Act.put, List.setIfInBounds_toArray, List.set_cons_zero, List.set_cons_succ])
      refine wpOrd_read (v := ?_) rfl (fun _ _ _ h => h) ?_ ?_
      rotate_left
      · (intro W hSW; (try dsimp only at hSW); (go_simp <;> with_reducible rfl))
      (try simp only [Act.put, List.setIfInBounds_toArray, List.set_cons_zero, List.set_cons_succ])
      refine wpOrd_read (v := ?_) rfl (fun _ _ _ h => h) ?_ ?_
      rotate_left
      · (intro W hSW; (try dsimp only at hSW); (go_simp <;> with_reducible rfl))
      (try simp only [Act.put, List.setIfInBounds_toArray, List.set_cons_zero, List.set_cons_succ])
      refine wpOrd_read (v := ?_) rfl (fun _ _ _ h => h) ?_ ?_
      rotate_left
      · (intro W hSW; (try dsimp only at hSW); (go_simp <;> with_reducible rfl))
      (try simp only [Act.put, List.setIfInBounds_toArray, List.set_cons_zero, List.set_cons_succ])
      refine wpOrd_read (v := ?_) rfl (fun _ _ _ h => h) ?_ ?_
      rotate_left
      · (intro W hSW; (try dsimp only at hSW); (go_simp <;> with_reducible rfl))
      (try simp only [Act.put, List.setIfInBounds_toArray, List.set_cons_zero, List.set_cons_succ])
      refine wpOrd_read (v := ?_) rfl (fun _ _ _ h => h) ?_ ?_
      rotate_left
      · (intro W hSW; (try dsimp only at hSW); (go_simp <;> with_reducible rfl))
      (try simp only [Act.put, List.setIfInBounds_toArray, List.set_cons_zero, List.set_cons_succ])
      refine wpOrd_read (v := ?_) rfl (fun _ _ _ h => h) ?_ ?_
      rotate_left
      · (intro W hSW; (try dsimp only at hSW); (go_simp <;> with_reducible rfl))
      (try simp only [Act.put, List.setIfInBounds_toArray, List.set_cons_zero, List.set_cons_succ])
      refine wpOrd_read (v := ?_) rfl (fun _ _ _ h => h) ?_ ?_
      rotate_left
      · (intro W hSW; (try dsimp only at hSW); (go_simp <;> with_reducible rfl))
      (try simp only [Act.put, List.setIfInBounds_toArray, List.set_cons_zero, List.set_cons_succ])
      refine wpOrd_read (v := ?_) rfl (fun _ _ _ h => h) ?_ ?_
      rotate_left
      · (intro W hSW; (try dsimp only at hSW); (go_simp <;> with_reducible rfl))
      (try simp only [Act.put, List.setIfInBounds_toArray, List.set_cons_zero, List.set_cons_succ])
      refine wpOrd_read (v := ?_) rfl (fun _ _ _ h => h) ?_ ?_
      rotate_left
      · (intro W hSW; (try dsimp only at hSW); (go_simp <;> with_reducible rfl))
      (try simp only [Act.put, List.setIfInBounds_toArray, List.set_cons_zero, List.set_cons_succ])
      refine wpOrd_read (v := ?_) rfl (fun _ _ _ h => h) ?_ ?_
      rotate_left
      · (intro W hSW; (try dsimp only at hSW); (go_simp <;> with_reducible rfl))
      (try simp only [Act.put, List.setIfInBounds_toArray, List.set_cons_zero, List.set_cons_succ])
      refine wpOrd_read (v := ?_) rfl (fun _ _ _ h => h) ?_ ?_
      rotate_left
      · (intro W hSW; (try dsimp only at hSW); (go_simp <;> with_reducible rfl))
      (try simp only [Act.put, List.setIfInBounds_toArray, List.set_cons_zero, List.set_cons_succ])
      refine wpOrd_read (v := ?_) rfl (fun _ _ _ h => h) ?_ ?_
      rotate_left
      · (intro W hSW; (try dsimp only at hSW); (go_simp <;> with_reducible rfl))
      (try simp only [Act.put, List.setIfInBounds_toArray, List.set_cons_zero, List.set_cons_succ])
      refine wpOrd_read (v := ?_) rfl (fun _ _ _ h => h) ?_ ?_
      rotate_left
      · (intro W hSW; (try dsimp only at hSW); (go_simp <;> with_reducible rfl))
      (try simp only [Act.put, List.setIfInBounds_toArray, List.set_cons_zero, List.set_cons_succ])
      refine wpOrd_read (v := ?_) rfl (fun _ _ _ h => h) ?_ ?_
      rotate_left
      · (intro W hSW; (try dsimp only at hSW); (go_simp <;> with_reducible rfl))
      (try simp only [Act.put, List.setIfInBounds_toArray, List.set_cons_zero, List.set_cons_succ])
      refine wpOrd_read (v := ?_) rfl (fun _ _ _ h => h) ?_ ?_
      rotate_left
      · (intro W hSW; (try dsimp only at hSW); (go_simp <;> with_reducible rfl))
      (try simp only [Act.put, List.setIfInBounds_toArray, List.set_cons_zero, List.set_cons_succ])
      refine wpOrd_read (v := ?_) rfl (fun _ _ _ h => h) ?_ ?_
      rotate_left
      · (intro W hSW; (try dsimp only at hSW); (go_simp <;> with_reducible rfl))
      (try simp only [Act.put, List.setIfInBounds_toArray, List.set_cons_zero, List.set_cons_succ])
      refine wpOrd_read (v := ?_) rfl (fun _ _ _ h => h) ?_ ?_
      rotate_left
      · (intro W hSW; (try dsimp only at hSW); (go_simp <;> with_reducible rfl))
      (try simp only [Act.put, List.setIfInBounds_toArray, List.set_cons_zero, List.set_cons_succ])
      refine wpOrd_read (v := ?_) rfl (fun _ _ _ h => h) ?_ ?_
      rotate_left
      · (intro W hSW; (try dsimp only at hSW); (go_simp <;> with_reducible rfl))
      (try simp only [Act.put, List.setIfInBounds_toArray, List.set_cons_zero, List.set_cons_succ])
      refine wpOrd_read (v := ?_) rfl (fun _ _ _ h => h) ?_ ?_
      rotate_left
      · (intro W hSW; (try dsimp only at hSW); (go_simp <;> with_reducible rfl))
      (try simp only [Act.put, List.setIfInBounds_toArray, List.set_cons_zero, List.set_cons_succ])
      refine wpOrd_read (v := ?_) rfl (fun _ _ _ h => h) ?_ ?_
      rotate_left
      · (intro W hSW; (try dsimp only at hSW); (go_simp <;> with_reducible rfl))
      (try simp only [Act.put, List.setIfInBounds_toArray, List.set_cons_zero, List.set_cons_succ])
      refine wpOrd_read (v := ?_) rfl (fun _ _ _ h => h) ?_ ?_
      rotate_left
      · (intro W hSW; (try dsimp only at hSW); (go_simp <;> with_reducible rfl))
      (try simp only [Act.put, List.setIfInBounds_toArray, List.set_cons_zero, List.set_cons_succ])
      refine wpOrd_read (v := ?_) rfl (fun _ _ _ h => h) ?_ ?_
      rotate_left
      · (intro W hSW; (try dsimp only at hSW); (go_simp <;> with_reducible rfl))
      (try simp only [Act.put, List.setIfInBounds_toArray, List.set_cons_zero, List.set_cons_succ])
      refine wpOrd_read (v := ?_) rfl (fun _ _ _ h => h) ?_ ?_
      rotate_left
      · (intro W hSW; (try dsimp only at hSW); (go_simp <;> with_reducible rfl))
      (try simp only [Act.put, List.setIfInBounds_toArray, List.set_cons_zero, List.set_cons_succ])
      have HBD := Lib.hid (HB3.out.trans ((below_drew1 w3).mono HB3.out.size))
      have hzd : w3.heap.size ≤ w3.drew.heap.size := Nat.le_refl _
      have HSD : Hid (∀ W, Below w3.drew.heap.size w3.drew W → (W.cell? ⟨b1, off, none⟩ = some (.string spa) ∧ W.cell? ⟨b1, off + 1, none⟩ = some (.string spb) ∧ W.cell? ⟨b1, off + 2, none⟩ = some (.string spc) ∧ W.cell? ⟨b1, off + 3, none⟩ = some (.string spd) ∧ W.cell? ⟨b1, off + 4, none⟩ = some (.string spe) ∧ W.cell? ⟨b2, of2, none⟩ = some (.int .i64 x) ∧ W.cell? ⟨b2, of2 + 1, none⟩ = some (.int .i64 y) ∧ W.cell? ⟨b2, of2 + 2, none⟩ = some (.int .i64 z) ∧ W.cell? ⟨b2, of2 + 3, none⟩ = some (.int .i64 u))) := fun W hW => HS3.out W ((below_drew1 w3).trans (hW.mono hzd))
      generalize w3.drew = w4 at *
      refine wpOrd_step rfl (fun K hK => ?_)
      go_simp
      refine hK.out _ _ (HSD.out _ (below_alloc w4 _)) ?_
      clear hK K
      (try simp only [Act.put, List.setIfInBounds_toArray, List.set_cons_zero, List.set_cons_succ])
      refine wpOrd_nil ?_
      simp only [List.drop_succ_cons, List.drop_zero]
      go_upto_region 8 with (fail)
      obtain ⟨W5, hW5, b5, z5, k5⟩ := boxes1 w4 #[.string spa, .string spb, .string spc, .string spd, .string spe, .int .i64 x, .int .i64 y, .int .i64 z, .int .i64 u] 29
      rw [hW5]
      clear hW5
      have HB5 := Lib.hid (HBD.out.trans (b5.mono HBD.out.size))
      have K5 := Lib.hid k5
      have zb5 := HBD.out.size
      clear b5 k5
      obtain ⟨t0, t1, t2, t3, t4, t5, t6, t7, t8⟩ := HD.out _ HB5.out
      have gz := bkF (bkB K0.out HB5.out (by omega))
      have q0 := bkC (v := .string spa) K5.out 0 rfl
      have q1 := bkC (v := .string spb) K5.out 1 rfl
      have q2 := bkC (v := .string spc) K5.out 2 rfl
      have q3 := bkC (v := .string spd) K5.out 3 rfl
      have q4 := bkC (v := .string spe) K5.out 4 rfl
      have q5 := bkC (v := .int .i64 x) K5.out 5 rfl
      have q6 := bkC (v := .int .i64 y) K5.out 6 rfl
      have q7 := bkC (v := .int .i64 z) K5.out 7 rfl
      have q8 := bkC (v := .int .i64 u) K5.out 8 rfl
      have BF := Lib.hid (HH.out _ HB5.out)
      go_wp2_with (go_at_call 30; with_reducible refine (HV.out _ q0 q1 q2 q3 q4 q5 q6 q7 q8).mono ?_; rintro e w6 ⟨rfl, hb6⟩; clear t0 t1 t2 t3 t4 t5 t6 t7 t8 gz q0 q1 q2 q3 q4 q5 q6 q7 q8 BF; have HB6 := Lib.hid (HB5.out.trans (hb6.mono HB5.out.size)); have K6 := Lib.hid (bkB K5.out hb6 (by omega)); clear hb6; obtain ⟨t0, t1, t2, t3, t4, t5, t6, t7, t8⟩ := HD.out _ HB6.out; have gz := bkF (bkB K0.out HB6.out (by omega)); have q0 := bkC (v := .string spa) K6.out 0 rfl; have q1 := bkC (v := .string spb) K6.out 1 rfl; have q2 := bkC (v := .string spc) K6.out 2 rfl; have q3 := bkC (v := .string spd) K6.out 3 rfl; have q4 := bkC (v := .string spe) K6.out 4 rfl; have q5 := bkC (v := .int .i64 x) K6.out 5 rfl; have q6 := bkC (v := .int .i64 y) K6.out 6 rfl; have q7 := bkC (v := .int .i64 z) K6.out 7 rfl; have q8 := bkC (v := .int .i64 u) K6.out 8 rfl; have BF := Lib.hid (HH.out _ HB6.out))
      refine bodyPost_ret (v := .tuple #[.agg #[.string spa, .string spb, .string spc, .string spd, .string spe, .int .i64 x, .int .i64 y, .int .i64 z, .int .i64 u], .bool true]) (by simp [results, Tryd.results12, go_sem, *]) rfl ?_
      exact ⟨by rw [HE.out]; rfl, (bset (bset (bset (bset (bset (bset (bset (bset (bset BF.out (by omega) 0 _) (by omega) 1 _) (by omega) 2 _) (by omega) 3 _) (by omega) 4 _) (by omega) 5 _) (by omega) 6 _) (by omega) 7 _) (by omega) 8 _)⟩
    · have HE : Hid (sectorR s = none) := by show _ = _; unfold sectorR; rw [hab]; simp [hpm, hv]
      have HV : Hid (∀ (W : World) {bb : Nat}, W.cell? ⟨bb, 0, none⟩ = some (.string (ofL pa)) → W.cell? ⟨bb, 1, none⟩ = some (.string (ofL pb)) → W.cell? ⟨bb, 2, none⟩ = some (.string (ofL pc)) → W.cell? ⟨bb, 3, none⟩ = some (.string (ofL pd)) → W.cell? ⟨bb, 4, none⟩ = some (.string (ofL pe)) → W.cell? ⟨bb, 5, none⟩ = some (.int .i64 x) → W.cell? ⟨bb, 6, none⟩ = some (.int .i64 y) → W.cell? ⟨bb, 7, none⟩ = some (.int .i64 z) → W.cell? ⟨bb, 8, none⟩ = some (.int .i64 u) → Calls Tryd.prog 30 #[.pointer (some ⟨bb, 0, none⟩)] W fun e w' => e = .returned (.bool false) ∧ Below W.heap.size W w') := fun W bb c0 c1 c2 c3 c4 c5 c6 c7 c8 => by
        have := l14Sector_any ⟨ofL pa, ofL pb, ofL pc, ofL pd, ofL pe, x, y, z, u⟩ bb 0 W c0 c1 c2 c3 c4 c5 c6 c7 c8 (Nat.le_trans hspa (by unfold maxLen; omega)) (Nat.le_trans hspb (by unfold maxLen; omega)) (Nat.le_trans hspc (by unfold maxLen; omega)) (Nat.le_trans hspd (by unfold maxLen; omega)) (Nat.le_trans hspe (by unfold maxLen; omega))
        rw [Bool.eq_false_iff.2 hv] at this
        exact this
      clear hpm hab hv hspa hspb hspc hspd hspe hsn
      generalize ofL pa = spa at *
      generalize ofL pb = spb at *
      generalize ofL pc = spc at *
      generalize ofL pd = spd at *
      generalize ofL pe = spe at *
      go_enter Tryd.func12, Tryd.ntmps12
      go_upto_region 1 with (fail)
      rw [HW0.out]
      obtain ⟨t0, t1, t2, t3, t4, t5, t6, t7, t8⟩ := HD.out _ HB.out
      go_wp2_with fail
      refine (HSP.out _ HB.out).mono ?_
      rintro e w2 ⟨a1, c1, rfl, hb2, hr2⟩
      obtain ⟨_, _, e1, _, _, hcl⟩ := Rd.strs hr2
      injection e1 with e1 _ e3
      subst e1 e3
      obtain ⟨b1, off, ea, hbb, hat⟩ := hcl (by simp)
      subst ea
      have x0 := hat 0 (by simp)
      have x1 := hat 1 (by simp)
      have x2 := hat 2 (by simp)
      have x3 := hat 3 (by simp)
      have x4 := hat 4 (by simp)
      have x5 := hat 5 (by simp)
      simp only [List.getElem_cons_zero, List.getElem_cons_succ, Nat.add_zero] at x0 x1 x2 x3 x4 x5
      have HBX := Lib.hid (HB.out.trans (hb2.mono HB.out.size))
      clear hb2 hr2 hcl hat t0 t1 t2 t3 t4 t5 t6 t7 t8
      go_wp2_with fail
      refine (HRL.out _).mono ?_
      rintro e w3 ⟨a2, c2, rfl, hb3, hr3⟩
      obtain ⟨_, _, e1, _, _, hcl⟩ := Rd.ints hr3
      injection e1 with e1 _ e3
      subst e1 e3
      obtain ⟨b2, of2, ea, hbb2, hat⟩ := hcl (by simp)
      subst ea
      have y0 := hat 0 (by simp)
      have y1 := hat 1 (by simp)
      have y2 := hat 2 (by simp)
      have y3 := hat 3 (by simp)
      simp only [List.getElem_cons_zero, List.getElem_cons_succ, Nat.add_zero] at y0 y1 y2 y3
      have z3 := hb3.size
      have hc0 := (bat hb3 b1 _ hbb).trans x0
      have hc1 := (bat hb3 b1 _ hbb).trans x1
      have hc2 := (bat hb3 b1 _ hbb).trans x2
      have hc3 := (bat hb3 b1 _ hbb).trans x3
      have hc4 := (bat hb3 b1 _ hbb).trans x4
      have HB3 := Lib.hid (HBX.out.trans (hb3.mono HBX.out.size))
      have HS3 : Hid (∀ W, Below w3.heap.size w3 W → (W.cell? ⟨b1, off, none⟩ = some (.string spa) ∧ W.cell? ⟨b1, off + 1, none⟩ = some (.string spb) ∧ W.cell? ⟨b1, off + 2, none⟩ = some (.string spc) ∧ W.cell? ⟨b1, off + 3, none⟩ = some (.string spd) ∧ W.cell? ⟨b1, off + 4, none⟩ = some (.string spe) ∧ W.cell? ⟨b2, of2, none⟩ = some (.int .i64 x) ∧ W.cell? ⟨b2, of2 + 1, none⟩ = some (.int .i64 y) ∧ W.cell? ⟨b2, of2 + 2, none⟩ = some (.int .i64 z) ∧ W.cell? ⟨b2, of2 + 3, none⟩ = some (.int .i64 u))) := fun W hW => ⟨(bat hW b1 _ (by omega)).trans hc0, (bat hW b1 _ (by omega)).trans hc1, (bat hW b1 _ (by omega)).trans hc2, (bat hW b1 _ (by omega)).trans hc3, (bat hW b1 _ (by omega)).trans hc4, (bat hW b2 _ (by omega)).trans y0, (bat hW b2 _ (by omega)).trans y1, (bat hW b2 _ (by omega)).trans y2, (bat hW b2 _ (by omega)).trans y3⟩
      clear hb3 hr3 hcl hat hc0 hc1 hc2 hc3 hc4 y0 y1 y2 y3 x0 x1 x2 x3 x4 x5
      go_upto_region 7 with (fail)
      refine wp_region_ord 29 [(0, true), (1, true), (2, true), (3, true), (4, true), (5, true), (6, true), (7, true), (8, true), (9, true), (10, true), (11, true), (12, true), (13, true), (14, true), (15, true), (16, true), (17, true), (18, true), (19, true), (20, true), (21, true), (22, true), (23, true), (24, true), (25, true), (26, true), (27, true), (28, false)] (fun W => W.cell? ⟨b1, off, none⟩ = some (.string spa) ∧ W.cell? ⟨b1, off + 1, none⟩ = some (.string spb) ∧ W.cell? ⟨b1, off + 2, none⟩ = some (.string spc) ∧ W.cell? ⟨b1, off + 3, none⟩ = some (.string spd) ∧ W.cell? ⟨b1, off + 4, none⟩ = some (.string spe) ∧ W.cell? ⟨b2, of2, none⟩ = some (.int .i64 x) ∧ W.cell? ⟨b2, of2 + 1, none⟩ = some (.int .i64 y) ∧ W.cell? ⟨b2, of2 + 2, none⟩ = some (.int .i64 z) ∧ W.cell? ⟨b2, of2 + 3, none⟩ = some (.int .i64 u)) (by kernel_rfl) (by kernel_rfl) (HS3.out _ (below_drew1 _)) (fun hHeld => ?_)
      refine wpOrd_read (v := ?_) rfl (fun _ _ _ h => h) ?_ ?_
      rotate_left
      · (intro W hSW; (try dsimp only at hSW); (go_simp <;> with_reducible rfl))
      (try simp only [Act.put, List.setIfInBounds_toArray, List.set_cons_zero, List.set_cons_succ])
      refine wpOrd_read (v := ?_) rfl (fun _ _ _ h => h) ?_ ?_
      rotate_left
      · (intro W hSW; (try dsimp only at hSW); (go_simp <;> with_reducible rfl))
      (try simp only [Act.put, List.setIfInBounds_toArray, List.set_cons_zero, List.set_cons_succ])
      refine wpOrd_read (v := ?_) rfl (fun _ _ _ h => h) ?_ ?_
      rotate_left
      · (intro W hSW; (try dsimp only at hSW); (go_simp <;> with_reducible rfl))
      (try simp only [Act.put, List.setIfInBounds_toArray, List.set_cons_zero, List.set_cons_succ])
      refine wpOrd_read (v := ?_) rfl (fun _ _ _ h => h) ?_ ?_
      rotate_left
      · (intro W hSW; (try dsimp only at hSW); (go_simp <;> with_reducible rfl))
      (try simp only [Act.put, List.setIfInBounds_toArray, List.set_cons_zero, List.set_cons_succ])
      refine wpOrd_read (v := ?_) rfl (fun _ _ _ h => h) ?_ ?_
      rotate_left
      · (intro W hSW; (try dsimp only at hSW); (go_simp <;> with_reducible rfl))
      (try simp only [Act.put, List.setIfInBounds_toArray, List.set_cons_zero, List.set_cons_succ])
      refine wpOrd_read (v := ?_) rfl (fun _ _ _ h => h) ?_ ?_
      rotate_left
      · (intro W hSW; (try dsimp only at hSW); (go_simp <;> with_reducible rfl))
      (try simp only [Act.put, List.setIfInBounds_toArray, List.set_cons_zero, List.set_cons_succ])
      refine wpOrd_read (v := ?_) rfl (fun _ _ _ h => h) ?_ ?_
      rotate_left
      · (intro W hSW; (try dsimp only at hSW); (go_simp <;> with_reducible rfl))
      (try simp only [Act.put, List.setIfInBounds_toArray, List.set_cons_zero, List.set_cons_succ])
      refine wpOrd_read (v := ?_) rfl (fun _ _ _ h => h) ?_ ?_
      rotate_left
      · (intro W hSW; (try dsimp only at hSW); (go_simp <;> with_reducible rfl))
      (try simp only [Act.put, List.setIfInBounds_toArray, List.set_cons_zero, List.set_cons_succ])
      refine wpOrd_read (v := ?_) rfl (fun _ _ _ h => h) ?_ ?_
      rotate_left
      · (intro W hSW; (try dsimp only at hSW); (go_simp <;> with_reducible rfl))
      (try simp only [Act.put, List.setIfInBounds_toArray, List.set_cons_zero, List.set_cons_succ])
      refine wpOrd_read (v := ?_) rfl (fun _ _ _ h => h) ?_ ?_
      rotate_left
      · (intro W hSW; (try dsimp only at hSW); (go_simp <;> with_reducible rfl))
      (try simp only [Act.put, List.setIfInBounds_toArray, List.set_cons_zero, List.set_cons_succ])
      refine wpOrd_read (v := ?_) rfl (fun _ _ _ h => h) ?_ ?_
      rotate_left
      · (intro W hSW; (try dsimp only at hSW); (go_simp <;> with_reducible rfl))
      (try simp only [Act.put, List.setIfInBounds_toArray, List.set_cons_zero, List.set_cons_succ])
      refine wpOrd_read (v := ?_) rfl (fun _ _ _ h => h) ?_ ?_
      rotate_left
      · (intro W hSW; (try dsimp only at hSW); (go_simp <;> with_reducible rfl))
      (try simp only [Act.put, List.setIfInBounds_toArray, List.set_cons_zero, List.set_cons_succ])
      refine wpOrd_read (v := ?_) rfl (fun _ _ _ h => h) ?_ ?_
      rotate_left
      · (intro W hSW; (try dsimp only at hSW); (go_simp <;> with_reducible rfl))
      (try simp only [Act.put, List.setIfInBounds_toArray, List.set_cons_zero, List.set_cons_succ])
      refine wpOrd_read (v := ?_) rfl (fun _ _ _ h => h) ?_ ?_
      rotate_left
      · (intro W hSW; (try dsimp only at hSW); (go_simp <;> with_reducible rfl))
      (try simp only [Act.put, List.setIfInBounds_toArray, List.set_cons_zero, List.set_cons_succ])
      refine wpOrd_read (v := ?_) rfl (fun _ _ _ h => h) ?_ ?_
      rotate_left
      · (intro W hSW; (try dsimp only at hSW); (go_simp <;> with_reducible rfl))
      (try simp only [Act.put, List.setIfInBounds_toArray, List.set_cons_zero, List.set_cons_succ])
      refine wpOrd_read (v := ?_) rfl (fun _ _ _ h => h) ?_ ?_
      rotate_left
      · (intro W hSW; (try dsimp only at hSW); (go_simp <;> with_reducible rfl))
      (try simp only [Act.put, List.setIfInBounds_toArray, List.set_cons_zero, List.set_cons_succ])
      refine wpOrd_read (v := ?_) rfl (fun _ _ _ h => h) ?_ ?_
      rotate_left
      · (intro W hSW; (try dsimp only at hSW); (go_simp <;> with_reducible rfl))
      (try simp only [Act.put, List.setIfInBounds_toArray, List.set_cons_zero, List.set_cons_succ])
      refine wpOrd_read (v := ?_) rfl (fun _ _ _ h => h) ?_ ?_
      rotate_left
      · (intro W hSW; (try dsimp only at hSW); (go_simp <;> with_reducible rfl))
      (try simp only [Act.put, List.setIfInBounds_toArray, List.set_cons_zero, List.set_cons_succ])
      refine wpOrd_read (v := ?_) rfl (fun _ _ _ h => h) ?_ ?_
      rotate_left
      · (intro W hSW; (try dsimp only at hSW); (go_simp <;> with_reducible rfl))
      (try simp only [Act.put, List.setIfInBounds_toArray, List.set_cons_zero, List.set_cons_succ])
      refine wpOrd_read (v := ?_) rfl (fun _ _ _ h => h) ?_ ?_
      rotate_left
      · (intro W hSW; (try dsimp only at hSW); (go_simp <;> with_reducible rfl))
      (try simp only [Act.put, List.setIfInBounds_toArray, List.set_cons_zero, List.set_cons_succ])
      refine wpOrd_read (v := ?_) rfl (fun _ _ _ h => h) ?_ ?_
      rotate_left
      · (intro W hSW; (try dsimp only at hSW); (go_simp <;> with_reducible rfl))
      (try simp only [Act.put, List.setIfInBounds_toArray, List.set_cons_zero, List.set_cons_succ])
      refine wpOrd_read (v := ?_) rfl (fun _ _ _ h => h) ?_ ?_
      rotate_left
      · (intro W hSW; (try dsimp only at hSW); (go_simp <;> with_reducible rfl))
      (try simp only [Act.put, List.setIfInBounds_toArray, List.set_cons_zero, List.set_cons_succ])
      refine wpOrd_read (v := ?_) rfl (fun _ _ _ h => h) ?_ ?_
      rotate_left
      · (intro W hSW; (try dsimp only at hSW); (go_simp <;> with_reducible rfl))
      (try simp only [Act.put, List.setIfInBounds_toArray, List.set_cons_zero, List.set_cons_succ])
      refine wpOrd_read (v := ?_) rfl (fun _ _ _ h => h) ?_ ?_
      rotate_left
      · (intro W hSW; (try dsimp only at hSW); (go_simp <;> with_reducible rfl))
      (try simp only [Act.put, List.setIfInBounds_toArray, List.set_cons_zero, List.set_cons_succ])
      refine wpOrd_read (v := ?_) rfl (fun _ _ _ h => h) ?_ ?_
      rotate_left
      · (intro W hSW; (try dsimp only at hSW); (go_simp <;> with_reducible rfl))
      (try simp only [Act.put, List.setIfInBounds_toArray, List.set_cons_zero, List.set_cons_succ])
      refine wpOrd_read (v := ?_) rfl (fun _ _ _ h => h) ?_ ?_
      rotate_left
      · (intro W hSW; (try dsimp only at hSW); (go_simp <;> with_reducible rfl))
      (try simp only [Act.put, List.setIfInBounds_toArray, List.set_cons_zero, List.set_cons_succ])
      refine wpOrd_read (v := ?_) rfl (fun _ _ _ h => h) ?_ ?_
      rotate_left
      · (intro W hSW; (try dsimp only at hSW); (go_simp <;> with_reducible rfl))
      (try simp only [Act.put, List.setIfInBounds_toArray, List.set_cons_zero, List.set_cons_succ])
      refine wpOrd_read (v := ?_) rfl (fun _ _ _ h => h) ?_ ?_
      rotate_left
      · (intro W hSW; (try dsimp only at hSW); (go_simp <;> with_reducible rfl))
      (try simp only [Act.put, List.setIfInBounds_toArray, List.set_cons_zero, List.set_cons_succ])
      have HBD := Lib.hid (HB3.out.trans ((below_drew1 w3).mono HB3.out.size))
      have hzd : w3.heap.size ≤ w3.drew.heap.size := Nat.le_refl _
      have HSD : Hid (∀ W, Below w3.drew.heap.size w3.drew W → (W.cell? ⟨b1, off, none⟩ = some (.string spa) ∧ W.cell? ⟨b1, off + 1, none⟩ = some (.string spb) ∧ W.cell? ⟨b1, off + 2, none⟩ = some (.string spc) ∧ W.cell? ⟨b1, off + 3, none⟩ = some (.string spd) ∧ W.cell? ⟨b1, off + 4, none⟩ = some (.string spe) ∧ W.cell? ⟨b2, of2, none⟩ = some (.int .i64 x) ∧ W.cell? ⟨b2, of2 + 1, none⟩ = some (.int .i64 y) ∧ W.cell? ⟨b2, of2 + 2, none⟩ = some (.int .i64 z) ∧ W.cell? ⟨b2, of2 + 3, none⟩ = some (.int .i64 u))) := fun W hW => HS3.out W ((below_drew1 w3).trans (hW.mono hzd))
      generalize w3.drew = w4 at *
      refine wpOrd_step rfl (fun K hK => ?_)
      go_simp
      refine hK.out _ _ (HSD.out _ (below_alloc w4 _)) ?_
      clear hK K
      (try simp only [Act.put, List.setIfInBounds_toArray, List.set_cons_zero, List.set_cons_succ])
      refine wpOrd_nil ?_
      simp only [List.drop_succ_cons, List.drop_zero]
      go_upto_region 8 with (fail)
      obtain ⟨W5, hW5, b5, z5, k5⟩ := boxes1 w4 #[.string spa, .string spb, .string spc, .string spd, .string spe, .int .i64 x, .int .i64 y, .int .i64 z, .int .i64 u] 29
      rw [hW5]
      clear hW5
      have HB5 := Lib.hid (HBD.out.trans (b5.mono HBD.out.size))
      have K5 := Lib.hid k5
      have zb5 := HBD.out.size
      clear b5 k5
      obtain ⟨t0, t1, t2, t3, t4, t5, t6, t7, t8⟩ := HD.out _ HB5.out
      have gz := bkF (bkB K0.out HB5.out (by omega))
      have q0 := bkC (v := .string spa) K5.out 0 rfl
      have q1 := bkC (v := .string spb) K5.out 1 rfl
      have q2 := bkC (v := .string spc) K5.out 2 rfl
      have q3 := bkC (v := .string spd) K5.out 3 rfl
      have q4 := bkC (v := .string spe) K5.out 4 rfl
      have q5 := bkC (v := .int .i64 x) K5.out 5 rfl
      have q6 := bkC (v := .int .i64 y) K5.out 6 rfl
      have q7 := bkC (v := .int .i64 z) K5.out 7 rfl
      have q8 := bkC (v := .int .i64 u) K5.out 8 rfl
      have BF := Lib.hid (HH.out _ HB5.out)
      go_wp2_with (go_at_call 30; with_reducible refine (HV.out _ q0 q1 q2 q3 q4 q5 q6 q7 q8).mono ?_; rintro e w6 ⟨rfl, hb6⟩; clear t0 t1 t2 t3 t4 t5 t6 t7 t8 gz q0 q1 q2 q3 q4 q5 q6 q7 q8 BF; have HB6 := Lib.hid (HB5.out.trans (hb6.mono HB5.out.size)); have K6 := Lib.hid (bkB K5.out hb6 (by omega)); clear hb6; obtain ⟨t0, t1, t2, t3, t4, t5, t6, t7, t8⟩ := HD.out _ HB6.out; have gz := bkF (bkB K0.out HB6.out (by omega)); have q0 := bkC (v := .string spa) K6.out 0 rfl; have q1 := bkC (v := .string spb) K6.out 1 rfl; have q2 := bkC (v := .string spc) K6.out 2 rfl; have q3 := bkC (v := .string spd) K6.out 3 rfl; have q4 := bkC (v := .string spe) K6.out 4 rfl; have q5 := bkC (v := .int .i64 x) K6.out 5 rfl; have q6 := bkC (v := .int .i64 y) K6.out 6 rfl; have q7 := bkC (v := .int .i64 z) K6.out 7 rfl; have q8 := bkC (v := .int .i64 u) K6.out 8 rfl; have BF := Lib.hid (HH.out _ HB6.out))
      refine bodyPost_ret (v := .tuple #[.agg #[.string ⟨#[]⟩, .string ⟨#[]⟩, .string ⟨#[]⟩, .string ⟨#[]⟩, .string ⟨#[]⟩, .int .i64 0, .int .i64 0, .int .i64 0, .int .i64 0], .bool false]) (by simp [results, Tryd.results12, go_sem, *]) rfl ?_
      exact ⟨by rw [HE.out]; rfl, (bset (bset (bset (bset (bset (bset (bset (bset (bset BF.out (by omega) 0 _) (by omega) 1 _) (by omega) 2 _) (by omega) 3 _) (by omega) 4 _) (by omega) 5 _) (by omega) 6 _) (by omega) 7 _) (by omega) 8 _)⟩
end Go.Proofs.YtjgolknofmnppaaDoor
