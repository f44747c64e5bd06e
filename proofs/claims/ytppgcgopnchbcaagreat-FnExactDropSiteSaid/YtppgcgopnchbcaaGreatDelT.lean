/- Contracts: slices.Delete of one element of a slice of structs of one's own. Conditions: bounded lengths, an index within. -/
import Derived.Test.YtppgcgopnchbcaaGreatRowV
import Derived.Test.YtppgcgopnchbcaaGreatOrd
import Derived.Test.YtppgcgopnchbcaaGreatHSite
import Derived.Test.YtppgcgopnchbcaaGreatHSector
import Derived.Deep.DeepCutAuto
namespace Go.Proofs.YtppgcgopnchbcaaGreat
open Go.RowKit
set_option linter.unusedVariables false

theorem oneLits (xs : List Value) (h : ∀ u ∈ xs, u.oneCell' = true) (n : Nat) : ∀ u ∈ xs.drop n, u.oneCell' = true := fun u hu => h u (List.mem_of_mem_drop hu)
theorem erase_flatv {α : Type} (g : α → List Value) (k : Nat) (hg : ∀ x, (g x).length = k) (l : List α) (i : Nat) : (l.eraseIdx i).flatMap g = (l.flatMap g).take (i * k) ++ (l.flatMap g).drop ((i + 1) * k) := by
  rw [List.eraseIdx_eq_take_drop_succ, List.flatMap_append, flatv_take g k hg, flatv_drop g k hg]
def DSite.vs (x : DSite) : List Value := [.string x.name, .string x.holder, .int .i64 x.place.x, .int .i64 x.place.y]
theorem DSite.tr_vs (x : DSite) : x.tr = x.vs.map .lit := rfl
theorem DSite.vs_len (x : DSite) : x.vs.length = 4 := rfl
theorem DSite.vs_one (l : List DSite) : ∀ u ∈ l.flatMap DSite.vs, u.oneCell' = true := by
  intro u hu
  obtain ⟨x, _, hx⟩ := List.mem_flatMap.1 hu
  simp only [DSite.vs, List.mem_cons, List.not_mem_nil, or_false] at hx
  rcases hx with rfl | rfl | rfl | rfl <;> rfl
theorem DSite.sT_vs (l : List DSite) : DSite.sT l = .sl 4 ((l.flatMap DSite.vs).map .lit) := by
  show Tr.sl 4 (l.flatMap DSite.tr) = _
  rw [flat_lits DSite.tr DSite.vs DSite.tr_vs]
set_option maxHeartbeats 2000000 in
set_option maxRecDepth 100000 in
theorem deleteSite_any (l : List DSite) (i : Nat) (a : Option Addr) (c : Nat) (fp : List Nat) (w : World) (h : Own w (DSite.sT l) (.slice a l.length c) fp) (hi : i < l.length) (hn : l.length ≤ 1048576) :
    Calls Tryz.prog 70 #[.slice a l.length c, .int .i64 (i : Int), .int .i64 ((i : Int) + 1)] w fun e w' => ∃ fp', e = .returned (.slice a (l.length - 1) c) ∧ Chg fp w w' ∧ Own w' (DSite.sT (l.eraseIdx i)) (.slice a (l.length - 1) c) fp' ∧ ∀ y ∈ fp', y ∈ fp := by
  obtain ⟨ti, hti, -, hts, -⟩ := info_parts infoSite
  rw [DSite.sT_vs] at h
  obtain ⟨hxl, hnc, hcm, hrow⟩ := h.rowV
  have hxl2 := hxl
  obtain ⟨b, off, ea, efp, row⟩ := hrow (fun e => by rw [e] at hxl; simp at hxl; omega)
  subst ea efp
  clear hrow h
  have HO := Lib.hid (DSite.vs_one l)
  have HE := Lib.hid (erase_flatv DSite.vs 4 DSite.vs_len l i)
  obtain ⟨m, hm⟩ : ∃ m, l.length = m + 1 := ⟨l.length - 1, by omega⟩
  have hel : (l.eraseIdx i).length = m := by rw [List.length_eraseIdx, if_pos hi, hm]; rfl
  have HFL := Lib.hid (flatv_length DSite.vs 4 DSite.vs_len (l.eraseIdx i))
  rw [hel] at HFL
  rw [DSite.sT_vs, HE.out]
  rw [HE.out] at HFL
  rw [hm] at hxl hi hn hnc ⊢
  clear hm hxl2 hel HE
  generalize l.flatMap DSite.vs = xs at *
  clear l
  unfold maxLen at hcm
  rw [Nat.add_sub_cancel]
  have HXL := Lib.hid hxl
  clear hxl
  have HR := Lib.hid row
  clear row
  -- the append
  have hap : ∀ (ty : TypeId) (ad : Addr), (¬ c = i + 1 → ad = ⟨b, off + (i + 1) * 4, none⟩) → (Builtin.append_ #[30, 30] ty #[.slice (some ⟨b, off, none⟩) i c, .slice (some ad) (m - i) (c - (i + 1))]).run Tryz.prog w.drew = .ok (.slice (some ⟨b, off, none⟩) m c) (w.drew.setCells b (off + i * 4) (xs.drop ((i + 1) * 4))) := by
    intro ty ad had
    have hl : (xs.drop ((i + 1) * 4)).length = (m - i) * 4 := by rw [List.length_drop, HXL.out]; omega
    have hz := run_append_room_cells (P := Tryz.prog) w.drew 30 ty 62 ti Tryz.underlying30 hti b off i c ad (m - i) (c - (i + 1)) (xs.drop ((i + 1) * 4)) (by rw [hts]; exact hl) (fun j u hu => ?_) (oneLits xs HO.out _) (by omega) ?_ ?_
    · rw [hts, show i + (m - i) = m by omega] at hz
      exact hz
    · have hj := (List.getElem?_eq_some_iff.1 hu).1
      rw [had (by omega), add_mk]
      exact (HR.out.drop ((i + 1) * 4)).drew.cell j u hu
    · intro j hj
      rw [hts, Nat.add_assoc]
      exact HR.out.drew.some_ _ (by rw [HXL.out]; omega)
    · intro j hj
      exact HR.out.drew.free _
  have HAP := Lib.hid hap
  clear hap
  have r2 : RowV (w.drew.setCells b (off + i * 4) (xs.drop ((i + 1) * 4))) b off (xs.take (i * 4) ++ xs.drop ((i + 1) * 4)) := HR.out.drew.set (i * 4) (by rw [List.length_drop, HXL.out]; omega)
  have hcl : ∀ ty : TypeId, (Builtin.clear_ #[30] ty #[.slice (some ⟨b, off + m * 4, none⟩) 1 (c - m)]).run Tryz.prog (w.drew.setCells b (off + i * 4) (xs.drop ((i + 1) * 4))) = .ok (.tuple #[]) ((w.drew.setCells b (off + i * 4) (xs.drop ((i + 1) * 4))).setCells b (off + m * 4) [.string ⟨#[]⟩, .string ⟨#[]⟩, .int .i64 0, .int .i64 0]) := fun ty =>
    run_clear_one _ 30 62 ty (.agg #[.string ⟨#[]⟩, .string ⟨#[]⟩, .int .i64 0, .int .i64 0]) [.string ⟨#[]⟩, .string ⟨#[]⟩, .int .i64 0, .int .i64 0] Tryz.underlying30 (fun _ => by kernel_rfl) rfl (fun u hu => by simp only [List.mem_cons, List.not_mem_nil, or_false] at hu; rcases hu with rfl | rfl | rfl | rfl <;> rfl) b _ _
      (fun j hj => by rw [Nat.add_assoc]; exact World.isSome_setCellsV b _ _ _ _ (HR.out.drew.some_ _ (by rw [HXL.out]; simp at hj; omega))) (fun j hj => r2.free _)
  have HF : Hid (∃ fp', Own ((w.drew.setCells b (off + i * 4) (xs.drop ((i + 1) * 4))).setCells b (off + m * 4) [.string ⟨#[]⟩, .string ⟨#[]⟩, .int .i64 0, .int .i64 0]) (.sl 4 ((xs.take (i * 4) ++ xs.drop ((i + 1) * 4)).map .lit)) (.slice (some ⟨b, off, none⟩) m c) fp' ∧ ∀ y ∈ fp', y = b) :=
    (r2.behind (ys := [.string ⟨#[]⟩, .string ⟨#[]⟩, .int .i64 0, .int .i64 0]) (m * 4) (by rw [HFL.out]; omega)).own (k := 4) (by rw [HFL.out]) (by omega) (by unfold maxLen; omega)
  clear r2
  have i1 : (i : Int) + 1 ≤ (m : Int) + 1 := by omega
  have i2 : (m : Int) + 1 ≤ (c : Int) := by omega
  have i3 : (i : Int) ≤ (m : Int) := by omega
  have i4 : ((i : Int) == (i : Int) + 1) = false := by simp; omega
  have i6 : (i : Int) ≤ (i : Int) + 1 := by omega
  have i7 : (0 : Int) ≤ (i : Int) + 1 := by omega
  have i8 : i ≤ c := by omega
  have i5 : ¬ c = m := by omega
  by_cases hce : c = i + 1
  · have hap := fun ty => HAP.out ty ⟨b, off, none⟩ (fun e => absurd hce e)
    subst hce
    obtain rfl : m = i := by omega
    simp only [Nat.sub_self] at hap
    simp only [Nat.add_sub_cancel_left] at hcl
    go_enter Tryz.func70, Tryz.ntmps70
    go_upto_region 5 with (fail)
    refine wp_region_ord 6 [(0, true), (1, true), (2, true), (3, true), (4, true), (5, true)] (fun W => True) (by kernel_rfl) (by kernel_rfl) trivial (fun hHeld => ?_)
    refine wpOrd_read (v := ?_) rfl (fun _ _ _ h => h) ?_ ?_
    rotate_left
    · (intro W hSW; (try dsimp only at hSW); (go_simp <;> with_reducible rfl))
    (try simp only [Act.put, List.setIfInBounds_toArray, List.set_cons_zero, List.set_cons_succ])
    refine wpOrd_read (v := ?_) rfl (fun _ _ _ h => h) ?_ ?_
    rotate_left
    · (intro W hSW; (try dsimp only at hSW); (go_simp <;> with_reducible rfl))
    (try simp only [Act.put, List.setIfInBounds_toArray, List.set_cons_zero, List.set_cons_succ])
    refine wpOrd_read (v := ?_) rfl (fun _ _ _ h => h) ?_ ?_
    rotate_left
    · (intro W hSW; (try dsimp only at hSW); (go_simp <;> with_reducible rfl))
    (try simp only [Act.put, List.setIfInBounds_toArray, List.set_cons_zero, List.set_cons_succ])
    refine wpOrd_read (v := ?_) rfl (fun _ _ _ h => h) ?_ ?_
    rotate_left
    · (intro W hSW; (try dsimp only at hSW); (go_simp <;> with_reducible rfl))
    (try simp only [Act.put, List.setIfInBounds_toArray, List.set_cons_zero, List.set_cons_succ])
    refine wpOrd_read (v := ?_) rfl (fun _ _ _ h => h) ?_ ?_
    rotate_left
    · (intro W hSW; (try dsimp only at hSW); (go_simp <;> with_reducible rfl))
    (try simp only [Act.put, List.setIfInBounds_toArray, List.set_cons_zero, List.set_cons_succ])
    refine wpOrd_read (v := ?_) rfl (fun _ _ _ h => h) ?_ ?_
    rotate_left
    · (intro W hSW; (try dsimp only at hSW); (go_simp <;> with_reducible rfl))
    (try simp only [Act.put, List.setIfInBounds_toArray, List.set_cons_zero, List.set_cons_succ])
    refine wpOrd_nil ?_
    simp only [List.drop_succ_cons, List.drop_zero]
    refine wpList_append_run rfl (.tmp 22) (.tmp 25) _ _ rfl rfl rfl (hap _) ?_
    clear hap HAP
    generalize hY : w.drew.setCells b (off + m * 4) (xs.drop ((m + 1) * 4)) = Y at *
    have HY := Lib.hid hY
    clear hY
    go_wp2
    go_ret
    rw [← HY.out] at HF ⊢
    obtain ⟨fp2, h1, h2⟩ := HF.out
    exact ⟨fp2, rfl, chg_setCellsV (chg_setCellsV (Chg.refl _ _).drew (by simp) _ _) (by simp) _ _, h1, fun y hy => by simp [h2 y hy]⟩
  · have hap := fun ty => HAP.out ty ⟨b, off + (i + 1) * 4, none⟩ (fun _ => rfl)
    go_enter Tryz.func70, Tryz.ntmps70
    go_upto_region 5 with (fail)
    refine wp_region_ord 6 [(0, true), (1, true), (2, true), (3, true), (4, true), (5, true)] (fun W => True) (by kernel_rfl) (by kernel_rfl) trivial (fun hHeld => ?_)
    refine wpOrd_read (v := ?_) rfl (fun _ _ _ h => h) ?_ ?_
    rotate_left
    · (intro W hSW; (try dsimp only at hSW); (go_simp <;> with_reducible rfl))
    (try simp only [Act.put, List.setIfInBounds_toArray, List.set_cons_zero, List.set_cons_succ])
    refine wpOrd_read (v := ?_) rfl (fun _ _ _ h => h) ?_ ?_
    rotate_left
    · (intro W hSW; (try dsimp only at hSW); (go_simp <;> with_reducible rfl))
    (try simp only [Act.put, List.setIfInBounds_toArray, List.set_cons_zero, List.set_cons_succ])
    refine wpOrd_read (v := ?_) rfl (fun _ _ _ h => h) ?_ ?_
    rotate_left
    · (intro W hSW; (try dsimp only at hSW); (go_simp <;> with_reducible rfl))
    (try simp only [Act.put, List.setIfInBounds_toArray, List.set_cons_zero, List.set_cons_succ])
    refine wpOrd_read (v := ?_) rfl (fun _ _ _ h => h) ?_ ?_
    rotate_left
    · (intro W hSW; (try dsimp only at hSW); (go_simp <;> with_reducible rfl))
    (try simp only [Act.put, List.setIfInBounds_toArray, List.set_cons_zero, List.set_cons_succ])
    refine wpOrd_read (v := ?_) rfl (fun _ _ _ h => h) ?_ ?_
    rotate_left
    · (intro W hSW; (try dsimp only at hSW); (go_simp <;> with_reducible rfl))
    (try simp only [Act.put, List.setIfInBounds_toArray, List.set_cons_zero, List.set_cons_succ])
    refine wpOrd_read (v := ?_) rfl (fun _ _ _ h => h) ?_ ?_
    rotate_left
    · (intro W hSW; (try dsimp only at hSW); (go_simp <;> with_reducible rfl))
    (try simp only [Act.put, List.setIfInBounds_toArray, List.set_cons_zero, List.set_cons_succ])
    refine wpOrd_nil ?_
    simp only [List.drop_succ_cons, List.drop_zero]
    refine wpList_append_run rfl (.tmp 22) (.tmp 25) _ _ rfl rfl rfl (hap _) ?_
    clear hap HAP
    generalize hY : w.drew.setCells b (off + i * 4) (xs.drop ((i + 1) * 4)) = Y at *
    have HY := Lib.hid hY
    clear hY
    go_wp2
    go_ret
    rw [← HY.out] at HF ⊢
    obtain ⟨fp2, h1, h2⟩ := HF.out
    exact ⟨fp2, rfl, chg_setCellsV (chg_setCellsV (Chg.refl _ _).drew (by simp) _ _) (by simp) _ _, h1, fun y hy => by simp [h2 y hy]⟩
def DSector.vs (x : DSector) : List Value := [.string x.name, .string x.site, .string x.antenna, .string x.radio, .string x.band, .int .i64 x.azimuth, .int .i64 x.tilt, .int .i64 x.above, .int .i64 x.channel]
theorem DSector.tr_vs (x : DSector) : x.tr = x.vs.map .lit := rfl
theorem DSector.vs_len (x : DSector) : x.vs.length = 9 := rfl
theorem DSector.vs_one (l : List DSector) : ∀ u ∈ l.flatMap DSector.vs, u.oneCell' = true := by
  intro u hu
  obtain ⟨x, _, hx⟩ := List.mem_flatMap.1 hu
  simp only [DSector.vs, List.mem_cons, List.not_mem_nil, or_false] at hx
  rcases hx with rfl | rfl | rfl | rfl | rfl | rfl | rfl | rfl | rfl <;> rfl
theorem DSector.sT_vs (l : List DSector) : DSector.sT l = .sl 9 ((l.flatMap DSector.vs).map .lit) := by
  show Tr.sl 9 (l.flatMap DSector.tr) = _
  rw [flat_lits DSector.tr DSector.vs DSector.tr_vs]
set_option maxHeartbeats 2000000 in
set_option maxRecDepth 100000 in
theorem deleteSector_any (l : List DSector) (i : Nat) (a : Option Addr) (c : Nat) (fp : List Nat) (w : World) (h : Own w (DSector.sT l) (.slice a l.length c) fp) (hi : i < l.length) (hn : l.length ≤ 1048576) :
    Calls Tryz.prog 72 #[.slice a l.length c, .int .i64 (i : Int), .int .i64 ((i : Int) + 1)] w fun e w' => ∃ fp', e = .returned (.slice a (l.length - 1) c) ∧ Chg fp w w' ∧ Own w' (DSector.sT (l.eraseIdx i)) (.slice a (l.length - 1) c) fp' ∧ ∀ y ∈ fp', y ∈ fp := by
  obtain ⟨ti, hti, -, hts, -⟩ := info_parts infoSector
  rw [DSector.sT_vs] at h
  obtain ⟨hxl, hnc, hcm, hrow⟩ := h.rowV
  have hxl2 := hxl
  obtain ⟨b, off, ea, efp, row⟩ := hrow (fun e => by rw [e] at hxl; simp at hxl; omega)
  subst ea efp
  clear hrow h
  have HO := Lib.hid (DSector.vs_one l)
  have HE := Lib.hid (erase_flatv DSector.vs 9 DSector.vs_len l i)
  obtain ⟨m, hm⟩ : ∃ m, l.length = m + 1 := ⟨l.length - 1, by omega⟩
  have hel : (l.eraseIdx i).length = m := by rw [List.length_eraseIdx, if_pos hi, hm]; rfl
  have HFL := Lib.hid (flatv_length DSector.vs 9 DSector.vs_len (l.eraseIdx i))
  rw [hel] at HFL
  rw [DSector.sT_vs, HE.out]
  rw [HE.out] at HFL
  rw [hm] at hxl hi hn hnc ⊢
  clear hm hxl2 hel HE
  generalize l.flatMap DSector.vs = xs at *
  clear l
  unfold maxLen at hcm
  rw [Nat.add_sub_cancel]
  have HXL := Lib.hid hxl
  clear hxl
  have HR := Lib.hid row
  clear row
  -- the append
  have hap : ∀ (ty : TypeId) (ad : Addr), (¬ c = i + 1 → ad = ⟨b, off + (i + 1) * 9, none⟩) → (Builtin.append_ #[31, 31] ty #[.slice (some ⟨b, off, none⟩) i c, .slice (some ad) (m - i) (c - (i + 1))]).run Tryz.prog w.drew = .ok (.slice (some ⟨b, off, none⟩) m c) (w.drew.setCells b (off + i * 9) (xs.drop ((i + 1) * 9))) := by
    intro ty ad had
    have hl : (xs.drop ((i + 1) * 9)).length = (m - i) * 9 := by rw [List.length_drop, HXL.out]; omega
    have hz := run_append_room_cells (P := Tryz.prog) w.drew 31 ty 49 ti Tryz.underlying31 hti b off i c ad (m - i) (c - (i + 1)) (xs.drop ((i + 1) * 9)) (by rw [hts]; exact hl) (fun j u hu => ?_) (oneLits xs HO.out _) (by omega) ?_ ?_
    · rw [hts, show i + (m - i) = m by omega] at hz
      exact hz
    · have hj := (List.getElem?_eq_some_iff.1 hu).1
      rw [had (by omega), add_mk]
      exact (HR.out.drop ((i + 1) * 9)).drew.cell j u hu
    · intro j hj
      rw [hts, Nat.add_assoc]
      exact HR.out.drew.some_ _ (by rw [HXL.out]; omega)
    · intro j hj
      exact HR.out.drew.free _
  have HAP := Lib.hid hap
  clear hap
  have r2 : RowV (w.drew.setCells b (off + i * 9) (xs.drop ((i + 1) * 9))) b off (xs.take (i * 9) ++ xs.drop ((i + 1) * 9)) := HR.out.drew.set (i * 9) (by rw [List.length_drop, HXL.out]; omega)
  have hcl : ∀ ty : TypeId, (Builtin.clear_ #[31] ty #[.slice (some ⟨b, off + m * 9, none⟩) 1 (c - m)]).run Tryz.prog (w.drew.setCells b (off + i * 9) (xs.drop ((i + 1) * 9))) = .ok (.tuple #[]) ((w.drew.setCells b (off + i * 9) (xs.drop ((i + 1) * 9))).setCells b (off + m * 9) [.string ⟨#[]⟩, .string ⟨#[]⟩, .string ⟨#[]⟩, .string ⟨#[]⟩, .string ⟨#[]⟩, .int .i64 0, .int .i64 0, .int .i64 0, .int .i64 0]) := fun ty =>
    run_clear_one _ 31 49 ty (.agg #[.string ⟨#[]⟩, .string ⟨#[]⟩, .string ⟨#[]⟩, .string ⟨#[]⟩, .string ⟨#[]⟩, .int .i64 0, .int .i64 0, .int .i64 0, .int .i64 0]) [.string ⟨#[]⟩, .string ⟨#[]⟩, .string ⟨#[]⟩, .string ⟨#[]⟩, .string ⟨#[]⟩, .int .i64 0, .int .i64 0, .int .i64 0, .int .i64 0] Tryz.underlying31 (fun _ => by kernel_rfl) rfl (fun u hu => by simp only [List.mem_cons, List.not_mem_nil, or_false] at hu; rcases hu with rfl | rfl | rfl | rfl | rfl | rfl | rfl | rfl | rfl <;> rfl) b _ _
      (fun j hj => by rw [Nat.add_assoc]; exact World.isSome_setCellsV b _ _ _ _ (HR.out.drew.some_ _ (by rw [HXL.out]; simp at hj; omega))) (fun j hj => r2.free _)
  have HF : Hid (∃ fp', Own ((w.drew.setCells b (off + i * 9) (xs.drop ((i + 1) * 9))).setCells b (off + m * 9) [.string ⟨#[]⟩, .string ⟨#[]⟩, .string ⟨#[]⟩, .string ⟨#[]⟩, .string ⟨#[]⟩, .int .i64 0, .int .i64 0, .int .i64 0, .int .i64 0]) (.sl 9 ((xs.take (i * 9) ++ xs.drop ((i + 1) * 9)).map .lit)) (.slice (some ⟨b, off, none⟩) m c) fp' ∧ ∀ y ∈ fp', y = b) :=
    (r2.behind (ys := [.string ⟨#[]⟩, .string ⟨#[]⟩, .string ⟨#[]⟩, .string ⟨#[]⟩, .string ⟨#[]⟩, .int .i64 0, .int .i64 0, .int .i64 0, .int .i64 0]) (m * 9) (by rw [HFL.out]; omega)).own (k := 9) (by rw [HFL.out]) (by omega) (by unfold maxLen; omega)
  clear r2
  have i1 : (i : Int) + 1 ≤ (m : Int) + 1 := by omega
  have i2 : (m : Int) + 1 ≤ (c : Int) := by omega
  have i3 : (i : Int) ≤ (m : Int) := by omega
  have i4 : ((i : Int) == (i : Int) + 1) = false := by simp; omega
  have i6 : (i : Int) ≤ (i : Int) + 1 := by omega
  have i7 : (0 : Int) ≤ (i : Int) + 1 := by omega
  have i8 : i ≤ c := by omega
  have i5 : ¬ c = m := by omega
  by_cases hce : c = i + 1
  · have hap := fun ty => HAP.out ty ⟨b, off, none⟩ (fun e => absurd hce e)
    subst hce
    obtain rfl : m = i := by omega
    simp only [Nat.sub_self] at hap
    simp only [Nat.add_sub_cancel_left] at hcl
    go_enter Tryz.func72, Tryz.ntmps72
    go_upto_region 5 with (fail)
    refine wp_region_ord 6 [(0, true), (1, true), (2, true), (3, true), (4, true), (5, true)] (fun W => True) (by kernel_rfl) (by kernel_rfl) trivial (fun hHeld => ?_)
    refine wpOrd_read (v := ?_) rfl (fun _ _ _ h => h) ?_ ?_
    rotate_left
    · (intro W hSW; (try dsimp only at hSW); (go_simp <;> with_reducible rfl))
    (try simp only [Act.put, List.setIfInBounds_toArray, List.set_cons_zero, List.set_cons_succ])
    refine wpOrd_read (v := ?_) rfl (fun _ _ _ h => h) ?_ ?_
    rotate_left
    · (intro W hSW; (try dsimp only at hSW); (go_simp <;> with_reducible rfl))
    (try simp only [Act.put, List.setIfInBounds_toArray, List.set_cons_zero, List.set_cons_succ])
    refine wpOrd_read (v := ?_) rfl (fun _ _ _ h => h) ?_ ?_
    rotate_left
    · (intro W hSW; (try dsimp only at hSW); (go_simp <;> with_reducible rfl))
    (try simp only [Act.put, List.setIfInBounds_toArray, List.set_cons_zero, List.set_cons_succ])
    refine wpOrd_read (v := ?_) rfl (fun _ _ _ h => h) ?_ ?_
    rotate_left
    · (intro W hSW; (try dsimp only at hSW); (go_simp <;> with_reducible rfl))
    (try simp only [Act.put, List.setIfInBounds_toArray, List.set_cons_zero, List.set_cons_succ])
    refine wpOrd_read (v := ?_) rfl (fun _ _ _ h => h) ?_ ?_
    rotate_left
    · (intro W hSW; (try dsimp only at hSW); (go_simp <;> with_reducible rfl))
    (try simp only [Act.put, List.setIfInBounds_toArray, List.set_cons_zero, List.set_cons_succ])
    refine wpOrd_read (v := ?_) rfl (fun _ _ _ h => h) ?_ ?_
    rotate_left
    · (intro W hSW; (try dsimp only at hSW); (go_simp <;> with_reducible rfl))
    (try simp only [Act.put, List.setIfInBounds_toArray, List.set_cons_zero, List.set_cons_succ])
    refine wpOrd_nil ?_
    simp only [List.drop_succ_cons, List.drop_zero]
    refine wpList_append_run rfl (.tmp 22) (.tmp 25) _ _ rfl rfl rfl (hap _) ?_
    clear hap HAP
    generalize hY : w.drew.setCells b (off + m * 9) (xs.drop ((m + 1) * 9)) = Y at *
    have HY := Lib.hid hY
    clear hY
    go_wp2
    go_ret
    rw [← HY.out] at HF ⊢
    obtain ⟨fp2, h1, h2⟩ := HF.out
    exact ⟨fp2, rfl, chg_setCellsV (chg_setCellsV (Chg.refl _ _).drew (by simp) _ _) (by simp) _ _, h1, fun y hy => by simp [h2 y hy]⟩
  · have hap := fun ty => HAP.out ty ⟨b, off + (i + 1) * 9, none⟩ (fun _ => rfl)
    go_enter Tryz.func72, Tryz.ntmps72
    go_upto_region 5 with (fail)
    refine wp_region_ord 6 [(0, true), (1, true), (2, true), (3, true), (4, true), (5, true)] (fun W => True) (by kernel_rfl) (by kernel_rfl) trivial (fun hHeld => ?_)
    refine wpOrd_read (v := ?_) rfl (fun _ _ _ h => h) ?_ ?_
    rotate_left
    · (intro W hSW; (try dsimp only at hSW); (go_simp <;> with_reducible rfl))
    (try simp only [Act.put, List.setIfInBounds_toArray, List.set_cons_zero, List.set_cons_succ])
    refine wpOrd_read (v := ?_) rfl (fun _ _ _ h => h) ?_ ?_
    rotate_left
    · (intro W hSW; (try dsimp only at hSW); (go_simp <;> with_reducible rfl))
    (try simp only [Act.put, List.setIfInBounds_toArray, List.set_cons_zero, List.set_cons_succ])
    refine wpOrd_read (v := ?_) rfl (fun _ _ _ h => h) ?_ ?_
    rotate_left
    · (intro W hSW; (try dsimp only at hSW); (go_simp <;> with_reducible rfl))
    (try simp only [Act.put, List.setIfInBounds_toArray, List.set_cons_zero, List.set_cons_succ])
    refine wpOrd_read (v := ?_) rfl (fun _ _ _ h => h) ?_ ?_
    rotate_left
    · (intro W hSW; (try dsimp only at hSW); (go_simp <;> with_reducible rfl))
    (try simp only [Act.put, List.setIfInBounds_toArray, List.set_cons_zero, List.set_cons_succ])
    refine wpOrd_read (v := ?_) rfl (fun _ _ _ h => h) ?_ ?_
    rotate_left
    · (intro W hSW; (try dsimp only at hSW); (go_simp <;> with_reducible rfl))
    (try simp only [Act.put, List.setIfInBounds_toArray, List.set_cons_zero, List.set_cons_succ])
    refine wpOrd_read (v := ?_) rfl (fun _ _ _ h => h) ?_ ?_
    rotate_left
    · (intro W hSW; (try dsimp only at hSW); (go_simp <;> with_reducible rfl))
    (try simp only [Act.put, List.setIfInBounds_toArray, List.set_cons_zero, List.set_cons_succ])
    refine wpOrd_nil ?_
    simp only [List.drop_succ_cons, List.drop_zero]
    refine wpList_append_run rfl (.tmp 22) (.tmp 25) _ _ rfl rfl rfl (hap _) ?_
    clear hap HAP
    generalize hY : w.drew.setCells b (off + i * 9) (xs.drop ((i + 1) * 9)) = Y at *
    have HY := Lib.hid hY
    clear hY
    go_wp2
    go_ret
    rw [← HY.out] at HF ⊢
    obtain ⟨fp2, h1, h2⟩ := HF.out
    exact ⟨fp2, rfl, chg_setCellsV (chg_setCellsV (Chg.refl _ _).drew (by simp) _ _) (by simp) _ _, h1, fun y hy => by simp [h2 y hy]⟩
end Go.Proofs.YtppgcgopnchbcaaGreat
