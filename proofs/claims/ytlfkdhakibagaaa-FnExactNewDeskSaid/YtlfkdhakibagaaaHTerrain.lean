/- Contracts of the laws' helpers over the type Terrain and slices of it. Conditions: bounded lengths. -/
import Derived.Test.YtlfkdhakibagaaaInts2
import Derived.Test.YtlfkdhakibagaaaTypes
import Derived.Test.YtlfkdhakibagaaaText
import Derived.Test.YtlfkdhakibagaaaOver
namespace Go.Proofs.Ytlfkdhakibagaaa
open Go.RowKit
set_option linter.unusedVariables false

theorem DTerrain.siz_tr (x : DTerrain) : sizL x.tr = siz (intsT x.heights) + siz (intsT x.clutter) := by
  simp only [DTerrain.tr, sizL, siz, intT]
  omega
set_option maxHeartbeats 4000000 in
set_option maxRecDepth 100000 in
theorem eq_Terrain (x : DTerrain) (v3 u3 v4 u4 : Value) (B : Nat) (w : World) (h3 : Rd B w (intsT x.heights) v3) (g3 : Rd B w (intsT x.heights) u3) (h4 : Rd B w (intsT x.clutter) v4) (g4 : Rd B w (intsT x.clutter) u4) (hB : B ≤ w.heap.size) (hn : sizL x.tr ≤ 1099511627776) :
    Calls Try.prog 21 #[.agg #[.int .i64 x.step, .int .i64 x.width, .int .i64 x.height, v3, v4], .agg #[.int .i64 x.step, .int .i64 x.width, .int .i64 x.height, u3, u4]] w fun e w' => e = .returned (.bool true) ∧ Below w.heap.size w w' := by
  have hsum := DTerrain.siz_tr x
  have b0 : Below w.heap.size w ((w.alloc (.cells #[.int .i64 x.step, .int .i64 x.width, .int .i64 x.height, v3, v4] 24)).alloc (.cells #[.int .i64 x.step, .int .i64 x.width, .int .i64 x.height, u3, u4] 24)) := ((Below.refl _ _).alloc (Nat.le_refl _) _).alloc (by simp) _
  have B0 := Lib.hid b0
  have y0 : w.heap.size + 2 ≤ ((w.alloc (.cells #[.int .i64 x.step, .int .i64 x.width, .int .i64 x.height, v3, v4] 24)).alloc (.cells #[.int .i64 x.step, .int .i64 x.width, .int .i64 x.height, u3, u4] 24)).heap.size := by first | (simp; done) | (simp; omega)
  clear b0
  go_enter Try.func21, Try.ntmps21
  go_wp2_with fail
  refine (eq_Int64S x.heights v3 u3 B _ (h3.below (B0.out.mono hB)) (g3.below (B0.out.mono hB)) (by omega) (by omega)).mono ?_
  rintro e w1 ⟨rfl, hb1⟩
  obtain ⟨qa1, _, ya1⟩ := bcellAt hb1 (b := w.heap.size) (by omega)
  obtain ⟨qb1, _, yb1⟩ := bcellAt hb1 (b := w.heap.size + 1) (by omega)
  have y1 : w.heap.size + 2 ≤ w1.heap.size := by have := hb1.size; omega
  have B1 := Lib.hid (B0.out.trans (hb1.mono (by omega)))
  clear hb1
  go_wp2_with fail
  refine (eq_Int64S x.clutter v4 u4 B _ (h4.below (B1.out.mono hB)) (g4.below (B1.out.mono hB)) (by omega) (by omega)).mono ?_
  rintro e w2 ⟨rfl, hb2⟩
  obtain ⟨qa2, _, ya2⟩ := bcellAt hb2 (b := w.heap.size) (by omega)
  obtain ⟨qb2, _, yb2⟩ := bcellAt hb2 (b := w.heap.size + 1) (by omega)
  have y2 : w.heap.size + 2 ≤ w2.heap.size := by have := hb2.size; omega
  have B2 := Lib.hid (B1.out.trans (hb2.mono (by omega)))
  clear hb2
  go_wp2
  go_ret
  exact ⟨rfl, B2.out⟩
theorem DTerrain.cnt_eq (x : DTerrain) : cnt (intsT x.heights) + cnt (intsT x.clutter) = cnt (intsT x.heights) + cnt (intsT x.clutter) := rfl
set_option maxHeartbeats 4000000 in
set_option maxRecDepth 100000 in
theorem mark_Terrain (x : DTerrain) (v3 v4 : Value) (f3 f4 : List Nat) (k0 l3 m3 l4 m4 : Nat) (w : World) (o3 : Own w (intsT x.heights) v3 f3) (i3 : In l3 m3 f3) (n3 : m3 ≤ w.heap.size) (o4 : Own w (intsT x.clutter) v4 f4) (i4 : In l4 m4 f4) (n4 : m4 ≤ w.heap.size) (d3_4 : ∀ y ∈ f3, y ∉ f4) (hs : sizL x.tr ≤ 1099511627776) (hk0 : k0 + cnt (intsT x.heights) + cnt (intsT x.clutter) ≤ 1099511627776) (hk1 : 0 < k0) :
    Calls Try.prog 28 #[.agg #[.int .i64 x.step, .int .i64 x.width, .int .i64 x.height, v3, v4], .int .i64 k0] w fun e w' => e = .returned (.int .i64 ((k0 + cnt (intsT x.heights) + cnt (intsT x.clutter) : Nat) : Int)) ∧ Own w' (mkT (intsT x.heights) (k0)) v3 f3 ∧ Own w' (mkT (intsT x.clutter) (k0 + cnt (intsT x.heights))) v4 f4 ∧ Chg (f3 ++ f4) w w' := by
  have hsum := DTerrain.siz_tr x
  have b0 : Below w.heap.size w (w.alloc (.cells #[.int .i64 x.step, .int .i64 x.width, .int .i64 x.height, v3, v4] 24)) := (Below.refl _ _).alloc (Nat.le_refl _) _
  have C0 := Lib.hid (Chg.of_below (fp := (f3 ++ f4)) b0)
  have y0 : w.heap.size < (w.alloc (.cells #[.int .i64 x.step, .int .i64 x.width, .int .i64 x.height, v3, v4] 24)).heap.size := by simp
  have O0_3 := Lib.hid (o3.below i3 n3 b0)
  have O0_4 := Lib.hid (o4.below i4 n4 b0)
  clear b0 o3 o4
  go_enter Try.func28, Try.ntmps28
  go_wp2_with fail
  refine (markI_Int64S x.heights v3 f3 (k0) l3 _ _ O0_3.out (i3.mono (Nat.le_refl _) (by omega)) (by omega) (by first | rfl | simp only [Int.natCast_add]) (by omega) (by omega)).mono ?_
  rintro e w1 ⟨rfl, p3, c1⟩
  have y1 : w.heap.size < w1.heap.size := by have := c1.size; omega
  have hk1c : ∀ q, w1.cell? ⟨w.heap.size, q, none⟩ = _ := fun q => World.cell?_of_block (a := ⟨w.heap.size, q, none⟩) (c1.block w.heap.size y0 (fun e => by have := (i3 _ e).2; omega))
  have C1 := Lib.hid (C0.out.trans (c1.mono (fun y hy => by simp [hy])))
  have O1_3 := Lib.hid p3
  have O1_4 := Lib.hid (O0_4.out.chg i4 (by omega) c1 (fun y hy e => d3_4 y e hy))
  clear c1 p3
  go_wp2_with fail
  refine (markI_Int64S x.clutter v4 f4 (k0 + cnt (intsT x.heights)) l4 _ _ O1_4.out (i4.mono (Nat.le_refl _) (by omega)) (by omega) (by first | rfl | simp only [Int.natCast_add]) (by omega) (by omega)).mono ?_
  rintro e w2 ⟨rfl, p4, c2⟩
  have y2 : w.heap.size < w2.heap.size := by have := c2.size; omega
  have hk2c : ∀ q, w2.cell? ⟨w.heap.size, q, none⟩ = _ := fun q => World.cell?_of_block (a := ⟨w.heap.size, q, none⟩) (c2.block w.heap.size y1 (fun e => by have := (i4 _ e).2; omega))
  have C2 := Lib.hid (C1.out.trans (c2.mono (fun y hy => by simp [hy])))
  have O2_3 := Lib.hid (O1_3.out.chg i3 (by omega) c2 (fun y hy e => d3_4 y hy e))
  have O2_4 := Lib.hid p4
  clear c2 p4
  go_wp2
  go_ret
  exact ⟨ret_int (by simp only [Int.natCast_add]), O2_3.out, O2_4.out, C2.out⟩
set_option maxHeartbeats 4000000 in
set_option maxRecDepth 100000 in
theorem held_Terrain (x : DTerrain) (v3 v4 : Value) (B k0 : Nat) (w : World) (h3 : Rd B w (mkT (intsT x.heights) (k0)) v3) (h4 : Rd B w (mkT (intsT x.clutter) (k0 + cnt (intsT x.heights))) v4) (hB : B ≤ w.heap.size) (hs : sizL x.tr ≤ 1099511627776) (hk0 : k0 + cnt (intsT x.heights) + cnt (intsT x.clutter) ≤ 1099511627776) (hk1 : 0 < k0) :
    Calls Try.prog 35 #[.agg #[.int .i64 x.step, .int .i64 x.width, .int .i64 x.height, v3, v4], .int .i64 k0] w fun e w' => e = .returned (.int .i64 ((k0 + cnt (intsT x.heights) + cnt (intsT x.clutter) : Nat) : Int)) ∧ Below w.heap.size w w' := by
  have hsum := DTerrain.siz_tr x
  have b0 : Below w.heap.size w (w.alloc (.cells #[.int .i64 x.step, .int .i64 x.width, .int .i64 x.height, v3, v4] 24)) := (Below.refl _ _).alloc (Nat.le_refl _) _
  have B0 := Lib.hid b0
  have y0 : w.heap.size < (w.alloc (.cells #[.int .i64 x.step, .int .i64 x.width, .int .i64 x.height, v3, v4] 24)).heap.size := by simp
  clear b0
  go_enter Try.func35, Try.ntmps35
  go_wp2_with fail
  refine (heldI_Int64S x.heights v3 B (k0) _ _ (h3.below (B0.out.mono hB)) (by omega) (by omega) (by first | rfl | simp only [Int.natCast_add]) (by omega) (by omega)).mono ?_
  rintro e w1 ⟨rfl, hb1⟩
  obtain ⟨q1, _, y1⟩ := bcellAt hb1 (b := w.heap.size) y0
  have B1 := Lib.hid (B0.out.trans (hb1.mono (by omega)))
  clear hb1
  go_wp2_with fail
  refine (heldI_Int64S x.clutter v4 B (k0 + cnt (intsT x.heights)) _ _ (h4.below (B1.out.mono hB)) (by omega) (by omega) (by first | rfl | simp only [Int.natCast_add]) (by omega) (by omega)).mono ?_
  rintro e w2 ⟨rfl, hb2⟩
  obtain ⟨q2, _, y2⟩ := bcellAt hb2 (b := w.heap.size) y1
  have B2 := Lib.hid (B1.out.trans (hb2.mono (by omega)))
  clear hb2
  go_wp2
  go_ret
  exact ⟨ret_int (by simp only [Int.natCast_add]), B2.out⟩
end Go.Proofs.Ytlfkdhakibagaaa
