/- Contract: a new desk, of the program and of the reference. No condition. -/
import Derived.Test.YtlfkdhakibagaaaNewD
namespace Go.Proofs.Ytlfkdhakibagaaa
open Go.RowKit
set_option linter.unusedVariables false
set_option linter.unusedSimpArgs false

def zeros : List Int := List.replicate 100 0
def newDesk : DDesk := ⟨⟨⟨100, 10, 10, zeros, zeros⟩, ⟨[], [], [], []⟩, [], [], [], [], 0⟩, []⟩
theorem ownZ {w : World} {g E : Nat} (h : w.heap[g]? = some (.cells zrow E (0, 0))) : Own w (intsT zeros) (.slice (some ⟨g, 0, none⟩) 100 100) [g] := by
  have hz : zeros.length = 100 := by unfold zeros; exact List.length_replicate
  refine ⟨Rep_sl.2 ⟨_, 100, 100, rfl, by rw [List.length_map, hz], Nat.le_refl _, by unfold maxLen; omega, Or.inr ⟨g, 0, [], ?_, rfl, rfl, ?_⟩⟩, by simp, fun b hb i => ?_⟩
  · intro e
    have := congrArg List.length e
    rw [List.length_map, hz] at this
    cases this
  · have e : zeros.map intT = (zeros.map (Value.int .i64)).map .lit := by rw [List.map_map]; rfl
    rw [e]
    refine Reps.lits _ g 0 (fun i hi => ?_)
    have hi' : i < 100 := by rw [List.length_map, hz] at hi; exact hi
    rw [Nat.zero_add, cellZ h hi', List.getElem_map]
    unfold zeros
    rw [List.getElem_replicate]
  · have : b = g := by simpa using hb
    subst this
    exact bkF h i
theorem ownNil (w : World) (k : Nat) : Own w (.sl k []) (.slice none 0 0) [] := ⟨Rep_sl.2 ⟨none, 0, 0, rfl, by simp, Nat.le_refl _, by unfold maxLen; omega, Or.inl ⟨rfl, rfl⟩⟩, List.nodup_nil, fun b h => by simp at h⟩
theorem ownV_newDesk {w : World} {g h E : Nat} (ne : g ≠ h) (rg : w.heap[g]? = some (.cells zrow E (0, 0))) (rh : w.heap[h]? = some (.cells zrow E (0, 0))) :
    OwnV w newDesk.tr [.int .i64 100, .int .i64 10, .int .i64 10, .slice (some ⟨g, 0, none⟩) 100 100, .slice (some ⟨h, 0, none⟩) 100 100, .slice none 0 0, .slice none 0 0, .slice none 0 0, .slice none 0 0, .slice none 0 0, .slice none 0 0, .slice none 0 0, .slice none 0 0, .int .i64 0, .slice none 0 0] [g, h] := by
  have hd : ∀ y ∈ [g], y ∉ [h] := fun y hy e => by
    have h1 : y = g := by simpa using hy
    have h2 : y = h := by simpa using e
    exact ne (h1.symm.trans h2)
  have hh : OwnV w newDesk.tr [.int .i64 100, .int .i64 10, .int .i64 10, .slice (some ⟨g, 0, none⟩) 100 100, .slice (some ⟨h, 0, none⟩) 100 100, .slice none 0 0, .slice none 0 0, .slice none 0 0, .slice none 0 0, .slice none 0 0, .slice none 0 0, .slice none 0 0, .slice none 0 0, .int .i64 0, .slice none 0 0] ([g] ++ ([h] ++ [])) := (OwnV.consLit (OwnV.consLit (OwnV.consLit (OwnV.cons (ownZ rg) (OwnV.cons (ownZ rh) (OwnV.cons (f := []) (ownNil w 4) (OwnV.cons (f := []) (ownNil w 9) (OwnV.cons (f := []) (ownNil w 4) (OwnV.cons (f := []) (ownNil w 6) (OwnV.cons (f := []) (ownNil w 5) (OwnV.cons (f := []) (ownNil w 11) (OwnV.cons (f := []) (ownNil w 7) (OwnV.cons (f := []) (ownNil w 1) (OwnV.consLit (OwnV.cons (f := []) (ownNil w 8) OwnV.nil (fun y hy => by simp at hy)) rfl) (fun y hy => by simp at hy)) (fun y hy => by simp at hy)) (fun y hy => by simp at hy)) (fun y hy => by simp at hy)) (fun y hy => by simp at hy)) (fun y hy => by simp at hy)) (fun y hy => by simp at hy)) (fun y hy => by simp at hy)) (fun y hy e => by cases e)) (fun y hy e => hd y hy e)) rfl) rfl) rfl)
  exact hh
def DeskQ (w : World) (e : Ending) (w' : World) : Prop := ∃ g h, e = .returned (.agg #[.int .i64 100, .int .i64 10, .int .i64 10, .slice (some ⟨g, 0, none⟩) 100 100, .slice (some ⟨h, 0, none⟩) 100 100, .slice none 0 0, .slice none 0 0, .slice none 0 0, .slice none 0 0, .slice none 0 0, .slice none 0 0, .slice none 0 0, .slice none 0 0, .int .i64 0, .slice none 0 0]) ∧ TwoZ w w' g h 2
set_option maxHeartbeats 4000000 in
set_option maxRecDepth 100000 in
theorem l31New_desk (w : World) : Calls Try.prog 9 #[] w (DeskQ w) := by
  have hb0 : Below w.heap.size w (w.alloc (.cells #[.int .i64 0, .int .i64 0, .int .i64 0, .slice none 0 0, .slice none 0 0, .slice none 0 0, .slice none 0 0, .slice none 0 0, .slice none 0 0, .slice none 0 0, .slice none 0 0, .slice none 0 0, .slice none 0 0, .int .i64 0, .slice none 0 0] 39)) := below_alloc _ _
  have k0 := bkN w #[.int .i64 0, .int .i64 0, .int .i64 0, .slice none 0 0, .slice none 0 0, .slice none 0 0, .slice none 0 0, .slice none 0 0, .slice none 0 0, .slice none 0 0, .slice none 0 0, .slice none 0 0, .slice none 0 0, .int .i64 0, .slice none 0 0] 39
  have z0 : w.heap.size + 1 ≤ (w.alloc (.cells #[.int .i64 0, .int .i64 0, .int .i64 0, .slice none 0 0, .slice none 0 0, .slice none 0 0, .slice none 0 0, .slice none 0 0, .slice none 0 0, .slice none 0 0, .slice none 0 0, .slice none 0 0, .slice none 0 0, .int .i64 0, .slice none 0 0] 39)).heap.size := by simp
  go_enter Try.func9, Try.ntmps9
  go_upto_region 1 with (fail)
  generalize w.alloc (.cells #[.int .i64 0, .int .i64 0, .int .i64 0, .slice none 0 0, .slice none 0 0, .slice none 0 0, .slice none 0 0, .slice none 0 0, .slice none 0 0, .slice none 0 0, .slice none 0 0, .slice none 0 0, .slice none 0 0, .int .i64 0, .slice none 0 0] 39) = W0 at *
  have B0 := Lib.hid hb0
  have K0 := Lib.hid k0
  clear k0 hb0
  go_wp2_with fail
  refine (l04Flat_desk _).mono ?_
  rintro e w1 ⟨g, h, rfl, tz⟩
  have TZ_ := Lib.hid tz
  have z1 := tz.below.size
  have zg := tz.ghi
  have zh := tz.hhi
  have glo := tz.glo
  have hlo := tz.hlo
  have K1 := Lib.hid (bkB K0.out tz.below (by omega))
  clear tz
  have BB := Lib.hid (B0.out.trans (TZ_.out.below.mono (by omega)))
  have g0_ := bkC (v := .int .i64 0) K1.out 0 rfl
  have g1_ := bkC (v := .int .i64 0) K1.out 1 rfl
  have g2_ := bkC (v := .int .i64 0) K1.out 2 rfl
  have g3_ := bkC (v := .slice none 0 0) K1.out 3 rfl
  have g4_ := bkC (v := .slice none 0 0) K1.out 4 rfl
  have g5_ := bkC (v := .slice none 0 0) K1.out 5 rfl
  have g6_ := bkC (v := .slice none 0 0) K1.out 6 rfl
  have g7_ := bkC (v := .slice none 0 0) K1.out 7 rfl
  have g8_ := bkC (v := .slice none 0 0) K1.out 8 rfl
  have g9_ := bkC (v := .slice none 0 0) K1.out 9 rfl
  have g10_ := bkC (v := .slice none 0 0) K1.out 10 rfl
  have g11_ := bkC (v := .slice none 0 0) K1.out 11 rfl
  have g12_ := bkC (v := .slice none 0 0) K1.out 12 rfl
  have g13_ := bkC (v := .int .i64 0) K1.out 13 rfl
  have g14_ := bkC (v := .slice none 0 0) K1.out 14 rfl
  have fz := bkF K1.out
  go_wp2
  have BF := Lib.hid ((((((((((((((((BB.out).setCell (p := ⟨w.heap.size, 0, none⟩) (Nat.le_refl _) (.int .i64 100)).setCell (p := ⟨w.heap.size, 1, none⟩) (Nat.le_refl _) (.int .i64 10)).setCell (p := ⟨w.heap.size, 2, none⟩) (Nat.le_refl _) (.int .i64 10)).setCell (p := ⟨w.heap.size, 3, none⟩) (Nat.le_refl _) (.slice (some ⟨g, 0, none⟩) 100 100)).setCell (p := ⟨w.heap.size, 4, none⟩) (Nat.le_refl _) (.slice (some ⟨h, 0, none⟩) 100 100)).setCell (p := ⟨w.heap.size, 5, none⟩) (Nat.le_refl _) (.slice none 0 0)).setCell (p := ⟨w.heap.size, 6, none⟩) (Nat.le_refl _) (.slice none 0 0)).setCell (p := ⟨w.heap.size, 7, none⟩) (Nat.le_refl _) (.slice none 0 0)).setCell (p := ⟨w.heap.size, 8, none⟩) (Nat.le_refl _) (.slice none 0 0)).setCell (p := ⟨w.heap.size, 9, none⟩) (Nat.le_refl _) (.slice none 0 0)).setCell (p := ⟨w.heap.size, 10, none⟩) (Nat.le_refl _) (.slice none 0 0)).setCell (p := ⟨w.heap.size, 11, none⟩) (Nat.le_refl _) (.slice none 0 0)).setCell (p := ⟨w.heap.size, 12, none⟩) (Nat.le_refl _) (.slice none 0 0)).setCell (p := ⟨w.heap.size, 13, none⟩) (Nat.le_refl _) (.int .i64 0)).setCell (p := ⟨w.heap.size, 14, none⟩) (Nat.le_refl _) (.slice none 0 0))
  have RG := Lib.hid (bkO (bkO (bkO (bkO (bkO (bkO (bkO (bkO (bkO (bkO (bkO (bkO (bkO (bkO (bkO (TZ_.out.rg) (p := ⟨w.heap.size, 0, none⟩) (by show g ≠ w.heap.size; omega) (.int .i64 100)) (p := ⟨w.heap.size, 1, none⟩) (by show g ≠ w.heap.size; omega) (.int .i64 10)) (p := ⟨w.heap.size, 2, none⟩) (by show g ≠ w.heap.size; omega) (.int .i64 10)) (p := ⟨w.heap.size, 3, none⟩) (by show g ≠ w.heap.size; omega) (.slice (some ⟨g, 0, none⟩) 100 100)) (p := ⟨w.heap.size, 4, none⟩) (by show g ≠ w.heap.size; omega) (.slice (some ⟨h, 0, none⟩) 100 100)) (p := ⟨w.heap.size, 5, none⟩) (by show g ≠ w.heap.size; omega) (.slice none 0 0)) (p := ⟨w.heap.size, 6, none⟩) (by show g ≠ w.heap.size; omega) (.slice none 0 0)) (p := ⟨w.heap.size, 7, none⟩) (by show g ≠ w.heap.size; omega) (.slice none 0 0)) (p := ⟨w.heap.size, 8, none⟩) (by show g ≠ w.heap.size; omega) (.slice none 0 0)) (p := ⟨w.heap.size, 9, none⟩) (by show g ≠ w.heap.size; omega) (.slice none 0 0)) (p := ⟨w.heap.size, 10, none⟩) (by show g ≠ w.heap.size; omega) (.slice none 0 0)) (p := ⟨w.heap.size, 11, none⟩) (by show g ≠ w.heap.size; omega) (.slice none 0 0)) (p := ⟨w.heap.size, 12, none⟩) (by show g ≠ w.heap.size; omega) (.slice none 0 0)) (p := ⟨w.heap.size, 13, none⟩) (by show g ≠ w.heap.size; omega) (.int .i64 0)) (p := ⟨w.heap.size, 14, none⟩) (by show g ≠ w.heap.size; omega) (.slice none 0 0))
  have RH := Lib.hid (bkO (bkO (bkO (bkO (bkO (bkO (bkO (bkO (bkO (bkO (bkO (bkO (bkO (bkO (bkO (TZ_.out.rh) (p := ⟨w.heap.size, 0, none⟩) (by show h ≠ w.heap.size; omega) (.int .i64 100)) (p := ⟨w.heap.size, 1, none⟩) (by show h ≠ w.heap.size; omega) (.int .i64 10)) (p := ⟨w.heap.size, 2, none⟩) (by show h ≠ w.heap.size; omega) (.int .i64 10)) (p := ⟨w.heap.size, 3, none⟩) (by show h ≠ w.heap.size; omega) (.slice (some ⟨g, 0, none⟩) 100 100)) (p := ⟨w.heap.size, 4, none⟩) (by show h ≠ w.heap.size; omega) (.slice (some ⟨h, 0, none⟩) 100 100)) (p := ⟨w.heap.size, 5, none⟩) (by show h ≠ w.heap.size; omega) (.slice none 0 0)) (p := ⟨w.heap.size, 6, none⟩) (by show h ≠ w.heap.size; omega) (.slice none 0 0)) (p := ⟨w.heap.size, 7, none⟩) (by show h ≠ w.heap.size; omega) (.slice none 0 0)) (p := ⟨w.heap.size, 8, none⟩) (by show h ≠ w.heap.size; omega) (.slice none 0 0)) (p := ⟨w.heap.size, 9, none⟩) (by show h ≠ w.heap.size; omega) (.slice none 0 0)) (p := ⟨w.heap.size, 10, none⟩) (by show h ≠ w.heap.size; omega) (.slice none 0 0)) (p := ⟨w.heap.size, 11, none⟩) (by show h ≠ w.heap.size; omega) (.slice none 0 0)) (p := ⟨w.heap.size, 12, none⟩) (by show h ≠ w.heap.size; omega) (.slice none 0 0)) (p := ⟨w.heap.size, 13, none⟩) (by show h ≠ w.heap.size; omega) (.int .i64 0)) (p := ⟨w.heap.size, 14, none⟩) (by show h ≠ w.heap.size; omega) (.slice none 0 0))
  refine bodyPost_ret (v := .agg #[.int .i64 100, .int .i64 10, .int .i64 10, .slice (some ⟨g, 0, none⟩) 100 100, .slice (some ⟨h, 0, none⟩) 100 100, .slice none 0 0, .slice none 0 0, .slice none 0 0, .slice none 0 0, .slice none 0 0, .slice none 0 0, .slice none 0 0, .slice none 0 0, .int .i64 0, .slice none 0 0]) (by simp [results, Try.results9, go_sem, *]) rfl ?_
  exact ⟨g, h, rfl, ⟨BF.out, by omega, by simp only [size_setCell]; omega, by omega, by simp only [size_setCell]; omega, TZ_.out.ne, RG.out, RH.out⟩⟩
set_option maxHeartbeats 4000000 in
set_option maxRecDepth 100000 in
theorem sNewDesk_any (w : World) : Calls Try.prog 4 #[] w (DeskQ w) := by
  have hb0 : Below w.heap.size w (w.alloc (.cells #[.int .i64 0, .int .i64 0, .int .i64 0, .slice none 0 0, .slice none 0 0, .slice none 0 0, .slice none 0 0, .slice none 0 0, .slice none 0 0, .slice none 0 0, .slice none 0 0, .slice none 0 0, .slice none 0 0, .int .i64 0, .slice none 0 0] 39)) := below_alloc _ _
  have k0 := bkN w #[.int .i64 0, .int .i64 0, .int .i64 0, .slice none 0 0, .slice none 0 0, .slice none 0 0, .slice none 0 0, .slice none 0 0, .slice none 0 0, .slice none 0 0, .slice none 0 0, .slice none 0 0, .slice none 0 0, .int .i64 0, .slice none 0 0] 39
  have z0 : w.heap.size + 1 ≤ (w.alloc (.cells #[.int .i64 0, .int .i64 0, .int .i64 0, .slice none 0 0, .slice none 0 0, .slice none 0 0, .slice none 0 0, .slice none 0 0, .slice none 0 0, .slice none 0 0, .slice none 0 0, .slice none 0 0, .slice none 0 0, .int .i64 0, .slice none 0 0] 39)).heap.size := by simp
  go_enter Try.func4, Try.ntmps4
  go_upto_region 1 with (fail)
  generalize w.alloc (.cells #[.int .i64 0, .int .i64 0, .int .i64 0, .slice none 0 0, .slice none 0 0, .slice none 0 0, .slice none 0 0, .slice none 0 0, .slice none 0 0, .slice none 0 0, .slice none 0 0, .slice none 0 0, .slice none 0 0, .int .i64 0, .slice none 0 0] 39) = W0 at *
  have B0 := Lib.hid hb0
  have K0 := Lib.hid k0
  clear k0 hb0
  go_wp2_with fail
  refine (l31New_desk _).mono ?_
  rintro e w1 ⟨g, h, rfl, tz⟩
  have TZ_ := Lib.hid tz
  have z1 := tz.below.size
  have zg := tz.ghi
  have zh := tz.hhi
  have glo := tz.glo
  have hlo := tz.hlo
  have K1 := Lib.hid (bkB K0.out tz.below (by omega))
  clear tz
  have BB := Lib.hid (B0.out.trans (TZ_.out.below.mono (by omega)))
  have g0_ := bkC (v := .int .i64 0) K1.out 0 rfl
  have g1_ := bkC (v := .int .i64 0) K1.out 1 rfl
  have g2_ := bkC (v := .int .i64 0) K1.out 2 rfl
  have g3_ := bkC (v := .slice none 0 0) K1.out 3 rfl
  have g4_ := bkC (v := .slice none 0 0) K1.out 4 rfl
  have g5_ := bkC (v := .slice none 0 0) K1.out 5 rfl
  have g6_ := bkC (v := .slice none 0 0) K1.out 6 rfl
  have g7_ := bkC (v := .slice none 0 0) K1.out 7 rfl
  have g8_ := bkC (v := .slice none 0 0) K1.out 8 rfl
  have g9_ := bkC (v := .slice none 0 0) K1.out 9 rfl
  have g10_ := bkC (v := .slice none 0 0) K1.out 10 rfl
  have g11_ := bkC (v := .slice none 0 0) K1.out 11 rfl
  have g12_ := bkC (v := .slice none 0 0) K1.out 12 rfl
  have g13_ := bkC (v := .int .i64 0) K1.out 13 rfl
  have g14_ := bkC (v := .slice none 0 0) K1.out 14 rfl
  have fz := bkF K1.out
  go_wp2
  have BF := Lib.hid ((((((((((((((((BB.out).setCell (p := ⟨w.heap.size, 0, none⟩) (Nat.le_refl _) (.int .i64 100)).setCell (p := ⟨w.heap.size, 1, none⟩) (Nat.le_refl _) (.int .i64 10)).setCell (p := ⟨w.heap.size, 2, none⟩) (Nat.le_refl _) (.int .i64 10)).setCell (p := ⟨w.heap.size, 3, none⟩) (Nat.le_refl _) (.slice (some ⟨g, 0, none⟩) 100 100)).setCell (p := ⟨w.heap.size, 4, none⟩) (Nat.le_refl _) (.slice (some ⟨h, 0, none⟩) 100 100)).setCell (p := ⟨w.heap.size, 5, none⟩) (Nat.le_refl _) (.slice none 0 0)).setCell (p := ⟨w.heap.size, 6, none⟩) (Nat.le_refl _) (.slice none 0 0)).setCell (p := ⟨w.heap.size, 7, none⟩) (Nat.le_refl _) (.slice none 0 0)).setCell (p := ⟨w.heap.size, 8, none⟩) (Nat.le_refl _) (.slice none 0 0)).setCell (p := ⟨w.heap.size, 9, none⟩) (Nat.le_refl _) (.slice none 0 0)).setCell (p := ⟨w.heap.size, 10, none⟩) (Nat.le_refl _) (.slice none 0 0)).setCell (p := ⟨w.heap.size, 11, none⟩) (Nat.le_refl _) (.slice none 0 0)).setCell (p := ⟨w.heap.size, 12, none⟩) (Nat.le_refl _) (.slice none 0 0)).setCell (p := ⟨w.heap.size, 13, none⟩) (Nat.le_refl _) (.int .i64 0)).setCell (p := ⟨w.heap.size, 14, none⟩) (Nat.le_refl _) (.slice none 0 0))
  have RG := Lib.hid (bkO (bkO (bkO (bkO (bkO (bkO (bkO (bkO (bkO (bkO (bkO (bkO (bkO (bkO (bkO (TZ_.out.rg) (p := ⟨w.heap.size, 0, none⟩) (by show g ≠ w.heap.size; omega) (.int .i64 100)) (p := ⟨w.heap.size, 1, none⟩) (by show g ≠ w.heap.size; omega) (.int .i64 10)) (p := ⟨w.heap.size, 2, none⟩) (by show g ≠ w.heap.size; omega) (.int .i64 10)) (p := ⟨w.heap.size, 3, none⟩) (by show g ≠ w.heap.size; omega) (.slice (some ⟨g, 0, none⟩) 100 100)) (p := ⟨w.heap.size, 4, none⟩) (by show g ≠ w.heap.size; omega) (.slice (some ⟨h, 0, none⟩) 100 100)) (p := ⟨w.heap.size, 5, none⟩) (by show g ≠ w.heap.size; omega) (.slice none 0 0)) (p := ⟨w.heap.size, 6, none⟩) (by show g ≠ w.heap.size; omega) (.slice none 0 0)) (p := ⟨w.heap.size, 7, none⟩) (by show g ≠ w.heap.size; omega) (.slice none 0 0)) (p := ⟨w.heap.size, 8, none⟩) (by show g ≠ w.heap.size; omega) (.slice none 0 0)) (p := ⟨w.heap.size, 9, none⟩) (by show g ≠ w.heap.size; omega) (.slice none 0 0)) (p := ⟨w.heap.size, 10, none⟩) (by show g ≠ w.heap.size; omega) (.slice none 0 0)) (p := ⟨w.heap.size, 11, none⟩) (by show g ≠ w.heap.size; omega) (.slice none 0 0)) (p := ⟨w.heap.size, 12, none⟩) (by show g ≠ w.heap.size; omega) (.slice none 0 0)) (p := ⟨w.heap.size, 13, none⟩) (by show g ≠ w.heap.size; omega) (.int .i64 0)) (p := ⟨w.heap.size, 14, none⟩) (by show g ≠ w.heap.size; omega) (.slice none 0 0))
  have RH := Lib.hid (bkO (bkO (bkO (bkO (bkO (bkO (bkO (bkO (bkO (bkO (bkO (bkO (bkO (bkO (bkO (TZ_.out.rh) (p := ⟨w.heap.size, 0, none⟩) (by show h ≠ w.heap.size; omega) (.int .i64 100)) (p := ⟨w.heap.size, 1, none⟩) (by show h ≠ w.heap.size; omega) (.int .i64 10)) (p := ⟨w.heap.size, 2, none⟩) (by show h ≠ w.heap.size; omega) (.int .i64 10)) (p := ⟨w.heap.size, 3, none⟩) (by show h ≠ w.heap.size; omega) (.slice (some ⟨g, 0, none⟩) 100 100)) (p := ⟨w.heap.size, 4, none⟩) (by show h ≠ w.heap.size; omega) (.slice (some ⟨h, 0, none⟩) 100 100)) (p := ⟨w.heap.size, 5, none⟩) (by show h ≠ w.heap.size; omega) (.slice none 0 0)) (p := ⟨w.heap.size, 6, none⟩) (by show h ≠ w.heap.size; omega) (.slice none 0 0)) (p := ⟨w.heap.size, 7, none⟩) (by show h ≠ w.heap.size; omega) (.slice none 0 0)) (p := ⟨w.heap.size, 8, none⟩) (by show h ≠ w.heap.size; omega) (.slice none 0 0)) (p := ⟨w.heap.size, 9, none⟩) (by show h ≠ w.heap.size; omega) (.slice none 0 0)) (p := ⟨w.heap.size, 10, none⟩) (by show h ≠ w.heap.size; omega) (.slice none 0 0)) (p := ⟨w.heap.size, 11, none⟩) (by show h ≠ w.heap.size; omega) (.slice none 0 0)) (p := ⟨w.heap.size, 12, none⟩) (by show h ≠ w.heap.size; omega) (.slice none 0 0)) (p := ⟨w.heap.size, 13, none⟩) (by show h ≠ w.heap.size; omega) (.int .i64 0)) (p := ⟨w.heap.size, 14, none⟩) (by show h ≠ w.heap.size; omega) (.slice none 0 0))
  refine bodyPost_ret (v := .agg #[.int .i64 100, .int .i64 10, .int .i64 10, .slice (some ⟨g, 0, none⟩) 100 100, .slice (some ⟨h, 0, none⟩) 100 100, .slice none 0 0, .slice none 0 0, .slice none 0 0, .slice none 0 0, .slice none 0 0, .slice none 0 0, .slice none 0 0, .slice none 0 0, .int .i64 0, .slice none 0 0]) (by simp [results, Try.results4, go_sem, *]) rfl ?_
  exact ⟨g, h, rfl, ⟨BF.out, by omega, by simp only [size_setCell]; omega, by omega, by simp only [size_setCell]; omega, TZ_.out.ne, RG.out, RH.out⟩⟩
set_option maxHeartbeats 4000000 in
set_option maxRecDepth 100000 in
theorem iNewDesk_any (w : World) : Calls Try.prog 5 #[] w (DeskQ w) := by
  have hb0 : Below w.heap.size w (w.alloc (.cells #[.int .i64 0, .int .i64 0, .int .i64 0, .slice none 0 0, .slice none 0 0, .slice none 0 0, .slice none 0 0, .slice none 0 0, .slice none 0 0, .slice none 0 0, .slice none 0 0, .slice none 0 0, .slice none 0 0, .int .i64 0, .slice none 0 0] 39)) := below_alloc _ _
  have k0 := bkN w #[.int .i64 0, .int .i64 0, .int .i64 0, .slice none 0 0, .slice none 0 0, .slice none 0 0, .slice none 0 0, .slice none 0 0, .slice none 0 0, .slice none 0 0, .slice none 0 0, .slice none 0 0, .slice none 0 0, .int .i64 0, .slice none 0 0] 39
  have z0 : w.heap.size + 1 ≤ (w.alloc (.cells #[.int .i64 0, .int .i64 0, .int .i64 0, .slice none 0 0, .slice none 0 0, .slice none 0 0, .slice none 0 0, .slice none 0 0, .slice none 0 0, .slice none 0 0, .slice none 0 0, .slice none 0 0, .slice none 0 0, .int .i64 0, .slice none 0 0] 39)).heap.size := by simp
  go_enter Try.func5, Try.ntmps5
  go_upto_region 1 with (fail)
  generalize w.alloc (.cells #[.int .i64 0, .int .i64 0, .int .i64 0, .slice none 0 0, .slice none 0 0, .slice none 0 0, .slice none 0 0, .slice none 0 0, .slice none 0 0, .slice none 0 0, .slice none 0 0, .slice none 0 0, .slice none 0 0, .int .i64 0, .slice none 0 0] 39) = W0 at *
  have B0 := Lib.hid hb0
  have K0 := Lib.hid k0
  clear k0 hb0
  go_wp2_with fail
  refine (flat_desk _).mono ?_
  rintro e w1 ⟨g, h, rfl, tz⟩
  have TZ_ := Lib.hid tz
  have z1 := tz.below.size
  have zg := tz.ghi
  have zh := tz.hhi
  have glo := tz.glo
  have hlo := tz.hlo
  have K1 := Lib.hid (bkB K0.out tz.below (by omega))
  clear tz
  have hb2 : Below w1.heap.size w1 (w1.alloc (.cells #[.int .i64 100, .int .i64 10, .int .i64 10, .slice (some ⟨g, 0, none⟩) 100 100, .slice (some ⟨h, 0, none⟩) 100 100] 24)) := below_alloc _ _
  have kt := bkN w1 #[.int .i64 100, .int .i64 10, .int .i64 10, .slice (some ⟨g, 0, none⟩) 100 100, .slice (some ⟨h, 0, none⟩) 100 100] 24
  have z2 : w1.heap.size + 1 ≤ (w1.alloc (.cells #[.int .i64 100, .int .i64 10, .int .i64 10, .slice (some ⟨g, 0, none⟩) 100 100, .slice (some ⟨h, 0, none⟩) 100 100] 24)).heap.size := by simp
  go_upto_region 2 with (fail)
  generalize w1.alloc (.cells #[.int .i64 100, .int .i64 10, .int .i64 10, .slice (some ⟨g, 0, none⟩) 100 100, .slice (some ⟨h, 0, none⟩) 100 100] 24) = w2 at *
  have KT := Lib.hid kt
  have K2 := Lib.hid (bkB K1.out hb2 (by omega))
  have RG1 := Lib.hid (bkB TZ_.out.rg hb2 zg)
  have RH1 := Lib.hid (bkB TZ_.out.rh hb2 zh)
  have BB := Lib.hid (B0.out.trans ((TZ_.out.below.trans (hb2.mono (by omega))).mono (by omega)))
  clear hb2 kt
  have t0_ := bkC (v := .int .i64 100) KT.out 0 rfl
  have t1_ := bkC (v := .int .i64 10) KT.out 1 rfl
  have t2_ := bkC (v := .int .i64 10) KT.out 2 rfl
  have t3_ := bkC (v := .slice (some ⟨g, 0, none⟩) 100 100) KT.out 3 rfl
  have t4_ := bkC (v := .slice (some ⟨h, 0, none⟩) 100 100) KT.out 4 rfl
  have g0_ := bkC (v := .int .i64 0) K2.out 0 rfl
  have g1_ := bkC (v := .int .i64 0) K2.out 1 rfl
  have g2_ := bkC (v := .int .i64 0) K2.out 2 rfl
  have g3_ := bkC (v := .slice none 0 0) K2.out 3 rfl
  have g4_ := bkC (v := .slice none 0 0) K2.out 4 rfl
  have g5_ := bkC (v := .slice none 0 0) K2.out 5 rfl
  have g6_ := bkC (v := .slice none 0 0) K2.out 6 rfl
  have g7_ := bkC (v := .slice none 0 0) K2.out 7 rfl
  have g8_ := bkC (v := .slice none 0 0) K2.out 8 rfl
  have g9_ := bkC (v := .slice none 0 0) K2.out 9 rfl
  have g10_ := bkC (v := .slice none 0 0) K2.out 10 rfl
  have g11_ := bkC (v := .slice none 0 0) K2.out 11 rfl
  have g12_ := bkC (v := .slice none 0 0) K2.out 12 rfl
  have g13_ := bkC (v := .int .i64 0) K2.out 13 rfl
  have g14_ := bkC (v := .slice none 0 0) K2.out 14 rfl
  have fz := bkF K2.out
  go_wp2
  have BF := Lib.hid ((((((((((((((((BB.out).setCell (p := ⟨w.heap.size, 0, none⟩) (Nat.le_refl _) (.int .i64 100)).setCell (p := ⟨w.heap.size, 1, none⟩) (Nat.le_refl _) (.int .i64 10)).setCell (p := ⟨w.heap.size, 2, none⟩) (Nat.le_refl _) (.int .i64 10)).setCell (p := ⟨w.heap.size, 3, none⟩) (Nat.le_refl _) (.slice (some ⟨g, 0, none⟩) 100 100)).setCell (p := ⟨w.heap.size, 4, none⟩) (Nat.le_refl _) (.slice (some ⟨h, 0, none⟩) 100 100)).setCell (p := ⟨w.heap.size, 5, none⟩) (Nat.le_refl _) (.slice none 0 0)).setCell (p := ⟨w.heap.size, 6, none⟩) (Nat.le_refl _) (.slice none 0 0)).setCell (p := ⟨w.heap.size, 7, none⟩) (Nat.le_refl _) (.slice none 0 0)).setCell (p := ⟨w.heap.size, 8, none⟩) (Nat.le_refl _) (.slice none 0 0)).setCell (p := ⟨w.heap.size, 9, none⟩) (Nat.le_refl _) (.slice none 0 0)).setCell (p := ⟨w.heap.size, 10, none⟩) (Nat.le_refl _) (.slice none 0 0)).setCell (p := ⟨w.heap.size, 11, none⟩) (Nat.le_refl _) (.slice none 0 0)).setCell (p := ⟨w.heap.size, 12, none⟩) (Nat.le_refl _) (.slice none 0 0)).setCell (p := ⟨w.heap.size, 13, none⟩) (Nat.le_refl _) (.int .i64 0)).setCell (p := ⟨w.heap.size, 14, none⟩) (Nat.le_refl _) (.slice none 0 0))
  have RG := Lib.hid (bkO (bkO (bkO (bkO (bkO (bkO (bkO (bkO (bkO (bkO (bkO (bkO (bkO (bkO (bkO (RG1.out) (p := ⟨w.heap.size, 0, none⟩) (by show g ≠ w.heap.size; omega) (.int .i64 100)) (p := ⟨w.heap.size, 1, none⟩) (by show g ≠ w.heap.size; omega) (.int .i64 10)) (p := ⟨w.heap.size, 2, none⟩) (by show g ≠ w.heap.size; omega) (.int .i64 10)) (p := ⟨w.heap.size, 3, none⟩) (by show g ≠ w.heap.size; omega) (.slice (some ⟨g, 0, none⟩) 100 100)) (p := ⟨w.heap.size, 4, none⟩) (by show g ≠ w.heap.size; omega) (.slice (some ⟨h, 0, none⟩) 100 100)) (p := ⟨w.heap.size, 5, none⟩) (by show g ≠ w.heap.size; omega) (.slice none 0 0)) (p := ⟨w.heap.size, 6, none⟩) (by show g ≠ w.heap.size; omega) (.slice none 0 0)) (p := ⟨w.heap.size, 7, none⟩) (by show g ≠ w.heap.size; omega) (.slice none 0 0)) (p := ⟨w.heap.size, 8, none⟩) (by show g ≠ w.heap.size; omega) (.slice none 0 0)) (p := ⟨w.heap.size, 9, none⟩) (by show g ≠ w.heap.size; omega) (.slice none 0 0)) (p := ⟨w.heap.size, 10, none⟩) (by show g ≠ w.heap.size; omega) (.slice none 0 0)) (p := ⟨w.heap.size, 11, none⟩) (by show g ≠ w.heap.size; omega) (.slice none 0 0)) (p := ⟨w.heap.size, 12, none⟩) (by show g ≠ w.heap.size; omega) (.slice none 0 0)) (p := ⟨w.heap.size, 13, none⟩) (by show g ≠ w.heap.size; omega) (.int .i64 0)) (p := ⟨w.heap.size, 14, none⟩) (by show g ≠ w.heap.size; omega) (.slice none 0 0))
  have RH := Lib.hid (bkO (bkO (bkO (bkO (bkO (bkO (bkO (bkO (bkO (bkO (bkO (bkO (bkO (bkO (bkO (RH1.out) (p := ⟨w.heap.size, 0, none⟩) (by show h ≠ w.heap.size; omega) (.int .i64 100)) (p := ⟨w.heap.size, 1, none⟩) (by show h ≠ w.heap.size; omega) (.int .i64 10)) (p := ⟨w.heap.size, 2, none⟩) (by show h ≠ w.heap.size; omega) (.int .i64 10)) (p := ⟨w.heap.size, 3, none⟩) (by show h ≠ w.heap.size; omega) (.slice (some ⟨g, 0, none⟩) 100 100)) (p := ⟨w.heap.size, 4, none⟩) (by show h ≠ w.heap.size; omega) (.slice (some ⟨h, 0, none⟩) 100 100)) (p := ⟨w.heap.size, 5, none⟩) (by show h ≠ w.heap.size; omega) (.slice none 0 0)) (p := ⟨w.heap.size, 6, none⟩) (by show h ≠ w.heap.size; omega) (.slice none 0 0)) (p := ⟨w.heap.size, 7, none⟩) (by show h ≠ w.heap.size; omega) (.slice none 0 0)) (p := ⟨w.heap.size, 8, none⟩) (by show h ≠ w.heap.size; omega) (.slice none 0 0)) (p := ⟨w.heap.size, 9, none⟩) (by show h ≠ w.heap.size; omega) (.slice none 0 0)) (p := ⟨w.heap.size, 10, none⟩) (by show h ≠ w.heap.size; omega) (.slice none 0 0)) (p := ⟨w.heap.size, 11, none⟩) (by show h ≠ w.heap.size; omega) (.slice none 0 0)) (p := ⟨w.heap.size, 12, none⟩) (by show h ≠ w.heap.size; omega) (.slice none 0 0)) (p := ⟨w.heap.size, 13, none⟩) (by show h ≠ w.heap.size; omega) (.int .i64 0)) (p := ⟨w.heap.size, 14, none⟩) (by show h ≠ w.heap.size; omega) (.slice none 0 0))
  refine bodyPost_ret (v := .agg #[.int .i64 100, .int .i64 10, .int .i64 10, .slice (some ⟨g, 0, none⟩) 100 100, .slice (some ⟨h, 0, none⟩) 100 100, .slice none 0 0, .slice none 0 0, .slice none 0 0, .slice none 0 0, .slice none 0 0, .slice none 0 0, .slice none 0 0, .slice none 0 0, .int .i64 0, .slice none 0 0]) (by simp [results, Try.results5, go_sem, *]) rfl ?_
  exact ⟨g, h, rfl, ⟨BF.out, by omega, by simp only [size_setCell]; omega, by omega, by simp only [size_setCell]; omega, TZ_.out.ne, RG.out, RH.out⟩⟩
theorem sNewDesk_std  (w : World)   :
    Calls Try.prog 4 #[] w (fun e w' => ∃ a0_3 c0_3 a0_4 c0_4 a0_5 c0_5 a0_6 c0_6 a0_7 c0_7 a0_8 c0_8 a0_9 c0_9 a0_10 c0_10 a0_11 c0_11 a0_12 c0_12 a0_14 c0_14 fp0, e = .returned (.agg #[.int .i64 (newDesk).plan.terrain.step, .int .i64 (newDesk).plan.terrain.width, .int .i64 (newDesk).plan.terrain.height, .slice a0_3 (newDesk).plan.terrain.heights.length c0_3, .slice a0_4 (newDesk).plan.terrain.clutter.length c0_4, .slice a0_5 (newDesk).plan.network.sites.length c0_5, .slice a0_6 (newDesk).plan.network.sectors.length c0_6, .slice a0_7 (newDesk).plan.network.antennas.length c0_7, .slice a0_8 (newDesk).plan.network.radios.length c0_8, .slice a0_9 (newDesk).plan.bands.length c0_9, .slice a0_10 (newDesk).plan.licences.length c0_10, .slice a0_11 (newDesk).plan.protected_.length c0_11, .slice a0_12 (newDesk).plan.apart.length c0_12, .int .i64 (newDesk).plan.day, .slice a0_14 (newDesk).requests.length c0_14]) ∧ Below w.heap.size w w' ∧ OwnV w' (newDesk).tr [.int .i64 (newDesk).plan.terrain.step, .int .i64 (newDesk).plan.terrain.width, .int .i64 (newDesk).plan.terrain.height, .slice a0_3 (newDesk).plan.terrain.heights.length c0_3, .slice a0_4 (newDesk).plan.terrain.clutter.length c0_4, .slice a0_5 (newDesk).plan.network.sites.length c0_5, .slice a0_6 (newDesk).plan.network.sectors.length c0_6, .slice a0_7 (newDesk).plan.network.antennas.length c0_7, .slice a0_8 (newDesk).plan.network.radios.length c0_8, .slice a0_9 (newDesk).plan.bands.length c0_9, .slice a0_10 (newDesk).plan.licences.length c0_10, .slice a0_11 (newDesk).plan.protected_.length c0_11, .slice a0_12 (newDesk).plan.apart.length c0_12, .int .i64 (newDesk).plan.day, .slice a0_14 (newDesk).requests.length c0_14] fp0 ∧ In w.heap.size w'.heap.size fp0) := by
  refine (sNewDesk_any w).mono ?_
  rintro e w' ⟨g, h, rfl, tz⟩
  exact ⟨some ⟨g, 0, none⟩, 100, some ⟨h, 0, none⟩, 100, none, 0, none, 0, none, 0, none, 0, none, 0, none, 0, none, 0, none, 0, none, 0, _, rfl, tz.below, ownV_newDesk tz.ne tz.rg tz.rh, fun y hy => by
    have : y = g ∨ y = h := by simpa using hy
    rcases this with rfl | rfl
    · exact ⟨tz.glo, tz.ghi⟩
    · exact ⟨tz.hlo, tz.hhi⟩⟩
theorem iNewDesk_std  (w : World)   :
    Calls Try.prog 5 #[] w (fun e w' => ∃ a0_3 c0_3 a0_4 c0_4 a0_5 c0_5 a0_6 c0_6 a0_7 c0_7 a0_8 c0_8 a0_9 c0_9 a0_10 c0_10 a0_11 c0_11 a0_12 c0_12 a0_14 c0_14 fp0, e = .returned (.agg #[.int .i64 (newDesk).plan.terrain.step, .int .i64 (newDesk).plan.terrain.width, .int .i64 (newDesk).plan.terrain.height, .slice a0_3 (newDesk).plan.terrain.heights.length c0_3, .slice a0_4 (newDesk).plan.terrain.clutter.length c0_4, .slice a0_5 (newDesk).plan.network.sites.length c0_5, .slice a0_6 (newDesk).plan.network.sectors.length c0_6, .slice a0_7 (newDesk).plan.network.antennas.length c0_7, .slice a0_8 (newDesk).plan.network.radios.length c0_8, .slice a0_9 (newDesk).plan.bands.length c0_9, .slice a0_10 (newDesk).plan.licences.length c0_10, .slice a0_11 (newDesk).plan.protected_.length c0_11, .slice a0_12 (newDesk).plan.apart.length c0_12, .int .i64 (newDesk).plan.day, .slice a0_14 (newDesk).requests.length c0_14]) ∧ Below w.heap.size w w' ∧ OwnV w' (newDesk).tr [.int .i64 (newDesk).plan.terrain.step, .int .i64 (newDesk).plan.terrain.width, .int .i64 (newDesk).plan.terrain.height, .slice a0_3 (newDesk).plan.terrain.heights.length c0_3, .slice a0_4 (newDesk).plan.terrain.clutter.length c0_4, .slice a0_5 (newDesk).plan.network.sites.length c0_5, .slice a0_6 (newDesk).plan.network.sectors.length c0_6, .slice a0_7 (newDesk).plan.network.antennas.length c0_7, .slice a0_8 (newDesk).plan.network.radios.length c0_8, .slice a0_9 (newDesk).plan.bands.length c0_9, .slice a0_10 (newDesk).plan.licences.length c0_10, .slice a0_11 (newDesk).plan.protected_.length c0_11, .slice a0_12 (newDesk).plan.apart.length c0_12, .int .i64 (newDesk).plan.day, .slice a0_14 (newDesk).requests.length c0_14] fp0 ∧ In w.heap.size w'.heap.size fp0) := by
  refine (iNewDesk_any w).mono ?_
  rintro e w' ⟨g, h, rfl, tz⟩
  exact ⟨some ⟨g, 0, none⟩, 100, some ⟨h, 0, none⟩, 100, none, 0, none, 0, none, 0, none, 0, none, 0, none, 0, none, 0, none, 0, none, 0, _, rfl, tz.below, ownV_newDesk tz.ne tz.rg tz.rh, fun y hy => by
    have : y = g ∨ y = h := by simpa using hy
    rcases this with rfl | rfl
    · exact ⟨tz.glo, tz.ghi⟩
    · exact ⟨tz.hlo, tz.hhi⟩⟩
end Go.Proofs.Ytlfkdhakibagaaa
