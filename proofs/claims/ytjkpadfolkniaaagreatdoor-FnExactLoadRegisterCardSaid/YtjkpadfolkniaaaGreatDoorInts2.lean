/- Contracts of the laws' helpers over slices of slices of integers and over problems: comparisons, marks, sizes, copies. Conditions: bounded lengths. -/
import Derived.Test.YtjkpadfolkniaaaGreatDoorInts
import Derived.Deep.RegionHeld3
namespace Go.Proofs.YtjkpadfolkniaaaGreatDoor
open Go.RowKit
set_option linter.unusedVariables false


/-! ### the same contracts, in the form that all types share -/
theorem sizL_ints (l : List Int) : sizL (l.map intT) = 0 := by
  induction l with
  | nil => rfl
  | cons x l ih => simp only [List.map_cons, sizL, ih, intT, siz]
theorem siz_ints (l : List Int) : siz (intsT l) = l.length := by rw [intsT, siz, sizL_ints]; simp
theorem sizL_intss (l : List (List Int)) : sizL (l.map intsT) = sumLen l := by
  induction l with
  | nil => rfl
  | cons x l ih => simp only [List.map_cons, sizL, ih, siz_ints]; simp [sumLen]
theorem siz_intss (l : List (List Int)) : siz (intssT l) = l.length + sumLen l := by rw [intssT, siz, sizL_intss]; simp
theorem cnt_intss (l : List (List Int)) : cnt (intssT l) = sumLen l := by rw [intssT_flat, cnt, cntL_intss]
theorem eq_Int64S (l : List Int) (v v' : Value) (B : Nat) (w : World) (h : Rd B w (intsT l) v) (h' : Rd B w (intsT l) v') (hB : B ≤ w.heap.size) (hn : siz (intsT l) ≤ 1099511627776) :
    Calls Tryz.prog 7 #[v, v'] w fun e w' => e = .returned (.bool true) ∧ Below w.heap.size w w' :=
  eqInt64S_any l v v' B w h h' hB (by rw [siz_ints] at hn; exact hn)
theorem mark_Int64S (l : List Int) (v : Value) (fp : List Nat) (k0 lo : Nat) (w : World) (h : Own w (intsT l) v fp) (hin : In lo w.heap.size fp) (hs : siz (intsT l) ≤ 1099511627776) (hk0 : k0 + cnt (intsT l) ≤ 1099511627776) :
    Calls Tryz.prog 8 #[v, .int .i64 k0] w fun e w' => e = .returned (.int .i64 ((k0 + cnt (intsT l) : Nat) : Int)) ∧ Own w' (mkT (intsT l) k0) v fp ∧ Chg fp w w' := by
  rw [cnt_ints] at hk0 ⊢
  exact markInt64S_any l v fp k0 w h hk0
theorem held_Int64S (l : List Int) (v : Value) (B : Nat) (k0 : Nat) (w : World) (h : Rd B w (mkT (intsT l) k0) v) (hB : B ≤ w.heap.size) (hs : siz (intsT l) ≤ 1099511627776) (hk0 : k0 + cnt (intsT l) ≤ 1099511627776) :
    Calls Tryz.prog 9 #[v, .int .i64 k0] w fun e w' => e = .returned (.int .i64 ((k0 + cnt (intsT l) : Nat) : Int)) ∧ Below w.heap.size w w' := by
  rw [cnt_ints] at hk0 ⊢
  exact heldInt64S_any l v B k0 w h hB hk0
theorem markI_Int64S (l : List Int) (v : Value) (fp : List Nat) (k lo : Nat) (K : Int) (w : World) (h : Own w (intsT l) v fp) (hin : In lo w.heap.size fp) (hs : siz (intsT l) ≤ 1099511627776) (hK : K = (k : Int)) (hk0 : k + cnt (intsT l) ≤ 1099511627776) (hk1 : 0 < k) :
    Calls Tryz.prog 8 #[v, .int .i64 K] w fun e w' => e = .returned (.int .i64 (K + (cnt (intsT l) : Int))) ∧ Own w' (mkT (intsT l) k) v fp ∧ Chg fp w w' := by
  subst hK
  refine (mark_Int64S l v fp k lo w h hin hs hk0).mono fun e w' ⟨he, h1, h2⟩ => ⟨?_, h1, h2⟩
  rw [he, Int.natCast_add]
theorem heldI_Int64S (l : List Int) (v : Value) (B k : Nat) (K : Int) (w : World) (h : Rd B w (mkT (intsT l) k) v) (hB : B ≤ w.heap.size) (hs : siz (intsT l) ≤ 1099511627776) (hK : K = (k : Int)) (hk0 : k + cnt (intsT l) ≤ 1099511627776) (hk1 : 0 < k) :
    Calls Tryz.prog 9 #[v, .int .i64 K] w fun e w' => e = .returned (.int .i64 (K + (cnt (intsT l) : Int))) ∧ Below w.heap.size w w' := by
  subst hK
  refine (held_Int64S l v B k w h hB hs hk0).mono fun e w' ⟨he, h1⟩ => ⟨?_, h1⟩
  rw [he, Int.natCast_add]
end Go.Proofs.YtjkpadfolkniaaaGreatDoor
