/- Contracts of the laws' helpers over slices of slices of integers and over problems: comparisons, marks, sizes, copies. Conditions: bounded lengths. -/
import Derived.Test.YtlfkdhakibagaaaGreatInts
import Derived.Deep.RegionHeld3
namespace Go.Proofs.YtlfkdhakibagaaaGreat
open Go.RowKit
set_option linter.unusedVariables false

set_option maxRecDepth 100000 in
set_option maxHeartbeats 1000000 in
theorem eqInt64SS_any (l : List (List Int)) (v v' : Value) (B : Nat) (w : World) (h : Rd B w (intssT l) v) (h' : Rd B w (intssT l) v') (hB : B ≤ w.heap.size) (hn : l.length ≤ 1099511627776) (hm : sumLen l ≤ 1099511627776) :
    Calls Tryz.prog 66 #[v, v'] w fun e w' => e = .returned (.bool true) ∧ Below w.heap.size w w' := by
  have hnb : (l.length : Int) ≤ 1099511627776 := by omega
  obtain ⟨a, c, rfl, hnc, hcm, hcells⟩ := h.intss
  obtain ⟨a', c', rfl, hnc', hcm', hcells'⟩ := h'.intss
  clear h h'
  have hne : ((l.length : Int) != l.length) = false := by simp
  go_enter Tryz.func66, Tryz.ntmps66
  go_wp2
  clear hne
  go_loopw [5] (fun i wr => ∃ (k : Nat), k ≤ l.length ∧ i = .int .i64 k ∧ Below w.heap.size w wr) (fun i wr => l.length - (intOf i).toNat)
  case atStart => exact ⟨0, Nat.zero_le _, rfl, Below.refl _ _⟩
  case round =>
    obtain ⟨k, hk, rfl, hb⟩ := hrel
    by_cases hlt : k < l.length
    · obtain ⟨b, off, rfl, hbl, hat⟩ := hcells (by omega)
      obtain ⟨b', off', rfl, hbl', hat'⟩ := hcells' (by omega)
      obtain ⟨u, s0, hu⟩ := hat k hlt
      obtain ⟨u', s1, hu'⟩ := hat' k hlt
      rw [← hb.cell (p := ⟨b, _, none⟩) (show b < w.heap.size by omega)] at s0
      rw [← hb.cell (p := ⟨b', _, none⟩) (show b' < w.heap.size by omega)] at s1
      have r0 : Rd B wr (intsT l[k]) u := hu.below (hb.mono hB)
      have r1 : Rd B wr (intsT l[k]) u' := hu'.below (hb.mono hB)
      have hB' : B ≤ wr.heap.size := by have := hb.size; omega
      have hsl := sumLen_get_le l k hlt
      have i1 : (0 : Int) ≤ (k : Int) := by omega
      have i2 : (k : Int) < (l.length : Int) := by omega
      clear hcells hat hcells' hat' hu hu'
      have HB := Lib.hid hb
      clear hb
      go_wp2
      go_still_tail 8, (by kernel_rfl)
      change wpList _ _ _ _ _ wr.drew
      go_wp2_with (go_at_call 125; refine (eqInt64S_any l[k] _ _ B _ r0.drew r1.drew hB' (by omega)).mono ?_; rintro e w1 ⟨rfl, hb1⟩)
      go_roundw
      case rel => exact ⟨k + 1, by omega, by go_num, HB.out.drew.trans (hb1.mono HB.out.size)⟩
      case measure => simp [intOf]; omega
    · obtain rfl : k = l.length := by omega
      clear hcells hcells'
      go_wp2
      go_ret
      exact ⟨rfl, hb⟩

/-! ### the same contracts, in the form that all types share -/
theorem sizL_ints (l : List Int) : sizL (l.map intT) = 0 := by
  induction l with
  | nil => rfl
  | cons x l ih => simp only [List.map_cons, sizL, ih, intT, siz]
theorem siz_ints (l : List Int) : siz (intsT l) = l.length := by rw [intsT, siz, sizL_ints]; simp
theorem sizL_intss (l : List (List Int)) : sizL (l.map intsT) = sumLen l := by
  induction l with
  | nil => rfl
  | cons x l ih => simp only [List.map_cons, sizL, ih, siz_ints]; simp [sumLen]
theorem siz_intss (l : List (List Int)) : siz (intssT l) = l.length + sumLen l := by rw [intssT, siz, sizL_intss]; simp
theorem cnt_intss (l : List (List Int)) : cnt (intssT l) = sumLen l := by rw [intssT_flat, cnt, cntL_intss]
theorem sz_Int64S (l : List Int) (v : Value) (B : Nat) (left : Int) (w : World) (h : Rd B w (intsT l) v) (hB : B ≤ w.heap.size) (hl : 0 ≤ left) (hl2 : left ≤ 1048576) :
    Calls Tryz.prog 87 #[v, .int .i64 left] w (SzPost (siz (intsT l)) left w) :=
  (szInt64S_any l v B left w h hl hl2).mono fun e w' ⟨he, hw⟩ => by subst hw; rw [siz_ints]; exact SzPost.of_left he (Below.refl _ _)
theorem sz_Int64SS (l : List (List Int)) (v : Value) (B : Nat) (left : Int) (w : World) (h : Rd B w (intssT l) v) (hB : B ≤ w.heap.size) (hl : 0 ≤ left) (hl2 : left ≤ 1048576) :
    Calls Tryz.prog 46 #[v, .int .i64 left] w (SzPost (siz (intssT l)) left w) :=
  (szInt64SS_any l v B left w h hB hl hl2).mono fun e w' ⟨he, hb⟩ => by rw [siz_intss]; exact SzPost.of_left he hb
theorem to_Int64S (l : List Int) (v : Value) (w : World) (h : Rd w.heap.size w (intsT l) v) (hn : siz (intsT l) ≤ 1048576) :
    Calls Tryz.prog 102 #[v] w fun e w' => ∃ a' c' fp, e = .returned (.slice a' l.length c') ∧ Below w.heap.size w w' ∧ Own w' (intsT l) (.slice a' l.length c') fp ∧ In w.heap.size w'.heap.size fp :=
  toInt64S_any l v w h (by rw [siz_ints] at hn; exact hn)
theorem to_Int64SS (l : List (List Int)) (v : Value) (w : World) (h : Rd w.heap.size w (intssT l) v) (hn : siz (intssT l) ≤ 1048576) :
    Calls Tryz.prog 53 #[v] w fun e w' => ∃ a' c' fp, e = .returned (.slice a' l.length c') ∧ Below w.heap.size w w' ∧ Own w' (intssT l) (.slice a' l.length c') fp ∧ In w.heap.size w'.heap.size fp :=
  toInt64SS_any l v w h (by rw [siz_intss] at hn; omega) (by rw [siz_intss] at hn; omega)
theorem eq_Int64S (l : List Int) (v v' : Value) (B : Nat) (w : World) (h : Rd B w (intsT l) v) (h' : Rd B w (intsT l) v') (hB : B ≤ w.heap.size) (hn : siz (intsT l) ≤ 1099511627776) :
    Calls Tryz.prog 125 #[v, v'] w fun e w' => e = .returned (.bool true) ∧ Below w.heap.size w w' :=
  eqInt64S_any l v v' B w h h' hB (by rw [siz_ints] at hn; exact hn)
theorem eq_Int64SS (l : List (List Int)) (v v' : Value) (B : Nat) (w : World) (h : Rd B w (intssT l) v) (h' : Rd B w (intssT l) v') (hB : B ≤ w.heap.size) (hn : siz (intssT l) ≤ 1099511627776) :
    Calls Tryz.prog 66 #[v, v'] w fun e w' => e = .returned (.bool true) ∧ Below w.heap.size w w' :=
  eqInt64SS_any l v v' B w h h' hB (by rw [siz_intss] at hn; omega) (by rw [siz_intss] at hn; omega)
end Go.Proofs.YtlfkdhakibagaaaGreat
