/- Contracts of the laws' helpers over slices of integers: sizes, copies, comparisons, marks. Conditions: bounded lengths. -/
import Derived.Test.YtjkpadfolkniaaaGreatDoorProg
import Derived.Test.YtjkpadfolkniaaaGreatDoorMark
import Derived.WalkKit
import Derived.Outline
import Derived.RowKit3
import Derived.LoopTactic
import Derived.Lib.Hide
import Derived.Laws.MakeOwn
import Derived.Laws.Entries
import Derived.BigQuiet
import Derived.Deep.QuietTactic
import Derived.StillTailTactics
import Derived.KernelRfl
namespace Go.Proofs.YtjkpadfolkniaaaGreatDoor
open Go.RowKit
set_option linter.unusedVariables false

theorem bcell {W w1 : World} (hb : Below W.heap.size W w1) : (∀ b o, b < W.heap.size → w1.cell? ⟨b, o, none⟩ = W.cell? ⟨b, o, none⟩) ∧ (∀ b o, b < W.heap.size → w1.frozen? ⟨b, o, none⟩ = W.frozen? ⟨b, o, none⟩) :=
  ⟨fun b o h => hb.cell (p := ⟨b, o, none⟩) h, fun b o h => hb.frozen (p := ⟨b, o, none⟩) h⟩
theorem bcellAt {W w1 : World} {b : Nat} (hb : Below W.heap.size W w1) (h : b < W.heap.size) : (∀ o, w1.cell? ⟨b, o, none⟩ = W.cell? ⟨b, o, none⟩) ∧ (∀ o, w1.frozen? ⟨b, o, none⟩ = W.frozen? ⟨b, o, none⟩) ∧ b < w1.heap.size :=
  ⟨fun o => hb.cell (p := ⟨b, o, none⟩) h, fun o => hb.frozen (p := ⟨b, o, none⟩) h, by have := hb.size; omega⟩
theorem run_make_rowN {P : Program} (t e : TypeId) (i : TypeInfo) (z : Value) (ht : P.underlying t = some (.slice e)) (hi : P.info? e = some i) (hz : i.zero = some z)
    (kl kc : IntKind) (n c : Nat) (hnc : n ≤ c) (hbytes : i.bytes * c ≤ 281474976710656) (h63 : c ≤ 9223372036854775807) (w : World) :
    (Instr.makeSlice t (.int kl (n : Int)) (.int kc (c : Int))).run P w = .ok (.slice (some ⟨w.heap.size, 0, none⟩) n c) (w.alloc (.cells (madeCells z.cells (c * i.size)) e)) := by
  have hb : (i.bytes : Int) * (c : Int) ≤ 281474976710656 := by
    have h : ((i.bytes * c : Nat) : Int) ≤ 281474976710656 := by omega
    rwa [Int.natCast_mul] at h
  have hr := run_make (P := P) w t e i z ht hi hz kl kc n c (by omega) (by omega) hb (by omega)
  simp only [Int.toNat_natCast] at hr
  exact hr
theorem below_drewN {B : Nat} {a w : World} (h : Below B a w) (n : Nat) : Below B a (w.drewN n) := ⟨h.os, h.tape, h.output, h.size, h.block⟩
theorem ret_int {k : IntKind} {a b : Int} (h : a = b) : Ending.returned (.int k a) = .returned (.int k b) := by rw [h]

theorem infoI : (Tryz.prog.info? 2).map (fun i => (i.zero, i.size, i.bytes)) = some (some (.int .i64 0), 1, 8) := by kernel_rfl

theorem eqInt64S_any (l : List Int) (v v' : Value) (B : Nat) (w : World) (h : Rd B w (intsT l) v) (h' : Rd B w (intsT l) v') (hB : B ≤ w.heap.size) (hn : l.length ≤ 1099511627776) :
    Calls Tryz.prog 7 #[v, v'] w fun e w' => e = .returned (.bool true) ∧ Below w.heap.size w w' := by
  have hnb : (l.length : Int) ≤ 1099511627776 := by omega
  obtain ⟨a, c, rfl, hnc, hcm, hcells⟩ := h.ints
  obtain ⟨a', c', rfl, hnc', hcm', hcells'⟩ := h'.ints
  clear h h'
  have hne : ((l.length : Int) != l.length) = false := by simp
  go_enter Tryz.func7, Tryz.ntmps7
  go_wp2
  clear hne
  go_loopw [5] (fun i wr => ∃ (k : Nat), k ≤ l.length ∧ i = .int .i64 k ∧ Below w.heap.size w wr) (fun i wr => l.length - (intOf i).toNat)
  case atStart => exact ⟨0, Nat.zero_le _, rfl, Below.refl _ _⟩
  case round =>
    obtain ⟨k, hk, rfl, hb⟩ := hrel
    by_cases hlt : k < l.length
    · obtain ⟨b, off, rfl, hbl, hat⟩ := hcells (by omega)
      obtain ⟨b', off', rfl, hbl', hat'⟩ := hcells' (by omega)
      have s0 := hat k hlt
      have s1 := hat' k hlt
      rw [← hb.cell (p := ⟨b, _, none⟩) (show b < w.heap.size by omega)] at s0
      rw [← hb.cell (p := ⟨b', _, none⟩) (show b' < w.heap.size by omega)] at s1
      have i1 : (0 : Int) ≤ (k : Int) := by omega
      have i2 : (k : Int) < (l.length : Int) := by omega
      clear hcells hat hcells' hat'
      have HB := Lib.hid hb
      clear hb
      go_wp2
      go_quiet (fail)
      go_wp2
      go_roundw
      case rel => exact ⟨k + 1, by omega, by go_num, below_drewN HB.out _⟩
      case measure => simp [intOf]; omega
    · obtain rfl : k = l.length := by omega
      clear hcells hcells'
      go_wp2
      go_ret
      exact ⟨rfl, hb⟩
theorem cntL_ints (l : List Int) : cntL (l.map intT) = l.length := by
  induction l with
  | nil => rfl
  | cons x l ih => simp only [List.map_cons, cntL, ih, intT, cnt, List.length_cons]; omega
theorem cnt_ints (l : List Int) : cnt (intsT l) = l.length := by rw [intsT, cnt, cntL_ints]
theorem flat_ints (l : List Int) : l.map intT = l.flatMap fun x => [intT x] := map_flat intT l
theorem intsT_flat (l : List Int) : intsT l = .sl 1 (l.flatMap fun x => [intT x]) := by rw [intsT, map_flat]
theorem markInt64S_any (l : List Int) (v : Value) (fp : List Nat) (k0 : Nat) (w : World) (h : Own w (intsT l) v fp) (hk0 : k0 + l.length ≤ 1099511627776) :
    Calls Tryz.prog 8 #[v, .int .i64 k0] w fun e w' => e = .returned (.int .i64 ((k0 + l.length : Nat) : Int)) ∧ Own w' (mkT (intsT l) k0) v fp ∧ Chg fp w w' := by
  obtain ⟨a, c, hv, hnc, hcm⟩ := h.form1
  rw [intsT_flat] at h ⊢
  subst hv
  have hnb : (k0 : Int) + (l.length : Int) ≤ 1099511627776 := by omega
  go_enter Tryz.func8, Tryz.ntmps8
  go_wp2
  go_loopw [1, 5] (fun kk i wr => ∃ (j : Nat), j ≤ l.length ∧ i = .int .i64 j ∧ kk = .int .i64 ((k0 : Int) + (j : Int)) ∧ Own wr (mid (fun x => [intT x]) 1 l k0 j) (.slice a l.length c) fp ∧ Chg fp w wr) (fun _ i wr => l.length - (intOf i).toNat)
  case atStart => exact ⟨0, Nat.zero_le _, rfl, by simp, by rw [mid_zero]; exact h, Chg.refl _ _⟩
  case round =>
    obtain ⟨j, hj, rfl, rfl, hown, hchg⟩ := hrel
    by_cases hlt : j < l.length
    · rw [mid_at _ _ _ _ _ hlt] at hown
      obtain ⟨b, off, f, n', c', hv, hfp, hcell, hfz, hset⟩ := hown.litAt (v0 := .int .i64 l[j])
      rw [mkL_length, flat_length _ 1 (fun _ => rfl), List.length_take, Nat.min_eq_left hj, Nat.mul_one] at hcell hset
      injection hv with hv1 hv2 hv3
      subst hv1
      have HF := Lib.hid hfp
      have hs2 := hset (.int .i64 ((k0 : Int) + (j : Int)))
      clear hfp hv2 hv3 hset hown
      go_wp2
      go_roundw
      case rel =>
        refine ⟨j + 1, by omega, by go_num, by go_num, ?_, hchg.setCell (by rw [HF.out]; simp) _⟩
        rw [mid_succ _ _ _ _ _ hlt]
        have ec : cntL ((l.take j).flatMap fun x => [intT x]) = j := by
          rw [← map_flat, cntL_ints, List.length_take, Nat.min_eq_left hj]
        rw [ec]
        have em : mkL [intT l[j]] (k0 + j) = [.lit (.int .i64 ((k0 : Int) + (j : Int)))] := by simp [mkL, mkT, intT, mlit]
        rw [em]
        exact hs2
      case measure => simp [intOf]; omega
    · obtain rfl : j = l.length := by omega
      go_wp2
      go_ret
      rw [mid_end] at hown
      exact ⟨ret_int (by omega), hown, hchg⟩
theorem heldInt64S_any (l : List Int) (v : Value) (B : Nat) (k0 : Nat) (w : World) (h : Rd B w (mkT (intsT l) k0) v) (hB : B ≤ w.heap.size) (hk0 : k0 + l.length ≤ 1099511627776) :
    Calls Tryz.prog 9 #[v, .int .i64 k0] w fun e w' => e = .returned (.int .i64 ((k0 + l.length : Nat) : Int)) ∧ Below w.heap.size w w' := by
  rw [intsT_flat] at h
  obtain ⟨a, c, rfl, hnc, hcm, hcells⟩ := h.mkAt (k := 1) (g := fun x => [intT x]) (by decide) (fun _ => rfl)
  clear h
  have hnb : (k0 : Int) + (l.length : Int) ≤ 1099511627776 := by omega
  go_enter Tryz.func9, Tryz.ntmps9
  go_wp2
  go_loopw [1, 5] (fun kk i wr => ∃ (j : Nat), j ≤ l.length ∧ i = .int .i64 j ∧ kk = .int .i64 ((k0 : Int) + (j : Int)) ∧ Below w.heap.size w wr) (fun _ i wr => l.length - (intOf i).toNat)
  case atStart => exact ⟨0, Nat.zero_le _, rfl, by simp, Below.refl _ _⟩
  case round =>
    obtain ⟨j, hj, rfl, rfl, hb⟩ := hrel
    by_cases hlt : j < l.length
    · obtain ⟨b, off, rfl, hbl, hat⟩ := hcells (by omega)
      obtain ⟨u, s0, hu⟩ := hat j hlt 0 (.lit (.int .i64 ((k0 + j : Nat) : Int))) (by
        have ec : cntL ((l.take j).flatMap fun x => [intT x]) = j := by
          rw [← map_flat, cntL_ints, List.length_take, Nat.min_eq_left hj]
        rw [ec]; simp [mkL, mkT, intT, mlit])
      obtain rfl := Rd.lit.1 hu
      rw [← hb.cell (p := ⟨b, _, none⟩) (show b < w.heap.size by omega), Nat.mul_one, Nat.add_zero, Int.natCast_add] at s0
      have hne : ((k0 : Int) + (j : Int) != (k0 : Int) + (j : Int)) = false := by simp
      have HB := Lib.hid hb
      clear hcells hat hu hb
      go_wp2
      go_roundw
      case rel => exact ⟨j + 1, by omega, by go_num, by go_num, HB.out⟩
      case measure => simp [intOf]; omega
    · obtain rfl : j = l.length := by omega
      clear hcells
      go_wp2
      go_ret
      exact ⟨ret_int (by omega), hb⟩

/-! ### slices of slices of integers -/
theorem intssT_flat (l : List (List Int)) : intssT l = .sl 1 (l.flatMap fun x => [intsT x]) := by rw [intssT, map_flat]
theorem Rd.intss {B : Nat} {w : World} {l : List (List Int)} {v : Value} (h : Rd B w (intssT l) v) :
    ∃ a c, v = .slice a l.length c ∧ l.length ≤ c ∧ c ≤ maxLen ∧ (0 < l.length → ∃ b off, a = some ⟨b, off, none⟩ ∧ b < B ∧ ∀ (i : Nat) (hi : i < l.length), ∃ u, w.cell? ⟨b, off + i, none⟩ = some u ∧ Rd B w (intsT l[i]) u) := Rd.slAt1 h
def sumLen (l : List (List Int)) : Nat := (l.map List.length).sum
theorem sumLen_append (a b : List (List Int)) : sumLen (a ++ b) = sumLen a + sumLen b := by simp [sumLen, List.sum_append]
theorem sumLen_take_succ (l : List (List Int)) (i : Nat) (hi : i < l.length) : sumLen (l.take (i + 1)) = sumLen (l.take i) + l[i].length := by
  rw [List.take_succ_eq_append_getElem hi, sumLen_append]; simp [sumLen]
theorem sumLen_take_le (l : List (List Int)) (i : Nat) : sumLen (l.take i) ≤ sumLen l := by
  have h := sumLen_append (l.take i) (l.drop i)
  rw [List.take_append_drop] at h; omega
theorem sumLen_get_le (l : List (List Int)) (i : Nat) (hi : i < l.length) : l[i].length ≤ sumLen l := by
  have h1 := sumLen_take_succ l i hi
  have h2 := sumLen_take_le l (i + 1)
  omega
theorem cntL_intss (l : List (List Int)) : cntL (l.flatMap fun x => [intsT x]) = sumLen l := by
  induction l with
  | nil => rfl
  | cons x l ih => rw [List.flatMap_cons, cntL_append, ih]; simp [cntL, cnt_ints, sumLen]
theorem infoII : (Tryz.prog.info? 22).map (fun i => (i.zero, i.size, i.bytes)) = some (some (.slice none 0 0), 1, 24) := by kernel_rfl
end Go.Proofs.YtjkpadfolkniaaaGreatDoor
