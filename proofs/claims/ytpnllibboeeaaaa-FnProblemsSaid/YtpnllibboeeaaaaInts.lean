/- Contracts of the laws' helpers over slices of integers: sizes, copies, comparisons, marks. Conditions: bounded lengths. -/
import Derived.Test.YtpnllibboeeaaaaProg
import Derived.Test.YtpnllibboeeaaaaMark
import Derived.WalkKit
import Derived.Outline
import Derived.RowKit3
import Derived.LoopTactic
import Derived.Lib.Hide
import Derived.Laws.MakeOwn
import Derived.Laws.Entries
import Derived.BigQuiet
import Derived.Deep.QuietTactic
import Derived.StillTailTactics
import Derived.KernelRfl
namespace Go.Proofs.Ytpnllibboeeaaaa
open Go.RowKit
set_option linter.unusedVariables false

theorem bcell {W w1 : World} (hb : Below W.heap.size W w1) : (∀ b o, b < W.heap.size → w1.cell? ⟨b, o, none⟩ = W.cell? ⟨b, o, none⟩) ∧ (∀ b o, b < W.heap.size → w1.frozen? ⟨b, o, none⟩ = W.frozen? ⟨b, o, none⟩) :=
  ⟨fun b o h => hb.cell (p := ⟨b, o, none⟩) h, fun b o h => hb.frozen (p := ⟨b, o, none⟩) h⟩
theorem bcellAt {W w1 : World} {b : Nat} (hb : Below W.heap.size W w1) (h : b < W.heap.size) : (∀ o, w1.cell? ⟨b, o, none⟩ = W.cell? ⟨b, o, none⟩) ∧ (∀ o, w1.frozen? ⟨b, o, none⟩ = W.frozen? ⟨b, o, none⟩) ∧ b < w1.heap.size :=
  ⟨fun o => hb.cell (p := ⟨b, o, none⟩) h, fun o => hb.frozen (p := ⟨b, o, none⟩) h, by have := hb.size; omega⟩
theorem run_make_rowN {P : Program} (t e : TypeId) (i : TypeInfo) (z : Value) (ht : P.underlying t = some (.slice e)) (hi : P.info? e = some i) (hz : i.zero = some z)
    (kl kc : IntKind) (n c : Nat) (hnc : n ≤ c) (hbytes : i.bytes * c ≤ 281474976710656) (h63 : c ≤ 9223372036854775807) (w : World) :
    (Instr.makeSlice t (.int kl (n : Int)) (.int kc (c : Int))).run P w = .ok (.slice (some ⟨w.heap.size, 0, none⟩) n c) (w.alloc (.cells (madeCells z.cells (c * i.size)) e)) := by
  have hb : (i.bytes : Int) * (c : Int) ≤ 281474976710656 := by
    have h : ((i.bytes * c : Nat) : Int) ≤ 281474976710656 := by omega
    rwa [Int.natCast_mul] at h
  have hr := run_make (P := P) w t e i z ht hi hz kl kc n c (by omega) (by omega) hb (by omega)
  simp only [Int.toNat_natCast] at hr
  exact hr
theorem below_drewN {B : Nat} {a w : World} (h : Below B a w) (n : Nat) : Below B a (w.drewN n) := ⟨h.os, h.tape, h.output, h.size, h.block⟩
theorem ret_int {k : IntKind} {a b : Int} (h : a = b) : Ending.returned (.int k a) = .returned (.int k b) := by rw [h]

theorem infoI : (Try.prog.info? 2).map (fun i => (i.zero, i.size, i.bytes)) = some (some (.int .i64 0), 1, 8) := by kernel_rfl

theorem cntL_ints (l : List Int) : cntL (l.map intT) = l.length := by
  induction l with
  | nil => rfl
  | cons x l ih => simp only [List.map_cons, cntL, ih, intT, cnt, List.length_cons]; omega
theorem cnt_ints (l : List Int) : cnt (intsT l) = l.length := by rw [intsT, cnt, cntL_ints]
theorem flat_ints (l : List Int) : l.map intT = l.flatMap fun x => [intT x] := map_flat intT l
theorem intsT_flat (l : List Int) : intsT l = .sl 1 (l.flatMap fun x => [intT x]) := by rw [intsT, map_flat]

/-! ### slices of slices of integers -/
theorem intssT_flat (l : List (List Int)) : intssT l = .sl 1 (l.flatMap fun x => [intsT x]) := by rw [intssT, map_flat]
theorem Rd.intss {B : Nat} {w : World} {l : List (List Int)} {v : Value} (h : Rd B w (intssT l) v) :
    ∃ a c, v = .slice a l.length c ∧ l.length ≤ c ∧ c ≤ maxLen ∧ (0 < l.length → ∃ b off, a = some ⟨b, off, none⟩ ∧ b < B ∧ ∀ (i : Nat) (hi : i < l.length), ∃ u, w.cell? ⟨b, off + i, none⟩ = some u ∧ Rd B w (intsT l[i]) u) := Rd.slAt1 h
def sumLen (l : List (List Int)) : Nat := (l.map List.length).sum
theorem sumLen_append (a b : List (List Int)) : sumLen (a ++ b) = sumLen a + sumLen b := by simp [sumLen, List.sum_append]
theorem sumLen_take_succ (l : List (List Int)) (i : Nat) (hi : i < l.length) : sumLen (l.take (i + 1)) = sumLen (l.take i) + l[i].length := by
  rw [List.take_succ_eq_append_getElem hi, sumLen_append]; simp [sumLen]
theorem sumLen_take_le (l : List (List Int)) (i : Nat) : sumLen (l.take i) ≤ sumLen l := by
  have h := sumLen_append (l.take i) (l.drop i)
  rw [List.take_append_drop] at h; omega
theorem sumLen_get_le (l : List (List Int)) (i : Nat) (hi : i < l.length) : l[i].length ≤ sumLen l := by
  have h1 := sumLen_take_succ l i hi
  have h2 := sumLen_take_le l (i + 1)
  omega
theorem cntL_intss (l : List (List Int)) : cntL (l.flatMap fun x => [intsT x]) = sumLen l := by
  induction l with
  | nil => rfl
  | cons x l ih => rw [List.flatMap_cons, cntL_append, ih]; simp [cntL, cnt_ints, sumLen]
theorem infoII : (Try.prog.info? 28).map (fun i => (i.zero, i.size, i.bytes)) = some (some (.slice none 0 0), 1, 24) := by kernel_rfl
end Go.Proofs.Ytpnllibboeeaaaa
