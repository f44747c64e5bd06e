/- Contracts: a row of a hundred zeros, by repeating one (slices.Repeat). No condition. -/
import Derived.Test.YtlfkdhakibagaaaSl
import Derived.Test.YtlfkdhakibagaaaIns0
import Derived.Test.YtlfkdhakibagaaaRaw
import Derived.Test.YtlfkdhakibagaaaBlk
import Derived.Test.YtlfkdhakibagaaaOrd
import Derived.Test.YtlfkdhakibagaaaHTerrain
import Derived.Deep.DeepCutAuto
import Derived.IntWalk
namespace Go.Proofs.Ytlfkdhakibagaaa
open Go.RowKit
set_option linter.unusedVariables false
set_option linter.unusedSimpArgs false

def zrow : Array Value := madeCells #[.int .i64 0] 100
theorem zrow_get {j : Nat} (hj : j < 100) : zrow[j]? = some (.int .i64 0) := by
  unfold zrow madeCells
  rw [Array.getElem?_map, Array.getElem?_range, if_pos hj]
  simp [Nat.mod_one]
theorem zrow_size : zrow.size = 100 := size_madeCells _ _
theorem cellZ {W : World} {g E : Nat} (h : W.heap[g]? = some (.cells zrow E (0, 0))) {j : Nat} (hj : j < 100) : W.cell? ⟨g, j, none⟩ = some (.int .i64 0) := bkC h j (zrow_get hj)
theorem setCells_same (v : Value) : (m o : Nat) → (W : World) → (g : Nat) → (∀ j, j < m → W.cell? ⟨g, o + j, none⟩ = some v) → W.setCells g o (List.replicate m v) = W := by
  intro m
  induction m with
  | zero => intro o W g _; rfl
  | succ m ih =>
    intro o W g h
    have h0 := h 0 (by omega)
    rw [Nat.add_zero] at h0
    rw [List.replicate_succ, setCells_setRow]
    show setRow (W.setCell ⟨g, o, none⟩ v) g (o + 1) (List.replicate m v) = W
    rw [setCell_same h0, ← setCells_setRow]
    exact ih (o + 1) W g (fun j hj => by rw [show o + 1 + j = o + (j + 1) by omega]; exact h (j + 1) (by omega))
theorem copyZ {P : Program} (W : World) (T ty E g o dl dc s so sl sc : Nat) (hu : P.underlying T = some (.slice E)) (hs : (P.info? E).map (·.size) = some 1) (hg : ∀ j, j < Nat.min sl dl → W.cell? ⟨g, o + j, none⟩ = some (.int .i64 0)) (hf : ∀ j, W.frozen? ⟨g, j, none⟩ = false)
    (hsrc : ∀ j, j < Nat.min sl dl → W.cell? ⟨s, so + j, none⟩ = some (.int .i64 0)) :
    (Builtin.copy_ #[T, T] ty #[.slice (some ⟨g, o, none⟩) dl dc, .slice (some ⟨s, so, none⟩) sl sc]).run P W = .ok (goInt (Nat.min sl dl)) W := by
  have h := run_copy_cellsK (P := P) W T T ty E 1 g o dl dc ⟨s, so, none⟩ sl sc (List.replicate (Nat.min sl dl) (.int .i64 0)) hu hs (by rw [List.length_replicate, Nat.mul_one]) (fun j v hj => ?_) (fun j hj => ?_) (fun j _ => hf _) (fun v hv => by rw [List.eq_of_mem_replicate hv]; rfl)
  · rw [h, setCells_same _ _ _ _ _ hg]
  · have hl := (List.getElem?_eq_some_iff.1 hj).1
    rw [List.length_replicate] at hl
    rw [add_mk, hsrc j hl]
    rw [List.getElem?_replicate, if_pos hl] at hj
    exact hj
  · rw [List.length_replicate] at hj
    rw [hg j hj]; rfl
theorem wp_copy_run {P : Program} {w w' : World} {o : Oper} {a : Act} {K : Act → World → Prop} {Q : Exit → Act → World → Prop} (d s : Operand) (t t' : TypeId)
    (ho : o.op = .call { callee := .builtin .copy, args := #[d, s], argTypes := #[t, t'] }) {v u v' : Value} (hd : a.eval d = v) (hs : a.eval s = u)
    (hr : (Builtin.copy_ #[t, t'] o.type #[v, u]).run P w = .ok v' w') (h : K (a.put o.dst v') w') : o.wp P a w K Q := by
  unfold Oper.wp execOp
  simp only [ho, resolve, invoke, builtin, Sem.run_bind, Sem.run_pure, Result.andThen_ok, List.map_toArray, List.map_cons, List.map_nil, hd, hs, hr]
  exact h
set_option maxHeartbeats 1000000 in
theorem mul64_desk (w : World) : Calls Try.prog 61 #[.int .u64 1, .int .u64 100] w fun e w' => e = .returned (.tuple #[.int .u64 0, .int .u64 100]) ∧ w = w' := by
  go_enter Try.func61, Try.ntmps61
  go_wp2
  go_ret2
  exact ⟨rfl, rfl⟩
theorem mul_desk (w : World) : Calls Try.prog 41 #[.int .u64 1, .int .u64 100] w fun e w' => e = .returned (.tuple #[.int .u64 0, .int .u64 100]) ∧ w = w' := by
  go_enter Try.func41, Try.ntmps41
  go_wp2_with (go_at_call 61; refine (mul64_desk _).mono ?_; rintro e w1 ⟨rfl, rfl⟩)
  go_ret2
  exact ⟨rfl, rfl⟩
end Go.Proofs.Ytlfkdhakibagaaa
