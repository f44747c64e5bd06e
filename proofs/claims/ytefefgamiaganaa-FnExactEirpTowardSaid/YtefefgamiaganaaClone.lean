/- Contracts: copies of lists of integers, for the program and for the reference. Conditions: bounded lengths. -/
import Derived.Test.YtefefgamiaganaaInts2
import Derived.Test.YtefefgamiaganaaApp
import Derived.WalkSpells
import Derived.Lib.LazyBuf
namespace Go.Proofs.Ytefefgamiaganaa
open Go.RowKit
set_option linter.unusedVariables false

theorem oneCell_ints (l : List Int) : ∀ u ∈ l.map (Value.int .i64), u.oneCell' = true := by
  intro u hu
  obtain ⟨n, _, rfl⟩ := List.mem_map.1 hu
  rfl
theorem grow_ints {w : World} {base E : Nat} {v : Value} {l : List Int} (h : w.ownsRow base E 1 v l.length (l.map (Value.int .i64))) : Grow w base E 1 v l.length (l.map intT) [] := by
  refine ⟨⟨_, h, ?_⟩, List.nodup_nil, fun b h => by simp at h, fun g _ => by simp⟩
  have := RepV.lits (w := w) (l.map (Value.int .i64))
  rw [List.map_map] at this
  exact this
theorem own_empty (w : World) (E : Nat) : (w.alloc (.cells #[] E)).ownsRow w.heap.size E 1 (.slice (some ⟨w.heap.size, 0, none⟩) 0 0) 0 [] :=
  ⟨rfl, Or.inr ⟨w.heap.size, 0, #[], rfl, Nat.le_refl _, by show (w.heap.push _)[w.heap.size]? = _; simp, Nat.le_refl _, by unfold maxLen; omega, rfl, rfl⟩⟩
theorem grow_empty (w : World) (E : Nat) : Grow (w.alloc (.cells #[] E)) w.heap.size E 1 (.slice (some ⟨w.heap.size, 0, none⟩) 0 0) 0 [] [] :=
  ⟨⟨[], own_empty w E, rfl⟩, List.nodup_nil, fun b h => by simp at h, fun g _ => by simp⟩
end Go.Proofs.Ytefefgamiaganaa
