/- Structs of plain cells as lists of values. Plain lemmas. -/
import Derived.Test.YtppgcgopnchbcaaGreatRowV
import Derived.Test.YtppgcgopnchbcaaGreatHSite
import Derived.Test.YtppgcgopnchbcaaGreatHSector
namespace Go.Proofs.YtppgcgopnchbcaaGreat
open Go.RowKit
set_option linter.unusedVariables false

theorem oneLits (xs : List Value) (h : ∀ u ∈ xs, u.oneCell' = true) (n : Nat) : ∀ u ∈ xs.drop n, u.oneCell' = true := fun u hu => h u (List.mem_of_mem_drop hu)
theorem erase_flatv {α : Type} (g : α → List Value) (k : Nat) (hg : ∀ x, (g x).length = k) (l : List α) (i : Nat) : (l.eraseIdx i).flatMap g = (l.flatMap g).take (i * k) ++ (l.flatMap g).drop ((i + 1) * k) := by
  rw [List.eraseIdx_eq_take_drop_succ, List.flatMap_append, flatv_take g k hg, flatv_drop g k hg]
def DSite.vs (x : DSite) : List Value := [.string x.name, .string x.holder, .int .i64 x.place.x, .int .i64 x.place.y]
theorem DSite.tr_vs (x : DSite) : x.tr = x.vs.map .lit := rfl
theorem DSite.vs_len (x : DSite) : x.vs.length = 4 := rfl
theorem DSite.vs_one (l : List DSite) : ∀ u ∈ l.flatMap DSite.vs, u.oneCell' = true := by
  intro u hu
  obtain ⟨x, _, hx⟩ := List.mem_flatMap.1 hu
  simp only [DSite.vs, List.mem_cons, List.not_mem_nil, or_false] at hx
  rcases hx with rfl | rfl | rfl | rfl <;> rfl
theorem DSite.sT_vs (l : List DSite) : DSite.sT l = .sl 4 ((l.flatMap DSite.vs).map .lit) := by
  show Tr.sl 4 (l.flatMap DSite.tr) = _
  rw [flat_lits DSite.tr DSite.vs DSite.tr_vs]
def DSector.vs (x : DSector) : List Value := [.string x.name, .string x.site, .string x.antenna, .string x.radio, .string x.band, .int .i64 x.azimuth, .int .i64 x.tilt, .int .i64 x.above, .int .i64 x.channel]
theorem DSector.tr_vs (x : DSector) : x.tr = x.vs.map .lit := rfl
theorem DSector.vs_len (x : DSector) : x.vs.length = 9 := rfl
theorem DSector.vs_one (l : List DSector) : ∀ u ∈ l.flatMap DSector.vs, u.oneCell' = true := by
  intro u hu
  obtain ⟨x, _, hx⟩ := List.mem_flatMap.1 hu
  simp only [DSector.vs, List.mem_cons, List.not_mem_nil, or_false] at hx
  rcases hx with rfl | rfl | rfl | rfl | rfl | rfl | rfl | rfl | rfl <;> rfl
theorem DSector.sT_vs (l : List DSector) : DSector.sT l = .sl 9 ((l.flatMap DSector.vs).map .lit) := by
  show Tr.sl 9 (l.flatMap DSector.tr) = _
  rw [flat_lits DSector.tr DSector.vs DSector.tr_vs]
end Go.Proofs.YtppgcgopnchbcaaGreat
