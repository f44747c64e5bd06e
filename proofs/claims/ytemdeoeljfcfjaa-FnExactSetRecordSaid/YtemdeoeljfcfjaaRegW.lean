/- What is returned: a new register and a code. Plain lemmas. -/
import Derived.Test.YtemdeoeljfcfjaaReg0
import Derived.Test.YtemdeoeljfcfjaaBlk
namespace Go.Proofs.Ytemdeoeljfcfjaa
open Go.RowKit
set_option linter.unusedVariables false

/-- a new register and a code -/
def NewR (x : DRegister × Int) (w : World) (e : Ending) (w' : World) : Prop :=
  ∃ a0_0 c0_0 a0_1 c0_1 fp0, e = .returned (.tuple #[.agg #[.slice a0_0 x.1.records.length c0_0, .slice a0_1 x.1.changes.length c0_1], .int .i64 x.2]) ∧ Below w.heap.size w w' ∧ OwnV w' x.1.tr [.slice a0_0 x.1.records.length c0_0, .slice a0_1 x.1.changes.length c0_1] fp0 ∧ In w.heap.size w'.heap.size fp0
theorem ownV_nilReg (w : World) : OwnV w (DRegister.tr ⟨[], []⟩) [.slice none 0 0, .slice none 0 0] [] := by
  have h : ∀ k, Own w (.sl k []) (.slice none 0 0) [] := fun k => ⟨Rep_sl.2 ⟨none, 0, 0, rfl, by simp, Nat.le_refl _, by unfold maxLen; omega, Or.inl ⟨rfl, rfl⟩⟩, List.nodup_nil, fun b h => by simp at h⟩
  exact OwnV.cons (f := []) (h 2) (OwnV.cons (f := []) (h 4) OwnV.nil (fun x hx => by simp at hx)) (fun x hx => by simp at hx)
theorem NewR.zero {x : DRegister × Int} {w w' : World} {e : Ending} {code : Int} (hx : x = (⟨[], []⟩, code)) (he : e = .returned (.tuple #[.agg #[.slice none 0 0, .slice none 0 0], .int .i64 code])) (hb : Below w.heap.size w w') : NewR x w e w' := by
  subst hx
  exact ⟨none, 0, none, 0, [], he, hb, ownV_nilReg w', In.nil⟩
end Go.Proofs.Ytemdeoeljfcfjaa
