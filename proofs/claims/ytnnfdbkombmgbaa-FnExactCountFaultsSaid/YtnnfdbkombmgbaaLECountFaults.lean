/- Proved here: the law FnExactCountFaults returns true for every input, and each argument reads afterwards as before. No condition. -/
import Derived.Test.YtnnfdbkombmgbaaRows
import Derived.Test.YtnnfdbkombmgbaaWECountFaults
import Derived.Test.YtnnfdbkombmgbaaFit
import Derived.WalkKit
import Derived.ProofKit
import Derived.OpenShut
import Derived.ShutString
import Derived.Carry
import Derived.KernelRfl
namespace Go.Proofs.Ytnnfdbkombmgbaa.fnExactCountFaults
open Go.ChangeShapes Go.WideShapes Go.ChangeAt Go.RowKit
open Go.ChangeMaps (open_string shut_string)
set_option linter.unusedVariables false
theorem own : ownKnob Try.prog.godebug = none := by kernel_rfl
theorem laidOut : laidOutB Try.prog = true := by kernel_rfl
theorem read0 : Try.prog.readableRec 31 = true := by kernel_rfl
theorem small0 : 31 < Try.prog.types.size := of_decide_eq_true (by kernel_rfl)
theorem flat0 : flatTy Try.prog 8 31 = some [.sl DFault.ty] := by kernel_rfl
set_option maxRecDepth 100000 in
theorem lifted (os : Os) (started : os.Started) (H : Type) (enc : TypeId × Value → H) :
    ReturnsInHanded {} Try.checked os 5 .any (Rows.fnExactCountFaultsSpec.pre6 enc Try.prog Try.f5 Rows.fnExactCountFaultsRow.domain false) (Rows.fnExactCountFaultsSpec.post enc Try.prog Try.f5 false true false false) := by
  refine returnsInHanded_of_change (C := Try.checked) own started (by kernel_rfl) Try.func5
    (ChangeSpec.witness6 (enc := enc) (C := Try.checked) false ⟨#[], #[.slice none 0 0], []⟩ 8 (by kernel_rfl) (by kernel_rfl) (by kernel_rfl) (by kernel_rfl)) ?_
  intro W base args ds gs before hval0 hW hcnd _
  have hval : ∀ (j : Nat) t v, Try.f5.params[j]? = some t → args[j]? = some v → Value.okWide Try.prog W .any base t v := hval0
  have hW' := hW
  have hlt := fun p hp => hW.lt p hp
  obtain ⟨p, q, hA0, hV, rfl, hfz, hnd⟩ := hW
  have hA : DataW.TrodAll enc Try.prog W 0 (fun _ => true) true Try.f5.params.toList args.toList ds p := hA0
  rw [Try.params5] at hA hval
  obtain ⟨v0, vs0, d0, ds0, p0, q0, hargs, rfl, rfl, h0, r0⟩ := trodAll_cons hA
  obtain ⟨rfl, rfl, rfl⟩ := trodAll_nil r0
  obtain rfl : args = #[v0] := by cases args; simp_all
  obtain ⟨rfl, rfl⟩ := trodVars_none hV
  clear hA0 hval0
  have ho0 := hval 0 31 v0 rfl rfl
  have ht0 := h0
  obtain ⟨a0, len0, cap0, rfl⟩ := okWide_slice Try.underlying31 ho0
  obtain ⟨fu0, hf0⟩ := h0
  obtain ⟨ts0, fp0, rp0, ft0, lt0⟩ := open_flat 8 _ _ flat0 _ _ _ hf0
  obtain ⟨t0, e0, rfl, f0, g0⟩ := FitV_cons.1 ft0
  rw [FitV_nil] at g0; subst g0
  obtain ⟨n0, rfl, b0⟩ := DFault.fits f0
  obtain ⟨fa0, fb0, ra0, rb0, rfl⟩ := rp0
  have rd0 : Rd W.heap.size W (DFault.sT n0) (.slice a0 len0 cap0) := ⟨fa0, ra0, fun b hb => lt0 b (by simp [hb])⟩
  simp only [List.append_nil] at hW' hlt
  refine (walk n0 _ W rd0 b0).mono fun e W' ⟨he, hb⟩ => ?_
  subst he
  refine ⟨_, rfl, post_of_below (pa := (p0 ++ [])) (pv := []) hW' (fun _ _ _ => (trodAll_cons_mk (shut_bool Try.underlying4 _) trodAll_mk0)) (fun sp hsp => ?_) (fun _ _ => rfl) (by simp) hb (ok_one (by kernel_rfl) rfl (okWide_bool_mk Try.underlying4 _))⟩
  exact (trodAll_cons_mk (WideElems.Trod_stays laidOut read0 small0 ht0 (fun x hx => hb.same (hlt x (by simp [hx]))) (fun x hx => hsp x (by simp [hx]))) trodAll_mk0)
theorem over : Rows.fnExactCountFaultsRow.holds Try.pinned (OpenSpec.ofChange Rows.fnExactCountFaultsSpec) :=
  OpenClaim.holds_of_wide 5 Try.f5 rfl rfl rfl rfl rfl rfl rfl ⟨rfl, rfl, rfl, rfl, rfl⟩ rfl rfl rfl rfl rfl (by kernel_rfl) Try.func5 (by kernel_rfl)
    (of_decide_eq_true (by kernel_rfl)) (by unfold Func.isWrapper; first | (rw [if_pos (by decide +kernel)]; kernel_rfl) | (rw [if_neg (by decide +kernel)]; exact ⟨rfl, rfl⟩))
    (fun os started H enc _ => lifted os started H enc)
theorem proved : Rows.FnExactCountFaultsSaid := over
#print axioms proved
end Go.Proofs.Ytnnfdbkombmgbaa.fnExactCountFaults
