/- Proved here: the law FnExactRestrict returns true for every input, and each argument reads afterwards as before. No condition. -/
import Derived.Test.YtknjgppdmdfmoaaRows
import Derived.Test.YtknjgppdmdfmoaaWERestrict
import Derived.Test.YtknjgppdmdfmoaaFit
import Derived.WalkKit
import Derived.ProofKit
import Derived.OpenShut
import Derived.ShutString
import Derived.Carry
import Derived.KernelRfl
namespace Go.Proofs.Ytknjgppdmdfmoaa.fnExactRestrict
open Go.ChangeShapes Go.WideShapes Go.ChangeAt Go.RowKit
open Go.ChangeMaps (open_string shut_string)
set_option linter.unusedVariables false
theorem own : ownKnob Try.prog.godebug = none := by kernel_rfl
theorem laidOut : laidOutB Try.prog = true := by kernel_rfl
theorem read0 : Try.prog.readableRec 24 = true := by kernel_rfl
theorem small0 : 24 < Try.prog.types.size := of_decide_eq_true (by kernel_rfl)
theorem flat0 : flatTy Try.prog 8 24 = some DProblem.ty := by kernel_rfl
theorem read1 : Try.prog.readableRec 2 = true := by kernel_rfl
theorem small1 : 2 < Try.prog.types.size := of_decide_eq_true (by kernel_rfl)
theorem read2 : Try.prog.readableRec 36 = true := by kernel_rfl
theorem small2 : 36 < Try.prog.types.size := of_decide_eq_true (by kernel_rfl)
theorem flat2 : flatTy Try.prog 8 36 = some [.sl [.int]] := by kernel_rfl
set_option maxRecDepth 100000 in
theorem lifted (os : Os) (started : os.Started) (H : Type) (enc : TypeId × Value → H) :
    ReturnsInHanded {} Try.checked os 5 .any (Rows.fnExactRestrictSpec.pre6 enc Try.prog Try.f5 Rows.fnExactRestrictRow.domain false) (Rows.fnExactRestrictSpec.post enc Try.prog Try.f5 false true false false) := by
  refine returnsInHanded_of_change (C := Try.checked) own started (by kernel_rfl) Try.func5
    (ChangeSpec.witness6 (enc := enc) (C := Try.checked) false ⟨#[], #[.agg #[.slice none 0 0, .slice none 0 0], .int .i64 0, .slice none 0 0], []⟩ 8 (by kernel_rfl) (by kernel_rfl) (by kernel_rfl) (by kernel_rfl)) ?_
  intro W base args ds gs before hval0 hW hcnd _
  have hval : ∀ (j : Nat) t v, Try.f5.params[j]? = some t → args[j]? = some v → Value.okWide Try.prog W .any base t v := hval0
  have hW' := hW
  have hlt := fun p hp => hW.lt p hp
  obtain ⟨p, q, hA0, hV, rfl, hfz, hnd⟩ := hW
  have hA : DataW.TrodAll enc Try.prog W 0 (fun _ => true) true Try.f5.params.toList args.toList ds p := hA0
  rw [Try.params5] at hA hval
  obtain ⟨v0, vs0, d0, ds0, p0, q0, hargs, rfl, rfl, h0, r0⟩ := trodAll_cons hA
  obtain ⟨v1, vs1, d1, ds1, p1, q1, rfl, rfl, rfl, h1, r1⟩ := trodAll_cons r0
  obtain ⟨v2, vs2, d2, ds2, p2, q2, rfl, rfl, rfl, h2, r2⟩ := trodAll_cons r1
  obtain ⟨rfl, rfl, rfl⟩ := trodAll_nil r2
  obtain rfl : args = #[v0, v1, v2] := by cases args; simp_all
  obtain ⟨rfl, rfl⟩ := trodVars_none hV
  clear hA0 hval0
  have ho0 := hval 0 24 v0 rfl rfl
  have ht0 := h0
  obtain ⟨cs0, rfl, hsz0⟩ := okWide_struct Try.underlying24 ho0
  obtain ⟨fu0, hf0⟩ := h0
  obtain ⟨ts0, fp0, rp0, ft0, lt0⟩ := open_flat 8 _ _ flat0 _ _ _ hf0
  obtain ⟨n0, rfl, b0⟩ := DProblem.fit ft0
  have rdv0 : RdV W.heap.size W n0.tr cs0.toList := RepV.rd rp0 lt0
  obtain ⟨l0⟩ := cs0
  change RdV W.heap.size W n0.tr l0 at rdv0
  clear hsz0 hf0 rp0 ft0
  obtain ⟨x0_0, x0_1, rfl, rd0_0, rd0_1⟩ := DProblem.opn rdv0
  have ho1 := hval 1 2 v1 rfl rfl
  have ht1 := h1
  obtain ⟨n1, rfl, rfl, rfl, w1⟩ := open_int Try.underlying2 ho1 h1
  have b1 : I64 n1 := (by simpa [Lit.wf, IntKind.min, IntKind.max, IntKind.signed, IntKind.bits] using w1 : -9223372036854775808 ≤ n1 ∧ n1 ≤ 9223372036854775807)
  have ho2 := hval 2 36 v2 rfl rfl
  have ht2 := h2
  obtain ⟨a2, len2, cap2, rfl⟩ := okWide_slice Try.underlying36 ho2
  obtain ⟨fu2, hf2⟩ := h2
  obtain ⟨ts2, fp2, rp2, ft2, lt2⟩ := open_flat 8 _ _ flat2 _ _ _ hf2
  obtain ⟨t2, e2, rfl, f2, g2⟩ := FitV_cons.1 ft2
  rw [FitV_nil] at g2; subst g2
  obtain ⟨n2, rfl, b2⟩ := fit_ints f2
  obtain ⟨fa2, fb2, ra2, rb2, rfl⟩ := rp2
  have rd2 : Rd W.heap.size W (intsT n2) (.slice a2 len2 cap2) := ⟨fa2, ra2, fun b hb => lt2 b (by simp [hb])⟩
  simp only [List.append_nil] at hW' hlt
  refine (walk n0 n1 n2 _ _ _ W rd0_0 rd0_1 rd2 b0 b1 b2).mono fun e W' ⟨he, hb⟩ => ?_
  subst he
  refine ⟨_, rfl, post_of_below (pa := (p0 ++ ([] ++ (p2 ++ [])))) (pv := []) hW' (fun _ _ _ => (trodAll_cons_mk (shut_bool Try.underlying4 _) trodAll_mk0)) (fun sp hsp => ?_) (fun _ _ => rfl) (by simp) hb (ok_one (by kernel_rfl) rfl (okWide_bool_mk Try.underlying4 _))⟩
  exact (trodAll_cons_mk (WideElems.Trod_stays laidOut read0 small0 ht0 (fun x hx => hb.same (hlt x (by simp [hx]))) (fun x hx => hsp x (by simp [hx]))) (trodAll_cons_mk (shut_int Try.underlying2 w1) (trodAll_cons_mk (WideElems.Trod_stays laidOut read2 small2 ht2 (fun x hx => hb.same (hlt x (by simp [hx]))) (fun x hx => hsp x (by simp [hx]))) trodAll_mk0)))
theorem over : Rows.fnExactRestrictRow.holds Try.pinned (OpenSpec.ofChange Rows.fnExactRestrictSpec) :=
  OpenClaim.holds_of_wide 5 Try.f5 rfl rfl rfl rfl rfl rfl rfl ⟨rfl, rfl, rfl, rfl, rfl⟩ rfl rfl rfl rfl rfl (by kernel_rfl) Try.func5 (by kernel_rfl)
    (of_decide_eq_true (by kernel_rfl)) (by unfold Func.isWrapper; first | (rw [if_pos (by decide +kernel)]; kernel_rfl) | (rw [if_neg (by decide +kernel)]; exact ⟨rfl, rfl⟩))
    (fun os started H enc _ => lifted os started H enc)
theorem proved : Rows.FnExactRestrictSaid := over
#print axioms proved
end Go.Proofs.Ytknjgppdmdfmoaa.fnExactRestrict
