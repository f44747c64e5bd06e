/- Proved here: the law FnExactSetRecord returns true for every input, and each argument reads afterwards as before. No condition. -/
import Derived.Test.YtemdeoeljfcfjaaRows
import Derived.Test.YtemdeoeljfcfjaaWESetRecord
import Derived.Test.YtemdeoeljfcfjaaFit
import Derived.WalkKit
import Derived.ProofKit
import Derived.OpenShut
import Derived.ShutString
import Derived.Carry
import Derived.KernelRfl
namespace Go.Proofs.Ytemdeoeljfcfjaa.fnExactSetRecord
open Go.ChangeShapes Go.WideShapes Go.ChangeAt Go.RowKit
open Go.ChangeMaps (open_string shut_string)
set_option linter.unusedVariables false
theorem own : ownKnob Try.prog.godebug = none := by kernel_rfl
theorem laidOut : laidOutB Try.prog = true := by kernel_rfl
theorem read0 : Try.prog.readableRec 25 = true := by kernel_rfl
theorem small0 : 25 < Try.prog.types.size := of_decide_eq_true (by kernel_rfl)
theorem flat0 : flatTy Try.prog 8 25 = some DRegister.ty := by kernel_rfl
theorem read1 : Try.prog.readableRec 9 = true := by kernel_rfl
theorem small1 : 9 < Try.prog.types.size := of_decide_eq_true (by kernel_rfl)
theorem read2 : Try.prog.readableRec 9 = true := by kernel_rfl
theorem small2 : 9 < Try.prog.types.size := of_decide_eq_true (by kernel_rfl)
theorem read3 : Try.prog.readableRec 2 = true := by kernel_rfl
theorem small3 : 2 < Try.prog.types.size := of_decide_eq_true (by kernel_rfl)
set_option maxRecDepth 100000 in
theorem lifted (os : Os) (started : os.Started) (H : Type) (enc : TypeId × Value → H) :
    ReturnsInHanded {} Try.checked os 3 .any (Rows.fnExactSetRecordSpec.pre6 enc Try.prog Try.f3 Rows.fnExactSetRecordRow.domain false) (Rows.fnExactSetRecordSpec.post enc Try.prog Try.f3 false true false false) := by
  refine returnsInHanded_of_change (C := Try.checked) own started (by kernel_rfl) Try.func3
    (ChangeSpec.witness6 (enc := enc) (C := Try.checked) false ⟨#[], #[.agg #[.slice none 0 0, .slice none 0 0], .string ⟨#[]⟩, .string ⟨#[]⟩, .int .i64 0], []⟩ 8 (by kernel_rfl) (by kernel_rfl) (by kernel_rfl) (by kernel_rfl)) ?_
  intro W base args ds gs before hval0 hW hcnd _
  have hval : ∀ (j : Nat) t v, Try.f3.params[j]? = some t → args[j]? = some v → Value.okWide Try.prog W .any base t v := hval0
  have hW' := hW
  have hlt := fun p hp => hW.lt p hp
  obtain ⟨p, q, hA0, hV, rfl, hfz, hnd⟩ := hW
  have hA : DataW.TrodAll enc Try.prog W 0 (fun _ => true) true Try.f3.params.toList args.toList ds p := hA0
  rw [Try.params3] at hA hval
  obtain ⟨v0, vs0, d0, ds0, p0, q0, hargs, rfl, rfl, h0, r0⟩ := trodAll_cons hA
  obtain ⟨v1, vs1, d1, ds1, p1, q1, rfl, rfl, rfl, h1, r1⟩ := trodAll_cons r0
  obtain ⟨v2, vs2, d2, ds2, p2, q2, rfl, rfl, rfl, h2, r2⟩ := trodAll_cons r1
  obtain ⟨v3, vs3, d3, ds3, p3, q3, rfl, rfl, rfl, h3, r3⟩ := trodAll_cons r2
  obtain ⟨rfl, rfl, rfl⟩ := trodAll_nil r3
  obtain rfl : args = #[v0, v1, v2, v3] := by cases args; simp_all
  obtain ⟨rfl, rfl⟩ := trodVars_none hV
  clear hA0 hval0
  have ho0 := hval 0 25 v0 rfl rfl
  have ht0 := h0
  obtain ⟨cs0, rfl, hsz0⟩ := okWide_struct Try.underlying25 ho0
  obtain ⟨fu0, hf0⟩ := h0
  obtain ⟨ts0, fp0, rp0, ft0, lt0⟩ := open_flat 8 _ _ flat0 _ _ _ hf0
  obtain ⟨n0, rfl, b0⟩ := DRegister.fit ft0
  have rdv0 : RdV W.heap.size W n0.tr cs0.toList := RepV.rd rp0 lt0
  obtain ⟨l0⟩ := cs0
  change RdV W.heap.size W n0.tr l0 at rdv0
  clear hsz0 hf0 rp0 ft0
  obtain ⟨x0_0, x0_1, rfl, rd0_0, rd0_1⟩ := DRegister.opn rdv0
  have ho1 := hval 1 9 v1 rfl rfl
  have ht1 := h1
  obtain ⟨n1, rfl, rfl, rfl, b1⟩ := open_string Try.underlying9 ho1 h1
  have ho2 := hval 2 9 v2 rfl rfl
  have ht2 := h2
  obtain ⟨n2, rfl, rfl, rfl, b2⟩ := open_string Try.underlying9 ho2 h2
  have ho3 := hval 3 2 v3 rfl rfl
  have ht3 := h3
  obtain ⟨n3, rfl, rfl, rfl, w3⟩ := open_int Try.underlying2 ho3 h3
  have b3 : I64 n3 := (by simpa [Lit.wf, IntKind.min, IntKind.max, IntKind.signed, IntKind.bits] using w3 : -9223372036854775808 ≤ n3 ∧ n3 ≤ 9223372036854775807)
  simp only [List.append_nil] at hW' hlt
  refine (walk n0 n1 n2 n3 _ _ W rd0_0 rd0_1 b0 b1 b2 b3).mono fun e W' ⟨he, hb⟩ => ?_
  subst he
  refine ⟨_, rfl, post_of_below (pa := (p0 ++ ([] ++ ([] ++ ([] ++ []))))) (pv := []) hW' (fun _ _ _ => (trodAll_cons_mk (shut_bool Try.underlying4 _) trodAll_mk0)) (fun sp hsp => ?_) (fun _ _ => rfl) (by simp) hb (ok_one (by kernel_rfl) rfl (okWide_bool_mk Try.underlying4 _))⟩
  exact (trodAll_cons_mk (WideElems.Trod_stays laidOut read0 small0 ht0 (fun x hx => hb.same (hlt x (by simp [hx]))) (fun x hx => hsp x (by simp [hx]))) (trodAll_cons_mk (shut_string Try.underlying9 b1) (trodAll_cons_mk (shut_string Try.underlying9 b2) (trodAll_cons_mk (shut_int Try.underlying2 w3) trodAll_mk0))))
theorem over : Rows.fnExactSetRecordRow.holds Try.pinned (OpenSpec.ofChange Rows.fnExactSetRecordSpec) :=
  OpenClaim.holds_of_wide 3 Try.f3 rfl rfl rfl rfl rfl rfl rfl ⟨rfl, rfl, rfl, rfl, rfl⟩ rfl rfl rfl rfl rfl (by kernel_rfl) Try.func3 (by kernel_rfl)
    (of_decide_eq_true (by kernel_rfl)) (by unfold Func.isWrapper; first | (rw [if_pos (by decide +kernel)]; kernel_rfl) | (rw [if_neg (by decide +kernel)]; exact ⟨rfl, rfl⟩))
    (fun os started H enc _ => lifted os started H enc)
theorem proved : Rows.FnExactSetRecordSaid := over
#print axioms proved
end Go.Proofs.Ytemdeoeljfcfjaa.fnExactSetRecord
