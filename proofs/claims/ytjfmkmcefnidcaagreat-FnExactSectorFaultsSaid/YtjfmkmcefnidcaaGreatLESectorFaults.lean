/- Proved here: the law FnExactSectorFaults returns true for every input, and each argument reads afterwards as before. No condition. -/
import Derived.Test.YtjfmkmcefnidcaaGreatRows
import Derived.Test.YtjfmkmcefnidcaaGreatWESectorFaults
import Derived.Test.YtjfmkmcefnidcaaGreatFit
import Derived.WalkKit
import Derived.ProofKit
import Derived.OpenShut
import Derived.ShutString
import Derived.Carry
import Derived.KernelRfl
namespace Go.Proofs.YtjfmkmcefnidcaaGreat.fnExactSectorFaults
set_option maxRecDepth 100000
open Go.ChangeShapes Go.WideShapes Go.ChangeAt Go.RowKit
open Go.ChangeMaps (open_string shut_string)
set_option linter.unusedVariables false
theorem own:ownKnob Tryz.prog.godebug=none:=by kernel_rfl
theorem laidOut:laidOutB Tryz.prog=true:=by kernel_rfl
theorem read0:Tryz.prog.readableRec 36=true:=by kernel_rfl
theorem small0:36<Tryz.prog.types.size:=of_decide_eq_true (by kernel_rfl)
theorem flat0:flatTy Tryz.prog 8 36=some DPlan.ty:=by kernel_rfl
theorem read1:Tryz.prog.readableRec 9=true:=by kernel_rfl
theorem small1:9<Tryz.prog.types.size:=of_decide_eq_true (by kernel_rfl)
theorem lifted (os:Os) (started:os.Started) (H:Type) (enc:TypeId × Value→H) :
  ReturnsInHanded {} Tryz.checked os 5 .any (Rows.fnExactSectorFaultsSpec.pre6 enc Tryz.prog Tryz.f5 Rows.fnExactSectorFaultsRow.domain false) (Rows.fnExactSectorFaultsSpec.post enc Tryz.prog Tryz.f5 false true false false):=by
 refine returnsInHanded_of_change (C:=Tryz.checked) own started (by kernel_rfl) Tryz.func5
  (ChangeSpec.witness6 (enc:=enc) (C:=Tryz.checked) false ⟨#[],#[.agg #[.int .i64 0,.int .i64 0,.int .i64 0,.slice none 0 0,.slice none 0 0,.slice none 0 0,.slice none 0 0,.slice none 0 0,.slice none 0 0,.slice none 0 0,.slice none 0 0,.slice none 0 0,.slice none 0 0,.int .i64 0],.string ⟨#[]⟩],[]⟩ 8 (by kernel_rfl) (by kernel_rfl) (by kernel_rfl) (by kernel_rfl)) ?_
 intro W base args ds gs before hval0 hW hcnd _
 have hval:∀ (j:Nat) t v,Tryz.f5.params[j]? = some t→args[j]? = some v→Value.okWide Tryz.prog W .any base t v:=hval0
 have hW':=hW
 have hlt:=fun p hp=>hW.lt p hp
 obtain⟨p,q,hA0,hV,rfl,hfz,hnd⟩:=hW
 have hA:DataW.TrodAll enc Tryz.prog W 0 (fun _=>true) true Tryz.f5.params.toList args.toList ds p:=hA0
 rw[Tryz.params5] at hA hval
 obtain⟨v0,vs0,d0,ds0,p0,q0,hargs,rfl,rfl,h0,r0⟩:=trodAll_cons hA
 obtain⟨v1,vs1,d1,ds1,p1,q1,rfl,rfl,rfl,h1,r1⟩:=trodAll_cons r0
 obtain⟨rfl,rfl,rfl⟩:=trodAll_nil r1
 obtain rfl:args=#[v0,v1]:=by cases args;simp_all
 obtain⟨rfl,rfl⟩:=trodVars_none hV
 clear hA0 hval0
 have ho0:=hval 0 36 v0 rfl rfl
 have ht0:=h0
 obtain⟨cs0,rfl,hsz0⟩:=okWide_struct Tryz.underlying36 ho0
 obtain⟨fu0,hf0⟩:=h0
 obtain⟨ts0,fp0,rp0,ft0,lt0⟩:=open_flat 8 _ _ flat0 _ _ _ hf0
 obtain⟨n0,rfl,b0⟩:=DPlan.fit ft0
 have rdv0:RdV W.heap.size W n0.tr cs0.toList:=RepV.rd rp0 lt0
 obtain⟨l0⟩:=cs0
 change RdV W.heap.size W n0.tr l0 at rdv0
 clear hsz0 hf0 rp0 ft0
 obtain⟨x0_3,x0_4,x0_5,x0_6,x0_7,x0_8,x0_9,x0_10,x0_11,x0_12,rfl,rd0_3,rd0_4,rd0_5,rd0_6,rd0_7,rd0_8,rd0_9,rd0_10,rd0_11,rd0_12⟩:=DPlan.opn rdv0
 have ho1:=hval 1 9 v1 rfl rfl
 have ht1:=h1
 obtain⟨n1,rfl,rfl,rfl,b1⟩:=open_string Tryz.underlying9 ho1 h1
 simp only[List.append_nil] at hW' hlt
 refine (walk n0 n1 _ _ _ _ _ _ _ _ _ _ W rd0_3 rd0_4 rd0_5 rd0_6 rd0_7 rd0_8 rd0_9 rd0_10 rd0_11 rd0_12 b0 b1).mono fun e W' ⟨he,hb⟩=>?_
 subst he
 refine⟨_,rfl,post_of_below (pa:=(p0++([]++[]))) (pv:=[]) hW' (fun _ _ _=>(trodAll_cons_mk (shut_bool Tryz.underlying4 _) trodAll_mk0)) (fun sp hsp=>?_) (fun _ _=>rfl) (by simp) hb (ok_one (by kernel_rfl) rfl (okWide_bool_mk Tryz.underlying4 _))⟩
 exact (trodAll_cons_mk (WideElems.Trod_stays laidOut read0 small0 ht0 (fun x hx=>hb.same (hlt x (by simp[hx]))) (fun x hx=>hsp x (by simp[hx]))) (trodAll_cons_mk (shut_string Tryz.underlying9 b1) trodAll_mk0))
theorem over:Rows.fnExactSectorFaultsRow.holds Tryz.pinned (OpenSpec.ofChange Rows.fnExactSectorFaultsSpec) :=
 OpenClaim.holds_of_wide 5 Tryz.f5 rfl rfl rfl rfl rfl rfl rfl ⟨rfl,rfl,rfl,rfl,rfl⟩ rfl rfl rfl rfl rfl (by kernel_rfl) Tryz.func5 (by kernel_rfl)
  (of_decide_eq_true (by kernel_rfl)) (by unfold Func.isWrapper;first|(rw[if_pos (by decide +kernel)];kernel_rfl)|(rw[if_neg (by decide +kernel)];exact⟨rfl,rfl⟩))
  (fun os started H enc _=>lifted os started H enc)
theorem proved:Rows.FnExactSectorFaultsSaid:=over
#print axioms proved
end Go.Proofs.YtjfmkmcefnidcaaGreat.fnExactSectorFaults
