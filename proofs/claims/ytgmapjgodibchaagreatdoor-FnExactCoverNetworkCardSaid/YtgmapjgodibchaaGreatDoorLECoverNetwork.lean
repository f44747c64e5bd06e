/- Proved here: the law FnExactCoverNetwork returns true for every input, and each argument reads afterwards as before. The row, and the card that ties the library's tables to the program's text. No condition of ours. -/
import Derived.Test.YtgmapjgodibchaaGreatDoorCards
import Derived.Test.YtgmapjgodibchaaGreatDoorTie
import Derived.Test.YtgmapjgodibchaaGreatDoorLayT
import Derived.Test.YtgmapjgodibchaaGreatDoorOJCoverNetwork
import Derived.Test.YtgmapjgodibchaaGreatDoorWECoverNetwork
set_option linter.unusedVariables false
set_option linter.unusedSimpArgs false
namespace Go.Proofs.YtgmapjgodibchaaGreatDoor.fnExactCoverNetwork
open Go.ChangeShapes Go.WideShapes Go.ChangeAt Go.RowKit
open Go.ChangeMaps (open_string shut_string)
set_option maxRecDepth 100000
theorem own:ownKnob Tryz.prog.godebug=none:=by kernel_rfl
theorem laidOut:laidOutB Tryz.prog=true:=by kernel_rfl
theorem read0:Tryz.prog.readableRec 24=true:=by kernel_rfl
theorem small0:24<Tryz.prog.types.size:=of_decide_eq_true (by kernel_rfl)
theorem flat0:flatTy Tryz.prog 8 24=some DTerrain.ty:=by kernel_rfl
theorem read1:Tryz.prog.readableRec 30=true:=by kernel_rfl
theorem small1:30<Tryz.prog.types.size:=of_decide_eq_true (by kernel_rfl)
theorem flat1:flatTy Tryz.prog 8 30=some DNetwork.ty:=by kernel_rfl
theorem read2:Tryz.prog.readableRec 2=true:=by kernel_rfl
theorem small2:2<Tryz.prog.types.size:=of_decide_eq_true (by kernel_rfl)
theorem read3:Tryz.prog.readableRec 2=true:=by kernel_rfl
theorem small3:2<Tryz.prog.types.size:=of_decide_eq_true (by kernel_rfl)
theorem read4:Tryz.prog.readableRec 2=true:=by kernel_rfl
theorem small4:2<Tryz.prog.types.size:=of_decide_eq_true (by kernel_rfl)
theorem lifted (os:Os) (started:os.Started) (H:Type) (enc:TypeId × Value→H) :
  ReturnsInHanded {} Tryz.checked os 3 .any (fun w args=>(Rows.fnExactCoverNetworkSpec.pre enc Tryz.prog Tryz.f3 Rows.fnExactCoverNetworkRow.domain false w args∧laidMetH Tryz.prog laidL w)∧sizedMet enc Tryz.prog Tryz.f3 (OpenSpec.ofChange Rows.fnExactCoverNetworkSpec) false w args)
   (Rows.fnExactCoverNetworkSpec.post enc Tryz.prog Tryz.f3 false true false false):=by
 refine returns_and_shaped (C:=Tryz.checked) (X:=fun w _=>laidMetH Tryz.prog laidL w) (fun _ _ _ hh h=>h.of_heap hh) own started (by kernel_rfl) Tryz.func3
  (ChangeSpec.witness_shaped (enc:=enc) (C:=Tryz.checked) (os:=os) (X:=fun w _=>laidMetH Tryz.prog laidL w) false (World.laidAll Tryz.prog os laidL) #[.agg #[.int .i64 0,.int .i64 0,.int .i64 0,.slice none 0 0,.slice none 0 0],.agg #[.slice none 0 0,.slice none 0 0,.slice none 0 0,.slice none 0 0],.int .i64 0,.int .i64 0,.int .i64 0] 8 (World.laidAll_os _ _ _)
   (World.shaped_of_ZipB (by kernel_rfl) (by kernel_rfl)) (by kernel_rfl) (by kernel_rfl) (by kernel_rfl)
   (by rw[MakeChecks.laidMetH_plain _ _ _ plainL];exact laidMet_laidAll _ (by kernel_rfl) (by kernel_rfl))) ?_
 intro W base args ds gs before hval0 hW hsh hL;have hval:∀ (j:Nat) t v,Tryz.f3.params[j]? = some t→args[j]? = some v→Value.okWide Tryz.prog W .any base t v:=hval0;have hW':=hW;have hlt:=fun p hp=>hW.lt p hp
 obtain⟨p,q,hA0,hV,rfl,hfz,hnd⟩:=hW;have hA:DataW.TrodAll enc Tryz.prog W 0 (fun _=>true) true Tryz.f3.params.toList args.toList ds p:=hA0;rw[Tryz.params3] at hA hval;obtain⟨v0,vs0,d0,ds0,p0,q0,hargs,rfl,rfl,h0,r0⟩:=trodAll_cons hA;obtain⟨v1,vs1,d1,ds1,p1,q1,rfl,rfl,rfl,h1,r1⟩:=trodAll_cons r0;obtain⟨v2,vs2,d2,ds2,p2,q2,rfl,rfl,rfl,h2,r2⟩:=trodAll_cons r1;obtain⟨v3,vs3,d3,ds3,p3,q3,rfl,rfl,rfl,h3,r3⟩:=trodAll_cons r2;obtain⟨v4,vs4,d4,ds4,p4,q4,rfl,rfl,rfl,h4,r4⟩:=trodAll_cons r3;obtain⟨rfl,rfl,rfl⟩:=trodAll_nil r4;obtain rfl:args=#[v0,v1,v2,v3,v4]:=by cases args;simp_all
 obtain⟨_,_,_,_,dx0,_,_,_,_,_,dx1,_,hgs,_⟩:=trodVars_two hV;subst hgs;clear hA0 hval0;have ho0:=hval 0 24 v0 rfl rfl;have ht0:=h0;obtain⟨cs0,rfl,hsz0⟩:=okWide_struct Tryz.underlying24 ho0;obtain⟨fu0,hf0⟩:=h0;obtain⟨ts0,fp0,rp0,ft0,lt0⟩:=open_flat 8 _ _ flat0 _ _ _ hf0;obtain⟨n0,rfl,b0⟩:=DTerrain.fit ft0;have rdv0:RdV W.heap.size W n0.tr cs0.toList:=RepV.rd rp0 lt0;obtain⟨l0⟩:=cs0;change RdV W.heap.size W n0.tr l0 at rdv0
 clear hsz0 hf0 rp0 ft0;obtain⟨x0_3,x0_4,rfl,rd0_3,rd0_4⟩:=DTerrain.opn rdv0;have ho1:=hval 1 30 v1 rfl rfl;have ht1:=h1;obtain⟨cs1,rfl,hsz1⟩:=okWide_struct Tryz.underlying30 ho1;obtain⟨fu1,hf1⟩:=h1;obtain⟨ts1,fp1,rp1,ft1,lt1⟩:=open_flat 8 _ _ flat1 _ _ _ hf1;obtain⟨n1,rfl,b1⟩:=DNetwork.fit ft1;have rdv1:RdV W.heap.size W n1.tr cs1.toList:=RepV.rd rp1 lt1;obtain⟨l1⟩:=cs1;change RdV W.heap.size W n1.tr l1 at rdv1
 clear hsz1 hf1 rp1 ft1;obtain⟨x1_0,x1_1,x1_2,x1_3,rfl,rd1_0,rd1_1,rd1_2,rd1_3⟩:=DNetwork.opn rdv1;have ho2:=hval 2 2 v2 rfl rfl;have ht2:=h2;obtain⟨n2,rfl,rfl,rfl,w2⟩:=open_int Tryz.underlying2 ho2 h2;have b2:I64 n2:=(by simpa [Lit.wf,IntKind.min,IntKind.max,IntKind.signed,IntKind.bits] using w2:-9223372036854775808≤n2∧n2≤9223372036854775807)
 have ho3:=hval 3 2 v3 rfl rfl;have ht3:=h3;obtain⟨n3,rfl,rfl,rfl,w3⟩:=open_int Tryz.underlying2 ho3 h3;have b3:I64 n3:=(by simpa [Lit.wf,IntKind.min,IntKind.max,IntKind.signed,IntKind.bits] using w3:-9223372036854775808≤n3∧n3≤9223372036854775807)
 have ho4:=hval 4 2 v4 rfl rfl;have ht4:=h4;obtain⟨n4,rfl,rfl,rfl,w4⟩:=open_int Tryz.underlying2 ho4 h4;have b4:I64 n4:=(by simpa [Lit.wf,IntKind.min,IntKind.max,IntKind.signed,IntKind.bits] using w4:-9223372036854775808≤n4∧n4≤9223372036854775807)
 simp only[List.append_nil] at hW' hlt;refine (walk n0 n1 n2 n3 n4 _ _ _ _ _ _ W (libW_of hsh hL) rd0_3 rd0_4 rd1_0 rd1_1 rd1_2 rd1_3 b0 b1 b2 b3 b4).mono fun e W' ⟨he,hb⟩=>?_
 subst he;refine⟨_,rfl,post_of_below (pa:=(p0++(p1++([]++([]++([]++[])))))) (pv:=q) hW' (fun _ _ _=>(trodAll_cons_mk (shut_bool Tryz.underlying4 _) trodAll_mk0)) (fun sp hsp=>?_) (fun sp hsp=>trodVars_kept laidOut hb sp (by kernel_rfl) hV (fun x hx=>hsp x (by simp[hx]))) (by simp) hb (ok_one (by kernel_rfl) rfl (okWide_bool_mk Tryz.underlying4 _))⟩;exact (trodAll_cons_mk (WideElems.Trod_stays laidOut read0 small0 ht0 (fun x hx=>hb.same (hlt x (by simp[hx]))) (fun x hx=>hsp x (by simp[hx]))) (trodAll_cons_mk (WideElems.Trod_stays laidOut read1 small1 ht1 (fun x hx=>hb.same (hlt x (by simp[hx]))) (fun x hx=>hsp x (by simp[hx]))) (trodAll_cons_mk (shut_int Tryz.underlying2 w2) (trodAll_cons_mk (shut_int Tryz.underlying2 w3) (trodAll_cons_mk (shut_int Tryz.underlying2 w4) trodAll_mk0)))))
theorem over:Rows.fnExactCoverNetworkRow.holds Tryz.pinned (OpenSpec.ofChange Rows.fnExactCoverNetworkSpec) :=
 OpenClaim.holds_of_wide 3 Tryz.f3 rfl rfl rfl rfl rfl rfl rfl ⟨rfl,rfl,rfl,rfl,rfl⟩ rfl rfl rfl rfl rfl (by kernel_rfl) Tryz.func3 over_j
  (of_decide_eq_true (by kernel_rfl)) (by unfold Func.isWrapper;first|(rw[if_pos (by decide +kernel)];kernel_rfl)|(rw[if_neg (by decide +kernel)];exact⟨rfl,rfl⟩))
  (fun os started H enc _=>lifted os started H enc)
theorem proved:Rows.FnExactCoverNetworkCardSaid :=
 Claim7.holds_tied_plain_at .later [] [.data,.data,.data,.data,.data] true Rows.fnExactCoverNetworkCard.stood.harness false over (fun _ h=>by cases h) (by kernel_rfl) (fun _ h=>by cases h) fnExactCoverNetwork_row_tie rfl ⟨rfl,rfl⟩ (by kernel_rfl) rfl
  (fun f fn hf hfn=>by
   obtain rfl:f=3:=Option.some.inj ((show Tryz.prog.funcNamed "loop.example/g00925/laws.FnExactCoverNetwork" = some 3 by kernel_rfl).symm.trans hf) |>.symm;obtain rfl:fn=Tryz.f3:=(Option.some.inj (Tryz.func3.symm.trans hfn)).symm
   exact⟨by kernel_rfl,fun j t ht=>by
    rw[Tryz.params3] at ht;have hm:t ∈ [24,30,2,2,2]:=by simpa using Array.mem_of_getElem? ht
    have hall:([24,30,2,2,2].all fun u=>!Tryz.prog.wantsStandIn u)=true:=by kernel_rfl
    exact (show Tryz.prog.wantsStandIn t=false by simpa using List.all_eq_true.1 hall t hm)⟩)
  (by kernel_rfl)
#print axioms proved
end Go.Proofs.YtgmapjgodibchaaGreatDoor.fnExactCoverNetwork
