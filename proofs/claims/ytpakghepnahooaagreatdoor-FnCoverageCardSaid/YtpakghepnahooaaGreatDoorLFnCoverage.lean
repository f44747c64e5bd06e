/- Proved here: the law FnCoverage returns true for every input, and each argument reads afterwards as before. The row, and the card that ties the library's tables to the program's text. No condition of ours. -/
import Derived.Test.YtpakghepnahooaaGreatDoorCards
import Derived.Test.YtpakghepnahooaaGreatDoorTie
import Derived.Test.YtpakghepnahooaaGreatDoorLayT
import Derived.Test.YtpakghepnahooaaGreatDoorWFnCoverage
import Derived.SevenTiedAt
set_option linter.unusedVariables false
set_option linter.unusedSimpArgs false
namespace Go.Proofs.YtpakghepnahooaaGreatDoor.fnCoverage
open Go.ChangeShapes Go.WideShapes Go.ChangeAt Go.RowKit
open Go.ChangeMaps (open_string shut_string)
set_option maxRecDepth 100000
theorem own:ownKnob Tryz.prog.godebug=none:=by kernel_rfl
theorem laidOut:laidOutB Tryz.prog=true:=by kernel_rfl
theorem read0:Tryz.prog.readableRec 22=true:=by kernel_rfl
theorem small0:22<Tryz.prog.types.size:=of_decide_eq_true (by kernel_rfl)
theorem flat0:flatTy Tryz.prog 8 22=some [.sl [.byte]]:=by kernel_rfl
theorem lifted (os:Os) (started:os.Started) (H:Type) (enc:TypeId × Value→H) :
  ReturnsInHanded {} Tryz.checked os 3 .any (fun w args=>(Rows.fnCoverageSpec.pre enc Tryz.prog Tryz.f3 Rows.fnCoverageRow.domain false w args∧laidMetH Tryz.prog laidL w)∧sizedMet enc Tryz.prog Tryz.f3 (OpenSpec.ofChange Rows.fnCoverageSpec) false w args)
   (Rows.fnCoverageSpec.post enc Tryz.prog Tryz.f3 false true false false):=by
 refine returns_and_shaped (C:=Tryz.checked) (X:=fun w _=>laidMetH Tryz.prog laidL w) (fun _ _ _ hh h=>h.of_heap hh) own started (by kernel_rfl) Tryz.func3
  (ChangeSpec.witness_shaped (enc:=enc) (C:=Tryz.checked) (os:=os) (X:=fun w _=>laidMetH Tryz.prog laidL w) false (World.laidAll Tryz.prog os laidL) #[.slice none 0 0] 8 (World.laidAll_os _ _ _)
   (World.shaped_of_ZipB (by kernel_rfl) (by kernel_rfl)) (by kernel_rfl) (by kernel_rfl) (by kernel_rfl)
   (by rw[MakeChecks.laidMetH_plain _ _ _ plainL];exact laidMet_laidAll _ (by kernel_rfl) (by kernel_rfl))) ?_
 intro W base args ds gs before hval0 hW hsh hL;have hval:∀ (j:Nat) t v,Tryz.f3.params[j]? = some t→args[j]? = some v→Value.okWide Tryz.prog W .any base t v:=hval0;have hW':=hW;have hlt:=fun p hp=>hW.lt p hp
 obtain⟨p,q,hA0,hV,rfl,hfz,hnd⟩:=hW;have hA:DataW.TrodAll enc Tryz.prog W 0 (fun _=>true) true Tryz.f3.params.toList args.toList ds p:=hA0;rw[Tryz.params3] at hA hval;obtain⟨v0,vs0,d0,ds0,p0,q0,hargs,rfl,rfl,h0,r0⟩:=trodAll_cons hA;obtain⟨rfl,rfl,rfl⟩:=trodAll_nil r0;obtain rfl:args=#[v0]:=by cases args;simp_all
 obtain⟨_,_,_,_,dx0,_,_,_,_,_,dx1,_,hgs,_⟩:=trodVars_two hV;subst hgs;clear hA0 hval0;have ho0:=hval 0 22 v0 rfl rfl;have ht0:=h0;obtain⟨a0,len0,cap0,rfl⟩:=okWide_slice Tryz.underlying22 ho0;obtain⟨fu0,hf0⟩:=h0;obtain⟨ts0,fp0,rp0,ft0,lt0⟩:=open_flat 8 _ _ flat0 _ _ _ hf0;obtain⟨t0,e0,rfl,f0,g0⟩:=zc8.1 ft0;rw[zdx] at g0;subst g0;obtain⟨n0,rfl⟩:=fit_bytes f0;obtain⟨fa0,fb0,ra0,rb0,rfl⟩:=rp0;have rd0:Rd W.heap.size W (bsT n0) (.slice a0 len0 cap0):=⟨fa0,ra0,fun b hb=>lt0 b (by simp[hb])⟩
 simp only[List.append_nil] at hW' hlt;refine (walk n0 _ W (libW_of hsh hL) rd0 ).mono fun e W' ⟨he,hb⟩=>?_
 subst he;refine⟨_,rfl,post_of_below (pa:=(p0++[])) (pv:=q) hW' (fun _ _ _=>(trodAll_cons_mk (shut_bool Tryz.underlying4 _) trodAll_mk0)) (fun sp hsp=>?_) (fun sp hsp=>trodVars_kept laidOut hb sp (by kernel_rfl) hV (fun x hx=>hsp x (by simp[hx]))) (by simp) hb (ok_one (by kernel_rfl) rfl (okWide_bool_mk Tryz.underlying4 _))⟩;exact (trodAll_cons_mk (WideElems.Trod_stays laidOut read0 small0 ht0 (fun x hx=>hb.same (hlt x (by simp[hx]))) (fun x hx=>hsp x (by simp[hx]))) trodAll_mk0)
theorem over:Rows.fnCoverageRow.holds Tryz.pinned (OpenSpec.ofChange Rows.fnCoverageSpec) :=
 OpenClaim.holds_of_wide 3 Tryz.f3 rfl rfl rfl rfl rfl rfl rfl ⟨rfl,rfl,rfl,rfl,rfl⟩ rfl rfl rfl rfl rfl (by kernel_rfl) Tryz.func3 (by kernel_rfl)
  (of_decide_eq_true (by kernel_rfl)) (by unfold Func.isWrapper;first|(rw[if_pos (by decide +kernel)];kernel_rfl)|(rw[if_neg (by decide +kernel)];exact⟨rfl,rfl⟩))
  (fun os started H enc _=>lifted os started H enc)
theorem proved:Rows.FnCoverageCardSaid :=
 Claim7.holds_tied_plain_at .later [] [.data,.data,.data,.data,.data] true Rows.fnCoverageCard.stood.harness false over (fun _ h=>by cases h) (by kernel_rfl) (fun _ h=>by cases h) fnCoverage_row_tie rfl ⟨rfl,rfl⟩ (by kernel_rfl) rfl
  (fun f fn hf hfn=>by
   obtain rfl:f=3:=Option.some.inj ((show Tryz.prog.funcNamed "loop.example/g00925/laws.FnCoverage" = some 3 by kernel_rfl).symm.trans hf) |>.symm;obtain rfl:fn=Tryz.f3:=(Option.some.inj (Tryz.func3.symm.trans hfn)).symm
   exact⟨by kernel_rfl,fun j t ht=>by
    rw[Tryz.params3] at ht;have hm:t ∈ [22]:=by simpa using Array.mem_of_getElem? ht
    have hall:([22].all fun u=>!Tryz.prog.wantsStandIn u)=true:=by kernel_rfl
    exact (show Tryz.prog.wantsStandIn t=false by simpa using List.all_eq_true.1 hall t hm)⟩)
  (by kernel_rfl)
#print axioms proved
end Go.Proofs.YtpakghepnahooaaGreatDoor.fnCoverage
