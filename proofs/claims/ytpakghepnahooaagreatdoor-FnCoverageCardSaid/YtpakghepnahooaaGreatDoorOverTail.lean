/- Regions that draw their order: operations that read and callees that only make memory come first, in any order; a tail in one forced order ends the region. Plain lemmas; no program. -/
import Derived.Test.YtpakghepnahooaaGreatDoorOver
import Derived.StillTail
set_option linter.unusedVariables false
set_option linter.unusedSimpArgs false
namespace Go.Proofs.YtpakghepnahooaaGreatDoor
open Go.RowKit
section
variable {P:Program} {ops:Array Oper} {md:Region.Mode} {C:World→Prop} {n:Nat}
def headAny (P:Program) (md:Region.Mode) (ops:Array Oper) (C:World→Prop) (n:Nat) (L:Array Bool→Act→Prop):Nat→Array Bool→Act→Prop
 | 0,done,a=>L done a
 | f+1,done,a=>Region.ready md ops done≠[]∧∀ i ∈ Region.ready md ops done,i<n∧qOp P ops C i (headAny P md ops C n L f (done.setIfInBounds i true)) a
theorem headAny_run {g:Nat} {L:Array Bool→Act→Prop} {Q:Exit→Act→World→Prop} (hL:∀ done a w,C w→L done a→wpAny P md ops Q g done a w) (f:Nat) :
  ∀ (done:Array Bool) (a:Act) (w:World),C w→headAny P md ops C n L f done a→wpAny P md ops Q (f+g) done a w:=by
 induction f with
 | zero=>intro done a w hw h;rw[Nat.zero_add];exact hL done a w hw h
 | succ f ih =>
  intro done a w hw h;rw[Nat.succ_add];refine⟨fun e=>absurd e h.1,fun i hi=>?_⟩;exact wpOp_of_qOp hw (fun a' w' hw' h'=>ih _ a' w' hw' h') (h.2 i hi).2
theorem headAny_first {i:Nat} {oi:Oper} {v:Value} {L:Array Bool→Act→Prop} (hi:ops[i]? = some oi) (hsel:∀ (j:Nat) (o:Oper) cs b,ops[j]? = some o→o.op≠.select cs b)
  (hs:Region.sinkB md ops n=true) (hc:Region.chainB md ops n=true) (hn:n<ops.size) (hin:i<n) (hdone:∀ done a,L done a→∀ j ∈ Region.ready md ops done,n≤j) (f:Nat) :
  ∀ (done:Array Bool) (a:Act),HeadInv md ops n done →
   (∀ j oj,ops[j]? = some oj→j≠i→done.getD j true=false→(∀ e ∈ oj.after,Region.binds md e=true→e.on≠i)→oi.apart ops oj=true) →
   i ∈ Region.ready md ops done→YieldsIn P ops C oi v a→headAny P md ops C n L f (done.setIfInBounds i true) (a.put oi.dst v)→headAny P md ops C n L (f+1) done a:=by
 induction f with
 | zero =>
  intro done a inv _ hr hy H;refine⟨List.ne_nil_of_mem hr,fun j hj=>?_⟩;have hjn:j<n:=Nat.lt_of_not_le fun h=>tail_waits hs hc hn inv _ i rfl hin (mem_ready.1 hr).1 j h hj
  refine⟨hjn,?_⟩
  by_cases e:j=i
  ·cases e;exact hy.qOp hi H
  ·exact absurd (hdone _ _ H j (ready_mono hj e)) II
 | succ f ih =>
  intro done a inv hfree hr hy H;refine⟨List.ne_nil_of_mem hr,fun j hj=>?_⟩;have hun:=(mem_ready.1 hr).1;have hjn:j<n:=Nat.lt_of_not_le fun h=>tail_waits hs hc hn inv _ i rfl hin hun j h hj
  refine⟨hjn,?_⟩
  by_cases e:j=i
  ·cases e;exact hy.qOp hi H
  ·obtain⟨hjun,oj,hoj,hall⟩:=mem_ready.1 hj
   have hno:∀ e ∈ oj.after,Region.binds md e=true→e.on≠i:=fun e he hb heq=>by
    have h1:=hall e he hb;rw[heq,getD_both hun] at h1
    cases h1
   have hput:=qOp_put hoj (hfree j oj hoj e hjun hno) (fun cs b=>hsel i oi cs b hi) (fun cs b=>hsel j oj cs b hoj) hy (H.2 j (ready_mono hj e)).2;refine qOp_mono (fun a' h3=>ih (done.setIfInBounds j true) a' (inv.set hj hjn) (fun k ok hk hki hku hkn=>?_) (ready_mono hr (Ne.symm e)) h3.1 ?_) hput
   ·refine hfree k ok hk hki ?_ hkn
    by_cases ejk:j=k
    ·cases ejk;exact hjun
    ·rwa [getD_set_ne true ejk] at hku
   ·rw[Array.setIfInBounds_comm _ _ e];exact h3.2
theorem headAny_lex {g:Nat} {q:Act→Prop} (hsel:Region.noSelect ops=true) (hs:Region.sinkB md ops n=true) (hc:Region.chainB md ops n=true) (hn:n<ops.size) (l:List Oper) :
  ∀ (k:Nat) (done:Array Bool) (a:Act),(∀ j,j<l.length→l[j]? = ops[k+j]?)→k+l.length=n→HeadInv md ops n done→Region.lexHead md ops g l.length k done=true→wpQuiet P ops C q l a →
   headAny P md ops C n (fun done' a'=>Region.seqB md ops g n done' = true∧q a') l.length done a:=by
 induction l with
 | nil =>
  intro k done a _ hk _ hB h;obtain rfl:k=n:=by simpa using hk
  exact⟨by simpa [Region.lexHead] using hB,h⟩
 | cons o l ih =>
  intro k done a hl hk inv hB h;have h0:ops[k]? = some o:=by simpa using (hl 0 Q4b).symm
  simp only[List.length_cons,Region.lexHead,Bool.and_eq_true] at hB hk;have hr:k ∈ Region.ready md ops done:=by simpa using hB.1.1
  have hq:qOp P ops C k (wpQuiet P ops C q l) a:=by unfold qOp;simp only[h0];exact h
  obtain⟨v,hy,hK⟩:=yieldsIn_of_qOp h0 hq;refine headAny_first h0 (Region.noSelect_spec hsel) hs hc hn II (fun d a' hL=>seqB_ready hL.1) l.length done a inv (Region.free_spec h0 hB.1.2) hr hy ?_;refine ih (k+1) _ _ (fun j hj=>?_) II (inv.set hr II) hB.2 hK;have:=hl (j+1) Q42
  simpa [Nat.add_assoc,Nat.add_comm 1 j] using this
end
theorem wp_region_over_tail {P:Program} {id:Nat} {Q:Exit→Act→World→Prop} {a:Act} {w:World} {l:List Oper} (n B:Nat) (w0:World) (hb:OI B w0 w) (hm:P.follows .mixedOrders=true) (hB:Region.lexTailB .any l.toArray n=true)
  (h:wpQuiet P l.toArray (fun W=>∃ X,W=over B w0 X) (fun a'=>∀ X,wpList P l.toArray Q (l.drop n) a' (over B w0 X)) (l.take n) a):(Code.region id l.toArray true).wp P Q a w:=by
 simp only[Region.lexTailB,Bool.and_eq_true,decide_eq_true_eq] at hB;obtain⟨⟨⟨⟨hsel,hn⟩,hs⟩,hc⟩,hlex⟩:=hB;have hn2:n≤l.length:=Nat.le_of_lt (by simpa using hn);have htl:(l.take n).length=n:=by rw[List.length_take];omega
 have hdl:(l.drop n).length=l.toArray.size-n:=by simp
 have inv:HeadInv .any l.toArray n (Array.replicate l.toArray.size false) :=
  ⟨by simp,(fun j oj _ hj=>by rw[getD_replicate_false] at hj;cases hj),fun t _ ht=>getD_in (by simpa using ht) (getD_replicate_false _ _)⟩
 have H:=headAny_lex (md:=.any) (g:=l.toArray.size-n) (C:=fun W=>∃ X,W=over B w0 X) hsel hs hc hn (l.take n) 0 _ a (fun j hj=>by
  rw[htl] at hj
  simp[hj]) (by rw[htl];omega) inv (by rw[htl];exact hlex) h
 refine wp_region_any hm ?_
 have R:=headAny_run (Q:=Q) (g:=l.toArray.size-n) (fun done a' w' hw hL=>by
  obtain⟨X,rfl⟩:=hw;have:=wpAny_of_seq (md:=.any) (Q':=Q) (l.drop n) n done a' (over B w0 X) (fun j=>by simp[List.getElem?_drop]) (by rw[hdl];exact hL.1) (hL.2 X)
  rwa [hdl] at this) _ _ _ w.drew ⟨w.drew,(over_self hb.drew).symm⟩ H
 rw[htl,show n+(l.toArray.size-n)=l.toArray.size by simp<;>omega] at R;exact R
end Go.Proofs.YtpakghepnahooaaGreatDoor
