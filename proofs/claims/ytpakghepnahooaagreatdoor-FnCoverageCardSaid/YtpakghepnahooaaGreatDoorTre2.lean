/- Regions that draw their order, continued: a condition on the world that holds until one operation (a store) has come up; what reads memory waits for none of its kind behind it. Plain lemmas; no program. -/
import Derived.Test.YtpakghepnahooaaGreatDoorOver
import Derived.StillTail
import Derived.Deep.RegionHeld3
set_option linter.unusedVariables false
set_option linter.unusedSimpArgs false
namespace Go.Proofs.YtpakghepnahooaaGreatDoor
open Go.RowKit
theorem Q43 {p:Prop} (h:p:=by rw[hr];simp):p:=h
theorem Q19 {p:Prop} (h:p:=by
 refine wp_region_any hm ?_
 have R:=headK_run (Q:=Q) (g:=l.toArray.size-n) (fun done a' w' hL=>by
  have:=wpAny_of_seq (md:=.any) (Q':=Q) (l.drop n) n done a' w' (fun j=>by simp[List.getElem?_drop]) (by rw[hdl];exact hL.1) hL.2
  rwa [hdl] at this) _ _ _ w.drew H
 rw[hrl,show n+(l.toArray.size-n)=l.toArray.size by omega] at R
 exact R):p:=h
theorem Q1g {p:Prop} (h:p:=by
 induction f with
 | zero=>intro done a w h;rw[Nat.zero_add];exact hL done a w h
 | succ f ih =>
  intro done a w h;rw[Nat.succ_add];exact⟨fun e=>absurd e h.1,fun i hi=>wpOp_mono (fun a' w' h'=>ih _ a' w' h'.2) (h.2 i hi).2⟩):p:=h
theorem Q1h {p:Prop} (h:p:=by
 obtain⟨o,ho,h⟩:=h
 have ho':l.toArray[i]? = some o:=by simpa using ho
 unfold zbt at hg
 rw[ho'] at hg
 unfold wpOp
 simp only[ho']
 rw[if_pos (zdk hg _)]
 exact Or.inl (Oper.wp_mono (fun a' w' h'=>hK a' w' h'.1 h'.2) h)):p:=h
section
variable {P:Program} {ops:Array Oper} {md:Region.Mode} {S:World→Prop} {Q:Exit→Act→World→Prop} {n:Nat}
def headK (P:Program) (md:Region.Mode) (ops:Array Oper) (Q:Exit→Act→World→Prop) (S:World→Prop) (n:Nat) (L:Array Bool→Act→World→Prop):Nat→Array Bool→Act→World→Prop
 | 0,done,a,w=>L done a w
 | f+1,done,a,w=>Region.ready md ops done≠[]∧∀ i ∈ Region.ready md ops done,i<n∧wpOp P ops Q i (fun a' w'=>S w'∧headK P md ops Q S n L f (done.setIfInBounds i true) a' w') a w
theorem headK_run {g:Nat} {L:Array Bool→Act→World→Prop} (hL:∀ done a w,L done a w→wpAny P md ops Q g done a w) (f:Nat) :
  ∀ (done:Array Bool) (a:Act) (w:World),headK P md ops Q S n L f done a w→wpAny P md ops Q (f+g) done a w:=by
 exact Q1g
def TailOk (md:Region.Mode) (ops:Array Oper) (n:Nat):Prop:=n=ops.size∨(n<ops.size∧Region.sinkB md ops n=true∧Region.chainB md ops n=true)
theorem TailOk.lt (h:TailOk md ops n) {done:Array Bool} (inv:HeadInv md ops n done) {i j:Nat} (hi:i<n) (hun:done.getD i true=false) (hj:j ∈ Region.ready md ops done):j<n:=by
 rcases h with rfl|⟨hn,hs,hc⟩
 ·obtain⟨_,oj,hoj,_⟩:=mem_ready.1 hj
  exact (Array.getElem?_eq_some_iff.1 hoj).1
 ·exact Nat.lt_of_not_le fun h=>tail_waits hs hc hn inv _ i rfl hi hun j h hj
theorem headK_first {i:Nat} {oi:Oper} {v:Value} {L:Array Bool→Act→World→Prop} (hi:ops[i]? = some oi) (hsel:∀ (j:Nat) (o:Oper) cs b,ops[j]? = some o→o.op≠.select cs b)
  (ht:TailOk md ops n) (hin:i<n) (hQ:∀ c a w,Q (.panic c) (a.put oi.dst v) w→Q (.panic c) a w) (hdone:∀ done a w,L done a w→∀ j ∈ Region.ready md ops done,n≤j) (f:Nat) :
  ∀ (done:Array Bool) (a:Act) (w:World),HeadInv md ops n done →
   (∀ j oj,ops[j]? = some oj→j≠i→done.getD j true=false→(∀ e ∈ oj.after,Region.binds md e=true→e.on≠i)→oi.apart ops oj=true) →
   i ∈ Region.ready md ops done→YieldsIf P ops S oi v a→S w→headK P md ops Q S n L f (done.setIfInBounds i true) (a.put oi.dst v) w→headK P md ops Q S n L (f+1) done a w:=by
 induction f with
 | zero =>
  intro done a w inv _ hr hy hS H;refine⟨List.ne_nil_of_mem hr,fun j hj=>?_⟩;have hjn:=ht.lt inv hin (mem_ready.1 hr).1 hj;refine⟨hjn,?_⟩
  by_cases e:j=i
  ·cases e;exact hy.wpOp hi hS ⟨hS,H⟩
  ·exact absurd (hdone _ _ _ H j (ready_mono hj e)) II
 | succ f ih =>
  intro done a w inv hfree hr hy hS H;refine⟨List.ne_nil_of_mem hr,fun j hj=>?_⟩;have hun:=(mem_ready.1 hr).1;have hjn:=ht.lt inv hin hun hj;refine⟨hjn,?_⟩
  by_cases e:j=i
  ·cases e;exact hy.wpOp hi hS ⟨hS,H⟩
  ·obtain⟨hjun,oj,hoj,hall⟩:=mem_ready.1 hj
   have hno:∀ e ∈ oj.after,Region.binds md e=true→e.on≠i:=fun e he hb heq=>by
    have h1:=hall e he hb;rw[heq,getD_both hun] at h1
    cases h1
   have hput:=wpOp_putIf hoj (hfree j oj hoj e hjun hno) (fun cs b=>hsel i oi cs b hi) (fun cs b=>hsel j oj cs b hoj) hQ hy (H.2 j (ready_mono hj e)).2;refine wpOp_mono (fun a' w' h3=>⟨h3.2.1,ih (done.setIfInBounds j true) a' w' (inv.set hj hjn) (fun k ok hk hki hku hkn=>?_) (ready_mono hr (Ne.symm e)) h3.1 h3.2.1 ?_⟩) hput
   ·refine hfree k ok hk hki ?_ hkn
    by_cases ejk:j=k
    ·cases ejk;exact hjun
    ·rwa [getD_set_ne true ejk] at hku
   ·rw[Array.setIfInBounds_comm _ _ e];exact h3.2.2
def wpOrd (P:Program) (ops:List Oper) (S:World→Prop) (Q:Exit→Act→World→Prop) (q:Act→World→Prop):List (Nat × Bool)→Act→World→Prop
 | [],a,w=>q a w
 | (i,true)::r,a,w=>∃ o v,ops[i]? = some o∧(∀ c a w,Q (.panic c) (Act.put a o.dst v) w→Q (.panic c) a w)∧(∀ W,S W→(execOp a.eval o).run P W=.ok (.value v) W)∧wpOrd P ops S Q q r (a.put o.dst v) w
 | (i,false)::r,a,w=>∃ o,ops[i]? = some o∧o.wp P a w (fun a' w'=>S w'∧wpOrd P ops S Q q r a' w') Q
theorem zcp {ops:List Oper} {q:Act→World→Prop} {a:Act} {w:World} (h:q a w):wpOrd P ops S Q q [] a w:=h
theorem zaj {ops:List Oper} {q:Act→World→Prop} {i:Nat} {r:List (Nat × Bool)} {a:Act} {w:World} {o:Oper} {v:Value} (ho:ops[i]? = some o) (hQ:∀ c a w,Q (.panic c) (Act.put a o.dst v) w→Q (.panic c) a w)
  (hy:∀ W,S W→(execOp a.eval o).run P W=.ok (.value v) W) (h:wpOrd P ops S Q q r (a.put o.dst v) w):wpOrd P ops S Q q ((i,true)::r) a w:=⟨o,v,ho,hQ,hy,h⟩
theorem zbd {ops:List Oper} {q:Act→World→Prop} {i:Nat} {r:List (Nat × Bool)} {a:Act} {w:World} {o:Oper} (ho:ops[i]? = some o)
  (h:∀ K:Act→World→Prop,Shut (∀ a w,S w→wpOrd P ops S Q q r a w→K a w)→o.wp P a w K Q):wpOrd P ops S Q q ((i,false)::r) a w:=⟨o,ho,h _ (fun a w hS h=>⟨hS,h⟩)⟩
def ordB (md:Region.Mode) (ops:Array Oper) (n g:Nat):List (Nat × Bool)→Array Bool→Bool
 | [],done=>Region.seqB md ops g n done
 | (i,p)::r,done=>decide (i<n)&&(match ops[i]? with|some o=>o.guard.isNone|none=>false)&&(if p then (Region.ready md ops done).contains i&&Region.free md ops done i else decide (Region.ready md ops done = [i]))&&ordB md ops n g r (done.setIfInBounds i true)
theorem zdk {o:Oper} (h:o.guard.isNone=true) (y:Nat→Option Bool):Region.wanted o y=true:=by
 unfold Region.wanted
 cases hg:o.guard with
 | none=>rfl
 | some g=>rw[hg] at h;cases h
end
theorem headK_ord {P:Program} {md:Region.Mode} {S:World→Prop} {Q:Exit→Act→World→Prop} {n:Nat} {l:List Oper} {g:Nat} {q:Act→World→Prop} (hsel:Region.noSelect l.toArray=true) (ht:TailOk md l.toArray n) (r:List (Nat × Bool)) :
  ∀ (done:Array Bool) (a:Act) (w:World),HeadInv md l.toArray n done→S w→ordB md l.toArray n g r done=true→(g=0→n=l.toArray.size)→wpOrd P l S Q q r a w →
   headK P md l.toArray Q S n (fun done' a' w'=>Region.seqB md l.toArray g n done' = true∧q a' w') r.length done a w:=by
 induction r with
 | nil=>intro done a w _ _ hB _ h;exact⟨by simpa [ordB] using hB,h⟩
 | cons x r ih =>
  obtain⟨i,p⟩:=x;intro done a w inv hS hB hg h;simp only[ordB,Bool.and_eq_true,decide_eq_true_eq] at hB;obtain⟨⟨⟨hin,hgd⟩,hp⟩,hrest⟩:=hB;have hdone:∀ (d:Array Bool) (a:Act) (w:World),(Region.seqB md l.toArray g n d=true∧q a w)→∀ j ∈ Region.ready md l.toArray d,n≤j:=by
   intro d a w hd j hj
   cases g with
   | zero =>
    have:=hd.1;simp only[Region.seqB,List.isEmpty_iff] at this;rw[this] at hj
    cases hj
   | succ g=>exact seqB_ready hd.1 j hj
  cases p with
  | true =>
   obtain⟨o,v,ho,hQ,hy,h⟩:=h;have ho':l.toArray[i]? = some o:=by simpa using ho
   rw[ho'] at hgd;simp only[if_true,Bool.and_eq_true] at hp;have hr:i ∈ Region.ready md l.toArray done:=by simpa using hp.1
   refine headK_first ho' (Region.noSelect_spec hsel) ht hin hQ hdone r.length done a w inv (Region.free_spec ho' hp.2) hr (Or.inl ⟨zdk hgd _,hy⟩) hS ?_;exact ih _ _ _ (inv.set hr hin) hS hrest hg h
  | false =>
   obtain⟨o,ho,h⟩:=h;have ho':l.toArray[i]? = some o:=by simpa using ho
   rw[ho'] at hgd;have hr:Region.ready md l.toArray done = [i]:=by simpa using hp
   refine⟨by rw[hr];simp,fun j hj=>?_⟩;rw[hr] at hj;obtain rfl:j=i:=by simpa using hj
   refine⟨hin,?_⟩;unfold wpOp;simp only[ho'];rw[if_pos (zdk hgd _)];refine Or.inl (Oper.wp_mono (fun a' w' h'=>⟨h'.1,ih _ _ _ (inv.set Q43 hin) h'.1 hrest hg h'.2⟩) h)
def ordTailB (md:Region.Mode) (ops:Array Oper) (n:Nat) (r:List (Nat × Bool)):Bool :=
 Region.noSelect ops&&(decide (n=ops.size) || (decide (n<ops.size)&&(Region.sinkB md ops n&&Region.chainB md ops n)))&&(decide (r.length=n)&&ordB md ops n (ops.size-n) r (Array.replicate ops.size false))
theorem zbj {P:Program} {id:Nat} {Q:Exit→Act→World→Prop} {a:Act} {w:World} {l:List Oper} (n:Nat) (r:List (Nat × Bool)) (S:World→Prop) (hm:P.follows .mixedOrders=true) (hB:ordTailB .any l.toArray n r=true) (hS:S w.drew)
  (h:S w.drew→wpOrd P l S Q (fun a' w'=>wpList P l.toArray Q (l.drop n) a' w') r a w.drew):(Code.region id l.toArray true).wp P Q a w:=by
 simp only[ordTailB,Bool.and_eq_true,Bool.or_eq_true,decide_eq_true_eq] at hB;obtain⟨⟨hsel,ht⟩,hrl,hord⟩:=hB;have hn:n≤l.toArray.size:=by rcases ht with h|h<;>omega
 have ht':TailOk .any l.toArray n:=by
  rcases ht with h|⟨h1,h2,h3⟩
  ·exact Or.inl h
  ·exact Or.inr ⟨h1,h2,h3⟩
 have hdl:(l.drop n).length=l.toArray.size-n:=by simp
 have inv:HeadInv .any l.toArray n (Array.replicate l.toArray.size false) :=
  ⟨by simp,(fun j oj _ hj=>by rw[getD_replicate_false] at hj;cases hj),fun t _ ht=>getD_in (by simpa using ht) (getD_replicate_false _ _)⟩
 have H:=headK_ord (g:=l.toArray.size-n) hsel ht' r _ a w.drew inv hS hord II (h hS);exact Q19
end Go.Proofs.YtpakghepnahooaaGreatDoor
namespace Go.Proofs.YtpakghepnahooaaGreatDoor
open Go.RowKit
inductive OT where
 | nil
 | read (i:Nat) (t:OT)
 | one (i:Nat) (t:OT)
 | two (i j:Nat) (t u:OT)
 | three (i j k:Nat) (t u v:OT)
def OT.size:OT→Nat
 | .nil=>0
 | .read _ t=>t.size+1
 | .one _ t=>t.size+1
 | .two _ _ t _=>t.size+1
 | .three _ _ _ t _ _=>t.size+1
section
variable {P:Program} {md:Region.Mode} {S:World→Prop} {Q:Exit→Act→World→Prop} {q:Act→World→Prop}
def zdz (P:Program) (ops:List Oper) (S:World→Prop) (Q:Exit→Act→World→Prop) (q:Act→World→Prop):OT→Act→World→Prop
 | .nil,a,w=>q a w
 | .read i t,a,w=>∃ o v,ops[i]? = some o∧(∀ c a w,Q (.panic c) (Act.put a o.dst v) w→Q (.panic c) a w)∧(∀ W,S W→(execOp a.eval o).run P W=.ok (.value v) W)∧zdz P ops S Q q t (a.put o.dst v) w
 | .one i t,a,w=>∃ o,ops[i]? = some o∧o.wp P a w (fun a' w'=>S w'∧zdz P ops S Q q t a' w') Q
 | .two i j t u,a,w=>(∃ o,ops[i]? = some o∧o.wp P a w (fun a' w'=>S w'∧zdz P ops S Q q t a' w') Q)∧(∃ o,ops[j]? = some o∧o.wp P a w (fun a' w'=>S w'∧zdz P ops S Q q u a' w') Q)
 | .three i j k t u v,a,w=>(∃ o,ops[i]? = some o∧o.wp P a w (fun a' w'=>S w'∧zdz P ops S Q q t a' w') Q)∧(∃ o,ops[j]? = some o∧o.wp P a w (fun a' w'=>S w'∧zdz P ops S Q q u a' w') Q)∧(∃ o,ops[k]? = some o∧o.wp P a w (fun a' w'=>S w'∧zdz P ops S Q q v a' w') Q)
def zbt (ops:Array Oper) (i:Nat):Bool:=match ops[i]? with|some o=>o.guard.isNone|none=>false
def treeB (md:Region.Mode) (ops:Array Oper) (n g:Nat):OT→Array Bool→Bool
 | .nil,done=>Region.seqB md ops g n done
 | .read i t,done=>decide (i<n)&&zbt ops i&&((Region.ready md ops done).contains i&&Region.free md ops done i)&&treeB md ops n g t (done.setIfInBounds i true)
 | .one i t,done=>decide (i<n)&&zbt ops i&&decide (Region.ready md ops done = [i])&&treeB md ops n g t (done.setIfInBounds i true)
 | .two i j t u,done=>decide (i<n∧j<n)&&(zbt ops i&&zbt ops j)&&decide (Region.ready md ops done = [i,j])&&(treeB md ops n g t (done.setIfInBounds i true)&&treeB md ops n g u (done.setIfInBounds j true)&&decide (t.size=u.size))
 | .three i j k t u v,done=>decide (i<n∧j<n∧k<n)&&(zbt ops i&&zbt ops j&&zbt ops k)&&decide (Region.ready md ops done = [i,j,k])&&(treeB md ops n g t (done.setIfInBounds i true)&&treeB md ops n g u (done.setIfInBounds j true)&&treeB md ops n g v (done.setIfInBounds k true)&&decide (t.size=u.size∧t.size=v.size))
variable {ops:List Oper} {a:Act} {w:World}
theorem zat (h:q a w):zdz P ops S Q q .nil a w:=h
theorem zak {i:Nat} {t:OT} {o:Oper} {v:Value} (ho:ops[i]? = some o) (hQ:∀ c a w,Q (.panic c) (Act.put a o.dst v) w→Q (.panic c) a w)
  (hy:∀ W,S W→(execOp a.eval o).run P W=.ok (.value v) W) (h:zdz P ops S Q q t (a.put o.dst v) w):zdz P ops S Q q (.read i t) a w:=⟨o,v,ho,hQ,hy,h⟩
def stepT (P:Program) (ops:List Oper) (S:World→Prop) (Q:Exit→Act→World→Prop) (q:Act→World→Prop) (i:Nat) (t:OT) (a:Act) (w:World):Prop:=∃ o,ops[i]? = some o∧o.wp P a w (fun a' w'=>S w'∧zdz P ops S Q q t a' w') Q
theorem zae {i:Nat} {t:OT} {o:Oper} (ho:ops[i]? = some o) (h:∀ K:Act→World→Prop,Shut (∀ a w,S w→zdz P ops S Q q t a w→K a w)→o.wp P a w K Q):stepT P ops S Q q i t a w:=⟨o,ho,h _ (fun a w hS h=>⟨hS,h⟩)⟩
theorem zaf {i:Nat} {t:OT} (h:stepT P ops S Q q i t a w):zdz P ops S Q q (.one i t) a w:=h
theorem zbv {i j:Nat} {t u:OT} (h:stepT P ops S Q q i t a w) (h2:stepT P ops S Q q j u a w):zdz P ops S Q q (.two i j t u) a w:=⟨h,h2⟩
theorem wpTree_three {i j k:Nat} {t u v:OT} (h:stepT P ops S Q q i t a w) (h2:stepT P ops S Q q j u a w) (h3:stepT P ops S Q q k v a w):zdz P ops S Q q (.three i j k t u v) a w:=⟨h,h2,h3⟩
end
theorem zc9 {P:Program} {md:Region.Mode} {S:World→Prop} {Q:Exit→Act→World→Prop} {q:Act→World→Prop} {l:List Oper} {i:Nat} {t:OT} {a:Act} {w:World} {K:Act→World→Prop} (h:stepT P l S Q q i t a w) (hg:zbt l.toArray i=true)
  (hK:∀ a w,S w→zdz P l S Q q t a w→S w∧K a w):wpOp P l.toArray Q i (fun a' w'=>S w'∧K a' w') a w:=by
 exact Q1h
theorem headK_tree {P:Program} {md:Region.Mode} {S:World→Prop} {Q:Exit→Act→World→Prop} {n:Nat} {l:List Oper} {g:Nat} {q:Act→World→Prop} (hsel:Region.noSelect l.toArray=true) (ht:TailOk md l.toArray n) (hg:g=0→n=l.toArray.size) (r:OT) :
  ∀ (done:Array Bool) (a:Act) (w:World),HeadInv md l.toArray n done→S w→treeB md l.toArray n g r done=true→zdz P l S Q q r a w →
   headK P md l.toArray Q S n (fun done' a' w'=>Region.seqB md l.toArray g n done' = true∧q a' w') r.size done a w:=by
 have hdone:∀ (d:Array Bool) (a:Act) (w:World),(Region.seqB md l.toArray g n d=true∧q a w)→∀ j ∈ Region.ready md l.toArray d,n≤j:=by
  intro d a w hd j hj
  cases g with
  | zero =>
   have:=hd.1;simp only[Region.seqB,List.isEmpty_iff] at this;rw[this] at hj
   cases hj
  | succ g=>exact seqB_ready hd.1 j hj
 induction r with
 | nil=>intro done a w _ _ hB h;exact⟨by simpa [treeB] using hB,h⟩
 | read i t ih =>
  intro done a w inv hS hB h;simp only[treeB,Bool.and_eq_true,decide_eq_true_eq] at hB;obtain⟨⟨⟨hin,hgd⟩,hr,hfree⟩,hrest⟩:=hB;obtain⟨o,v,ho,hQ,hy,h⟩:=h;have ho':l.toArray[i]? = some o:=by simpa using ho
  unfold zbt at hgd;rw[ho'] at hgd;have hr:i ∈ Region.ready md l.toArray done:=by simpa using hr
  exact headK_first ho' (Region.noSelect_spec hsel) ht hin hQ hdone t.size done a w inv (Region.free_spec ho' hfree) hr (Or.inl ⟨zdk hgd _,hy⟩) hS (ih _ _ _ (inv.set hr hin) hS hrest h)
 | one i t ih =>
  intro done a w inv hS hB h;simp only[treeB,Bool.and_eq_true,decide_eq_true_eq] at hB;obtain⟨⟨⟨hin,hgd⟩,hr⟩,hrest⟩:=hB;refine⟨by rw[hr];simp,fun x hx=>?_⟩;rw[hr] at hx;obtain rfl:x=i:=by simpa using hx
  exact⟨hin,zc9 (md:=md) h hgd (fun a' w' h1 h2=>⟨h1,ih _ _ _ (inv.set Q43 hin) h1 hrest h2⟩)⟩
 | two i j t u ih ih2 =>
  intro done a w inv hS hB h;simp only[treeB,Bool.and_eq_true,decide_eq_true_eq] at hB;obtain⟨⟨⟨⟨hin,hjn⟩,hgd,hgd2⟩,hr⟩,⟨hrest,hrest2⟩,hsz⟩:=hB;refine⟨by rw[hr];simp,fun x hx=>?_⟩;rw[hr] at hx;simp only[List.mem_cons,List.not_mem_nil,or_false] at hx
  rcases hx with rfl|rfl
  ·exact⟨hin,zc9 (md:=md) h.1 hgd (fun a' w' h1 h2=>⟨h1,ih _ _ _ (inv.set Q43 hin) h1 hrest h2⟩)⟩
  ·exact⟨hjn,zc9 (md:=md) h.2 hgd2 (fun a' w' h1 h2=>⟨h1,hsz ▸ ih2 _ _ _ (inv.set Q43 hjn) h1 hrest2 h2⟩)⟩
 | three i j k t u v ih ih2 ih3 =>
  intro done a w inv hS hB h;simp only[treeB,Bool.and_eq_true,decide_eq_true_eq] at hB;obtain⟨⟨⟨⟨hin,hjn,hkn⟩,⟨hgd,hgd2⟩,hgd3⟩,hr⟩,⟨⟨hrest,hrest2⟩,hrest3⟩,hsz,hsz2⟩:=hB;refine⟨by rw[hr];simp,fun x hx=>?_⟩;rw[hr] at hx;simp only[List.mem_cons,List.not_mem_nil,or_false] at hx
  rcases hx with rfl|rfl|rfl
  ·exact⟨hin,zc9 (md:=md) h.1 hgd (fun a' w' h1 h2=>⟨h1,ih _ _ _ (inv.set Q43 hin) h1 hrest h2⟩)⟩
  ·exact⟨hjn,zc9 (md:=md) h.2.1 hgd2 (fun a' w' h1 h2=>⟨h1,hsz ▸ ih2 _ _ _ (inv.set Q43 hjn) h1 hrest2 h2⟩)⟩
  ·exact⟨hkn,zc9 (md:=md) h.2.2 hgd3 (fun a' w' h1 h2=>⟨h1,hsz2 ▸ ih3 _ _ _ (inv.set Q43 hkn) h1 hrest3 h2⟩)⟩
def treeTailB (md:Region.Mode) (ops:Array Oper) (n:Nat) (r:OT):Bool :=
 Region.noSelect ops&&(decide (n=ops.size) || (decide (n<ops.size)&&(Region.sinkB md ops n&&Region.chainB md ops n)))&&(decide (r.size=n)&&treeB md ops n (ops.size-n) r (Array.replicate ops.size false))
theorem zas {P:Program} {id:Nat} {Q:Exit→Act→World→Prop} {a:Act} {w:World} {l:List Oper} (n:Nat) (r:OT) (S:World→Prop) (hm:P.follows .mixedOrders=true) (hB:treeTailB .any l.toArray n r=true) (hS:S w.drew)
  (h:zdz P l S Q (fun a' w'=>wpList P l.toArray Q (l.drop n) a' w') r a w.drew):(Code.region id l.toArray true).wp P Q a w:=by
 simp only[treeTailB,Bool.and_eq_true,Bool.or_eq_true,decide_eq_true_eq] at hB;obtain⟨⟨hsel,ht⟩,hrl,hord⟩:=hB;have hn:n≤l.toArray.size:=by rcases ht with h|h<;>omega
 have ht':TailOk .any l.toArray n:=by
  rcases ht with h|⟨h1,h2,h3⟩
  ·exact Or.inl h
  ·exact Or.inr ⟨h1,h2,h3⟩
 have hdl:(l.drop n).length=l.toArray.size-n:=by simp
 have inv:HeadInv .any l.toArray n (Array.replicate l.toArray.size false) :=
  ⟨by simp,(fun j oj _ hj=>by rw[getD_replicate_false] at hj;cases hj),fun t _ ht=>getD_in (by simpa using ht) (getD_replicate_false _ _)⟩
 have H:=headK_tree (g:=l.toArray.size-n) hsel ht' II r _ a w.drew inv hS hord h;exact Q19
end Go.Proofs.YtpakghepnahooaaGreatDoor
namespace Go.Proofs.YtpakghepnahooaaGreatDoor
open Go.RowKit
section
variable {P:Program} {ops:Array Oper} {md:Region.Mode} {S:Array Bool→World→Prop} {Q:Exit→Act→World→Prop} {n:Nat}
def headD (P:Program) (md:Region.Mode) (ops:Array Oper) (Q:Exit→Act→World→Prop) (S:Array Bool→World→Prop) (n:Nat) (L:Array Bool→Act→World→Prop):Nat→Array Bool→Act→World→Prop
 | 0,done,a,w=>L done a w
 | f+1,done,a,w=>Region.ready md ops done≠[]∧∀ i ∈ Region.ready md ops done,i<n∧wpOp P ops Q i (fun a' w'=>S (done.setIfInBounds i true) w'∧headD P md ops Q S n L f (done.setIfInBounds i true) a' w') a w
theorem headD_run {g:Nat} {L:Array Bool→Act→World→Prop} (hL:∀ done a w,L done a w→wpAny P md ops Q g done a w) (f:Nat) :
  ∀ (done:Array Bool) (a:Act) (w:World),headD P md ops Q S n L f done a w→wpAny P md ops Q (f+g) done a w:=by
 exact Q1g
theorem headD_first {i:Nat} {oi:Oper} {v:Value} {L:Array Bool→Act→World→Prop} (hi:ops[i]? = some oi) (hsel:∀ (j:Nat) (o:Oper) cs b,ops[j]? = some o→o.op≠.select cs b)
  (ht:TailOk md ops n) (hin:i<n) (hQ:∀ c a w,Q (.panic c) (a.put oi.dst v) w→Q (.panic c) a w) (hdone:∀ done a w,L done a w→∀ j ∈ Region.ready md ops done,n≤j)
  (hiff:∀ d W,S (d.setIfInBounds i true) W↔S d W) (f:Nat) :
  ∀ (done:Array Bool) (a:Act) (w:World),HeadInv md ops n done →
   (∀ j oj,ops[j]? = some oj→j≠i→done.getD j true=false→(∀ e ∈ oj.after,Region.binds md e=true→e.on≠i)→oi.apart ops oj=true) →
   i ∈ Region.ready md ops done→YieldsIf P ops (fun W=>∃ d:Array Bool,d.getD i true=false∧HeadInv md ops n d∧S d W) oi v a→S done w→headD P md ops Q S n L f (done.setIfInBounds i true) (a.put oi.dst v) w→headD P md ops Q S n L (f+1) done a w:=by
 induction f with
 | zero =>
  intro done a w inv _ hr hy hS H;refine⟨List.ne_nil_of_mem hr,fun j hj=>?_⟩;have hun:=(mem_ready.1 hr).1;have hjn:=ht.lt inv hin hun hj;refine⟨hjn,?_⟩
  by_cases e:j=i
  ·cases e;exact hy.wpOp hi ⟨done,hun,inv,hS⟩ ⟨(hiff _ _).2 hS,H⟩
  ·exact absurd (hdone _ _ _ H j (ready_mono hj e)) II
 | succ f ih =>
  intro done a w inv hfree hr hy hS H;refine⟨List.ne_nil_of_mem hr,fun j hj=>?_⟩;have hun:=(mem_ready.1 hr).1;have hjn:=ht.lt inv hin hun hj;refine⟨hjn,?_⟩
  by_cases e:j=i
  ·cases e;exact hy.wpOp hi ⟨done,hun,inv,hS⟩ ⟨(hiff _ _).2 hS,H⟩
  ·obtain⟨hjun,oj,hoj,hall⟩:=mem_ready.1 hj
   have hno:∀ e ∈ oj.after,Region.binds md e=true→e.on≠i:=fun e he hb heq=>by
    have h1:=hall e he hb;rw[heq,getD_both hun] at h1
    cases h1
   have hput:=wpOp_putIf hoj (hfree j oj hoj e hjun hno) (fun cs b=>hsel i oi cs b hi) (fun cs b=>hsel j oj cs b hoj) hQ hy (H.2 j (ready_mono hj e)).2;refine wpOp_mono (fun a' w' h3=>?_) hput;have hS':S (done.setIfInBounds j true) w':=by
    have:=h3.2.1;rw[← Array.setIfInBounds_comm _ _ e] at this;exact (hiff _ _).1 this
   refine⟨hS',ih (done.setIfInBounds j true) a' w' (inv.set hj hjn) (fun k ok hk hki hku hkn=>?_) (ready_mono hr (Ne.symm e)) h3.1 hS' ?_⟩
   ·refine hfree k ok hk hki ?_ hkn
    by_cases ejk:j=k
    ·cases ejk;exact hjun
    ·rwa [getD_set_ne true ejk] at hku
   ·rw[Array.setIfInBounds_comm _ _ e];exact h3.2.2
end
inductive OT2 where
 | nil
 | read (i:Nat) (t:OT2)
 | pure (i:Nat) (t:OT2)
 | one (i:Nat) (t:OT2)
 | two (i j:Nat) (t u:OT2)
def OT2.size:OT2→Nat
 | .nil=>0
 | .read _ t=>t.size+1
 | .pure _ t=>t.size+1
 | .one _ t=>t.size+1
 | .two _ _ t _=>t.size+1
section
variable {P:Program} {md:Region.Mode} {S1 S2:World→Prop} {Q:Exit→Act→World→Prop} {q:Act→World→Prop} {k:Nat}
def Two (S1 S2:World→Prop) (b:Bool) (w:World):Prop:=S2 w∧(b=false→S1 w)
def wpT2 (P:Program) (ops:List Oper) (S1 S2:World→Prop) (k:Nat) (Q:Exit→Act→World→Prop) (q:Act→World→Prop):OT2→Bool→Act→World→Prop
 | .nil,_,a,w=>q a w
 | .read i t,b,a,w=>∃ o v,ops[i]? = some o∧(∀ c a w,Q (.panic c) (Act.put a o.dst v) w→Q (.panic c) a w)∧(∀ W,S2 W→S1 W→(execOp a.eval o).run P W=.ok (.value v) W)∧wpT2 P ops S1 S2 k Q q t b (a.put o.dst v) w
 | .pure i t,b,a,w=>∃ o v,ops[i]? = some o∧(∀ c a w,Q (.panic c) (Act.put a o.dst v) w→Q (.panic c) a w)∧(∀ W,S2 W→(execOp a.eval o).run P W=.ok (.value v) W)∧wpT2 P ops S1 S2 k Q q t b (a.put o.dst v) w
 | .one i t,b,a,w=>∃ o,ops[i]? = some o∧o.wp P a w (fun a' w'=>Two S1 S2 (b || i == k) w'∧wpT2 P ops S1 S2 k Q q t (b || i == k) a' w') Q
 | .two i j t u,b,a,w=>(∃ o,ops[i]? = some o∧o.wp P a w (fun a' w'=>Two S1 S2 (b || i == k) w'∧wpT2 P ops S1 S2 k Q q t (b || i == k) a' w') Q)∧(∃ o,ops[j]? = some o∧o.wp P a w (fun a' w'=>Two S1 S2 (b || j == k) w'∧wpT2 P ops S1 S2 k Q q u (b || j == k) a' w') Q)
def waits (md:Region.Mode) (ops:Array Oper) (k i:Nat):Bool:=match ops[k]? with|some o=>o.after.any fun e=>Region.binds md e&&e.on == i|none=>false
def tree2B (md:Region.Mode) (ops:Array Oper) (n g k:Nat):OT2→Array Bool→Bool
 | .nil,done=>Region.seqB md ops g n done
 | .read i t,done=>decide (i<n∧i≠k)&&zbt ops i&&((Region.ready md ops done).contains i&&Region.free md ops done i&&waits md ops k i)&&tree2B md ops n g k t (done.setIfInBounds i true)
 | .pure i t,done=>decide (i<n∧i≠k)&&zbt ops i&&((Region.ready md ops done).contains i&&Region.free md ops done i)&&tree2B md ops n g k t (done.setIfInBounds i true)
 | .one i t,done=>decide (i<n)&&zbt ops i&&decide (Region.ready md ops done = [i])&&tree2B md ops n g k t (done.setIfInBounds i true)
 | .two i j t u,done=>decide (i<n∧j<n)&&(zbt ops i&&zbt ops j)&&decide (Region.ready md ops done = [i,j])&&(tree2B md ops n g k t (done.setIfInBounds i true)&&tree2B md ops n g k u (done.setIfInBounds j true)&&decide (t.size=u.size))
variable {ops:List Oper} {a:Act} {w:World} {b:Bool}
theorem wpT2_nil (h:q a w):wpT2 P ops S1 S2 k Q q .nil b a w:=h
theorem zcz {i:Nat} {t:OT2} {o:Oper} {v:Value} (ho:ops[i]? = some o) (hQ:∀ c a w,Q (.panic c) (Act.put a o.dst v) w→Q (.panic c) a w)
  (hy:∀ W,S2 W→S1 W→(execOp a.eval o).run P W=.ok (.value v) W) (h:wpT2 P ops S1 S2 k Q q t b (a.put o.dst v) w):wpT2 P ops S1 S2 k Q q (.read i t) b a w:=⟨o,v,ho,hQ,hy,h⟩
theorem zbi {i:Nat} {t:OT2} {o:Oper} {v:Value} (ho:ops[i]? = some o) (hQ:∀ c a w,Q (.panic c) (Act.put a o.dst v) w→Q (.panic c) a w)
  (hy:∀ W,S2 W→(execOp a.eval o).run P W=.ok (.value v) W) (h:wpT2 P ops S1 S2 k Q q t b (a.put o.dst v) w):wpT2 P ops S1 S2 k Q q (.pure i t) b a w:=⟨o,v,ho,hQ,hy,h⟩
def stepT2 (P:Program) (ops:List Oper) (S1 S2:World→Prop) (k:Nat) (Q:Exit→Act→World→Prop) (q:Act→World→Prop) (i:Nat) (t:OT2) (b:Bool) (a:Act) (w:World):Prop:=∃ o,ops[i]? = some o∧o.wp P a w (fun a' w'=>Two S1 S2 b w'∧wpT2 P ops S1 S2 k Q q t b a' w') Q
theorem za6 {i:Nat} {t:OT2} {o:Oper} (ho:ops[i]? = some o) (h:∀ K:Act→World→Prop,Shut (∀ a w,Two S1 S2 b w→wpT2 P ops S1 S2 k Q q t b a w→K a w)→o.wp P a w K Q):stepT2 P ops S1 S2 k Q q i t b a w:=⟨o,ho,h _ (fun a w hS h=>⟨hS,h⟩)⟩
theorem zbr {i:Nat} {t:OT2} (c:Bool) (hc:(b || i == k)=c) (h:stepT2 P ops S1 S2 k Q q i t c a w):wpT2 P ops S1 S2 k Q q (.one i t) b a w:=by subst hc;exact h
theorem wpT2_two {i j:Nat} {t u:OT2} (c d:Bool) (hc:(b || i == k)=c) (hd:(b || j == k)=d) (h:stepT2 P ops S1 S2 k Q q i t c a w) (h2:stepT2 P ops S1 S2 k Q q j u d a w):wpT2 P ops S1 S2 k Q q (.two i j t u) b a w:=by subst hc hd;exact⟨h,h2⟩
end
theorem zez {P:Program} {S1 S2:World→Prop} {k:Nat} {Q:Exit→Act→World→Prop} {q:Act→World→Prop} {l:List Oper} {i:Nat} {t:OT2} {b:Bool} {a:Act} {w:World} {K:Act→World→Prop} (h:stepT2 P l S1 S2 k Q q i t b a w) (hg:zbt l.toArray i=true)
  (hK:∀ a w,Two S1 S2 b w→wpT2 P l S1 S2 k Q q t b a w→K a w):wpOp P l.toArray Q i K a w:=by
 exact Q1h
def SD (S1 S2:World→Prop) (k:Nat) (d:Array Bool) (w:World):Prop:=Two S1 S2 (d.getD k true) w
theorem SD_iff {S1 S2:World→Prop} {k i:Nat} (h:i≠k) (d:Array Bool) (W:World):SD S1 S2 k (d.setIfInBounds i true) W↔SD S1 S2 k d W:=by
 unfold SD;rw[getD_set_ne true h]
theorem flag_set {d:Array Bool} {i k n:Nat} {b:Bool} (hb:d.getD k true=b):(d.setIfInBounds i true).getD k true=(b || i == k):=by
 by_cases e:i=k
 ·subst e
  rw[beq_self_eq_true,Bool.or_true]
  rcases Nat.lt_or_ge i d.size with h|h
  ·simp[h]
  ·simp[h]
 ·rw[getD_set_ne true e,hb];simp[e]
theorem waits_spec {md:Region.Mode} {ops:Array Oper} {n k i:Nat} (h:waits md ops k i=true) {d:Array Bool} (inv:HeadInv md ops n d) (hd:d.getD i true=false):d.getD k true=false:=by
 unfold waits at h
 cases hk:ops[k]? with
 | none=>rw[hk] at h;cases h
 | some o =>
  rw[hk] at h;simp only[Array.any_eq_true,Bool.and_eq_true,beq_iff_eq] at h;obtain⟨x,hx,hb,ho⟩:=h;have hks:k<ops.size:=(Array.getElem?_eq_some_iff.1 hk).1;have hkd:k<d.size:=by rw[inv.size];exact hks
  cases hkv:d.getD k true with
  | false=>rfl
  | true =>
   have hkf:d.getD k false=true:=by
    rw[Array.getD_eq_getD_getElem?,Array.getElem?_eq_getElem hkd] at hkv ⊢;exact hkv
   have:=inv.closed k o hk hkf _ (Array.getElem_mem hx) hb;rw[ho,getD_both hd] at this
   cases this
theorem headD_tree {P:Program} {md:Region.Mode} {S1 S2:World→Prop} {k:Nat} {Q:Exit→Act→World→Prop} {n:Nat} {l:List Oper} {g:Nat} {q:Act→World→Prop} (hsel:Region.noSelect l.toArray=true) (ht:TailOk md l.toArray n) (hg:g=0→n=l.toArray.size) (r:OT2) :
  ∀ (done:Array Bool) (b:Bool) (a:Act) (w:World),done.getD k true=b→HeadInv md l.toArray n done→SD S1 S2 k done w→tree2B md l.toArray n g k r done=true→wpT2 P l S1 S2 k Q q r b a w →
   headD P md l.toArray Q (SD S1 S2 k) n (fun done' a' w'=>Region.seqB md l.toArray g n done' = true∧q a' w') r.size done a w:=by
 have hdone:∀ (d:Array Bool) (a:Act) (w:World),(Region.seqB md l.toArray g n d=true∧q a w)→∀ j ∈ Region.ready md l.toArray d,n≤j:=by
  intro d a w hd j hj
  cases g with
  | zero =>
   have:=hd.1;simp only[Region.seqB,List.isEmpty_iff] at this;rw[this] at hj
   cases hj
  | succ g=>exact seqB_ready hd.1 j hj
 induction r with
 | nil=>intro done b a w _ _ _ hB h;exact⟨by simpa [tree2B] using hB,h⟩
 | read i t ih =>
  intro done b a w hb inv hS hB h;simp only[tree2B,Bool.and_eq_true,decide_eq_true_eq] at hB;obtain⟨⟨⟨⟨hin,hik⟩,hgd⟩,⟨hr,hfree⟩,hwt⟩,hrest⟩:=hB;obtain⟨o,v,ho,hQ,hy,h⟩:=h;have ho':l.toArray[i]? = some o:=by simpa using ho
  unfold zbt at hgd;rw[ho'] at hgd;have hr:i ∈ Region.ready md l.toArray done:=by simpa using hr
  refine headD_first ho' (Region.noSelect_spec hsel) ht hin hQ hdone (SD_iff hik) t.size done a w inv (Region.free_spec ho' hfree) hr (Or.inl ⟨zdk hgd _,fun W hW=>?_⟩) hS (ih _ b _ _ (by rw[getD_set_ne true hik];exact hb) (inv.set hr hin) ((SD_iff hik _ _).2 hS) hrest h);obtain⟨d,hdi,hdv,hdS⟩:=hW;exact hy W hdS.1 (hdS.2 (waits_spec hwt hdv hdi))
 | pure i t ih =>
  intro done b a w hb inv hS hB h;simp only[tree2B,Bool.and_eq_true,decide_eq_true_eq] at hB;obtain⟨⟨⟨⟨hin,hik⟩,hgd⟩,hr,hfree⟩,hrest⟩:=hB;obtain⟨o,v,ho,hQ,hy,h⟩:=h;have ho':l.toArray[i]? = some o:=by simpa using ho
  unfold zbt at hgd;rw[ho'] at hgd;have hr:i ∈ Region.ready md l.toArray done:=by simpa using hr
  refine headD_first ho' (Region.noSelect_spec hsel) ht hin hQ hdone (SD_iff hik) t.size done a w inv (Region.free_spec ho' hfree) hr (Or.inl ⟨zdk hgd _,fun W hW=>?_⟩) hS (ih _ b _ _ (by rw[getD_set_ne true hik];exact hb) (inv.set hr hin) ((SD_iff hik _ _).2 hS) hrest h);obtain⟨d,hdi,hdv,hdS⟩:=hW;exact hy W hdS.1
 | one i t ih =>
  intro done b a w hb inv hS hB h;simp only[tree2B,Bool.and_eq_true,decide_eq_true_eq] at hB;obtain⟨⟨⟨hin,hgd⟩,hr⟩,hrest⟩:=hB;refine⟨by rw[hr];simp,fun x hx=>?_⟩;rw[hr] at hx;obtain rfl:x=i:=by simpa using hx
  have hfl:=flag_set (i:=x) (n:=n) hb;exact⟨hin,zez h hgd (fun a' w' h1 h2=>⟨by unfold SD;rw[hfl];exact h1,ih _ _ _ _ hfl (inv.set Q43 hin) (by unfold SD;rw[hfl];exact h1) hrest h2⟩)⟩
 | two i j t u ih ih2 =>
  intro done b a w hb inv hS hB h;simp only[tree2B,Bool.and_eq_true,decide_eq_true_eq] at hB;obtain⟨⟨⟨⟨hin,hjn⟩,hgd,hgd2⟩,hr⟩,⟨hrest,hrest2⟩,hsz⟩:=hB;refine⟨by rw[hr];simp,fun x hx=>?_⟩;rw[hr] at hx;simp only[List.mem_cons,List.not_mem_nil,or_false] at hx
  rcases hx with rfl|rfl
  ·have hfl:=flag_set (i:=x) (n:=n) hb
   exact⟨hin,zez h.1 hgd (fun a' w' h1 h2=>⟨by unfold SD;rw[hfl];exact h1,ih _ _ _ _ hfl (inv.set Q43 hin) (by unfold SD;rw[hfl];exact h1) hrest h2⟩)⟩
  ·have hfl:=flag_set (i:=x) (n:=n) hb
   exact⟨hjn,zez h.2 hgd2 (fun a' w' h1 h2=>⟨by unfold SD;rw[hfl];exact h1,hsz ▸ ih2 _ _ _ _ hfl (inv.set Q43 hjn) (by unfold SD;rw[hfl];exact h1) hrest2 h2⟩)⟩
def tree2TailB (md:Region.Mode) (ops:Array Oper) (n k:Nat) (r:OT2):Bool :=
 Region.noSelect ops&&(decide (n=ops.size) || (decide (n<ops.size)&&(Region.sinkB md ops n&&Region.chainB md ops n)))&&(decide (r.size=n)&&decide (k<ops.size)&&tree2B md ops n (ops.size-n) k r (Array.replicate ops.size false))
theorem zdq {P:Program} {id:Nat} {Q:Exit→Act→World→Prop} {a:Act} {w:World} {l:List Oper} (n k:Nat) (r:OT2) (S1 S2:World→Prop) (hm:P.follows .mixedOrders=true) (hB:tree2TailB .any l.toArray n k r=true) (hS1:S1 w.drew) (hS2:S2 w.drew)
  (h:wpT2 P l S1 S2 k Q (fun a' w'=>wpList P l.toArray Q (l.drop n) a' w') r false a w.drew):(Code.region id l.toArray true).wp P Q a w:=by
 simp only[tree2TailB,Bool.and_eq_true,Bool.or_eq_true,decide_eq_true_eq] at hB;obtain⟨⟨hsel,ht⟩,⟨hrl,hk⟩,hord⟩:=hB;have hn:n≤l.toArray.size:=by rcases ht with h|h<;>omega
 have ht':TailOk .any l.toArray n:=by
  rcases ht with h|⟨h1,h2,h3⟩
  ·exact Or.inl h
  ·exact Or.inr ⟨h1,h2,h3⟩
 have hdl:(l.drop n).length=l.toArray.size-n:=by simp
 have inv:HeadInv .any l.toArray n (Array.replicate l.toArray.size false) :=
  ⟨by simp,(fun j oj _ hj=>by rw[getD_replicate_false] at hj;cases hj),fun t _ ht=>getD_in (by simpa using ht) (getD_replicate_false _ _)⟩
 have hb:(Array.replicate l.toArray.size false).getD k true=false:=getD_in (by simpa using hk) (getD_replicate_false _ _);have H:=headD_tree (g:=l.toArray.size-n) hsel ht' II r _ false a w.drew hb inv (by unfold SD;rw[hb];exact⟨hS2,fun _=>hS1⟩) hord h;refine wp_region_any hm ?_
 have R:=headD_run (Q:=Q) (g:=l.toArray.size-n) (fun done a' w' hL=>by
  have:=wpAny_of_seq (md:=.any) (Q':=Q) (l.drop n) n done a' w' (fun j=>by simp[List.getElem?_drop]) (by rw[hdl];exact hL.1) hL.2
  rwa [hdl] at this) _ _ _ w.drew H
 rw[hrl,show n+(l.toArray.size-n)=l.toArray.size by omega] at R;exact R
end Go.Proofs.YtpakghepnahooaaGreatDoor
