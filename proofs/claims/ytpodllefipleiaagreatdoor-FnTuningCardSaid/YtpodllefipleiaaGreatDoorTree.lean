/- Regions that draw their order, continued: where two or three operations that write or make memory may come up next, the walk branches. Plain lemmas; no program. -/
import Derived.Test.YtpodllefipleiaaGreatDoorOrd
set_option linter.unusedVariables false
set_option linter.unusedSimpArgs false
namespace Go.Proofs.YtpodllefipleiaaGreatDoor
open Go.RowKit
inductive OT where
 | nil
 | read (i:Nat) (t:OT)
 | one (i:Nat) (t:OT)
 | two (i j:Nat) (t u:OT)
 | three (i j k:Nat) (t u v:OT)
def OT.size:OT→Nat
 | .nil=>0
 | .read _ t=>t.size+1
 | .one _ t=>t.size+1
 | .two _ _ t _=>t.size+1
 | .three _ _ _ t _ _=>t.size+1
section
variable {P:Program} {md:Region.Mode} {S:World→Prop} {Q:Exit→Act→World→Prop} {q:Act→World→Prop}
def za7 (P:Program) (ops:List Oper) (S:World→Prop) (Q:Exit→Act→World→Prop) (q:Act→World→Prop):OT→Act→World→Prop
 | .nil,a,w=>q a w
 | .read i t,a,w=>∃ o v,ops[i]? = some o∧(∀ c a w,Q (.panic c) (Act.put a o.dst v) w→Q (.panic c) a w)∧(∀ W,S W→(execOp a.eval o).run P W=.ok (.value v) W)∧za7 P ops S Q q t (a.put o.dst v) w
 | .one i t,a,w=>∃ o,ops[i]? = some o∧o.wp P a w (fun a' w'=>S w'∧za7 P ops S Q q t a' w') Q
 | .two i j t u,a,w=>(∃ o,ops[i]? = some o∧o.wp P a w (fun a' w'=>S w'∧za7 P ops S Q q t a' w') Q)∧(∃ o,ops[j]? = some o∧o.wp P a w (fun a' w'=>S w'∧za7 P ops S Q q u a' w') Q)
 | .three i j k t u v,a,w=>(∃ o,ops[i]? = some o∧o.wp P a w (fun a' w'=>S w'∧za7 P ops S Q q t a' w') Q)∧(∃ o,ops[j]? = some o∧o.wp P a w (fun a' w'=>S w'∧za7 P ops S Q q u a' w') Q)∧(∃ o,ops[k]? = some o∧o.wp P a w (fun a' w'=>S w'∧za7 P ops S Q q v a' w') Q)
def zat (ops:Array Oper) (i:Nat):Bool:=match ops[i]? with|some o=>o.guard.isNone|none=>false
def treeB (md:Region.Mode) (ops:Array Oper) (n g:Nat):OT→Array Bool→Bool
 | .nil,done=>Region.seqB md ops g n done
 | .read i t,done=>decide (i<n)&&zat ops i&&((Region.ready md ops done).contains i&&Region.free md ops done i)&&treeB md ops n g t (done.setIfInBounds i true)
 | .one i t,done=>decide (i<n)&&zat ops i&&decide (Region.ready md ops done = [i])&&treeB md ops n g t (done.setIfInBounds i true)
 | .two i j t u,done=>decide (i<n∧j<n)&&(zat ops i&&zat ops j)&&decide (Region.ready md ops done = [i,j])&&(treeB md ops n g t (done.setIfInBounds i true)&&treeB md ops n g u (done.setIfInBounds j true)&&decide (t.size=u.size))
 | .three i j k t u v,done=>decide (i<n∧j<n∧k<n)&&(zat ops i&&zat ops j&&zat ops k)&&decide (Region.ready md ops done = [i,j,k])&&(treeB md ops n g t (done.setIfInBounds i true)&&treeB md ops n g u (done.setIfInBounds j true)&&treeB md ops n g v (done.setIfInBounds k true)&&decide (t.size=u.size∧t.size=v.size))
variable {ops:List Oper} {a:Act} {w:World}
theorem wpTree_nil (h:q a w):za7 P ops S Q q .nil a w:=h
theorem wpTree_read {i:Nat} {t:OT} {o:Oper} {v:Value} (ho:ops[i]? = some o) (hQ:∀ c a w,Q (.panic c) (Act.put a o.dst v) w→Q (.panic c) a w)
  (hy:∀ W,S W→(execOp a.eval o).run P W=.ok (.value v) W) (h:za7 P ops S Q q t (a.put o.dst v) w):za7 P ops S Q q (.read i t) a w:=⟨o,v,ho,hQ,hy,h⟩
def stepT (P:Program) (ops:List Oper) (S:World→Prop) (Q:Exit→Act→World→Prop) (q:Act→World→Prop) (i:Nat) (t:OT) (a:Act) (w:World):Prop:=∃ o,ops[i]? = some o∧o.wp P a w (fun a' w'=>S w'∧za7 P ops S Q q t a' w') Q
theorem zax {i:Nat} {t:OT} {o:Oper} (ho:ops[i]? = some o) (h:∀ K:Act→World→Prop,Shut (∀ a w,S w→za7 P ops S Q q t a w→K a w)→o.wp P a w K Q):stepT P ops S Q q i t a w:=⟨o,ho,h _ (fun a w hS h=>⟨hS,h⟩)⟩
theorem za2 {i:Nat} {t:OT} (h:stepT P ops S Q q i t a w):za7 P ops S Q q (.one i t) a w:=h
theorem wpTree_two {i j:Nat} {t u:OT} (h:stepT P ops S Q q i t a w) (h2:stepT P ops S Q q j u a w):za7 P ops S Q q (.two i j t u) a w:=⟨h,h2⟩
end
theorem zar {P:Program} {md:Region.Mode} {S:World→Prop} {Q:Exit→Act→World→Prop} {q:Act→World→Prop} {l:List Oper} {i:Nat} {t:OT} {a:Act} {w:World} {K:Act→World→Prop} (h:stepT P l S Q q i t a w) (hg:zat l.toArray i=true)
  (hK:∀ a w,S w→za7 P l S Q q t a w→S w∧K a w):wpOp P l.toArray Q i (fun a' w'=>S w'∧K a' w') a w:=by
 obtain⟨o,ho,h⟩:=h;have ho':l.toArray[i]? = some o:=by simpa using ho
 unfold zat at hg;rw[ho'] at hg;unfold wpOp;simp only[ho'];rw[if_pos (zbs hg _)];exact Or.inl (Oper.wp_mono (fun a' w' h'=>hK a' w' h'.1 h'.2) h)
theorem headK_tree {P:Program} {md:Region.Mode} {S:World→Prop} {Q:Exit→Act→World→Prop} {n:Nat} {l:List Oper} {g:Nat} {q:Act→World→Prop} (hsel:Region.noSelect l.toArray=true) (ht:TailOk md l.toArray n) (hg:g=0→n=l.toArray.size) (r:OT) :
  ∀ (done:Array Bool) (a:Act) (w:World),HeadInv md l.toArray n done→S w→treeB md l.toArray n g r done=true→za7 P l S Q q r a w →
   headK P md l.toArray Q S n (fun done' a' w'=>Region.seqB md l.toArray g n done' = true∧q a' w') r.size done a w:=by
 have hdone:∀ (d:Array Bool) (a:Act) (w:World),(Region.seqB md l.toArray g n d=true∧q a w)→∀ j ∈ Region.ready md l.toArray d,n≤j:=by
  intro d a w hd j hj
  cases g with
  | zero =>
   have:=hd.1;simp only[Region.seqB,List.isEmpty_iff] at this;rw[this] at hj
   cases hj
  | succ g=>exact seqB_ready hd.1 j hj
 induction r with
 | nil=>intro done a w _ _ hB h;exact⟨by simpa [treeB] using hB,h⟩
 | read i t ih =>
  intro done a w inv hS hB h;simp only[treeB,Bool.and_eq_true,decide_eq_true_eq] at hB;obtain⟨⟨⟨hin,hgd⟩,hr,hfree⟩,hrest⟩:=hB;obtain⟨o,v,ho,hQ,hy,h⟩:=h;have ho':l.toArray[i]? = some o:=by simpa using ho
  unfold zat at hgd;rw[ho'] at hgd;have hr:i ∈ Region.ready md l.toArray done:=by simpa using hr
  exact headK_first ho' (Region.noSelect_spec hsel) ht hin hQ hdone t.size done a w inv (Region.free_spec ho' hfree) hr (Or.inl ⟨zbs hgd _,hy⟩) hS (ih _ _ _ (inv.set hr hin) hS hrest h)
 | one i t ih =>
  intro done a w inv hS hB h;simp only[treeB,Bool.and_eq_true,decide_eq_true_eq] at hB;obtain⟨⟨⟨hin,hgd⟩,hr⟩,hrest⟩:=hB;refine⟨by rw[hr];simp,fun x hx=>?_⟩;rw[hr] at hx;obtain rfl:x=i:=by simpa using hx
  exact⟨hin,zar (md:=md) h hgd (fun a' w' h1 h2=>⟨h1,ih _ _ _ (inv.set (by rw[hr];simp) hin) h1 hrest h2⟩)⟩
 | two i j t u ih ih2 =>
  intro done a w inv hS hB h;simp only[treeB,Bool.and_eq_true,decide_eq_true_eq] at hB;obtain⟨⟨⟨⟨hin,hjn⟩,hgd,hgd2⟩,hr⟩,⟨hrest,hrest2⟩,hsz⟩:=hB;refine⟨by rw[hr];simp,fun x hx=>?_⟩;rw[hr] at hx;simp only[List.mem_cons,List.not_mem_nil,or_false] at hx
  rcases hx with rfl|rfl
  ·exact⟨hin,zar (md:=md) h.1 hgd (fun a' w' h1 h2=>⟨h1,ih _ _ _ (inv.set (by rw[hr];simp) hin) h1 hrest h2⟩)⟩
  ·exact⟨hjn,zar (md:=md) h.2 hgd2 (fun a' w' h1 h2=>⟨h1,hsz ▸ ih2 _ _ _ (inv.set (by rw[hr];simp) hjn) h1 hrest2 h2⟩)⟩
 | three i j k t u v ih ih2 ih3 =>
  intro done a w inv hS hB h;simp only[treeB,Bool.and_eq_true,decide_eq_true_eq] at hB;obtain⟨⟨⟨⟨hin,hjn,hkn⟩,⟨hgd,hgd2⟩,hgd3⟩,hr⟩,⟨⟨hrest,hrest2⟩,hrest3⟩,hsz,hsz2⟩:=hB;refine⟨by rw[hr];simp,fun x hx=>?_⟩;rw[hr] at hx;simp only[List.mem_cons,List.not_mem_nil,or_false] at hx
  rcases hx with rfl|rfl|rfl
  ·exact⟨hin,zar (md:=md) h.1 hgd (fun a' w' h1 h2=>⟨h1,ih _ _ _ (inv.set (by rw[hr];simp) hin) h1 hrest h2⟩)⟩
  ·exact⟨hjn,zar (md:=md) h.2.1 hgd2 (fun a' w' h1 h2=>⟨h1,hsz ▸ ih2 _ _ _ (inv.set (by rw[hr];simp) hjn) h1 hrest2 h2⟩)⟩
  ·exact⟨hkn,zar (md:=md) h.2.2 hgd3 (fun a' w' h1 h2=>⟨h1,hsz2 ▸ ih3 _ _ _ (inv.set (by rw[hr];simp) hkn) h1 hrest3 h2⟩)⟩
def treeTailB (md:Region.Mode) (ops:Array Oper) (n:Nat) (r:OT):Bool :=
 Region.noSelect ops&&(decide (n=ops.size) || (decide (n<ops.size)&&(Region.sinkB md ops n&&Region.chainB md ops n)))&&(decide (r.size=n)&&treeB md ops n (ops.size-n) r (Array.replicate ops.size false))
theorem wp_region_tree {P:Program} {id:Nat} {Q:Exit→Act→World→Prop} {a:Act} {w:World} {l:List Oper} (n:Nat) (r:OT) (S:World→Prop) (hm:P.follows .mixedOrders=true) (hB:treeTailB .any l.toArray n r=true) (hS:S w.drew)
  (h:za7 P l S Q (fun a' w'=>wpList P l.toArray Q (l.drop n) a' w') r a w.drew):(Code.region id l.toArray true).wp P Q a w:=by
 simp only[treeTailB,Bool.and_eq_true,Bool.or_eq_true,decide_eq_true_eq] at hB;obtain⟨⟨hsel,ht⟩,hrl,hord⟩:=hB;have hn:n≤l.toArray.size:=by rcases ht with h|h<;>omega
 have ht':TailOk .any l.toArray n:=by
  rcases ht with h|⟨h1,h2,h3⟩
  ·exact Or.inl h
  ·exact Or.inr ⟨h1,h2,h3⟩
 have hdl:(l.drop n).length=l.toArray.size-n:=by simp
 have inv:HeadInv .any l.toArray n (Array.replicate l.toArray.size false) :=
  ⟨by simp,(fun j oj _ hj=>by rw[getD_replicate_false] at hj;cases hj),fun t _ ht=>getD_in (by simpa using ht) (getD_replicate_false _ _)⟩
 have H:=headK_tree (g:=l.toArray.size-n) hsel ht' (by omega) r _ a w.drew inv hS hord h;refine wp_region_any hm ?_
 have R:=headK_run (Q:=Q) (g:=l.toArray.size-n) (fun done a' w' hL=>by
  have:=wpAny_of_seq (md:=.any) (Q':=Q) (l.drop n) n done a' w' (fun j=>by simp[List.getElem?_drop]) (by rw[hdl];exact hL.1) hL.2
  rwa [hdl] at this) _ _ _ w.drew H
 rw[hrl,show n+(l.toArray.size-n)=l.toArray.size by omega] at R;exact R
end Go.Proofs.YtpodllefipleiaaGreatDoor
