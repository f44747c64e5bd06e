/- Requests that are filed, answered, withdrawn: plain laws. No program. -/
import Derived.Test.YtpodllefipleiaaGreatDoorPlReq
set_option linter.unusedVariables false
set_option linter.unusedSimpArgs false
namespace Go.Proofs.YtpodllefipleiaaGreatDoor
open Go.RowKit
theorem zaz {α:Type} (l:List α) (x:α) {k:Nat} (h:k≤l.length):(zao l x k).length=l.length+1:=by unfold zao;simp<;>omega
theorem insAt_lo {α:Type} {l:List α} {x:α} {k i:Nat} (hk:k≤l.length) (h:i<k) (hi:i<(zao l x k).length):(zao l x k)[i]=l[i]'(by omega):=by
 simp only[zao];rw[List.getElem_append_left (by rw[List.length_take];omega),List.getElem_take]
theorem zcx {α:Type} {l:List α} {x:α} {k:Nat} (hk:k≤l.length) (hi:k<(zao l x k).length):(zao l x k)[k]=x:=by
 simp only[zao];rw[List.getElem_append_right (by rw[List.length_take];omega)];simp only[List.length_take,Nat.min_eq_left hk,Nat.sub_self,List.getElem_cons_zero]
theorem insAt_hi {α:Type} {l:List α} {x:α} {k i:Nat} (hk:k≤l.length) (h:k≤i) (hi:i+1<(zao l x k).length):(zao l x k)[i+1]=l[i]'(by rw[zaz l x hk] at hi;omega):=by
 simp only[zao];rw[List.getElem_append_right (by rw[List.length_take];omega)];simp only[List.length_take,Nat.min_eq_left hk,show i+1-k=(i-k)+1 by omega,List.getElem_cons_succ,List.getElem_drop]
 congr 1
 omega
theorem insAt_set {α:Type} (l:List α) (x y:α) {k:Nat} (hk:k≤l.length):(zao l x k).set k y=zao l y k:=by
 unfold zao;rw[List.set_append_right _ _ (by rw[List.length_take];omega),List.length_take,Nat.min_eq_left hk,Nat.sub_self]
 rfl
theorem insAt_any {α:Type} (p:α→Bool) (l:List α) (x:α) (k:Nat):(zao l x k).any p=(l.any p || p x):=by
 unfold zao;rw[List.any_append,List.any_cons];have h:l.any p=((l.take k).any p || (l.drop k).any p):=by rw[← List.any_append,List.take_append_drop]
 rw[h]
 cases (l.take k).any p<;>cases (l.drop k).any p<;>cases p x<;>rfl
theorem insAt_take {α:Type} (l:List α) (x:α) {k:Nat} (hk:k≤l.length):(zao l x k).take k=l.take k:=by
 unfold zao;rw[List.take_append_of_le_length (by rw[List.length_take];omega),List.take_take,Nat.min_self]
structure Fits (l:List DRequest) (id:ByteArray) (k:Nat):Prop where
 le:k≤l.length
 lo:∀ h:0<k,ltS (l[k-1]'(by have:=le;omega)).id id=true
 hi:∀ h:k<l.length,ltS id l[k].id=true
theorem ins_ok {l:List DRequest} {r:DRequest} {k:Nat} (hl:za6 l=true) (hr:reqB r=true) (hn:l.length<24) (h:Fits l r.id k):za6 (zao l r k)=true:=by
 have hk:=h.le;have hlen:=zaz l r hk;unfold za6 at hl ⊢;rw[Bool.and_eq_true,decide_eq_true_eq] at hl ⊢;refine⟨by omega,rowOk_true (fun j hj=>?_)⟩;have hok:∀ i (hi:i<(zao l r k).length),reqB (zao l r k)[i]=true:=by
  intro i hi
  rcases Nat.lt_trichotomy i k with e|e|e
  ·rw[insAt_lo hk e hi];exact rowOk_ok hl.2 _
  ·subst e;rw[zcx hk hi];exact hr
  ·obtain⟨m,rfl⟩:∃ m,i=m+1:=⟨i-1,by omega⟩
   rw[insAt_hi hk (by omega) hi];exact rowOk_ok hl.2 _
 by_cases h0:j=0
 ·subst h0;rw[upOk_zero hj];exact hok 0 hj
 obtain⟨i,rfl⟩:∃ i,j=i+1:=⟨j-1,by omega⟩
 rw[upOk_pos (by omega) hj,Bool.and_eq_true];refine⟨hok _ hj,?_⟩;show ltS ((zao l r k)[i+1-1]'(by omega)).id (zao l r k)[i+1].id=true
 simp only[Nat.add_sub_cancel]
 rcases Nat.lt_trichotomy (i+1) k with e|e|e
 ·rw[insAt_lo hk e hj,insAt_lo hk (by omega) (by omega)]
  exact rowOk_rel hl.2 (by omega)
 ·subst e
  rw[zcx hk hj,insAt_lo hk (by omega) (by omega)];exact h.lo (by omega)
 ·rw[insAt_hi hk (by omega) hj]
  by_cases e2:i=k
  ·subst e2
   rw[zcx hk (by omega)];exact h.hi (by omega)
  ·obtain⟨m,rfl⟩:∃ m,i=m+1:=⟨i-1,by omega⟩
   rw[insAt_hi hk (by omega) (by omega)];exact rowOk_rel hl.2 (by omega)
def idxReq (l:List DRequest) (id:ByteArray):Int:=za4 (fun x:DRequest=>eqS x.id id) l
theorem ins_idx {l:List DRequest} {r:DRequest} {k:Nat} (hk:k≤l.length) (hno:l.any (fun x:DRequest=>eqS x.id r.id)=false):idxReq (zao l r k) r.id=(k:Int):=by
 refine zce _ _ k (by rw[zaz l r hk];omega) ?_ ?_
 ·rw[zcx hk]
  exact zcm.2 rfl
 ·rw[insAt_take l r hk,List.any_eq_false]
  intro x hx;have:=List.any_eq_false.1 hno x (List.mem_of_mem_take hx);exact this
def zai (r:DRequest) (s:Int):DRequest:={ r with state:=s }
theorem inState_ok {r:DRequest} (h:reqB r=true) {s:Int} (h1:1≤s) (h2:s≤5):reqB (zai r s)=true:=by
 unfold reqB zai at *;simp only[Bool.and_eq_true] at h ⊢;obtain⟨a,b,c,d,e,f,g,i,j,k⟩:=h;exact⟨a,b,c,d,e,f,g,i,j,inB_true.2 ⟨h1,h2⟩⟩
def mayB (a p:ByteArray) (lo hi:Int) (x:DRequest):Bool:=((x.state == 2) || (x.state == 5))&&(eqS x.applicant a&&(eqS x.partner p&&(decide (x.low≤lo)&&decide (hi≤x.high))))
def mayR (l:List DRequest) (a p:ByteArray) (lo hi:Int):Bool:=za6 l&&(decide (lo<hi)&&l.any (mayB a p lo hi))
theorem may_on {l:List DRequest} {r:DRequest} {k:Nat} (hl:za6 l=true) (hr:reqB r=true) (hn:l.length<24) (h:Fits l r.id k):mayR (zao l (zai r 2) k) r.applicant r.partner r.low r.high=true:=by
 have h1:=ins_ok hl (inState_ok hr (s:=2) (by decide) (by decide)) hn (show Fits l (zai r 2).id k from h);have h2:r.low<r.high:=by
  unfold reqB at hr;simp only[Bool.and_eq_true,decide_eq_true_eq] at hr;exact hr.2.2.2.2.2.2.1
 unfold mayR;rw[h1,insAt_any,decide_eq_true h2,Bool.true_and,Bool.true_and];have:mayB r.applicant r.partner r.low r.high (zai r 2)=true:=by
  unfold mayB zai;simp only[zcm.2 rfl,Int.le_refl,decide_true,Bool.and_true]
  rfl
 rw[this,Bool.or_true]
theorem may_off {l:List DRequest} {r:DRequest} {k:Nat} {s:Int} (hl:za6 l=true) (hr:reqB r=true) (hn:l.length<24) (h:Fits l r.id k) (hs:s=3∨s=4) (a p:ByteArray) (lo hi:Int):mayR (zao l (zai r s) k) a p lo hi=mayR l a p lo hi:=by
 have h1:=ins_ok hl (inState_ok hr (s:=s) (by omega) (by omega)) hn (show Fits l (zai r s).id k from h);unfold mayR;rw[h1,hl,insAt_any];have:mayB a p lo hi (zai r s)=false:=by
  unfold mayB zai
  rcases hs with rfl|rfl<;>simp
 rw[this,Bool.or_false]
end Go.Proofs.YtpodllefipleiaaGreatDoor
