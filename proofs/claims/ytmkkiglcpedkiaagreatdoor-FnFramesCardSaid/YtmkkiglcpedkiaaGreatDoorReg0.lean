/- Registers: records and changes, how a change is made, what is valid. Plain lemmas; no program. -/
import Derived.Test.YtmkkiglcpedkiaaGreatDoorOrdS
set_option linter.unusedVariables false
set_option linter.unusedSimpArgs false
namespace Go.Proofs.YtmkkiglcpedkiaaGreatDoor
def printN (n:Int):Bool:=decide (32≤n)&&decide (n≤126)
def valueB (s:ByteArray):Bool:=(bytesN s).all printN&&(decide (1≤s.size)&&decide (s.size≤200))
def dayB (d:Int):Bool:=inB d 0 99999
def emptyS:ByteArray:=⟨#[]⟩
def changeB (c:DChange):Bool:=dayB c.day&&(nameB c.key&&((eqS c.old_ emptyS || valueB c.old_)&&((eqS c.new_ emptyS || valueB c.new_)&&!(eqS c.old_ c.new_))))
def idxRec (l:List DRecord) (k:ByteArray):Int:=firstIdx' (fun x:DRecord=>eqS x.key k) l
def valOf (l:List DRecord) (k:ByteArray):ByteArray:=match l.find? (fun x=>eqS x.key k) with|some r=>r.value|none=>emptyS
def recB (r:DRecord):Bool:=nameB r.key&&valueB r.value
def ltRec (p x:DRecord):Bool:=ltS p.key x.key
def stateB (l:List DRecord):Bool:=rowOk recB ltRec l&&decide (l.length≤32)
theorem ltS_irrefl (a:ByteArray):ltS a a=false:=by
 cases h:ltS a a with
 | false=>rfl
 | true=>have:=ltS_asymm h;rw[h] at this;exact this
theorem eqS_refl (a:ByteArray):eqS a a=true:=eqS_iff.2 rfl
theorem eqS_false {a b:ByteArray} : eqS a b=false↔a≠b:=by rw[Bool.eq_false_iff,Ne,eqS_iff]
def Rise (l:List DRecord):Prop:=l.Pairwise fun a b=>ltS a.key b.key=true
theorem Rise.adj {l:List DRecord} (h:Rise l):∀ i (hi:i+1<l.length),ltS (l[i]'(by omega)).key l[i+1].key=true:=fun i hi=>List.pairwise_iff_getElem.1 h i (i+1) (by omega) hi (by omega)
theorem Rise.of_adj {l:List DRecord} (h:∀ i (hi:i+1<l.length),ltS (l[i]'(by omega)).key l[i+1].key=true):Rise l:=by
 have key:∀ d i (hi:i+d+1<l.length),ltS (l[i]'(by omega)).key (l[i+d+1]'hi).key=true:=by
  intro d
  induction d with
  | zero=>intro i hi;exact h i hi
  | succ d ih=>intro i hi;exact ltS_trans (ih i (by omega)) (h (i+d+1) (by omega))
 refine List.pairwise_iff_getElem.2 (fun i j hi hj hij=>?_);have:=key (j-i-1) i (by omega)
 simpa [show i+(j-i-1)+1=j by omega] using this
theorem rowOk_iff {l:List DRecord} : rowOk recB ltRec l=true↔(∀ x ∈ l,recB x=true)∧Rise l:=by
 constructor
 ·intro h
  exact⟨fun x hx=>rowOk_mem h hx,Rise.of_adj (fun i hi=>rowOk_rel h hi)⟩
 ·rintro⟨h1,h2⟩
  refine rowOk_true (fun j hj=>?_)
  by_cases h0:j=0
  ·subst h0;rw[upOk_zero hj];exact h1 _ (List.getElem_mem hj)
  ·rw[upOk_pos (by omega) hj,h1 _ (List.getElem_mem hj),Bool.true_and]
   have:=h2.adj (j-1) (by omega);unfold ltRec
   simpa [show j-1+1=j by omega] using this
def putL (l:List DRecord) (k v:ByteArray):List DRecord:=l.filter (fun x=>ltS x.key k)++((if eqS v emptyS=true then [] else [⟨k,v⟩])++l.filter (fun x=>ltS k x.key))
theorem putL_rise {l:List DRecord} (h:Rise l) (k v:ByteArray):Rise (putL l k v):=by
 unfold putL Rise;refine List.pairwise_append.2 ⟨List.Pairwise.filter _ h,List.pairwise_append.2 ⟨?_,List.Pairwise.filter _ h,?_⟩,?_⟩
 ·split
  ·exact List.Pairwise.nil
  ·exact List.pairwise_singleton _ _
 ·intro a ha b hb
  split at ha
  ·simp at ha
  ·obtain rfl:a=⟨k,v⟩:=by simpa using ha
   exact (List.mem_filter.1 hb).2
 ·intro a ha b hb
  have h1:=(List.mem_filter.1 ha).2
  rcases List.mem_append.1 hb with hb|hb
  ·split at hb
   ·simp at hb
   ·obtain rfl:b=⟨k,v⟩:=by simpa using hb
    exact h1
  ·exact ltS_trans h1 (List.mem_filter.1 hb).2
theorem putL_mem {l:List DRecord} {k v:ByteArray} {x:DRecord} (h:x ∈ putL l k v):x ∈ l∨(x=⟨k,v⟩∧eqS v emptyS=false):=by
 unfold putL at h
 rcases List.mem_append.1 h with h|h
 ·exact Or.inl (List.mem_filter.1 h).1
 ·rcases List.mem_append.1 h with h|h
  ·split at h
   ·simp at h
   ·rename_i hv;exact Or.inr ⟨by simpa using h,Bool.eq_false_iff.2 hv⟩
  ·exact Or.inl (List.mem_filter.1 h).1
theorem pos_spec {l:List DRecord} (h:Rise l) (k:ByteArray):(∀ j (hj:j<l.length),j<posOf DRecord.key l k→ltS l[j].key k=true)∧(∀ j (hj:j<l.length),posOf DRecord.key l k≤j→ltS l[j].key k=false):=by
 obtain⟨q,hq⟩:∃ q,q=l.findIdx (fun x=>!ltS x.key k):=⟨_,rfl⟩
 have hle:q≤l.length:=by rw[hq];exact List.findIdx_le_length
 have hlow:∀ j (hj:j<l.length),j<q→ltS l[j].key k=true:=fun j hj hjq=>by
  have:=List.not_of_lt_findIdx (p:=fun x:DRecord=>!ltS x.key k) (xs:=l) (i:=j) (by rw[← hq];exact hjq)
  simpa using this
 have hat:∀ hj:q<l.length,ltS l[q].key k=false:=fun hj=>by
  have:=List.findIdx_getElem (p:=fun x:DRecord=>!ltS x.key k) (xs:=l) (w:=by rw[← hq];exact hj);simp only[← hq] at this
  simpa using this
 have hup:∀ j (hj:j<l.length),q≤j→ltS l[j].key k=false:=fun j hj hqj=>by
  rcases Nat.lt_or_ge q j with h1|h1
  ·have h2:=List.pairwise_iff_getElem.1 h q j (by omega) hj h1
   rw[Bool.eq_false_iff];intro h3;have:=hat (by omega);rw[ltS_trans h2 h3] at this
   cases this
  ·obtain rfl:j=q:=by omega
   exact hat hj
 have e:=pos_of (f:=DRecord.key) (nm:=k) h.adj hle (fun h0=>hlow _ _ (by omega)) hat;rw[e];exact⟨hlow,hup⟩
theorem filter_take {α:Type} (p:α→Bool) (l:List α) (q:Nat) (h1:∀ j (hj:j<l.length),j<q→p l[j]=true) (h2:∀ j (hj:j<l.length),q≤j→p l[j]=false):l.filter p=l.take q:=by
 conv=>lhs;rw[← List.take_append_drop q l,List.filter_append]
 rw[List.filter_eq_self.2,List.filter_eq_nil_iff.2,List.append_nil]
 ·intro a ha
  obtain⟨j,hj,rfl⟩:=List.getElem_of_mem ha;rw[List.length_drop] at hj;rw[List.getElem_drop,h2 _ (by omega) (by omega)];simp
 ·intro a ha
  obtain⟨j,hj,rfl⟩:=List.mem_take_iff_getElem.1 ha;exact h1 j (by omega) (by omega)
theorem filter_drop {α:Type} (p:α→Bool) (l:List α) (q:Nat) (h1:∀ j (hj:j<l.length),j<q→p l[j]=false) (h2:∀ j (hj:j<l.length),q≤j→p l[j]=true):l.filter p=l.drop q:=by
 conv=>lhs;rw[← List.take_append_drop q l,List.filter_append]
 rw[List.filter_eq_nil_iff.2,List.filter_eq_self.2,List.nil_append]
 ·intro a ha
  obtain⟨j,hj,rfl⟩:=List.getElem_of_mem ha;rw[List.length_drop] at hj;rw[List.getElem_drop];exact h2 _ (by omega) (by omega)
 ·intro a ha
  obtain⟨j,hj,rfl⟩:=List.mem_take_iff_getElem.1 ha;rw[h1 j (by omega) (by omega)];simp
section
variable {l:List DRecord} {k:ByteArray}
theorem less_take (h:Rise l):l.filter (fun x=>ltS x.key k)=l.take (posOf DRecord.key l k):=filter_take _ l _ (pos_spec h k).1 (pos_spec h k).2
theorem more_absent (h:Rise l) (hno:∀ j (hj:j<l.length),eqS l[j].key k=false):l.filter (fun x=>ltS k x.key)=l.drop (posOf DRecord.key l k) :=
 filter_drop _ l _ (fun j hj hlt=>ltS_asymm ((pos_spec h k).1 j hj hlt)) (fun j hj hge=>ltS_of_not ((pos_spec h k).2 j hj hge) (by rw[eqS_false];intro e;have:=hno j hj;rw[eqS_false] at this;exact this e.symm))
theorem there_at (h:Rise l) {i:Nat} (hi:i<l.length) (he:eqS l[i].key k=true):posOf DRecord.key l k=i:=by
 have e:=eqS_iff.1 he;refine pos_of (f:=DRecord.key) h.adj (by omega) (fun h0=>?_) (fun hj=>?_)
 ·have:=h.adj (i-1) (by omega)
  have e2:l[i-1+1]'(by omega)=l[i]:=by congr 1;omega
  rw[e2,e] at this;exact this
 ·rw[e];exact ltS_irrefl k
theorem more_there (h:Rise l) {i:Nat} (hi:i<l.length) (he:eqS l[i].key k=true):l.filter (fun x=>ltS k x.key)=l.drop (i+1):=by
 have e:=eqS_iff.1 he;refine filter_drop _ l _ (fun j hj hlt=>?_) (fun j hj hge=>?_)
 ·rcases Nat.lt_or_ge j i with h1|h1
  ·have:=List.pairwise_iff_getElem.1 h j i hj hi h1
   rw[e] at this;exact ltS_asymm this
  ·obtain rfl:j=i:=by omega
   rw[e];exact ltS_irrefl k
 ·have:=List.pairwise_iff_getElem.1 h i j hi hj (by omega)
  rw[e] at this;exact this
theorem put_drop (h:Rise l) {i:Nat} (hi:i<l.length) (he:eqS l[i].key k=true) {v:ByteArray} (hv:eqS v emptyS=true):putL l k v=l.eraseIdx i:=by
 unfold putL;rw[if_pos hv,less_take h,there_at h hi he,more_there h hi he,List.nil_append,List.eraseIdx_eq_take_drop_succ]
theorem put_set (h:Rise l) {i:Nat} (hi:i<l.length) (he:eqS l[i].key k=true) {v:ByteArray} (hv:eqS v emptyS=false):putL l k v=l.set i ⟨l[i].key,v⟩:=by
 unfold putL;rw[if_neg (by rw[hv];simp),less_take h,there_at h hi he,more_there h hi he,List.set_eq_take_append_cons_drop,if_pos hi,eqS_iff.1 he]
 rfl
theorem put_new (h:Rise l) (hno:∀ j (hj:j<l.length),eqS l[j].key k=false) {v:ByteArray} (hv:eqS v emptyS=false):putL l k v=insAt l ⟨k,v⟩ (posOf DRecord.key l k):=by
 unfold putL insAt;rw[if_neg (by rw[hv];simp),less_take h,more_absent h hno]
 rfl
end
theorem valOf_none {l:List DRecord} {k:ByteArray} (h:l.any (fun x=>eqS x.key k)=false):valOf l k=emptyS:=by
 unfold valOf;have:l.find? (fun x=>eqS x.key k)=none:=by
  rw[List.find?_eq_none];intro x hx;exact List.any_eq_false.1 h x hx
 rw[this]
theorem valOf_some {l:List DRecord} {k:ByteArray} {i:Nat} (hi:i<l.length) (he:eqS l[i].key k=true) (hno:(l.take i).any (fun x=>eqS x.key k)=false):valOf l k=l[i].value:=by
 unfold valOf;have:l.find? (fun x=>eqS x.key k)=some l[i]:=by
  rw[List.find?_eq_some_iff_getElem];refine⟨he,i,hi,rfl,fun j hj=>?_⟩;have:=List.any_eq_false.1 hno l[j] (List.mem_take_iff_getElem.2 ⟨j,by omega,rfl⟩)
  simpa using this
 rw[this]
theorem valueB_ne {s:ByteArray} (h:valueB s=true):eqS s emptyS=false:=by
 unfold valueB at h;simp only[Bool.and_eq_true,decide_eq_true_eq] at h;rw[eqS_false];intro e;rw[e] at h;have:emptyS.size=0:=rfl;omega
def dayLe (p c:DChange):Bool:=decide (p.day≤c.day)
def patS (l:List DRecord) (c:DChange):Option (List DRecord):=if eqS (valOf l c.key) c.old_=true then (if (putL l c.key c.new_).length≤32 then some (putL l c.key c.new_) else none) else none
def patN (l0:List DRecord) (cs:List DChange):Nat→Option (List DRecord)
 | 0=>some l0
 | k+1=>match patN l0 cs k,cs[k]? with|some l,some c=>patS l c|_,_=>none
def repN (cs:List DChange):Nat→Option (List DRecord)
 | 0=>some []
 | k+1=>match repN cs k,cs[k]? with|some l,some c=>(if upOk changeB dayLe cs k=true then patS l c else none)|_,_=>none
def sameRec (a b:DRecord):Bool:=eqS a.key b.key&&eqS a.value b.value
def sameRs (l m:List DRecord):Bool:=decide (l.length=m.length)&&(List.range l.length).all (fun i=>match l[i]?,m[i]? with|some a,some b=>sameRec a b|_,_=>false)
def storyB (cs:List DChange):Bool:=rowOk changeB dayLe cs&&decide (cs.length≤48)
def regB (r:DRegister):Bool:=decide (r.changes.length≤48)&&(match repN r.changes r.changes.length with|some l=>sameRs l r.records|none=>false)
theorem sameRec_iff {a b:DRecord} : sameRec a b=true↔a=b:=by
 unfold sameRec;rw[Bool.and_eq_true,eqS_iff,eqS_iff]
 constructor
 ·rintro⟨h1,h2⟩;cases a;cases b;simp only at h1 h2;rw[h1,h2]
 ·rintro rfl;exact⟨rfl,rfl⟩
theorem sameRs_iff {l m:List DRecord} : sameRs l m=true↔l=m:=by
 unfold sameRs;rw[Bool.and_eq_true,decide_eq_true_eq,List.all_eq_true]
 constructor
 ·rintro⟨h1,h2⟩
  apply List.ext_getElem h1
  intro i h3 h4;have:=h2 i (by simpa using h3);rw[List.getElem?_eq_getElem h3,List.getElem?_eq_getElem h4] at this;exact sameRec_iff.1 this
 ·rintro rfl
  refine⟨rfl,fun i hi=>?_⟩;have hi':i<l.length:=by simpa using hi
  rw[List.getElem?_eq_getElem hi'];exact sameRec_iff.2 rfl
theorem upOk_change {cs:List DChange} {k:Nat} (hk:k<cs.length) (h:upOk changeB dayLe cs k=true):changeB cs[k]=true:=by
 cases hc:changeB cs[k] with
 | true=>rfl
 | false=>rw[upOk_not hk hc] at h;cases h
theorem changeB_key {c:DChange} (h:changeB c=true):nameB c.key=true:=by
 unfold changeB at h;simp only[Bool.and_eq_true] at h;exact h.2.1
theorem changeB_new {c:DChange} (h:changeB c=true):eqS c.new_ emptyS=true∨valueB c.new_=true:=by
 unfold changeB at h;simp only[Bool.and_eq_true,Bool.or_eq_true] at h;exact h.2.2.2.1
theorem changeB_ne {c:DChange} (h:changeB c=true):eqS c.old_ c.new_=false:=by
 unfold changeB at h;simp only[Bool.and_eq_true] at h;simpa using h.2.2.2.2
theorem patS_some {l l':List DRecord} {c:DChange} (h:patS l c=some l'):eqS (valOf l c.key) c.old_=true∧l' = putL l c.key c.new_∧l'.length≤32:=by
 unfold patS at h
 split at h
 ·rename_i h1
  split at h
  ·rename_i h2;injection h with h;subst h;exact⟨h1,rfl,h2⟩
  ·cases h
 ·cases h
theorem put_recs {l:List DRecord} {c:DChange} (hl:∀ x ∈ l,recB x=true) (hc:changeB c=true):∀ x ∈ putL l c.key c.new_,recB x=true:=by
 intro x hx
 rcases putL_mem hx with h|⟨rfl,h⟩
 ·exact hl x h
 ·unfold recB
  rw[changeB_key hc]
  rcases changeB_new hc with e|e
  ·rw[e] at h;cases h
  ·rw[e];rfl
theorem repN_spec {cs:List DChange} : (k:Nat)→(l:List DRecord)→repN cs k=some l→((∀ x ∈ l,recB x=true)∧Rise l∧l.length≤32)∧(∀ j,j<k→j<cs.length∧upOk changeB dayLe cs j=true)∧patN [] cs k=some l:=by
 intro k
 induction k with
 | zero =>
  intro l h;have:l = []:=by unfold repN at h;injection h with h;exact h.symm
  subst this;exact⟨⟨fun x hx=>by simp at hx,List.Pairwise.nil,by simp⟩,fun j hj=>absurd hj (by omega),rfl⟩
 | succ k ih =>
  intro l h;unfold repN at h
  cases h1:repN cs k with
  | none=>rw[h1] at h;cases h
  | some m =>
   cases h2:cs[k]? with
   | none=>rw[h1,h2] at h;cases h
   | some c =>
    rw[h1,h2] at h;simp only at h
    split at h
    ·rename_i hu
     obtain⟨hk,rfl⟩:=List.getElem?_eq_some_iff.1 h2;obtain⟨⟨i1,i2,i3⟩,i4,i5⟩:=ih m h1;obtain⟨p1,rfl,p3⟩:=patS_some h;have hc:=upOk_change hk hu;refine⟨⟨put_recs i1 hc,putL_rise i2 _ _,p3⟩,fun j hj=>?_,?_⟩
     ·by_cases e:j=k
      ·subst e;exact⟨hk,hu⟩
      ·exact i4 j (by omega)
     ·unfold patN
      rw[i5,h2];exact h
    ·cases h
theorem repN_of_pat {cs:List DChange} (hu:∀ j,j<cs.length→upOk changeB dayLe cs j=true):(k:Nat)→k≤cs.length→repN cs k=patN [] cs k:=by
 intro k
 induction k with
 | zero=>intro _;rfl
 | succ k ih =>
  intro hk;unfold repN patN;rw[ih (by omega)]
  cases patN [] cs k with
  | none=>rfl
  | some l =>
   rw[List.getElem?_eq_getElem (show k<cs.length by omega)];simp only;rw[if_pos (hu k (by omega))]
def regS (r:DRegister):Bool:=stateB r.records&&(storyB r.changes&&(match patN [] r.changes r.changes.length with|some l=>sameRs l r.records|none=>false))
theorem regS_eq (r:DRegister):regS r=regB r:=by
 unfold regS regB storyB
 by_cases hu:rowOk changeB dayLe r.changes=true
 ·rw[repN_of_pat (fun j hj=>rowOk_at hu hj) _ (Nat.le_refl _),hu,Bool.true_and]
  cases hp:patN [] r.changes r.changes.length with
  | none=>simp
  | some l =>
   simp only
   by_cases hs:sameRs l r.records=true
   ·have e:=sameRs_iff.1 hs
    rw[← repN_of_pat (fun j hj=>rowOk_at hu hj) _ (Nat.le_refl _)] at hp;obtain⟨⟨i1,i2,i3⟩,_,_⟩:=repN_spec _ l hp;rw[e] at i1 i2 i3;have:stateB r.records=true:=by unfold stateB;rw[rowOk_iff.2 ⟨i1,i2⟩,decide_eq_true i3];rfl
    rw[this,hs];simp
   ·rw[Bool.eq_false_iff.2 hs];simp
 ·rw[Bool.eq_false_iff.2 hu]
  cases hr:repN r.changes r.changes.length with
  | none=>simp
  | some l =>
   exfalso
   obtain⟨_,h2,_⟩:=repN_spec _ l hr;exact hu (rowOk_true (fun j hj=>(h2 j hj).2))
theorem regB_state {r:DRegister} (h:regB r=true):(∀ x ∈ r.records,recB x=true)∧Rise r.records∧r.records.length≤32∧r.changes.length≤48:=by
 unfold regB at h;rw[Bool.and_eq_true,decide_eq_true_eq] at h;obtain⟨h1,h2⟩:=h
 cases hr:repN r.changes r.changes.length with
 | none=>rw[hr] at h2;cases h2
 | some l =>
  rw[hr] at h2;have e:=sameRs_iff.1 h2;obtain⟨⟨i1,i2,i3⟩,_,_⟩:=repN_spec _ l hr;rw[e] at i1 i2 i3;exact⟨i1,i2,i3,h1⟩
def laterB (r:DRegister) (day:Int):Bool:=match r.changes.getLast? with|some c=>decide (day<c.day)|none=>false
def setRecR (r:DRegister) (key value:ByteArray) (day:Int):DRegister × Int :=
 if regB r=true then (if nameB key=true then (if valueB value=true then (if dayB day=true then (if laterB r day=true then (⟨[],[]⟩,7) else (if eqS (valOf r.records key) value=true then (⟨[],[]⟩,4) else
  (if 32<(putL r.records key value).length then (⟨[],[]⟩,5) else (if r.changes.length=48 then (⟨[],[]⟩,5) else (⟨putL r.records key value,r.changes++[⟨day,key,valOf r.records key,value⟩]⟩,0)))))
  else (⟨[],[]⟩,2)) else (⟨[],[]⟩,1)) else (⟨[],[]⟩,1)) else (⟨[],[]⟩,1)
end Go.Proofs.YtmkkiglcpedkiaaGreatDoor
