/- The data types of the program as Lean structures, and the trees of cells that they are. -/
import Derived.Test.YtdgmgchdjlfchaaGreatDoorOwn
set_option linter.unusedVariables false
set_option linter.unusedSimpArgs false
namespace Go.Proofs.YtdgmgchdjlfchaaGreatDoor
open Go.RowKit
theorem cntL_flat_take_le {α:Type} (g:α→List Tr) (l:List α) (i:Nat):cntL ((l.take i).flatMap g)≤cntL (l.flatMap g):=by
 have h:=cntL_append ((l.take i).flatMap g) ((l.drop i).flatMap g);rw[← List.flatMap_append,List.take_append_drop] at h;omega
theorem Reps.change {w:World} : {ts us:List Tr}→{t:Tr}→{b off:Nat}→{f:List Nat}→Reps w (ts++t::us) b off f →
  ∃ f1 g f2 v,f=f1++(g++f2)∧w.cell? ⟨b,off+ts.length,none⟩=some v∧Rep w t v g ∧
   ∀ w' t',(w'.heap[b]? = w.heap[b]?)→(∀ x,x ∈ f1∨x ∈ f2→w'.heap[x]? = w.heap[x]?)→Rep w' t' v g→Reps w' (ts++t'::us) b off f:=by
 intro ts us t b off f h;obtain⟨f1,h1,hs1,hs2,rfl⟩:=h.split;obtain⟨v,g,f2,hc,hr,hrs,rfl⟩:=Reps_cons.1 hs2;refine⟨f1,g,f2,v,rfl,hc,hr,fun w' t' hb hx hr'=>?_⟩;refine Reps.append (hs1.frame hb (fun x hx'=>hx x (Or.inl hx'))) (Reps_cons.2 ⟨v,g,f2,?_,hr',hrs.frame hb (fun x hx'=>hx x (Or.inr hx')),rfl⟩);rw[World.cell?_of_block (w:=w) hb];exact hc
theorem Reps.setLit {w:World} : {ts us:List Tr}→{v0:Value}→{b off:Nat}→{f:List Nat}→Reps w (ts++.lit v0::us) b off f→b ∉ f→(u:Value) →
  Reps (w.setCell ⟨b,off+ts.length,none⟩ u) (ts++.lit u::us) b off f:=by
 intro ts us v0 b off f h hb u;obtain⟨f1,h1,hs1,hs2,rfl⟩:=h.split;obtain⟨v,g,f2,hc,hr,hrs,rfl⟩:=Reps_cons.1 hs2;obtain⟨rfl,rfl⟩:=Rep_lit.1 hr;have hfar:∀ x ∈ f1++([]++f2),(w.setCell ⟨b,off+ts.length,none⟩ u).heap[x]? = w.heap[x]?:=fun x hx=>Below.heap_setCell w _ u x (fun e=>by subst e;exact hb hx)
 have keep:∀ (as:List Tr) (o:Nat) (fa:List Nat),Reps w as b o fa→(o+as.length≤off+ts.length∨off+ts.length<o)→(∀ x ∈ fa,x ∈ f1++([]++f2))→Reps (w.setCell ⟨b,off+ts.length,none⟩ u) as b o fa:=by
  intro as
  induction as with
  | nil=>intro o fa hr _ _;exact Reps_nil.2 (Reps_nil.1 hr)
  | cons t as ih =>
   intro o fa hr ho hin;obtain⟨v',g',f',hc',hr',hrs',rfl⟩:=Reps_cons.1 hr;refine Reps_cons.2 ⟨v',g',f',?_,hr'.frame (fun x hx=>hfar x (hin x (by simp[hx]))),ih (o+1) f' hrs' (by simp at ho;omega) (fun x hx=>hin x (by simp[hx])),rfl⟩;rw[← hc'];exact World.cell?_setCell_other w _ _ u (fun e=>by injection e with _ e;simp at ho;omega)
 refine Reps.append (keep ts off f1 hs1 (by omega) (fun x hx=>by simp[hx])) (Reps_cons.2 ⟨u,[],f2,?_,Rep_lit.2 ⟨rfl,rfl⟩,keep us _ f2 hrs (by omega) (fun x hx=>by simp[hx]),rfl⟩);exact World.cell?_setCell_same w ⟨b,off+ts.length,none⟩ u hc
theorem frozen_setCell (w:World) (a:Addr) (u:Value) (p:Addr):(w.setCell a u).frozen? p=w.frozen? p:=by
 by_cases h:p.block=a.block
 ·simp only[World.frozen?,World.setCell,Array.getElem?_modify,h,if_true]
  cases w.heap[a.block]? with
  | none=>rfl
  | some o=>cases o<;>rfl
 ·exact World.frozen?_of_block (w:=w) (Below.heap_setCell w a u p.block h)
theorem Own.litAt {w:World} {k:Nat} {ts us:List Tr} {v0:Value} {v:Value} {fp:List Nat} (h:Own w (.sl k (ts++.lit v0::us)) v fp) :
  ∃ b off f n c,v=.slice (some ⟨b,off,none⟩) n c∧fp=b::f∧w.cell? ⟨b,off+ts.length,none⟩=some v0∧(∀ i,w.frozen? ⟨b,i,none⟩=false) ∧
   ∀ u,Own (w.setCell ⟨b,off+ts.length,none⟩ u) (.sl k (ts++.lit u::us)) v fp:=by
 obtain⟨a,n,c,hv,hl,hn,hc,hh⟩:=Rep_sl.1 h.rep
 rcases hh with ⟨he,_⟩|⟨b,off,f,hne,ha,hfp,hr⟩
 ·simp at he
 ·subst ha hfp
  have hnb:b ∉ f:=(List.nodup_cons.1 h.nd).1;obtain⟨f1,g,f2,x,hf,hcell,hrep,_⟩:=hr.change;obtain⟨rfl,rfl⟩:=Rep_lit.1 hrep;refine⟨b,off,f,n,c,hv,rfl,hcell,h.free b (by simp),fun u=>⟨?_,h.nd,?_⟩⟩
  ·exact Rep_sl.2 ⟨_,n,c,hv,by simpa using hl,hn,hc,Or.inr ⟨b,off,f,by simp,rfl,rfl,hr.setLit hnb u⟩⟩
  ·intro b' hb' i
   rw[frozen_setCell];exact h.free b' hb' i
theorem Own.partAt {w:World} {k:Nat} {ts us:List Tr} {t:Tr} {v:Value} {fp:List Nat} (h:Own w (.sl k (ts++t::us)) v fp) :
  ∃ b off n c x g,v=.slice (some ⟨b,off,none⟩) n c∧b ∈ fp∧b ∉ g∧w.cell? ⟨b,off+ts.length,none⟩=some x∧Own w t x g∧(∀ y ∈ g,y ∈ fp) ∧
   ∀ w' t',(∀ y ∈ fp,y ∉ g→w'.heap[y]? = w.heap[y]?)→Own w' t' x g→Own w' (.sl k (ts++t'::us)) v fp:=by
 obtain⟨a,n,c,hv,hl,hn,hc,hh⟩:=Rep_sl.1 h.rep
 rcases hh with ⟨he,_⟩|⟨b,off,f,hne,ha,hfp,hr⟩
 ·simp at he
 ·subst ha hfp
  have hnb:b ∉ f:=(List.nodup_cons.1 h.nd).1;have hnf:f.Nodup:=(List.nodup_cons.1 h.nd).2;obtain⟨f1,g,f2,x,rfl,hcell,hrep,hch⟩:=hr.change;obtain⟨n1,n2,n3⟩:=List.nodup_append.1 hnf;obtain⟨n4,n5,n6⟩:=List.nodup_append.1 n2;refine⟨b,off,n,c,x,g,hv,by simp,fun e=>hnb (by simp[e]),hcell,⟨hrep,n4,fun y hy i=>h.free y (by simp[hy]) i⟩,fun y hy=>by simp[hy],fun w' t' hk ho=>?_⟩;have hbg:b ∉ g:=fun e=>hnb (by simp[e])
  have h1g:∀ y ∈ f1,y ∉ g:=fun y hy e=>n3 y hy y (by simp[e]) rfl
  have h2g:∀ y ∈ f2,y ∉ g:=fun y hy e=>n6 y e y hy rfl
  refine⟨Rep_sl.2 ⟨_,n,c,hv,by simpa using hl,hn,hc,Or.inr ⟨b,off,_,by simp,rfl,rfl,hch w' t' (hk b (by simp) hbg) (fun y hy=>?_) ho.rep⟩⟩,h.nd,fun y hy i=>?_⟩
  ·rcases hy with hy|hy
   ·exact hk y (by simp[hy]) (h1g y hy)
   ·exact hk y (by simp[hy]) (h2g y hy)
  ·by_cases hyg:y ∈ g
   ·exact ho.free y hyg i
   ·rw[World.frozen?_of_block (w:=w) (hk y hy hyg)]
    exact h.free y hy i
theorem mkL_flat_get {α:Type} (g:α→List Tr) (k:Nat) (hg:∀ x,(g x).length=k):(l:List α)→(m:Nat)→(i:Nat)→(hi:i<l.length)→(j:Nat)→(hj:j<k) →
  (mkL (l.flatMap g) m)[i*k+j]? = (mkL (g l[i]) (m+cntL ((l.take i).flatMap g)))[j]?:=by
 intro l
 induction l with
 | nil=>intro m i hi;simp at hi
 | cons x l ih =>
  intro m i hi j hj;rw[List.flatMap_cons,mkL_append]
  cases i with
  | zero=>rw[List.getElem?_append_left (by rw[mkL_length,hg];omega)];simp[cntL]
  | succ i =>
   have e:(i+1)*k+j=k+(i*k+j):=by rw[Nat.succ_mul];omega
   rw[List.getElem?_append_right (by rw[mkL_length,hg];omega),mkL_length,hg,e,Nat.add_sub_cancel_left];rw[ih _ i (by simpa using hi) j hj];simp[List.flatMap_cons,cntL_append,Nat.add_assoc]
theorem Rd.mkAt {α:Type} {B:Nat} {w:World} {k m:Nat} {g:α→List Tr} {l:List α} {v:Value} (hk:0<k) (hg:∀ x,(g x).length=k) (h:Rd B w (mkT (.sl k (l.flatMap g)) m) v) :
  ∃ a c,v=.slice a l.length c∧l.length≤c∧c≤maxLen∧(0<l.length→∃ b off,a=some ⟨b,off,none⟩∧b<B∧∀ (i:Nat) (hi:i<l.length) (j:Nat) (t:Tr),(mkL (g l[i]) (m+cntL ((l.take i).flatMap g)))[j]? = some t →
   ∃ u,w.cell? ⟨b,off+i*k+j,none⟩=some u∧Rd B w t u):=by
 rw[mkT] at h;obtain⟨a,n,c,he,hl,hnc,hcm,hcells⟩:=h.sl;rw[mkL_length,flat_length _ k hg] at hl;obtain rfl:l.length=n:=Nat.eq_of_mul_eq_mul_right hk hl;refine⟨a,c,he,hnc,hcm,fun hne=>?_⟩
 obtain⟨b,off,ha,hbl,hat⟩:=hcells (by
  intro e;have:=congrArg List.length e;rw[mkL_length,flat_length _ k hg] at this;have h0:0<l.length*k:=Nat.mul_pos hne hk;simp at this
  omega)
 refine⟨b,off,ha,hbl,fun i hi j t hu=>?_⟩;have hj:j<k:=by
  have:=(List.getElem?_eq_some_iff.1 hu).1;rw[mkL_length,hg] at this;exact this
 have hlt:i*k+j<(mkL (l.flatMap g) m).length:=by
  rw[mkL_length,flat_length _ k hg];have:(i+1)*k≤l.length*k:=Nat.mul_le_mul_right k hi;rw[Nat.succ_mul] at this;omega
 obtain⟨u',hc,hr⟩:=hat (i*k+j) hlt;have e:=mkL_flat_get g k hg l m i hi j hj;rw[hu,List.getElem?_eq_getElem hlt] at e;injection e with e;rw[e] at hr;exact⟨u',by rw[Nat.add_assoc];exact hc,hr⟩
def mid {α:Type} (g:α→List Tr) (k:Nat) (l:List α) (m i:Nat):Tr:=.sl k (mkL ((l.take i).flatMap g) m++(l.drop i).flatMap g)
theorem mid_zero {α:Type} (g:α→List Tr) (k:Nat) (l:List α) (m:Nat):mid g k l m 0=.sl k (l.flatMap g):=by simp[mid,mkL]
theorem mid_end {α:Type} (g:α→List Tr) (k:Nat) (l:List α) (m:Nat):mid g k l m l.length=mkT (.sl k (l.flatMap g)) m:=by simp[mid,mkT]
theorem mid_at {α:Type} (g:α→List Tr) (k:Nat) (l:List α) (m i:Nat) (hi:i<l.length):mid g k l m i=.sl k (mkL ((l.take i).flatMap g) m++(g l[i]++(l.drop (i+1)).flatMap g)):=by
 unfold mid;rw[List.drop_eq_getElem_cons hi,List.flatMap_cons]
theorem mid_succ {α:Type} (g:α→List Tr) (k:Nat) (l:List α) (m i:Nat) (hi:i<l.length) :
  mid g k l m (i+1)=.sl k (mkL ((l.take i).flatMap g) m++(mkL (g l[i]) (m+cntL ((l.take i).flatMap g))++(l.drop (i+1)).flatMap g)):=by
 unfold mid;rw[flat_take_succ g l i hi,mkL_append,List.append_assoc]
theorem cntL_take_succ {α:Type} (g:α→List Tr) (l:List α) (i:Nat) (hi:i<l.length):cntL ((l.take (i+1)).flatMap g)=cntL ((l.take i).flatMap g)+cntL (g l[i]):=by
 rw[flat_take_succ g l i hi,cntL_append]
theorem Own.form {α:Type} {w:World} {k:Nat} {g:α→List Tr} {l:List α} {v:Value} {fp:List Nat} (hk:0<k) (hg:∀ x,(g x).length=k) (h:Own w (.sl k (l.flatMap g)) v fp):∃ a c,v=.slice a l.length c∧l.length≤c∧c≤maxLen:=by
 obtain⟨a,n,c,hv,hl,hn,hc,_⟩:=Rep_sl.1 h.rep;rw[flat_length _ k hg] at hl;obtain rfl:l.length=n:=Nat.eq_of_mul_eq_mul_right hk hl;exact⟨a,c,hv,hn,hc⟩
theorem Own.form1 {α:Type} {w:World} {g:α→Tr} {l:List α} {v:Value} {fp:List Nat} (h:Own w (.sl 1 (l.map g)) v fp):∃ a c,v=.slice a l.length c∧l.length≤c∧c≤maxLen:=by
 rw[map_flat] at h;exact h.form (k:=1) (g:=fun x=>[g x]) (by decide) (fun _=>rfl)
structure OwnV (w:World) (ts:List Tr) (vs:List Value) (fp:List Nat):Prop where
 rep:RepV w ts vs fp
 nd:fp.Nodup
 free:Free w fp
theorem OwnV.frame {w w':World} {ts:List Tr} {vs:List Value} {fp:List Nat} (h:OwnV w ts vs fp) (hf:∀ b ∈ fp,w'.heap[b]? = w.heap[b]?):OwnV w' ts vs fp:=⟨h.rep.frame hf,h.nd,h.free.frame hf⟩
theorem OwnV.below {w w':World} {ts:List Tr} {vs:List Value} {fp:List Nat} {lo hi B:Nat} (h:OwnV w ts vs fp) (hi':In lo hi fp) (hB:hi≤B) (hb:Below B w w'):OwnV w' ts vs fp :=
 h.frame fun b hx=>hb.block b (by have:=(hi' b hx).2;omega)
theorem OwnV.chg {w w':World} {ts:List Tr} {vs:List Value} {fp fq:List Nat} {lo hi:Nat} (h:OwnV w ts vs fp) (hi':In lo hi fp) (hs:hi≤w.heap.size) (hc:Chg fq w w') (hd:∀ x ∈ fp,x ∉ fq):OwnV w' ts vs fp :=
 h.frame fun b hx=>hc.block b (by have:=(hi' b hx).2;omega) (hd b hx)
theorem OwnV.nil {w:World} : OwnV w [] [] []:=⟨rfl,List.nodup_nil,fun b h=>by simp at h⟩
theorem OwnV.cons {w:World} {t:Tr} {ts:List Tr} {v:Value} {vs:List Value} {f g:List Nat} (h:Own w t v f) (k:OwnV w ts vs g) (hd:∀ x ∈ f,x ∉ g):OwnV w (t::ts) (v::vs) (f++g) :=
 ⟨⟨f,g,h.rep,k.rep,rfl⟩,List.nodup_append.2 ⟨h.nd,k.nd,fun a ha b hb e=>hd a ha (e ▸ hb)⟩,fun b hb i=>by
  rcases List.mem_append.1 hb with hb|hb
  ·exact h.free b hb i
  ·exact k.free b hb i⟩
theorem OwnV.consLit {w:World} {u v:Value} {ts:List Tr} {vs:List Value} {g:List Nat} (k:OwnV w ts vs g) (e:v=u):OwnV w (.lit u::ts) (v::vs) g:=by
 subst e;exact OwnV.cons (f:=[]) Own.lit k (fun x hx=>by simp at hx)
theorem OwnV.uncons {w:World} {t:Tr} {ts:List Tr} {v:Value} {vs:List Value} {fp:List Nat} (h:OwnV w (t::ts) (v::vs) fp):∃ f g,fp=f++g∧Own w t v f∧OwnV w ts vs g∧∀ x ∈ f,x ∉ g:=by
 obtain⟨f,g,h1,h2,rfl⟩:=h.rep;obtain⟨n1,n2,n3⟩:=List.nodup_append.1 h.nd;exact⟨f,g,rfl,⟨h1,n1,fun b hb i=>h.free b (by simp[hb]) i⟩,⟨h2,n2,fun b hb i=>h.free b (by simp[hb]) i⟩,fun x hx e=>n3 x hx x e rfl⟩
theorem OwnV.rd {w:World} : {ts:List Tr}→{vs:List Value}→{fp:List Nat}→{lo hi:Nat}→OwnV w ts vs fp→In lo hi fp→RdV hi w ts vs:=by
 intro ts
 induction ts with
 | nil=>intro vs fp lo hi h _;cases vs with
  | nil=>trivial
  | cons _ _=>exact h.rep.elim
 | cons t ts ih =>
  intro vs fp lo hi h hin
  cases vs with
  | nil=>exact h.rep.elim
  | cons v vs =>
   obtain⟨f,g,rfl,h1,h2,_⟩:=h.uncons;exact⟨h1.rd (lo:=lo) (fun b hb=>hin b (by simp[hb])),ih (lo:=lo) h2 (fun b hb=>hin b (by simp[hb]))⟩
theorem Own.someAddr {w:World} {k:Nat} {ts us:List Tr} {t:Tr} {a:Option Addr} {n c:Nat} {fp:List Nat} (h:Own w (.sl k (ts++(t::us))) (.slice a n c) fp):∃ b off,a=some ⟨b,off,none⟩∧b ∈ fp:=by
 obtain⟨a',n',c',hv,_,_,_,hh⟩:=Rep_sl.1 h.rep
 rcases hh with ⟨he,_⟩|⟨b,off,f,_,ha,hfp,_⟩
 ·simp at he
 ·injection hv with h1 _ _
  exact⟨b,off,by rw[h1,ha],by rw[hfp];simp⟩
theorem split_at {ch:List Tr} {q:Nat} {t:Tr} (hq:ch[q]? = some t):ch=ch.take q++t::ch.drop (q+1)∧∀ t',ch.set q t' = ch.take q++t'::ch.drop (q+1):=by
 obtain⟨hl,he⟩:=List.getElem?_eq_some_iff.1 hq;subst he;refine⟨?_,fun t'=>?_⟩
 ·rw[List.getElem_cons_drop,List.take_append_drop]
 ·rw[List.set_eq_take_append_cons_drop,if_pos hl]
theorem Own.setChunk {w:World} {k:Nat} {TS ch US:List Tr} {b off n c:Nat} {fp:List Nat} (h:Own w (.sl k (TS++(ch++US))) (.slice (some ⟨b,off,none⟩) n c) fp) (q:Nat) (v0:Value) (hq:ch[q]? = some (.lit v0)) (idx:Nat) (hidx:idx=off+(TS.length+q)) (u:Value) :
  Own (w.setCell ⟨b,idx,none⟩ u) (.sl k (TS++(ch.set q (.lit u)++US))) (.slice (some ⟨b,off,none⟩) n c) fp:=by
 obtain⟨e1,e2⟩:=split_at hq;have hl:(ch.take q).length=q:=by rw[List.length_take];have:=(List.getElem?_eq_some_iff.1 hq).1;omega
 have h':Own w (.sl k ((TS++ch.take q)++(.lit v0::(ch.drop (q+1)++US)))) (.slice (some ⟨b,off,none⟩) n c) fp:=by
  rw[e1] at h
  simpa using h
 obtain⟨b',off',f,n',c',hv,_,_,_,hset⟩:=h'.litAt;injection hv with h1 _ _;injection h1 with h1;injection h1 with hb ho _;subst hb ho;have:=hset u;rw[List.length_append,hl,← hidx] at this;rw[e2]
 simpa using this
theorem Own.cellChunk {w:World} {k:Nat} {TS ch US:List Tr} {b off n c:Nat} {fp:List Nat} (h:Own w (.sl k (TS++(ch++US))) (.slice (some ⟨b,off,none⟩) n c) fp) (q:Nat) (v0:Value) (hq:ch[q]? = some (.lit v0)) (idx:Nat) (hidx:idx=off+(TS.length+q)) :
  w.cell? ⟨b,idx,none⟩=some v0∧∀ i,w.frozen? ⟨b,i,none⟩=false:=by
 obtain⟨e1,e2⟩:=split_at hq;have hl:(ch.take q).length=q:=by rw[List.length_take];have:=(List.getElem?_eq_some_iff.1 hq).1;omega
 have h':Own w (.sl k ((TS++ch.take q)++(.lit v0::(ch.drop (q+1)++US)))) (.slice (some ⟨b,off,none⟩) n c) fp:=by
  rw[e1] at h
  simpa using h
 obtain⟨b',off',f,n',c',hv,_,hc,hf,_⟩:=h'.litAt;injection hv with h1 _ _;injection h1 with h1;injection h1 with hb ho _;subst hb ho;rw[List.length_append,hl,← hidx] at hc;exact⟨hc,hf⟩
theorem Own.partChunk {w:World} {k:Nat} {TS ch US:List Tr} {b off n c:Nat} {fp:List Nat} (h:Own w (.sl k (TS++(ch++US))) (.slice (some ⟨b,off,none⟩) n c) fp) (q:Nat) (t:Tr) (hq:ch[q]? = some t) (idx:Nat) (hidx:idx=off+(TS.length+q)) :
  ∃ x g,w.cell? ⟨b,idx,none⟩=some x∧Own w t x g∧(∀ y ∈ g,y ∈ fp)∧b ∉ g ∧
   ∀ w' t',(∀ y ∈ fp,y ∉ g→w'.heap[y]? = w.heap[y]?)→Own w' t' x g→Own w' (.sl k (TS++(ch.set q t'++US))) (.slice (some ⟨b,off,none⟩) n c) fp:=by
 obtain⟨e1,e2⟩:=split_at hq;have hl:(ch.take q).length=q:=by rw[List.length_take];have:=(List.getElem?_eq_some_iff.1 hq).1;omega
 have h':Own w (.sl k ((TS++ch.take q)++(t::(ch.drop (q+1)++US)))) (.slice (some ⟨b,off,none⟩) n c) fp:=by
  rw[e1] at h
  simpa using h
 obtain⟨b',off',n',c',x,g,hv,_,hbg,hc,hox,hg,hset⟩:=h'.partAt;injection hv with h1 _ _;injection h1 with h1;injection h1 with hb ho _;subst hb ho;rw[List.length_append,hl,← hidx] at hc;refine⟨x,g,hc,hox,hg,hbg,fun w' t' hk ho=>?_⟩;have:=hset w' t' hk ho;rw[e2]
 simpa using this
theorem Own.setFar {w:World} {t:Tr} {v:Value} {fp:List Nat} (h:Own w t v fp) {p:Addr} (hp:p.block ∉ fp) (u:Value):Own (w.setCell p u) t v fp :=
 h.frame fun b hb=>Below.heap_setCell w p u b (fun e=>hp (e ▸ hb))
theorem OwnV.setFar {w:World} {ts:List Tr} {vs:List Value} {fp:List Nat} (h:OwnV w ts vs fp) {p:Addr} (hp:p.block ∉ fp) (u:Value):OwnV (w.setCell p u) ts vs fp :=
 h.frame fun b hb=>Below.heap_setCell w p u b (fun e=>hp (e ▸ hb))
theorem OwnV.append {w:World} : {ts us:List Tr}→{vs xs:List Value}→{f g:List Nat}→OwnV w ts vs f→OwnV w us xs g→(∀ x ∈ f,x ∉ g)→OwnV w (ts++us) (vs++xs) (f++g):=by
 intro ts us vs xs f g h k hd;refine⟨?_,List.nodup_append.2 ⟨h.nd,k.nd,fun a ha b hb e=>hd a ha (e ▸ hb)⟩,fun b hb i=>?_⟩
 ·have:∀ (ts:List Tr) (vs:List Value) (f:List Nat),RepV w ts vs f→RepV w (ts++us) (vs++xs) (f++g):=by
   intro ts
   induction ts with
   | nil=>intro vs f h;cases vs with
    | nil=>rw[show f = [] from h];exact k.rep
    | cons _ _=>exact h.elim
   | cons t ts ih =>
    intro vs f h
    cases vs with
    | nil=>exact h.elim
    | cons x vs =>
     obtain⟨f1,f2,h1,h2,rfl⟩:=h;exact⟨f1,f2++g,h1,ih vs f2 h2,by simp⟩
  exact this ts vs f h.rep
 ·rcases List.mem_append.1 hb with hb|hb
  ·exact h.free b hb i
  ·exact k.free b hb i
def I64 (n:Int):Prop:=-9223372036854775808≤n∧n≤9223372036854775807
structure DPoint where
 x:Int
 y:Int
def DPoint.tr (x:DPoint):List Tr:=[intT x.x,intT x.y]
def DPoint.sT (l:List DPoint):Tr:=.sl 2 (l.flatMap DPoint.tr)
structure DPoint.ok (x_:DPoint):Prop where
 x:I64 x_.x
 y:I64 x_.y
structure DMode where
 need:Int
 rate:Int
def DMode.tr (x:DMode):List Tr:=[intT x.need,intT x.rate]
theorem DMode.tr_len (x:DMode):x.tr.length=2:=rfl
def DMode.sT (l:List DMode):Tr:=.sl 2 (l.flatMap DMode.tr)
structure DMode.ok (x_:DMode):Prop where
 need:I64 x_.need
 rate:I64 x_.rate
theorem DMode.rd {B:Nat} {w:World} {l:List DMode} {v:Value} (h:Rd B w (DMode.sT l) v) :
  ∃ a c,v=.slice a l.length c∧l.length≤c∧c≤maxLen∧(0<l.length→∃ b off,a=some ⟨b,off,none⟩∧b<B∧∀ (i:Nat) (hi:i<l.length),
   w.cell? ⟨b,off+i*2,none⟩=some (.int .i64 l[i].need)∧w.cell? ⟨b,off+i*2+1,none⟩=some (.int .i64 l[i].rate)):=by
 obtain⟨a,c,he,h1,h2,h3⟩:=Rd.slAt (k:=2) (g:=DMode.tr) (by decide) DMode.tr_len h;refine⟨a,c,he,h1,h2,fun hn=>?_⟩;obtain⟨b,off,ha,hb,hat⟩:=h3 hn;refine⟨b,off,ha,hb,fun i hi=>?_⟩;obtain⟨u0,c0,r0⟩:=hat i hi 0 _ rfl;rw[Rd.lit.1 r0] at c0;obtain⟨u1,c1,r1⟩:=hat i hi 1 _ rfl;rw[Rd.lit.1 r1] at c1;exact⟨c0,c1⟩
structure DEnd where
 place:DPoint
 above:Int
def DEnd.tr (x:DEnd):List Tr:=[intT x.place.x,intT x.place.y,intT x.above]
theorem DEnd.tr_len (x:DEnd):x.tr.length=3:=rfl
def DEnd.sT (l:List DEnd):Tr:=.sl 3 (l.flatMap DEnd.tr)
structure DEnd.ok (x_:DEnd):Prop where
 place:x_.place.ok
 above:I64 x_.above
theorem DEnd.rd {B:Nat} {w:World} {l:List DEnd} {v:Value} (h:Rd B w (DEnd.sT l) v) :
  ∃ a c,v=.slice a l.length c∧l.length≤c∧c≤maxLen∧(0<l.length→∃ b off,a=some ⟨b,off,none⟩∧b<B∧∀ (i:Nat) (hi:i<l.length),
   w.cell? ⟨b,off+i*3,none⟩=some (.int .i64 l[i].place.x)∧w.cell? ⟨b,off+i*3+1,none⟩=some (.int .i64 l[i].place.y)∧w.cell? ⟨b,off+i*3+2,none⟩=some (.int .i64 l[i].above)):=by
 obtain⟨a,c,he,h1,h2,h3⟩:=Rd.slAt (k:=3) (g:=DEnd.tr) (by decide) DEnd.tr_len h;refine⟨a,c,he,h1,h2,fun hn=>?_⟩;obtain⟨b,off,ha,hb,hat⟩:=h3 hn;refine⟨b,off,ha,hb,fun i hi=>?_⟩;obtain⟨u0,c0,r0⟩:=hat i hi 0 _ rfl;rw[Rd.lit.1 r0] at c0;obtain⟨u1,c1,r1⟩:=hat i hi 1 _ rfl;rw[Rd.lit.1 r1] at c1;obtain⟨u2,c2,r2⟩:=hat i hi 2 _ rfl;rw[Rd.lit.1 r2] at c2;exact⟨c0,c1,c2⟩
structure DSite where
 name:ByteArray
 holder:ByteArray
 place:DPoint
def DSite.tr (x:DSite):List Tr:=[strT x.name,strT x.holder,intT x.place.x,intT x.place.y]
theorem DSite.tr_len (x:DSite):x.tr.length=4:=rfl
def DSite.sT (l:List DSite):Tr:=.sl 4 (l.flatMap DSite.tr)
structure DSite.ok (x_:DSite):Prop where
 name:x_.name.size≤maxLen
 holder:x_.holder.size≤maxLen
 place:x_.place.ok
theorem DSite.rd {B:Nat} {w:World} {l:List DSite} {v:Value} (h:Rd B w (DSite.sT l) v) :
  ∃ a c,v=.slice a l.length c∧l.length≤c∧c≤maxLen∧(0<l.length→∃ b off,a=some ⟨b,off,none⟩∧b<B∧∀ (i:Nat) (hi:i<l.length),
   w.cell? ⟨b,off+i*4,none⟩=some (.string l[i].name)∧w.cell? ⟨b,off+i*4+1,none⟩=some (.string l[i].holder)∧w.cell? ⟨b,off+i*4+2,none⟩=some (.int .i64 l[i].place.x)∧w.cell? ⟨b,off+i*4+3,none⟩=some (.int .i64 l[i].place.y)):=by
 obtain⟨a,c,he,h1,h2,h3⟩:=Rd.slAt (k:=4) (g:=DSite.tr) (by decide) DSite.tr_len h;refine⟨a,c,he,h1,h2,fun hn=>?_⟩;obtain⟨b,off,ha,hb,hat⟩:=h3 hn;refine⟨b,off,ha,hb,fun i hi=>?_⟩;obtain⟨u0,c0,r0⟩:=hat i hi 0 _ rfl;rw[Rd.lit.1 r0] at c0;obtain⟨u1,c1,r1⟩:=hat i hi 1 _ rfl;rw[Rd.lit.1 r1] at c1;obtain⟨u2,c2,r2⟩:=hat i hi 2 _ rfl;rw[Rd.lit.1 r2] at c2;obtain⟨u3,c3,r3⟩:=hat i hi 3 _ rfl;rw[Rd.lit.1 r3] at c3;exact⟨c0,c1,c2,c3⟩
structure DSector where
 name:ByteArray
 site:ByteArray
 antenna:ByteArray
 radio:ByteArray
 band:ByteArray
 azimuth:Int
 tilt:Int
 above:Int
 channel:Int
def DSector.tr (x:DSector):List Tr:=[strT x.name,strT x.site,strT x.antenna,strT x.radio,strT x.band,intT x.azimuth,intT x.tilt,intT x.above,intT x.channel]
theorem DSector.tr_len (x:DSector):x.tr.length=9:=rfl
def DSector.sT (l:List DSector):Tr:=.sl 9 (l.flatMap DSector.tr)
structure DSector.ok (x_:DSector):Prop where
 name:x_.name.size≤maxLen
 site:x_.site.size≤maxLen
 antenna:x_.antenna.size≤maxLen
 radio:x_.radio.size≤maxLen
 band:x_.band.size≤maxLen
 azimuth:I64 x_.azimuth
 tilt:I64 x_.tilt
 above:I64 x_.above
 channel:I64 x_.channel
theorem DSector.rd {B:Nat} {w:World} {l:List DSector} {v:Value} (h:Rd B w (DSector.sT l) v) :
  ∃ a c,v=.slice a l.length c∧l.length≤c∧c≤maxLen∧(0<l.length→∃ b off,a=some ⟨b,off,none⟩∧b<B∧∀ (i:Nat) (hi:i<l.length),
   w.cell? ⟨b,off+i*9,none⟩=some (.string l[i].name)∧w.cell? ⟨b,off+i*9+1,none⟩=some (.string l[i].site)∧w.cell? ⟨b,off+i*9+2,none⟩=some (.string l[i].antenna)∧w.cell? ⟨b,off+i*9+3,none⟩=some (.string l[i].radio)∧w.cell? ⟨b,off+i*9+4,none⟩=some (.string l[i].band)∧w.cell? ⟨b,off+i*9+5,none⟩=some (.int .i64 l[i].azimuth)∧w.cell? ⟨b,off+i*9+6,none⟩=some (.int .i64 l[i].tilt)∧w.cell? ⟨b,off+i*9+7,none⟩=some (.int .i64 l[i].above)∧w.cell? ⟨b,off+i*9+8,none⟩=some (.int .i64 l[i].channel)):=by
 obtain⟨a,c,he,h1,h2,h3⟩:=Rd.slAt (k:=9) (g:=DSector.tr) (by decide) DSector.tr_len h;refine⟨a,c,he,h1,h2,fun hn=>?_⟩;obtain⟨b,off,ha,hb,hat⟩:=h3 hn;refine⟨b,off,ha,hb,fun i hi=>?_⟩;obtain⟨u0,c0,r0⟩:=hat i hi 0 _ rfl;rw[Rd.lit.1 r0] at c0;obtain⟨u1,c1,r1⟩:=hat i hi 1 _ rfl;rw[Rd.lit.1 r1] at c1;obtain⟨u2,c2,r2⟩:=hat i hi 2 _ rfl;rw[Rd.lit.1 r2] at c2;obtain⟨u3,c3,r3⟩:=hat i hi 3 _ rfl;rw[Rd.lit.1 r3] at c3;obtain⟨u4,c4,r4⟩:=hat i hi 4 _ rfl;rw[Rd.lit.1 r4] at c4;obtain⟨u5,c5,r5⟩:=hat i hi 5 _ rfl;rw[Rd.lit.1 r5] at c5;obtain⟨u6,c6,r6⟩:=hat i hi 6 _ rfl;rw[Rd.lit.1 r6] at c6;obtain⟨u7,c7,r7⟩:=hat i hi 7 _ rfl;rw[Rd.lit.1 r7] at c7;obtain⟨u8,c8,r8⟩:=hat i hi 8 _ rfl;rw[Rd.lit.1 r8] at c8;exact⟨c0,c1,c2,c3,c4,c5,c6,c7,c8⟩
structure DAntenna where
 name:ByteArray
 gain:Int
 horizontal:List Int
 vertical:List Int
def DAntenna.tr (x:DAntenna):List Tr:=[strT x.name,intT x.gain,intsT x.horizontal,intsT x.vertical]
theorem DAntenna.tr_len (x:DAntenna):x.tr.length=4:=rfl
def DAntenna.sT (l:List DAntenna):Tr:=.sl 4 (l.flatMap DAntenna.tr)
structure DAntenna.ok (x_:DAntenna):Prop where
 name:x_.name.size≤maxLen
 gain:I64 x_.gain
 horizontal:(∀ n ∈ x_.horizontal,I64 n)
 vertical:(∀ n ∈ x_.vertical,I64 n)
theorem DAntenna.rd {B:Nat} {w:World} {l:List DAntenna} {v:Value} (h:Rd B w (DAntenna.sT l) v) :
  ∃ a c,v=.slice a l.length c∧l.length≤c∧c≤maxLen∧(0<l.length→∃ b off,a=some ⟨b,off,none⟩∧b<B∧∀ (i:Nat) (hi:i<l.length),
   w.cell? ⟨b,off+i*4,none⟩=some (.string l[i].name)∧w.cell? ⟨b,off+i*4+1,none⟩=some (.int .i64 l[i].gain)∧(∃ u,w.cell? ⟨b,off+i*4+2,none⟩=some u∧Rd B w (intsT l[i].horizontal) u)∧(∃ u,w.cell? ⟨b,off+i*4+3,none⟩=some u∧Rd B w (intsT l[i].vertical) u)):=by
 obtain⟨a,c,he,h1,h2,h3⟩:=Rd.slAt (k:=4) (g:=DAntenna.tr) (by decide) DAntenna.tr_len h;refine⟨a,c,he,h1,h2,fun hn=>?_⟩;obtain⟨b,off,ha,hb,hat⟩:=h3 hn;refine⟨b,off,ha,hb,fun i hi=>?_⟩;obtain⟨u0,c0,r0⟩:=hat i hi 0 _ rfl;rw[Rd.lit.1 r0] at c0;obtain⟨u1,c1,r1⟩:=hat i hi 1 _ rfl;rw[Rd.lit.1 r1] at c1;obtain⟨u2,c2,r2⟩:=hat i hi 2 _ rfl;obtain⟨u3,c3,r3⟩:=hat i hi 3 _ rfl;exact⟨c0,c1,⟨u2,c2,r2⟩,⟨u3,c3,r3⟩⟩
structure DRadio where
 name:ByteArray
 power:Int
 feeder:Int
 noise:Int
 width:Int
 modes:List DMode
def DRadio.tr (x:DRadio):List Tr:=[strT x.name,intT x.power,intT x.feeder,intT x.noise,intT x.width,DMode.sT x.modes]
theorem DRadio.tr_len (x:DRadio):x.tr.length=6:=rfl
def DRadio.sT (l:List DRadio):Tr:=.sl 6 (l.flatMap DRadio.tr)
structure DRadio.ok (x_:DRadio):Prop where
 name:x_.name.size≤maxLen
 power:I64 x_.power
 feeder:I64 x_.feeder
 noise:I64 x_.noise
 width:I64 x_.width
 modes:(∀ y ∈ x_.modes,y.ok)
theorem DRadio.rd {B:Nat} {w:World} {l:List DRadio} {v:Value} (h:Rd B w (DRadio.sT l) v) :
  ∃ a c,v=.slice a l.length c∧l.length≤c∧c≤maxLen∧(0<l.length→∃ b off,a=some ⟨b,off,none⟩∧b<B∧∀ (i:Nat) (hi:i<l.length),
   w.cell? ⟨b,off+i*6,none⟩=some (.string l[i].name)∧w.cell? ⟨b,off+i*6+1,none⟩=some (.int .i64 l[i].power)∧w.cell? ⟨b,off+i*6+2,none⟩=some (.int .i64 l[i].feeder)∧w.cell? ⟨b,off+i*6+3,none⟩=some (.int .i64 l[i].noise)∧w.cell? ⟨b,off+i*6+4,none⟩=some (.int .i64 l[i].width)∧(∃ u,w.cell? ⟨b,off+i*6+5,none⟩=some u∧Rd B w (DMode.sT l[i].modes) u)):=by
 obtain⟨a,c,he,h1,h2,h3⟩:=Rd.slAt (k:=6) (g:=DRadio.tr) (by decide) DRadio.tr_len h;refine⟨a,c,he,h1,h2,fun hn=>?_⟩;obtain⟨b,off,ha,hb,hat⟩:=h3 hn;refine⟨b,off,ha,hb,fun i hi=>?_⟩;obtain⟨u0,c0,r0⟩:=hat i hi 0 _ rfl;rw[Rd.lit.1 r0] at c0;obtain⟨u1,c1,r1⟩:=hat i hi 1 _ rfl;rw[Rd.lit.1 r1] at c1;obtain⟨u2,c2,r2⟩:=hat i hi 2 _ rfl;rw[Rd.lit.1 r2] at c2;obtain⟨u3,c3,r3⟩:=hat i hi 3 _ rfl;rw[Rd.lit.1 r3] at c3;obtain⟨u4,c4,r4⟩:=hat i hi 4 _ rfl;rw[Rd.lit.1 r4] at c4;obtain⟨u5,c5,r5⟩:=hat i hi 5 _ rfl;exact⟨c0,c1,c2,c3,c4,⟨u5,c5,r5⟩⟩
structure DNetwork where
 sites:List DSite
 sectors:List DSector
 antennas:List DAntenna
 radios:List DRadio
def DNetwork.tr (x:DNetwork):List Tr:=[DSite.sT x.sites,DSector.sT x.sectors,DAntenna.sT x.antennas,DRadio.sT x.radios]
def DNetwork.sT (l:List DNetwork):Tr:=.sl 4 (l.flatMap DNetwork.tr)
structure DNetwork.ok (x_:DNetwork):Prop where
 sites:(∀ y ∈ x_.sites,y.ok)
 sectors:(∀ y ∈ x_.sectors,y.ok)
 antennas:(∀ y ∈ x_.antennas,y.ok)
 radios:(∀ y ∈ x_.radios,y.ok)
structure DTerrain where
 step:Int
 width:Int
 height:Int
 heights:List Int
 clutter:List Int
def DTerrain.tr (x:DTerrain):List Tr:=[intT x.step,intT x.width,intT x.height,intsT x.heights,intsT x.clutter]
def DTerrain.sT (l:List DTerrain):Tr:=.sl 5 (l.flatMap DTerrain.tr)
structure DTerrain.ok (x_:DTerrain):Prop where
 step:I64 x_.step
 width:I64 x_.width
 height:I64 x_.height
 heights:(∀ n ∈ x_.heights,I64 n)
 clutter:(∀ n ∈ x_.clutter,I64 n)
theorem DEnd.opn {B:Nat} {w:World} {x:DEnd} {vs:List Value} (h0:RdV B w x.tr vs):vs = [.int .i64 x.place.x,.int .i64 x.place.y,.int .i64 x.above]:=by
 obtain⟨y0,r0,rfl,d0,h1⟩:=RdV.uncons h0;obtain⟨y1,r1,rfl,d1,h2⟩:=RdV.uncons h1;obtain⟨y2,r2,rfl,d2,h3⟩:=RdV.uncons h2;obtain rfl:=RdV.unnil h3;obtain rfl:=Rd.lit.1 d0;obtain rfl:=Rd.lit.1 d1;obtain rfl:=Rd.lit.1 d2;exact rfl
theorem DNetwork.opn {B:Nat} {w:World} {x:DNetwork} {vs:List Value} (h0:RdV B w x.tr vs):∃ v0 v1 v2 v3,vs = [v0,v1,v2,v3]∧Rd B w (DSite.sT x.sites) v0∧Rd B w (DSector.sT x.sectors) v1∧Rd B w (DAntenna.sT x.antennas) v2∧Rd B w (DRadio.sT x.radios) v3:=by
 obtain⟨y0,r0,rfl,d0,h1⟩:=RdV.uncons h0;obtain⟨y1,r1,rfl,d1,h2⟩:=RdV.uncons h1;obtain⟨y2,r2,rfl,d2,h3⟩:=RdV.uncons h2;obtain⟨y3,r3,rfl,d3,h4⟩:=RdV.uncons h3;obtain rfl:=RdV.unnil h4;exact⟨y0,y1,y2,y3,rfl,d0,d1,d2,d3⟩
theorem DTerrain.opn {B:Nat} {w:World} {x:DTerrain} {vs:List Value} (h0:RdV B w x.tr vs):∃ v3 v4,vs = [.int .i64 x.step,.int .i64 x.width,.int .i64 x.height,v3,v4]∧Rd B w (intsT x.heights) v3∧Rd B w (intsT x.clutter) v4:=by
 obtain⟨y0,r0,rfl,d0,h1⟩:=RdV.uncons h0;obtain⟨y1,r1,rfl,d1,h2⟩:=RdV.uncons h1;obtain⟨y2,r2,rfl,d2,h3⟩:=RdV.uncons h2;obtain⟨y3,r3,rfl,d3,h4⟩:=RdV.uncons h3;obtain⟨y4,r4,rfl,d4,h5⟩:=RdV.uncons h4;obtain rfl:=RdV.unnil h5;obtain rfl:=Rd.lit.1 d0;obtain rfl:=Rd.lit.1 d1;obtain rfl:=Rd.lit.1 d2;exact⟨y3,y4,rfl,d3,d4⟩
end Go.Proofs.YtdgmgchdjlfchaaGreatDoor
