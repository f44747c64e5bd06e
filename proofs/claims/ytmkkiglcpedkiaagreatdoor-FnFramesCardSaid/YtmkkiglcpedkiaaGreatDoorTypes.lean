/- The data types of the program as Lean structures, and the trees of cells that they are. -/
import Derived.Test.YtmkkiglcpedkiaaGreatDoorOwn
set_option linter.unusedVariables false
set_option linter.unusedSimpArgs false
namespace Go.Proofs.YtmkkiglcpedkiaaGreatDoor
open Go.RowKit
theorem Reps.change {w:World} : {ts us:List Tr}→{t:Tr}→{b off:Nat}→{f:List Nat}→Reps w (ts++t::us) b off f →
  ∃ f1 g f2 v,f=f1++(g++f2)∧w.cell? ⟨b,off+ts.length,none⟩=some v∧Rep w t v g ∧
   ∀ w' t',(w'.heap[b]? = w.heap[b]?)→(∀ x,x ∈ f1∨x ∈ f2→w'.heap[x]? = w.heap[x]?)→Rep w' t' v g→Reps w' (ts++t'::us) b off f:=by
 intro ts us t b off f h;obtain⟨f1,h1,hs1,hs2,rfl⟩:=h.split;obtain⟨v,g,f2,hc,hr,hrs,rfl⟩:=Reps_cons.1 hs2;refine⟨f1,g,f2,v,rfl,hc,hr,fun w' t' hb hx hr'=>?_⟩;refine Reps.append (hs1.frame hb (fun x hx'=>hx x (Or.inl hx'))) (Reps_cons.2 ⟨v,g,f2,?_,hr',hrs.frame hb (fun x hx'=>hx x (Or.inr hx')),rfl⟩);rw[World.cell?_of_block (w:=w) hb];exact hc
theorem Reps.setLit {w:World} : {ts us:List Tr}→{v0:Value}→{b off:Nat}→{f:List Nat}→Reps w (ts++.lit v0::us) b off f→b ∉ f→(u:Value) →
  Reps (w.setCell ⟨b,off+ts.length,none⟩ u) (ts++.lit u::us) b off f:=by
 intro ts us v0 b off f h hb u;obtain⟨f1,h1,hs1,hs2,rfl⟩:=h.split;obtain⟨v,g,f2,hc,hr,hrs,rfl⟩:=Reps_cons.1 hs2;obtain⟨rfl,rfl⟩:=Rep_lit.1 hr;have hfar:∀ x ∈ f1++([]++f2),(w.setCell ⟨b,off+ts.length,none⟩ u).heap[x]? = w.heap[x]?:=fun x hx=>Below.heap_setCell w _ u x (fun e=>by subst e;exact hb hx)
 have keep:∀ (as:List Tr) (o:Nat) (fa:List Nat),Reps w as b o fa→(o+as.length≤off+ts.length∨off+ts.length<o)→(∀ x ∈ fa,x ∈ f1++([]++f2))→Reps (w.setCell ⟨b,off+ts.length,none⟩ u) as b o fa:=by
  intro as
  induction as with
  | nil=>intro o fa hr _ _;exact Reps_nil.2 (Reps_nil.1 hr)
  | cons t as ih =>
   intro o fa hr ho hin;obtain⟨v',g',f',hc',hr',hrs',rfl⟩:=Reps_cons.1 hr;refine Reps_cons.2 ⟨v',g',f',?_,hr'.frame (fun x hx=>hfar x (hin x (by simp[hx]))),ih (o+1) f' hrs' (by simp at ho;omega) (fun x hx=>hin x (by simp[hx])),rfl⟩;rw[← hc'];exact World.cell?_setCell_other w _ _ u (fun e=>by injection e with _ e;simp at ho;omega)
 refine Reps.append (keep ts off f1 hs1 (by omega) (fun x hx=>by simp[hx])) (Reps_cons.2 ⟨u,[],f2,?_,Rep_lit.2 ⟨rfl,rfl⟩,keep us _ f2 hrs (by omega) (fun x hx=>by simp[hx]),rfl⟩);exact World.cell?_setCell_same w ⟨b,off+ts.length,none⟩ u hc
theorem frozen_setCell (w:World) (a:Addr) (u:Value) (p:Addr):(w.setCell a u).frozen? p=w.frozen? p:=by
 by_cases h:p.block=a.block
 ·simp only[World.frozen?,World.setCell,Array.getElem?_modify,h,if_true]
  cases w.heap[a.block]? with
  | none=>rfl
  | some o=>cases o<;>rfl
 ·exact World.frozen?_of_block (w:=w) (Below.heap_setCell w a u p.block h)
theorem Own.litAt {w:World} {k:Nat} {ts us:List Tr} {v0:Value} {v:Value} {fp:List Nat} (h:Own w (.sl k (ts++.lit v0::us)) v fp) :
  ∃ b off f n c,v=.slice (some ⟨b,off,none⟩) n c∧fp=b::f∧w.cell? ⟨b,off+ts.length,none⟩=some v0∧(∀ i,w.frozen? ⟨b,i,none⟩=false) ∧
   ∀ u,Own (w.setCell ⟨b,off+ts.length,none⟩ u) (.sl k (ts++.lit u::us)) v fp:=by
 obtain⟨a,n,c,hv,hl,hn,hc,hh⟩:=Rep_sl.1 h.rep
 rcases hh with ⟨he,_⟩|⟨b,off,f,hne,ha,hfp,hr⟩
 ·simp at he
 ·subst ha hfp
  have hnb:b ∉ f:=(List.nodup_cons.1 h.nd).1;obtain⟨f1,g,f2,x,hf,hcell,hrep,_⟩:=hr.change;obtain⟨rfl,rfl⟩:=Rep_lit.1 hrep;refine⟨b,off,f,n,c,hv,rfl,hcell,h.free b (by simp),fun u=>⟨?_,h.nd,?_⟩⟩
  ·exact Rep_sl.2 ⟨_,n,c,hv,by simpa using hl,hn,hc,Or.inr ⟨b,off,f,by simp,rfl,rfl,hr.setLit hnb u⟩⟩
  ·intro b' hb' i
   rw[frozen_setCell];exact h.free b' hb' i
def mid {α:Type} (g:α→List Tr) (k:Nat) (l:List α) (m i:Nat):Tr:=.sl k (mkL ((l.take i).flatMap g) m++(l.drop i).flatMap g)
theorem Own.form {α:Type} {w:World} {k:Nat} {g:α→List Tr} {l:List α} {v:Value} {fp:List Nat} (hk:0<k) (hg:∀ x,(g x).length=k) (h:Own w (.sl k (l.flatMap g)) v fp):∃ a c,v=.slice a l.length c∧l.length≤c∧c≤maxLen:=by
 obtain⟨a,n,c,hv,hl,hn,hc,_⟩:=Rep_sl.1 h.rep;rw[flat_length _ k hg] at hl;obtain rfl:l.length=n:=Nat.eq_of_mul_eq_mul_right hk hl;exact⟨a,c,hv,hn,hc⟩
structure OwnV (w:World) (ts:List Tr) (vs:List Value) (fp:List Nat):Prop where
 rep:RepV w ts vs fp
 nd:fp.Nodup
 free:Free w fp
theorem OwnV.frame {w w':World} {ts:List Tr} {vs:List Value} {fp:List Nat} (h:OwnV w ts vs fp) (hf:∀ b ∈ fp,w'.heap[b]? = w.heap[b]?):OwnV w' ts vs fp:=⟨h.rep.frame hf,h.nd,h.free.frame hf⟩
theorem OwnV.below {w w':World} {ts:List Tr} {vs:List Value} {fp:List Nat} {lo hi B:Nat} (h:OwnV w ts vs fp) (hi':In lo hi fp) (hB:hi≤B) (hb:Below B w w'):OwnV w' ts vs fp :=
 h.frame fun b hx=>hb.block b (by have:=(hi' b hx).2;omega)
theorem OwnV.chg {w w':World} {ts:List Tr} {vs:List Value} {fp fq:List Nat} {lo hi:Nat} (h:OwnV w ts vs fp) (hi':In lo hi fp) (hs:hi≤w.heap.size) (hc:Chg fq w w') (hd:∀ x ∈ fp,x ∉ fq):OwnV w' ts vs fp :=
 h.frame fun b hx=>hc.block b (by have:=(hi' b hx).2;omega) (hd b hx)
theorem OwnV.nil {w:World} : OwnV w [] [] []:=⟨rfl,List.nodup_nil,fun b h=>by simp at h⟩
theorem OwnV.cons {w:World} {t:Tr} {ts:List Tr} {v:Value} {vs:List Value} {f g:List Nat} (h:Own w t v f) (k:OwnV w ts vs g) (hd:∀ x ∈ f,x ∉ g):OwnV w (t::ts) (v::vs) (f++g) :=
 ⟨⟨f,g,h.rep,k.rep,rfl⟩,List.nodup_append.2 ⟨h.nd,k.nd,fun a ha b hb e=>hd a ha (e ▸ hb)⟩,fun b hb i=>by
  rcases List.mem_append.1 hb with hb|hb
  ·exact h.free b hb i
  ·exact k.free b hb i⟩
theorem OwnV.uncons {w:World} {t:Tr} {ts:List Tr} {v:Value} {vs:List Value} {fp:List Nat} (h:OwnV w (t::ts) (v::vs) fp):∃ f g,fp=f++g∧Own w t v f∧OwnV w ts vs g∧∀ x ∈ f,x ∉ g:=by
 obtain⟨f,g,h1,h2,rfl⟩:=h.rep;obtain⟨n1,n2,n3⟩:=List.nodup_append.1 h.nd;exact⟨f,g,rfl,⟨h1,n1,fun b hb i=>h.free b (by simp[hb]) i⟩,⟨h2,n2,fun b hb i=>h.free b (by simp[hb]) i⟩,fun x hx e=>n3 x hx x e rfl⟩
theorem OwnV.rd {w:World} : {ts:List Tr}→{vs:List Value}→{fp:List Nat}→{lo hi:Nat}→OwnV w ts vs fp→In lo hi fp→RdV hi w ts vs:=by
 intro ts
 induction ts with
 | nil=>intro vs fp lo hi h _;cases vs with
  | nil=>trivial
  | cons _ _=>exact h.rep.elim
 | cons t ts ih =>
  intro vs fp lo hi h hin
  cases vs with
  | nil=>exact h.rep.elim
  | cons v vs =>
   obtain⟨f,g,rfl,h1,h2,_⟩:=h.uncons;exact⟨h1.rd (lo:=lo) (fun b hb=>hin b (by simp[hb])),ih (lo:=lo) h2 (fun b hb=>hin b (by simp[hb]))⟩
theorem Own.someAddr {w:World} {k:Nat} {ts us:List Tr} {t:Tr} {a:Option Addr} {n c:Nat} {fp:List Nat} (h:Own w (.sl k (ts++(t::us))) (.slice a n c) fp):∃ b off,a=some ⟨b,off,none⟩∧b ∈ fp:=by
 obtain⟨a',n',c',hv,_,_,_,hh⟩:=Rep_sl.1 h.rep
 rcases hh with ⟨he,_⟩|⟨b,off,f,_,ha,hfp,_⟩
 ·simp at he
 ·injection hv with h1 _ _
  exact⟨b,off,by rw[h1,ha],by rw[hfp];simp⟩
theorem split_at {ch:List Tr} {q:Nat} {t:Tr} (hq:ch[q]? = some t):ch=ch.take q++t::ch.drop (q+1)∧∀ t',ch.set q t' = ch.take q++t'::ch.drop (q+1):=by
 obtain⟨hl,he⟩:=List.getElem?_eq_some_iff.1 hq;subst he;refine⟨?_,fun t'=>?_⟩
 ·rw[List.getElem_cons_drop,List.take_append_drop]
 ·rw[List.set_eq_take_append_cons_drop,if_pos hl]
theorem Own.setChunk {w:World} {k:Nat} {TS ch US:List Tr} {b off n c:Nat} {fp:List Nat} (h:Own w (.sl k (TS++(ch++US))) (.slice (some ⟨b,off,none⟩) n c) fp) (q:Nat) (v0:Value) (hq:ch[q]? = some (.lit v0)) (idx:Nat) (hidx:idx=off+(TS.length+q)) (u:Value) :
  Own (w.setCell ⟨b,idx,none⟩ u) (.sl k (TS++(ch.set q (.lit u)++US))) (.slice (some ⟨b,off,none⟩) n c) fp:=by
 obtain⟨e1,e2⟩:=split_at hq;have hl:(ch.take q).length=q:=by rw[List.length_take];have:=(List.getElem?_eq_some_iff.1 hq).1;omega
 have h':Own w (.sl k ((TS++ch.take q)++(.lit v0::(ch.drop (q+1)++US)))) (.slice (some ⟨b,off,none⟩) n c) fp:=by
  rw[e1] at h
  simpa using h
 obtain⟨b',off',f,n',c',hv,_,_,_,hset⟩:=h'.litAt;injection hv with h1 _ _;injection h1 with h1;injection h1 with hb ho _;subst hb ho;have:=hset u;rw[List.length_append,hl,← hidx] at this;rw[e2]
 simpa using this
theorem Own.cellChunk {w:World} {k:Nat} {TS ch US:List Tr} {b off n c:Nat} {fp:List Nat} (h:Own w (.sl k (TS++(ch++US))) (.slice (some ⟨b,off,none⟩) n c) fp) (q:Nat) (v0:Value) (hq:ch[q]? = some (.lit v0)) (idx:Nat) (hidx:idx=off+(TS.length+q)) :
  w.cell? ⟨b,idx,none⟩=some v0∧∀ i,w.frozen? ⟨b,i,none⟩=false:=by
 obtain⟨e1,e2⟩:=split_at hq;have hl:(ch.take q).length=q:=by rw[List.length_take];have:=(List.getElem?_eq_some_iff.1 hq).1;omega
 have h':Own w (.sl k ((TS++ch.take q)++(.lit v0::(ch.drop (q+1)++US)))) (.slice (some ⟨b,off,none⟩) n c) fp:=by
  rw[e1] at h
  simpa using h
 obtain⟨b',off',f,n',c',hv,_,hc,hf,_⟩:=h'.litAt;injection hv with h1 _ _;injection h1 with h1;injection h1 with hb ho _;subst hb ho;rw[List.length_append,hl,← hidx] at hc;exact⟨hc,hf⟩
theorem Own.setFar {w:World} {t:Tr} {v:Value} {fp:List Nat} (h:Own w t v fp) {p:Addr} (hp:p.block ∉ fp) (u:Value):Own (w.setCell p u) t v fp :=
 h.frame fun b hb=>Below.heap_setCell w p u b (fun e=>hp (e ▸ hb))
theorem OwnV.setFar {w:World} {ts:List Tr} {vs:List Value} {fp:List Nat} (h:OwnV w ts vs fp) {p:Addr} (hp:p.block ∉ fp) (u:Value):OwnV (w.setCell p u) ts vs fp :=
 h.frame fun b hb=>Below.heap_setCell w p u b (fun e=>hp (e ▸ hb))
theorem OwnV.append {w:World} : {ts us:List Tr}→{vs xs:List Value}→{f g:List Nat}→OwnV w ts vs f→OwnV w us xs g→(∀ x ∈ f,x ∉ g)→OwnV w (ts++us) (vs++xs) (f++g):=by
 intro ts us vs xs f g h k hd;refine⟨?_,List.nodup_append.2 ⟨h.nd,k.nd,fun a ha b hb e=>hd a ha (e ▸ hb)⟩,fun b hb i=>?_⟩
 ·have:∀ (ts:List Tr) (vs:List Value) (f:List Nat),RepV w ts vs f→RepV w (ts++us) (vs++xs) (f++g):=by
   intro ts
   induction ts with
   | nil=>intro vs f h;cases vs with
    | nil=>rw[show f = [] from h];exact k.rep
    | cons _ _=>exact h.elim
   | cons t ts ih =>
    intro vs f h
    cases vs with
    | nil=>exact h.elim
    | cons x vs =>
     obtain⟨f1,f2,h1,h2,rfl⟩:=h;exact⟨f1,f2++g,h1,ih vs f2 h2,by simp⟩
  exact this ts vs f h.rep
 ·rcases List.mem_append.1 hb with hb|hb
  ·exact h.free b hb i
  ·exact k.free b hb i
def I64 (n:Int):Prop:=-9223372036854775808≤n∧n≤9223372036854775807
structure DRecord where
 key:ByteArray
 value:ByteArray
def DRecord.tr (x:DRecord):List Tr:=[strT x.key,strT x.value]
theorem DRecord.tr_len (x:DRecord):x.tr.length=2:=rfl
def DRecord.sT (l:List DRecord):Tr:=.sl 2 (l.flatMap DRecord.tr)
structure DRecord.ok (x_:DRecord):Prop where
 key:x_.key.size≤maxLen
 value:x_.value.size≤maxLen
theorem DRecord.rd {B:Nat} {w:World} {l:List DRecord} {v:Value} (h:Rd B w (DRecord.sT l) v) :
  ∃ a c,v=.slice a l.length c∧l.length≤c∧c≤maxLen∧(0<l.length→∃ b off,a=some ⟨b,off,none⟩∧b<B∧∀ (i:Nat) (hi:i<l.length),
   w.cell? ⟨b,off+i*2,none⟩=some (.string l[i].key)∧w.cell? ⟨b,off+i*2+1,none⟩=some (.string l[i].value)):=by
 obtain⟨a,c,he,h1,h2,h3⟩:=Rd.slAt (k:=2) (g:=DRecord.tr) (by decide) DRecord.tr_len h;refine⟨a,c,he,h1,h2,fun hn=>?_⟩;obtain⟨b,off,ha,hb,hat⟩:=h3 hn;refine⟨b,off,ha,hb,fun i hi=>?_⟩;obtain⟨u0,c0,r0⟩:=hat i hi 0 _ rfl;rw[Rd.lit.1 r0] at c0;obtain⟨u1,c1,r1⟩:=hat i hi 1 _ rfl;rw[Rd.lit.1 r1] at c1;exact⟨c0,c1⟩
structure DChange where
 day:Int
 key:ByteArray
 old_:ByteArray
 new_:ByteArray
def DChange.tr (x:DChange):List Tr:=[intT x.day,strT x.key,strT x.old_,strT x.new_]
theorem DChange.tr_len (x:DChange):x.tr.length=4:=rfl
def DChange.sT (l:List DChange):Tr:=.sl 4 (l.flatMap DChange.tr)
structure DChange.ok (x_:DChange):Prop where
 day:I64 x_.day
 key:x_.key.size≤maxLen
 old_:x_.old_.size≤maxLen
 new_:x_.new_.size≤maxLen
theorem DChange.rd {B:Nat} {w:World} {l:List DChange} {v:Value} (h:Rd B w (DChange.sT l) v) :
  ∃ a c,v=.slice a l.length c∧l.length≤c∧c≤maxLen∧(0<l.length→∃ b off,a=some ⟨b,off,none⟩∧b<B∧∀ (i:Nat) (hi:i<l.length),
   w.cell? ⟨b,off+i*4,none⟩=some (.int .i64 l[i].day)∧w.cell? ⟨b,off+i*4+1,none⟩=some (.string l[i].key)∧w.cell? ⟨b,off+i*4+2,none⟩=some (.string l[i].old_)∧w.cell? ⟨b,off+i*4+3,none⟩=some (.string l[i].new_)):=by
 obtain⟨a,c,he,h1,h2,h3⟩:=Rd.slAt (k:=4) (g:=DChange.tr) (by decide) DChange.tr_len h;refine⟨a,c,he,h1,h2,fun hn=>?_⟩;obtain⟨b,off,ha,hb,hat⟩:=h3 hn;refine⟨b,off,ha,hb,fun i hi=>?_⟩;obtain⟨u0,c0,r0⟩:=hat i hi 0 _ rfl;rw[Rd.lit.1 r0] at c0;obtain⟨u1,c1,r1⟩:=hat i hi 1 _ rfl;rw[Rd.lit.1 r1] at c1;obtain⟨u2,c2,r2⟩:=hat i hi 2 _ rfl;rw[Rd.lit.1 r2] at c2;obtain⟨u3,c3,r3⟩:=hat i hi 3 _ rfl;rw[Rd.lit.1 r3] at c3;exact⟨c0,c1,c2,c3⟩
structure DRegister where
 records:List DRecord
 changes:List DChange
def DRegister.tr (x:DRegister):List Tr:=[DRecord.sT x.records,DChange.sT x.changes]
def DRegister.sT (l:List DRegister):Tr:=.sl 2 (l.flatMap DRegister.tr)
structure DRegister.ok (x_:DRegister):Prop where
 records:(∀ y ∈ x_.records,y.ok)
 changes:(∀ y ∈ x_.changes,y.ok)
theorem DRegister.opn {B:Nat} {w:World} {x:DRegister} {vs:List Value} (h0:RdV B w x.tr vs):∃ v0 v1,vs = [v0,v1]∧Rd B w (DRecord.sT x.records) v0∧Rd B w (DChange.sT x.changes) v1:=by
 obtain⟨y0,r0,rfl,d0,h1⟩:=RdV.uncons h0;obtain⟨y1,r1,rfl,d1,h2⟩:=RdV.uncons h1;obtain rfl:=RdV.unnil h2;exact⟨y0,y1,rfl,d0,d1⟩
end Go.Proofs.YtmkkiglcpedkiaaGreatDoor
