/- Rows that a later append may write behind: plain lemmas. No program. -/
import Derived.Test.YtpakghepnahooaaGreatDoorTypes
import Derived.Deep.AppendLies
import Derived.OwnWalk
set_option linter.unusedVariables false
set_option linter.unusedSimpArgs false
namespace Go.Proofs.YtpakghepnahooaaGreatDoor
open Go.RowKit
theorem Q3m {p:Prop} (h:p:=by rw[List.length_take];omega):p:=h
theorem Q42 {p:Prop} (h:p:=by simp<;>omega):p:=h
theorem Q4b {p:Prop} (h:p:=by simp):p:=h
theorem Q0u {p:Prop} (h:p:=by
 intro v' w' hown hgr hat
 refine h v' w' ⟨G2.step HX2 hv2 (hin.mono (Nat.le_refl _) Q4b) (hgin.mono (Nat.le_refl _) Q4b) hg hgf (fun b hb i=>by
  rw[World.frozen?_of_block (w:=w) (hb2.block b (hgin b hb).2)];exact hgo b hb i) hgv hown hgr hat,?_,?_,?_,?_⟩
 ·exact ((Below.refl _ _).alloc hbase _).grown hgr Q42 (fun b hb=>(G.block hb).1)
 ·have:=hgr.size;simp at this;omega
 ·intro b hb hne
  rw[hgr.block b Q42 (fun e=>hne e.symm)];exact hb2.block b hb
 ·rcases hat with e|e
  ·exact Or.inl e
  ·exact Or.inr ⟨_,e,by simp⟩):p:=h
theorem Q1a {p:Prop} (h:p:=by
 have e:(⟨w,0,none⟩:Addr).add j=⟨w.heap.size,j,none⟩:=by
  unfold Addr.add
  split
  ·rename_i h;subst h;rfl
  ·simp
 rw[e]
 have hh:(w.alloc (.cells vs.toArray E)).heap[w.heap.size]? = some (.cells vs.toArray E (0,0)):=by show (w.heap.push _)[w.heap.size]? = _;simp
 rw[za9 hh]
 simpa using hu):p:=h
theorem Q1i {p:Prop} (h:p:=by
 rcases Nat.lt_or_ge g' w.heap.size with hlt|hge
 ·exact hlt
 ·rw[Array.getElem?_eq_none hge] at hh;cases hh):p:=h
theorem block_of_add (a:Addr) (n:Nat):(a.add n).block=a.block:=by unfold Addr.add;split<;>rfl
theorem add_of_add (a:Addr) (i j:Nat):(a.add i).add j=a.add (i+j):=by
 unfold Addr.add
 by_cases hi:i=0<;>by_cases hj:j=0<;>simp[hi,hj,Nat.add_assoc]
def Reads (w:World) (B size:Nat) (A:Option Addr) (n:Nat) (xs:List Value):Prop :=
 xs.length=n*size∧(0<n→∃ ad,A=some ad∧ad.block<B∧∀ j u,xs[j]? = some u→w.cell? (ad.add j)=some u)
section
variable {w w':World} {B B' size n:Nat} {A:Option Addr} {xs:List Value}
theorem Reads.none_:Reads w B size A 0 []:=⟨by simp,fun h=>absurd h II⟩
theorem Reads.at_ {k:Nat} (h:Reads w B 1 A n xs) (hk:k<n):∃ ad u,A=some ad∧ad.block<B∧xs[k]? = some u∧w.cell? (ad.add k)=some u:=by
 obtain⟨ad,e,hb,hc⟩:=h.2 II;have hl:k<xs.length:=by have:=h.1;omega
 exact⟨ad,xs[k],e,hb,List.getElem?_eq_getElem hl,hc k _ (List.getElem?_eq_getElem hl)⟩
theorem Reads.keep (h:Reads w B size A n xs) (hk:∀ p:Addr,p.block<B→w'.cell? p=w.cell? p):Reads w' B size A n xs :=
 ⟨h.1,fun hn=>by
  obtain⟨ad,e,hb,hc⟩:=h.2 hn
  exact⟨ad,e,hb,fun j u hu=>(hk _ (by rw[block_of_add];exact hb)).trans (hc j u hu)⟩⟩
theorem Reads.more (h:Reads w B size A n xs) (hB:B≤B'):Reads w B' size A n xs :=
 ⟨h.1,fun hn=>by
  obtain⟨ad,e,hb,hc⟩:=h.2 hn
  exact⟨ad,e,II,hc⟩⟩
theorem Reads.below (h:Reads w B size A n xs) (hb:OI B w w'):Reads w' B size A n xs:=h.keep fun _ hp=>hb.cell hp
theorem Reads.drew (h:Reads w B size A n xs):Reads w.drew B size A n xs:=h
theorem Reads.drewN (h:Reads w B size A n xs) (k:Nat):Reads (w.drewN k) B size A n xs:=h
theorem Reads.alloc (h:Reads w B size A n xs) (hB:B≤w.heap.size) (o:Obj):Reads (w.alloc o) B size A n xs:=h.keep fun p hp=>World.cell?_alloc_lt w o p II
theorem Reads.setCell (h:Reads w B size A n xs) {p:Addr} (hB:B≤p.block) (u:Value):Reads (w.setCell p u) B size A n xs :=
 h.keep fun q hq=>World.cell?_setCell_other w p q u (fun e=>by subst e;omega)
theorem Reads.grown (h:Reads w B size A n xs) {row:Option Nat} (hg:w.grownBy w' row) (hB:B≤w.heap.size) (hr:∀ g,row=some g→B≤g):Reads w' B size A n xs :=
 h.keep fun p hp=>World.cell?_of_block (hg.block p.block II (fun e=>by have:=hr _ e.symm;omega))
theorem Reads.cut (h:Reads w B size A n xs) {k cap:Nat} (hk:k≤n) (hc:n≤cap) :
  Reads w B size (if cap=k then A else A.map (·.add (k*size))) (n-k) (xs.drop (k*size)):=by
 refine⟨by rw[List.length_drop,h.1,Nat.sub_mul],fun hn=>?_⟩;obtain⟨ad,rfl,hb,hcell⟩:=h.2 II;rw[if_neg II];refine⟨ad.add (k*size),rfl,by rw[block_of_add];exact hb,fun j u hu=>?_⟩;rw[add_of_add];exact hcell _ u (by rw[← hu,List.getElem?_drop])
theorem Reads.of_own {base:Nat} {e:TypeId} {c:Nat} (h:w.ownsRow base e size (IZ A n c) n xs):Reads w w.heap.size size A n xs:=by
 refine⟨h.1,fun hn=>?_⟩;obtain⟨g,cap,hv,_,hlt⟩:=h.form hn;have hA:A=some ⟨g,0,none⟩:=by injection hv
 subst hA;exact⟨_,rfl,hlt,h.cells (g:=g) rfl⟩
end
section
variable {P:Program} (w:World)
theorem ze3 (base:Nat) (t ty e:TypeId) (i:TypeInfo) (size:Nat) (ht:P.underlying t=some (.slice e)) (hi:P.info? e=some i)
  (v:Value) (n:Nat) (xs:List Value) (hown:w.ownsRow base e size v n xs) (c:Nat):(Builtin.append_ #[t,t] ty #[v,IZ none 0 c]).run P w=.ok v w:=by
 rcases hown.2 with ⟨rfl,rfl⟩|⟨g,cap,cur,rfl,_,_,hnc,_⟩
 ·simp[Builtin.append_,run_underlying ht,sizeOf,typeInfo,hi,Builtin.lenOf,Builtin.firstCells]
 ·simp[Builtin.append_,run_underlying ht,sizeOf,typeInfo,hi,Builtin.lenOf,Builtin.firstCells,hnc,storeCells]
theorem run_append_any (base:Nat) (t ty e:TypeId) (i:TypeInfo) (z:Value) (size bytes:Nat) (ht:P.underlying t=some (.slice e)) (hi:P.info? e=some i) (hz:i.zero=some z)
  (hsize:i.size=size) (hby:i.bytes=bytes) (hzs:z.cells.size=size) (hsz:0<size)
  (v:Value) (n:Nat) (xs:List Value) (hown:w.ownsRow base e size v n xs)
  (B:Nat) (A:Option Addr) (m c:Nat) (news:List Value) (hr:Reads w B size A m news) (h1:∀ u ∈ news,u.oneCell' = true)
  (h63:n+m≤maxLen) (hbytes:(n+m)*bytes≤140737488355328) (hbase:base≤w.heap.size) :
  ∃ v' w',(Builtin.append_ #[t,t] ty #[v,IZ A m c]).run P w=.ok v' w'∧w'.ownsRow base e size v' (n+m) (xs++news)∧w.grownBy w' v.ownBlock ∧
   (v'.ownBlock=v.ownBlock∨v'.ownBlock=some w.heap.size):=by
 rcases A with _|ad
 ·have hm:m=0:=by
   rcases Nat.eq_zero_or_pos m with h0|h0
   ·exact h0
   ·obtain⟨ad,h,_⟩:=hr.2 h0
    cases h
  subst hm;have hn:news = []:=List.eq_nil_of_length_eq_zero (by simpa using hr.1);subst hn;exact⟨v,w,ze3 w base t ty e i size ht hi v n xs hown c,by simpa using hown,World.grownBy.refl w _,.inl rfl⟩
 ·have hcells:∀ j u,news[j]? = some u→w.cell? (ad.add j)=some u:=by
   intro j u hu
   rcases Nat.eq_zero_or_pos m with h0|h0
   ·subst h0
    have hn:news = []:=List.eq_nil_of_length_eq_zero (by simpa using hr.1);subst hn;simp at hu
   ·obtain⟨ad',h,_,hc⟩:=hr.2 h0
    injection h with h;subst h;exact hc j u hu
  obtain⟨v',w',hrun,h2,h3,_,h5⟩:=run_append_own_at (P:=P) w base t ty e i z size bytes ht hi hz hsize hby hzs hsz v n xs hown ad m c news hr.1 hcells h1 h63 hbytes hbase;exact⟨v',w',hrun,h2,h3,h5⟩
theorem zeg {o:Oper} {a:Act} {K:Act→World→Prop} {Q:Exit→Act→World→Prop} (s x:Operand) (t:TypeId)
  (ho:o.op=.call { callee:=.builtin .append,args:=#[s,x],argTypes:=#[t,t] })
  (base:Nat) (e:TypeId) (i:TypeInfo) (z:Value) (size bytes:Nat) (ht:P.underlying t=some (.slice e)) (hi:P.info? e=some i) (hz:i.zero=some z)
  (hsize:i.size=size) (hby:i.bytes=bytes) (hzs:z.cells.size=size) (hsz:0<size)
  (v:Value) (n:Nat) (xs:List Value) (hs:a.eval s=v) (hown:w.ownsRow base e size v n xs)
  (B:Nat) (A:Option Addr) (m c:Nat) (news:List Value) (hx:a.eval x=IZ A m c) (hr:Reads w B size A m news) (h1:∀ u ∈ news,u.oneCell' = true)
  (h63:n+m≤maxLen) (hbytes:(n+m)*bytes≤140737488355328) (hbase:base≤w.heap.size)
  (h:∀ v' w',w'.ownsRow base e size v' (n+m) (xs++news)→w.grownBy w' v.ownBlock→(v'.ownBlock=v.ownBlock∨v'.ownBlock=some w.heap.size)→K (a.put o.dst v') w'):o.wp P a w K Q:=by
 obtain⟨v',w',hrun,h2,h3,h4⟩:=run_append_any (P:=P) w base t o.type e i z size bytes ht hi hz hsize hby hzs hsz v n xs hown B A m c news hr h1 h63 hbytes hbase;unfold Oper.wp execOp;simp only[ho,resolve,invoke,builtin,Sem.run_bind,Sem.run_pure,Result.andThen_ok,List.map_toArray,List.map_cons,List.map_nil,hs,hx,hrun];exact h v' w' h2 h3 h4
theorem zb1 {ops:Array Oper} {rest:List Oper} {o:Oper} {a:Act} {Q:Exit→Act→World→Prop} (hgd:o.guard=none) (s x:Operand) (t:TypeId)
  (ho:o.op=.call { callee:=.builtin .append,args:=#[s,x],argTypes:=#[t,t] })
  (base:Nat) (e:TypeId) (i:TypeInfo) (z:Value) (size bytes:Nat) (ht:P.underlying t=some (.slice e)) (hi:P.info? e=some i) (hz:i.zero=some z)
  (hsize:i.size=size) (hby:i.bytes=bytes) (hzs:z.cells.size=size) (hsz:0<size)
  (v:Value) (n:Nat) (xs:List Value) (hs:a.eval s=v) (hown:w.ownsRow base e size v n xs)
  (B:Nat) (A:Option Addr) (m c:Nat) (news:List Value) (hx:a.eval x=IZ A m c) (hr:Reads w B size A m news) (h1:∀ u ∈ news,u.oneCell' = true)
  (h63:n+m≤maxLen) (hbytes:(n+m)*bytes≤140737488355328) (hbase:base≤w.heap.size)
  (h:∀ v' w',w'.ownsRow base e size v' (n+m) (xs++news)→w.grownBy w' v.ownBlock→(v'.ownBlock=v.ownBlock∨v'.ownBlock=some w.heap.size)→wpList P ops Q rest (a.put o.dst v') w'):wpList P ops Q (o::rest) a w :=
 wpList_plain hgd fun _ hK=>zeg w s x t ho base e i z size bytes ht hi hz hsize hby hzs hsz v n xs hs hown B A m c news hx hr h1 h63 hbytes hbase fun v' w' h2 h3 h4=>hK _ _ (h v' w' h2 h3 h4)
end
structure Grow (w:World) (base E size:Nat) (v:Value) (n:Nat) (ts:List Tr) (f:List Nat):Prop where
 own:∃ xs,w.ownsRow base E size v n xs∧RepV w ts xs f
 nd:f.Nodup
 free:Free w f
 far:∀ g,v.ownBlock=some g→g ∉ f
theorem Grow.nil {w:World} {base E size:Nat} : Grow w base E size (IZ none 0 0) 0 [] [] :=
 ⟨⟨[],⟨by simp,Or.inl ⟨rfl,rfl⟩⟩,rfl⟩,List.nodup_nil,fun b h=>by simp at h,fun g h=>by simp[Value.ownBlock] at h⟩
theorem Grow.len {w:World} {base E size:Nat} {v:Value} {n:Nat} {ts:List Tr} {f:List Nat} (h:Grow w base E size v n ts f):ts.length=n*size:=by
 obtain⟨xs,ho,hr⟩:=h.own;rw[hr.length,ho.1]
theorem zap {w w':World} {base E size n:Nat} {v:Value} {xs:List Value} (h:w.ownsRow base E size v n xs) (hf:∀ g,v.ownBlock=some g→w'.heap[g]? = w.heap[g]?):w'.ownsRow base E size v n xs:=by
 obtain⟨h1,h2⟩:=h;refine⟨h1,?_⟩
 rcases h2 with h2|⟨g,cap,cur,hv,hg,hh,r⟩
 ·exact Or.inl h2
 ·refine Or.inr ⟨g,cap,cur,hv,hg,?_,r⟩
  rw[hf g (by rw[hv];rfl)];exact hh
theorem Grow.frame {w w':World} {base E size n:Nat} {v:Value} {ts:List Tr} {f:List Nat} (h:Grow w base E size v n ts f) (hv:∀ g,v.ownBlock=some g→w'.heap[g]? = w.heap[g]?) (hf:∀ b ∈ f,w'.heap[b]? = w.heap[b]?):Grow w' base E size v n ts f:=by
 obtain⟨xs,ho,hr⟩:=h.own;exact⟨⟨xs,zap ho hv,hr.frame hf⟩,h.nd,h.free.frame hf,h.far⟩
theorem Grow.block {w:World} {base E size n:Nat} {v:Value} {ts:List Tr} {f:List Nat} (h:Grow w base E size v n ts f) {g:Nat} (hg:v.ownBlock=some g):base≤g∧g<w.heap.size:=by
 obtain⟨xs,⟨_,ho⟩,_⟩:=h.own
 rcases ho with ⟨rfl,_⟩|⟨g',cap,cur,rfl,hb,hh,_⟩
 ·simp[Value.ownBlock] at hg
 ·have:g' = g:=by simpa [Value.ownBlock] using hg
  subst this;refine⟨hb,?_⟩
  exact Q1i
theorem Grow.below {w w':World} {base E size n lo:Nat} {v:Value} {ts:List Tr} {f:List Nat} (h:Grow w base E size v n ts f) (hin:In lo w f) (hb:OI w w w'):Grow w' base E size v n ts f :=
 h.frame (fun g hg=>hb.block g (h.block hg).2) (fun b hx=>hb.block b (hin b hx).2)
theorem Grow.step {w w':World} {base E size n m lo:Nat} {v v':Value} {ts us:List Tr} {xs vs:List Value} {f g:List Nat} (h:Grow w base E size v n ts f) (hx:w.ownsRow base E size v n xs) (hv:RepV w us vs g) (hin:In lo w f)
  (hgin:In lo w g) (hg:g.Nodup) (hgf:∀ x ∈ g,x ∉ f) (hgo:Free w g) (hgv:∀ b,v.ownBlock=some b→b ∉ g)
  (hown:w'.ownsRow base E size v' (n+m) (xs++vs)) (hgr:w.grownBy w' v.ownBlock) (hat:v'.ownBlock=v.ownBlock∨v'.ownBlock=some w.heap.size) :
  Grow w' base E size v' (n+m) (ts++us) (f++g):=by
 obtain⟨xs',ho,hr⟩:=h.own;have hxe:xs' = xs:=by
  obtain⟨l1,o1⟩:=ho;obtain⟨l2,o2⟩:=hx
  rcases o1 with ⟨e1,e2⟩|⟨g1,cap1,cur1,e1,_,hh1,_,_,_,t1⟩<;>rcases o2 with ⟨e3,e4⟩|⟨g2,cap2,cur2,e3,_,hh2,_,_,_,t2⟩
  ·subst e2
   have q1:xs' = []:=List.eq_nil_of_length_eq_zero (by simpa using l1);have q2:xs = []:=List.eq_nil_of_length_eq_zero (by simpa using l2);rw[q1,q2]
  ·rw[e1] at e3;injection e3 with e3;cases e3
  ·rw[e1] at e3;injection e3 with e3;cases e3
  ·rw[e1] at e3
   injection e3 with e3;injection e3 with e3;injection e3 with e3;subst e3;rw[hh1] at hh2;injection hh2 with hh2;injection hh2 with hh2;subst hh2;rw[← t1,← t2]
 subst hxe;have kf:∀ b ∈ f,w'.heap[b]? = w.heap[b]?:=fun b hb=>hgr.block b (hin b hb).2 (fun e=>h.far b e.symm hb)
 have kg:∀ b ∈ g,w'.heap[b]? = w.heap[b]?:=fun b hb=>hgr.block b (hgin b hb).2 (fun e=>hgv b e.symm hb)
 refine⟨⟨xs'++vs,hown,?_⟩,List.nodup_append.2 ⟨h.nd,hg,fun a ha b hb e=>hgf b hb (e ▸ ha)⟩,?_,?_⟩
 ·have:∀ (ts:List Tr) (xs:List Value) (f:List Nat),RepV w' ts xs f→RepV w' (ts++us) (xs++vs) (f++g):=by
   intro ts
   induction ts with
   | nil=>intro xs f h;cases xs with
    | nil=>rw[show f = [] from h];exact hv.frame kg
    | cons _ _=>exact h.elim
   | cons t ts ih =>
    intro xs f h
    cases xs with
    | nil=>exact h.elim
    | cons x xs =>
     obtain⟨f1,f2,h1,h2,rfl⟩:=h;exact⟨f1,f2++g,h1,ih xs f2 h2,by simp⟩
  exact this ts xs' f (hr.frame kf)
 ·intro b hb i
  rcases List.mem_append.1 hb with hb|hb
  ·exact h.free.frame kf b hb i
  ·exact hgo.frame kg b hb i
 ·intro b hb hm
  rcases hat with e|e
  ·rw[e] at hb
   rcases List.mem_append.1 hm with hm|hm
   ·exact h.far b hb hm
   ·exact hgv b hb hm
  ·rw[e] at hb
   injection hb with hb
   rcases List.mem_append.1 hm with hm|hm
   ·have:=(hin b hm).2;omega
   ·have:=(hgin b hm).2;omega
theorem Grow.toOwn {w:World} {base E size n lo:Nat} {v:Value} {ts:List Tr} {f:List Nat} (h:Grow w base E size v n ts f) (hsz:0<size) (hin:In lo w f) (hlo:lo≤base) :
  ∃ a c fp,v=IZ a n c∧Own w (.sl size ts) (IZ a n c) fp∧In lo w fp:=by
 have hlen:=h.len;obtain⟨xs,⟨hl,ho⟩,hr⟩:=h.own
 rcases ho with ⟨rfl,rfl⟩|⟨g,cap,cur,rfl,hb,hh,hnc,hcm,hcs,htk⟩
 ·have e:ts = []:=List.eq_nil_of_length_eq_zero (by simpa using hlen)
  subst e;exact⟨none,0,[],rfl,⟨zb7.2 ⟨none,0,0,rfl,by simp,Nat.le_refl _,by unfold maxLen;omega,Or.inl ⟨rfl,rfl⟩⟩,List.nodup_nil,fun b h=>by simp at h⟩,In.nil⟩
 ·by_cases e:ts = []
  ·subst e
   refine⟨some ⟨g,0,none⟩,cap,[],rfl,⟨zb7.2 ⟨_,n,cap,rfl,hlen,hnc,hcm,Or.inl ⟨rfl,rfl⟩⟩,List.nodup_nil,fun b h=>by simp at h⟩,In.nil⟩
  ·have hgl:=(h.block (g:=g) rfl).2
   refine⟨some ⟨g,0,none⟩,cap,g::f,rfl,⟨zb7.2 ⟨_,n,cap,rfl,hlen,hnc,hcm,Or.inr ⟨g,0,f,e,rfl,rfl,?_⟩⟩,List.nodup_cons.2 ⟨h.far g rfl,h.nd⟩,?_⟩,?_⟩
   ·refine zd4 hr (fun j hj=>?_)
    rw[Nat.zero_add,za9 hh,← htk,List.getElem?_take_of_lt II,Array.getElem?_toList]
   ·intro b hb' i
    rcases List.mem_cons.1 hb' with rfl|hb'
    ·exact zc5 hh i
    ·exact h.free b hb' i
   ·intro b hb'
    rcases List.mem_cons.1 hb' with rfl|hb'
    ·exact⟨II,hgl⟩
    ·exact hin b hb'
theorem Rd.reads1 {α:Type} {B:Nat} {w:World} {g:α→Value} {l:List α} {a:Option Addr} {n c:Nat} (h:Rd B w (.sl 1 (l.map fun x=>.lit (g x))) (IZ a n c)):Reads w B 1 a n (l.map g):=by
 obtain⟨a',c',hv,h1,h2,h3⟩:=Rd.slAt1 h;injection hv with e1 e2 e3;subst e1 e2;refine⟨by simp,fun hn=>?_⟩;obtain⟨b,off,ha,hb,hat⟩:=h3 hn;refine⟨⟨b,off,none⟩,ha,hb,fun j u hu=>?_⟩;have hj:j<l.length:=by have:=(List.getElem?_eq_some_iff.1 hu).1;simpa using this
 obtain⟨u',hc,hr⟩:=hat j hj;rw[Rd.lit.1 hr] at hc;have e:u=g l[j]:=by
  rw[List.getElem?_map,List.getElem?_eq_getElem hj] at hu
  simpa using hu.symm
 subst e;rw[← hc];unfold Addr.add
 split
 ·rename_i hz;subst hz;rfl
 ·rfl
end Go.Proofs.YtpakghepnahooaaGreatDoor
namespace Go.Proofs.YtpakghepnahooaaGreatDoor
open Go.RowKit
theorem bat {B:Nat} {w w':World} (hb:OI B w w') (b o:Nat) (h:b<B):w'.cell? ⟨b,o,none⟩=w.cell? ⟨b,o,none⟩:=hb.cell (p:=⟨b,o,none⟩) h
theorem baf {B:Nat} {w w':World} (hb:OI B w w') (b o:Nat) (h:b<B):w'.frozen? ⟨b,o,none⟩=w.frozen? ⟨b,o,none⟩:=hb.frozen (p:=⟨b,o,none⟩) h
theorem Reads.fresh (w:World) (E size:Nat) (vs:List Value) (hl:vs.length=size):Reads (w.alloc (.cells vs.toArray E)) (w.heap.size+1) size (some ⟨w,0,none⟩) 1 vs:=by
 refine⟨II,fun _=>⟨⟨w,0,none⟩,rfl,by show w.heap.size<w.heap.size+1;omega,fun j u hu=>?_⟩⟩;exact Q1a
structure Grown (w w':World) (base E size:Nat) (v v':Value) (n:Nat) (ts:List Tr) (f:List Nat):Prop where
 grow:Grow w' base E size v' n ts f
 below:OI base w w'
 size:w.heap.size<w'.heap.size
 keep:∀ b,b<w.heap.size→v.ownBlock≠some b→w'.heap[b]? = w.heap[b]?
 row:v'.ownBlock=v.ownBlock∨∃ b,v'.ownBlock=some b∧w.heap.size≤b
theorem zax {P:Program} {ops:Array Oper} {rest:List Oper} {o:Oper} {a:Act} {Q:Exit→Act→World→Prop} {w:World} (hgd:o.guard=none) (s x:Operand) (t:TypeId)
  (ho:o.op=.call { callee:=.builtin .append,args:=#[s,x],argTypes:=#[t,t] })
  (base:Nat) (e:TypeId) (i:TypeInfo) (z:Value) (size bytes:Nat) (ht:P.underlying t=some (.slice e)) (hi:P.info? e=some i) (hz:i.zero=some z)
  (hsize:i.size=size) (hby:i.bytes=bytes) (hzs:z.cells.size=size) (hsz:0<size)
  (v:Value) (n:Nat) (ts:List Tr) (f:List Nat) (hs:a.eval s=v) (G:Grow w base e size v n ts f)
  (vs:List Value) (us:List Tr) (g:List Nat) (hl:vs.length=size) (c:Nat) (hx:a.eval x=IZ (some ⟨w,0,none⟩) 1 c) (h1:∀ u ∈ vs,u.oneCell' = true)
  (hv:RepV w us vs g) (hg:g.Nodup) (hgo:Free w g) (lo:Nat) (hin:In lo w f) (hgin:In lo w g) (hgf:∀ x ∈ g,x ∉ f) (hgv:∀ b,v.ownBlock=some b→b ∉ g)
  (h63:n+1≤maxLen) (hbytes:(n+1)*bytes≤140737488355328) (hbase:base≤w.heap.size)
  (h:∀ v' w',Grown w w' base e size v v' (n+1) (ts++us) (f++g)→wpList P ops Q rest (a.put o.dst v') w'):wpList P ops Q (o::rest) a (w.alloc (.cells vs.toArray e)):=by
 obtain⟨xs,hxo,hxr⟩:=G.own;have hb2:OI w w (w.alloc (.cells vs.toArray e)):=(Below.refl _ _).alloc (Nat.le_refl _) _;have HX2:=zap hxo (w':=w.alloc (.cells vs.toArray e)) (fun g hg=>hb2.block g (G.block hg).2);have G2:=G.below hin hb2;have hv2:=hv.frame (w':=w.alloc (.cells vs.toArray e)) (fun b hb=>hb2.block b (hgin b hb).2);refine zb1 _ hgd s x t ho base e i z size bytes ht hi hz hsize hby hzs hsz v n xs hs HX2 (w.heap.size+1) (some ⟨w,0,none⟩) 1 c vs hx (Reads.fresh w e size vs hl) h1 h63 hbytes Q42 ?_;exact Q0u
end Go.Proofs.YtpakghepnahooaaGreatDoor
namespace Go.Proofs.YtpakghepnahooaaGreatDoor
open Go.RowKit
theorem add_mk (b off j:Nat):(⟨b,off,none⟩:Addr).add j=⟨b,off+j,none⟩:=by
 unfold Addr.add
 split
 ·rename_i h;subst h;rfl
 ·rfl
def oneT:Tr→Prop
 | .lit v=>v.oneCell' = true
 | .sl _ _=>True
theorem Reps.raw {B:Nat} {w:World} {b:Nat} : (es:List Tr)→(off:Nat)→(fp:List Nat)→Reps w es b off fp→(∀ x ∈ fp,x<B)→(∀ t ∈ es,oneT t) →
  ∃ xs,RdV B w es xs∧xs.length=es.length∧(∀ j u,xs[j]? = some u→w.cell? ⟨b,off+j,none⟩=some u)∧∀ u ∈ xs,u.oneCell' = true:=by
 intro es
 induction es with
 | nil=>intro off fp _ _ _;exact⟨[],trivial,rfl,fun j u h=>by simp at h,fun u h=>by simp at h⟩
 | cons t es ih =>
  intro off fp h hf h1;obtain⟨v,f,g,hc,hr,hrs,rfl⟩:=zbp.1 h;obtain⟨xs,hx,hl,hcs,ho⟩:=ih (off+1) g hrs (fun x hx=>hf x (by simp[hx])) (fun t ht=>h1 t (by simp[ht]));refine⟨v::xs,⟨⟨f,hr,fun x hx=>hf x (by simp[hx])⟩,hx⟩,by simp[hl],fun j u hu=>?_,fun u hu=>?_⟩
  ·cases j with
   | zero=>simp at hu;subst hu;exact hc
   | succ j=>rw[show off+(j+1)=off+1+j by omega];exact hcs j u (by simpa using hu)
  ·rcases List.mem_cons.1 hu with rfl|hu
   ·have h0:=h1 t Q4b
    cases t with
    | lit x=>obtain⟨rfl,_⟩:=zc7.1 hr;exact h0
    | sl k es=>obtain⟨a,n,c,rfl,_⟩:=zb7.1 hr;rfl
   ·exact ho u hu
theorem Rd.raw {B:Nat} {w:World} {k:Nat} {es:List Tr} {v:Value} (h:Rd B w (.sl k es) v) (hk:0<k) (h1:∀ t ∈ es,oneT t) :
  ∃ a n c xs,v=IZ a n c∧es.length=n*k∧n≤c∧c≤maxLen∧Reads w B k a n xs∧RdV B w es xs∧∀ u ∈ xs,u.oneCell' = true:=by
 obtain⟨fp,h,hf⟩:=h;obtain⟨a,n,c,rfl,hl,hnc,hcm,h⟩:=zb7.1 h
 rcases h with ⟨rfl,_⟩|⟨b,off,f,hne,rfl,rfl,hr⟩
 ·have hn:n=0:=by
   rcases Nat.eq_zero_or_pos n with h|h
   ·exact h
   ·have:=Nat.mul_pos h hk;simp at hl;omega
  subst hn;exact⟨a,0,c,[],rfl,hl,hnc,hcm,Reads.none_,trivial,fun u h=>by simp at h⟩
 ·obtain⟨xs,hx,hxl,hcs,ho⟩:=hr.raw es off f (fun x hx=>hf x (by simp[hx])) h1
  refine⟨_,n,c,xs,rfl,hl,hnc,hcm,⟨by rw[hxl,hl],fun _=>⟨⟨b,off,none⟩,rfl,hf b Q4b,fun j u hu=>?_⟩⟩,hx,ho⟩;rw[add_mk];exact hcs j u hu
theorem RdV.repV_lits {B:Nat} {w w':World} : (es:List Tr)→(xs:List Value)→(∀ t ∈ es,∃ v,t=.lit v)→RdV B w es xs→RepV w' es xs []:=by
 intro es
 induction es with
 | nil=>intro xs _ h;obtain rfl:=h.unnil;rfl
 | cons t es ih =>
  intro xs hl h;obtain⟨v,r,rfl,h1,h2⟩:=h.uncons;obtain⟨u,rfl⟩:=hl t Q4b;exact⟨[],[],zc7.2 ⟨Rd.lit.1 h1,rfl⟩,ih r (fun t ht=>hl t (by simp[ht])) h2,rfl⟩
theorem RdV.at_ {B:Nat} {w:World} : {es:List Tr}→{xs:List Value}→RdV B w es xs→(i:Nat)→(t:Tr)→es[i]? = some t→∃ u,xs[i]? = some u∧Rd B w t u:=by
 intro es
 induction es with
 | nil=>intro xs _ i t h;simp at h
 | cons t es ih =>
  intro xs h i t' ht;obtain⟨v,r,rfl,h1,h2⟩:=h.uncons
  cases i with
  | zero=>simp at ht;subst ht;exact⟨v,rfl,h1⟩
  | succ i=>obtain⟨u,hu,hr⟩:=ih h2 i t' (by simpa using ht);exact⟨u,by simpa using hu,hr⟩
theorem RdV.len {B:Nat} {w:World} : {es:List Tr}→{xs:List Value}→RdV B w es xs→xs.length=es.length:=by
 intro es
 induction es with
 | nil=>intro xs h;obtain rfl:=h.unnil;rfl
 | cons t es ih =>
  intro xs h;obtain⟨v,r,rfl,h1,h2⟩:=h.uncons;simp[ih h2]
theorem grow_flat {B:Nat} {w w':World} {base E k n:Nat} {v:Value} {es:List Tr} {xs:List Value} (h:w'.ownsRow base E k v n xs) (hx:RdV B w es xs) (hl:∀ t ∈ es,∃ v,t=.lit v):Grow w' base E k v n es [] :=
 ⟨⟨xs,h,hx.repV_lits es xs hl⟩,List.nodup_nil,fun b h=>by simp at h,fun g _=>by simp⟩
theorem ze6 (w:World) (E k:Nat):(w.alloc (.cells #[] E)).ownsRow w.heap.size E k (IZ (some ⟨w,0,none⟩) 0 0) 0 [] :=
 ⟨by simp,Or.inr ⟨w.heap.size,0,#[],rfl,Nat.le_refl _,by show (w.heap.push _)[w.heap.size]? = _;simp,Nat.le_refl _,by unfold maxLen;omega,by simp,by simp⟩⟩
theorem zaw {w:World} {base E k n:Nat} {v:Value} {xs:List Value} (h:w.ownsRow base E k v n xs):∃ a c,v=IZ a n c∧n≤c:=by
 rcases h.2 with ⟨rfl,rfl⟩|⟨g,cap,cur,rfl,_,_,hn,_⟩
 ·exact⟨none,0,rfl,Nat.le_refl _⟩
 ·exact⟨_,cap,rfl,hn⟩
structure Half (w:World) (base E k:Nat) (v:Value) (n:Nat) (ts:List Tr) (xs:List Value) (f:List Nat):Prop where
 own:∃ ys,w.ownsRow base E k v n ys∧RepV w ts (ys.take ts.length) f∧ys.drop ts.length=xs.drop ts.length
 nd:f.Nodup
 free:Free w f
 far:∀ g,v.ownBlock=some g→g ∉ f
section
variable {w w':World} {base E k n:Nat} {v:Value} {ts us:List Tr} {xs vs:List Value} {f g:List Nat}
theorem Half.start (h:w.ownsRow base E k v n xs):Half w base E k v n [] xs []:=⟨⟨xs,h,rfl,rfl⟩,List.nodup_nil,fun b h=>by simp at h,fun g _=>by simp⟩
theorem Half.frame (h:Half w base E k v n ts xs f) (hv:∀ g,v.ownBlock=some g→w'.heap[g]? = w.heap[g]?) (hf:∀ b ∈ f,w'.heap[b]? = w.heap[b]?):Half w' base E k v n ts xs f:=by
 obtain⟨ys,ho,hr,hd⟩:=h.own;exact⟨⟨ys,zap ho hv,hr.frame hf,hd⟩,h.nd,h.free.frame hf,h.far⟩
theorem zbf (h:w.ownsRow base E k v n xs) {b:Nat} (hb:v.ownBlock=some b):base≤b∧b<w.heap.size:=by
 rcases h.2 with ⟨rfl,_⟩|⟨g',cap,cur,rfl,hg,hh,_⟩
 ·simp[Value.ownBlock] at hb
 ·have:g' = b:=by simpa [Value.ownBlock] using hb
  subst this;refine⟨hg,?_⟩
  exact Q1i
theorem Half.block (h:Half w base E k v n ts xs f) {b:Nat} (hb:v.ownBlock=some b):base≤b∧b<w.heap.size:=by
 obtain⟨ys,ho,_,_⟩:=h.own;exact zbf ho hb
theorem Half.form (h:Half w base E k v n ts xs f) (hn:0<n):∃ b cap,v=IZ (some ⟨b,0,none⟩) n cap∧base≤b∧b<w.heap.size:=by
 obtain⟨ys,ho,_,_⟩:=h.own
 rcases ho.2 with ⟨_,e⟩|⟨g',cap,cur,e,hg,hh,_⟩
 ·omega
 ·refine⟨g',cap,e,hg,?_⟩
  exact Q1i
theorem Half.chg {fp:List Nat} (h:Half w base E k v n ts xs f) {lo:Nat} (hin:In lo w f) (hc:Chg fp w w') (hv:∀ b,v.ownBlock=some b→b ∉ fp) (hf:∀ b ∈ f,b ∉ fp):Half w' base E k v n ts xs f :=
 h.frame (fun g hg=>hc.block g (h.block hg).2 (hv g hg)) (fun b hb=>hc.block b (hin b hb).2 (hf b hb))
theorem Half.below {lo:Nat} (h:Half w base E k v n ts xs f) (hin:In lo w f) (hb:OI w w w'):Half w' base E k v n ts xs f :=
 h.frame (fun g hg=>hb.block g (h.block hg).2) (fun b hx=>hb.block b (hin b hx).2)
theorem RepV.takeLen:{ts:List Tr}→{vs:List Value}→{f:List Nat}→RepV w ts vs f→vs.length=ts.length:=fun h=>h.length.symm
theorem Half.done (h:Half w base E k v n ts xs f) (hl:ts.length=n*k):Grow w base E k v n ts f:=by
 obtain⟨ys,ho,hr,hd⟩:=h.own;have:ys.take ts.length=ys:=List.take_of_length_le (by rw[ho.1,hl];exact Nat.le_refl _);rw[this] at hr;exact⟨⟨ys,ho,hr⟩,h.nd,h.free,h.far⟩
theorem Half.cell (h:Half w base E k v n ts xs f) {b cap:Nat} (hv:v=IZ (some ⟨b,0,none⟩) n cap) {j:Nat} (hj:ts.length≤j) {u:Value} (hu:xs[j]? = some u) (hlt:j<n*k):w.cell? ⟨b,j,none⟩=some u:=by
 obtain⟨ys,ho,hr,hd⟩:=h.own
 rcases ho.2 with ⟨e,_⟩|⟨g',cap',cur,e,_,hh,_,_,_,htk⟩
 ·rw[hv] at e;injection e with e;cases e
 ·rw[hv] at e
  injection e with e;injection e with e;injection e with e;subst e;rw[za9 hh];have:ys[j]? = some u:=by
   have h1:(ys.drop ts.length)[j-ts.length]? = (xs.drop ts.length)[j-ts.length]?:=by rw[hd]
   rw[List.getElem?_drop,List.getElem?_drop,show ts.length+(j-ts.length)=j by omega] at h1;rw[h1,hu]
  rw[← htk,List.getElem?_take_of_lt hlt,Array.getElem?_toList] at this;exact this
theorem Half.open_ (h:Half w base E k v n ts xs f) {b cap:Nat} (hv:v=IZ (some ⟨b,0,none⟩) n cap) (j:Nat):w.frozen? ⟨b,j,none⟩=false:=by
 obtain⟨ys,ho,hr,hd⟩:=h.own
 rcases ho.2 with ⟨e,_⟩|⟨g',cap',cur,e,_,hh,_⟩
 ·rw[hv] at e;injection e with e;cases e
 ·rw[hv] at e
  injection e with e;injection e with e;injection e with e;subst e;exact zc5 hh j
theorem Half.step (h:Half w base E k v n ts xs f) {b cap:Nat} (hv:v=IZ (some ⟨b,0,none⟩) n cap) (hr:RepV w us vs g) (hl:ts.length+us.length≤n*k)
  (hg:g.Nodup) (hgb:b ∉ g) (hgf:∀ x ∈ g,x ∉ f) (hgo:Free w g):Half (setRow w b ts.length vs) base E k v n (ts++us) xs (f++g):=by
 obtain⟨ys,ho,hrep,hd⟩:=h.own;have hvl:=hr.takeLen;have hne:∀ x ∈ f,(setRow w b ts.length vs).heap[x]? = w.heap[x]?:=fun x hx=>zfh b vs w _ x (fun e=>h.far b (by rw[hv];rfl) (e ▸ hx))
 have hne':∀ x ∈ g,(setRow w b ts.length vs).heap[x]? = w.heap[x]?:=fun x hx=>zfh b vs w _ x (fun e=>hgb (e ▸ hx))
 rcases ho with ⟨hyl,⟨e,_⟩|⟨g',cap',cur,e,hbase,hh,hnc,hcm,hcs,htk⟩⟩
 ·rw[hv] at e;injection e with e;cases e
 rw[hv] at e;injection e with e _ e3;injection e with e;injection e with e;subst e e3;obtain⟨cs',h1,h2,h3,h4,h5⟩:=row_setRow vs w ts.length cur hh;have hck:n*k≤cap*k:=Nat.mul_le_mul_right k hnc;have hget:∀ i,i<n*k→(cs'.toList.take (n*k))[i]? = cs'[i]?:=fun i hi=>by rw[List.getElem?_take_of_lt hi,Array.getElem?_toList]
 have hgy:∀ i,i<n*k→ys[i]? = cur[i]?:=fun i hi=>by rw[← htk,List.getElem?_take_of_lt hi,Array.getElem?_toList]
 have hlen:(cs'.toList.take (n*k)).length=n*k:=by rw[List.length_take,Array.length_toList,h2,hcs];omega
 refine⟨⟨cs'.toList.take (n*k),⟨hlen,Or.inr ⟨b,cap,cs',hv,hbase,h1,hnc,hcm,by rw[h2,hcs],rfl⟩⟩,?_,?_⟩,List.nodup_append.2 ⟨h.nd,hg,fun a ha b hb e=>hgf b hb (e ▸ ha)⟩,?_,?_⟩
 ·have ht:(cs'.toList.take (n*k)).take (ts++us).length=ys.take ts.length++vs:=by
   apply List.ext_getElem?
   intro i;rw[List.length_append]
   by_cases hi:i<ts.length
   ·rw[List.getElem?_take_of_lt II,hget i II,h3 i hi,List.getElem?_append_left Q3m,List.getElem?_take_of_lt hi,hgy i II]
   ·by_cases hi2:i<ts.length+us.length
    ·rw[List.getElem?_take_of_lt hi2,hget i II,List.getElem?_append_right Q3m,List.length_take,Nat.min_eq_left II]
     have:=h5 II (i-ts.length) II;rw[show ts.length+(i-ts.length)=i by omega] at this;exact this
    ·rw[List.getElem?_eq_none Q3m,List.getElem?_eq_none (by rw[List.length_append,List.length_take];omega)]
  rw[ht];have:∀ (W:World) (ts:List Tr) (xs:List Value) (f:List Nat),RepV W us vs g→RepV W ts xs f→RepV W (ts++us) (xs++vs) (f++g):=by
   intro W ts
   induction ts with
   | nil=>intro xs f hu h;cases xs with
    | nil=>rw[show f = [] from h];exact hu
    | cons _ _=>exact h.elim
   | cons t ts ih =>
    intro xs f hu h
    cases xs with
    | nil=>exact h.elim
    | cons x xs =>
     obtain⟨f1,f2,h1,h2,rfl⟩:=h;exact⟨f1,f2++g,h1,ih xs f2 hu h2,by simp⟩
  exact this _ ts _ f (hr.frame hne') (hrep.frame hne)
 ·apply List.ext_getElem?
  intro i;rw[List.getElem?_drop,List.getElem?_drop,List.length_append]
  by_cases hi:ts.length+us.length+i<n*k
  ·rw[hget _ hi,h4 _ II,← hgy _ hi]
   have h1:(ys.drop ts.length)[us.length+i]? = (xs.drop ts.length)[us.length+i]?:=by rw[hd]
   rw[List.getElem?_drop,List.getElem?_drop] at h1;rw[Nat.add_assoc];exact h1
  ·have hyx:(ys.drop ts.length).length=(xs.drop ts.length).length:=by rw[hd]
   rw[List.length_drop,List.length_drop] at hyx;rw[List.getElem?_eq_none II,List.getElem?_eq_none II]
 ·intro x hx i
  rcases List.mem_append.1 hx with hx|hx
  ·exact h.free.frame hne x hx i
  ·exact hgo.frame hne' x hx i
 ·intro x hx hm
  rw[hv] at hx;have:b=x:=by simpa [Value.ownBlock] using hx
  subst this
  rcases List.mem_append.1 hm with hm|hm
  ·exact h.far b (by rw[hv];rfl) hm
  ·exact hgb hm
theorem Grow.toOwnB {w:World} {base E size n lo:Nat} {v:Value} {ts:List Tr} {f:List Nat} (h:Grow w base E size v n ts f) (hsz:0<size) (hin:In lo w f) (hlo:lo≤base) :
  ∃ fp,Own w (.sl size ts) v fp∧In lo w fp∧∀ x ∈ fp,v.ownBlock=some x∨x ∈ f:=by
 have hlen:=h.len;obtain⟨xs,⟨hl,ho⟩,hr⟩:=h.own
 rcases ho with ⟨rfl,rfl⟩|⟨g,cap,cur,rfl,hb,hh,hnc,hcm,hcs,htk⟩
 ·have e:ts = []:=List.eq_nil_of_length_eq_zero (by simpa using hlen)
  subst e;exact⟨[],⟨zb7.2 ⟨none,0,0,rfl,by simp,Nat.le_refl _,by unfold maxLen;omega,Or.inl ⟨rfl,rfl⟩⟩,List.nodup_nil,fun b h=>by simp at h⟩,In.nil,fun x hx=>by simp at hx⟩
 ·by_cases e:ts = []
  ·subst e
   exact⟨[],⟨zb7.2 ⟨_,n,cap,rfl,hlen,hnc,hcm,Or.inl ⟨rfl,rfl⟩⟩,List.nodup_nil,fun b h=>by simp at h⟩,In.nil,fun x hx=>by simp at hx⟩
  ·have hgl:=(h.block (g:=g) rfl).2
   refine⟨g::f,⟨zb7.2 ⟨_,n,cap,rfl,hlen,hnc,hcm,Or.inr ⟨g,0,f,e,rfl,rfl,?_⟩⟩,List.nodup_cons.2 ⟨h.far g rfl,h.nd⟩,?_⟩,?_,?_⟩
   ·refine zd4 hr (fun j hj=>?_)
    rw[Nat.zero_add,za9 hh,← htk,List.getElem?_take_of_lt II,Array.getElem?_toList]
   ·intro b hb' i
    rcases List.mem_cons.1 hb' with rfl|hb'
    ·exact zc5 hh i
    ·exact h.free b hb' i
   ·intro b hb'
    rcases List.mem_cons.1 hb' with rfl|hb'
    ·exact⟨II,hgl⟩
    ·exact hin b hb'
   ·intro b hb'
    rcases List.mem_cons.1 hb' with rfl|hb'
    ·exact Or.inl rfl
    ·exact Or.inr hb'
end
end Go.Proofs.YtpakghepnahooaaGreatDoor
namespace Go.Proofs.YtpakghepnahooaaGreatDoor
open Go.RowKit
theorem ownsRow_mono {w:World} {base base' E k n:Nat} {v:Value} {xs:List Value} (h:w.ownsRow base E k v n xs) (hb:base'≤base):w.ownsRow base' E k v n xs :=
 ⟨h.1,h.2.imp id fun ⟨g,cap,cur,h1,h2,h3⟩=>⟨g,cap,cur,h1,Nat.le_trans hb h2,h3⟩⟩
structure SpB (w:World) (lo hi E k:Nat) (v:Value) (n:Nat):Prop where
 own:∃ xs,w.ownsRow lo E k v n xs
 blk:∀ g,v.ownBlock=some g→g<hi
 z:n=0→∀ a m c,v=IZ a m c→c=0
section
variable {w w':World} {lo hi E k n:Nat} {v:Value}
theorem SpB.frame (h:SpB w lo hi E k v n) (hf:∀ b,lo≤b→b<hi→w'.heap[b]? = w.heap[b]?):SpB w' lo hi E k v n:=by
 obtain⟨xs,hx⟩:=h.own;exact⟨⟨xs,zap hx (fun g hg=>hf g (zbf hx hg).1 (h.blk g hg))⟩,h.blk,h.z⟩
theorem SpB.below (h:SpB w lo hi E k v n) {B:Nat} (hh:hi≤B) (hb:OI B w w'):SpB w' lo hi E k v n:=h.frame (fun b _ h2=>hb.block b II)
theorem SpB.mono (h:SpB w lo hi E k v n) {lo' hi':Nat} (h1:lo'≤lo) (h2:hi≤hi'):SpB w lo' hi' E k v n:=by
 obtain⟨xs,hx⟩:=h.own;exact⟨⟨xs,ownsRow_mono hx h1⟩,fun g hg=>Nat.lt_of_lt_of_le (h.blk g hg) h2,h.z⟩
theorem SpB.setFar (h:SpB w lo hi E k v n) {p:Addr} (hp:p.block<lo∨hi≤p.block) (u:Value):SpB (w.setCell p u) lo hi E k v n:=h.frame (fun b h1 h2=>Below.heap_setCell w p u b II)
theorem SpB.nil:SpB w lo hi E k (IZ none 0 0) 0:=⟨⟨[],by simp,Or.inl ⟨rfl,rfl⟩⟩,fun g hg=>by simp[Value.ownBlock] at hg,fun _ a m c e=>by injection e with _ _ e3;exact e3.symm⟩
theorem Rep.cell_aux {w:World} : (t:Tr)→(v:Value)→(fp:List Nat)→Rep w t v fp→∀ x ∈ fp,∃ i u,w.cell? ⟨x,i,none⟩=some u:=by
 intro t;refine Tr.rec (motive_1:=fun t=>∀ v fp,Rep w t v fp→∀ x ∈ fp,∃ i u,w.cell? ⟨x,i,none⟩=some u)
  (motive_2:=fun ts=>∀ b off fp,Reps w ts b off fp→∀ x ∈ fp,∃ i u,w.cell? ⟨x,i,none⟩=some u) ?_ ?_ ?_ ?_ t
 ·intro u v fp h x hx
  rw[zc7] at h;rw[h.2] at hx;simp at hx
 ·intro k es ih v fp h x hx
  rw[zb7] at h;obtain⟨a,n,c,hv,hl,hn,hc,h⟩:=h
  rcases h with ⟨_,h⟩|⟨b,off,f,hne,ha,hfp,hr⟩
  ·rw[h] at hx;simp at hx
  ·subst hfp
   rcases List.mem_cons.1 hx with e|e
   ·subst e
    obtain⟨u,_,hu,_,_⟩:=hr.at_ 0 (List.length_pos_iff.2 hne);exact⟨_,u,hu⟩
   ·exact ih b off f hr x e
 ·intro b off fp h x hx
  rw[zcx] at h;rw[h] at hx;simp at hx
 ·intro t ts iht ihts b off fp h x hx
  rw[zbp] at h;obtain⟨v,f,g,hc,hr,hrs,rfl⟩:=h
  rcases List.mem_append.1 hx with e|e
  ·exact iht v f hr x e
  ·exact ihts b (off+1) g hrs x e
theorem RepV.cell {ts:List Tr} {vs:List Value} {fp:List Nat} (h:RepV w ts vs fp):∀ x ∈ fp,∃ i u,w.cell? ⟨x,i,none⟩=some u:=by
 induction ts generalizing vs fp with
 | nil=>cases vs with
  | nil=>intro x hx;rw[show fp = [] from h] at hx;simp at hx
  | cons _ _=>exact h.elim
 | cons t ts ih=>cases vs with
  | nil=>exact h.elim
  | cons v vs =>
   obtain⟨f,g,h1,h2,rfl⟩:=h;intro x hx
   rcases List.mem_append.1 hx with e|e
   ·exact Rep.cell_aux t v f h1 x e
   ·exact ih h2 x e
theorem SpB.none_in (h:SpB w lo hi E k v n) (hn:n=0) {ts:List Tr} {vs:List Value} {fp:List Nat} (hv:OwnV w ts vs fp):∀ g,v.ownBlock=some g→g ∉ fp:=by
 intro g hg hf;obtain⟨xs,hx⟩:=h.own;obtain⟨i,u,hu⟩:=hv.rep.cell g hf
 rcases hx.2 with ⟨rfl,_⟩|⟨g',cap,cur,rfl,_,hh,_,_,hs,_⟩
 ·simp[Value.ownBlock] at hg
 ·have e:g' = g:=by simpa [Value.ownBlock] using hg
  subst e;have hc:=h.z hn _ _ _ rfl;subst hc;rw[Nat.zero_mul] at hs;rw[za9 hh i,Array.getElem?_eq_none II] at hu
  cases hu
end
section
variable {P:Program} (w:World)
theorem run_append_zero (base:Nat) (t ty e:TypeId) (i:TypeInfo) (size:Nat) (ht:P.underlying t=some (.slice e)) (hi:P.info? e=some i)
  (v:Value) (n:Nat) (xs:List Value) (hown:w.ownsRow base e size v n xs) (A:Option Addr) (c:Nat):(Builtin.append_ #[t,t] ty #[v,IZ A 0 c]).run P w=.ok v w:=by
 cases A with
 | none=>exact ze3 w base t ty e i size ht hi v n xs hown c
 | some ad =>
  rcases hown.2 with ⟨rfl,rfl⟩|⟨g,cap,cur,rfl,_,_,hnc,_⟩
  ·simp[Builtin.append_,run_underlying ht,sizeOf,typeInfo,hi,Builtin.lenOf,Builtin.firstCells,loadCells,loadCellsFrom]
  ·simp[Builtin.append_,run_underlying ht,sizeOf,typeInfo,hi,Builtin.lenOf,Builtin.firstCells,loadCells,loadCellsFrom,hnc,storeCells]
theorem wp_append_anyZ {o:Oper} {a:Act} {K:Act→World→Prop} {Q:Exit→Act→World→Prop} (s x:Operand) (t:TypeId)
  (ho:o.op=.call { callee:=.builtin .append,args:=#[s,x],argTypes:=#[t,t] })
  (base:Nat) (e:TypeId) (i:TypeInfo) (z:Value) (size bytes:Nat) (ht:P.underlying t=some (.slice e)) (hi:P.info? e=some i) (hz:i.zero=some z)
  (hsize:i.size=size) (hby:i.bytes=bytes) (hzs:z.cells.size=size) (hsz:0<size)
  (v:Value) (n:Nat) (xs:List Value) (hs:a.eval s=v) (hown:w.ownsRow base e size v n xs)
  (B:Nat) (A:Option Addr) (m c:Nat) (news:List Value) (hx:a.eval x=IZ A m c) (hr:Reads w B size A m news) (h1:∀ u ∈ news,u.oneCell' = true)
  (h63:n+m≤maxLen) (hbytes:(n+m)*bytes≤140737488355328) (hbase:base≤w.heap.size)
  (h:∀ v' w',w'.ownsRow base e size v' (n+m) (xs++news)→w.grownBy w' v.ownBlock→(v'.ownBlock=v.ownBlock∨v'.ownBlock=some w.heap.size)→(m=0→v' = v)→K (a.put o.dst v') w'):o.wp P a w K Q:=by
 by_cases hm:m=0
 ·subst hm
  have hn:news = []:=List.eq_nil_of_length_eq_zero (by simpa using hr.1);subst hn;have hrun:=run_append_zero (P:=P) w base t o.type e i size ht hi v n xs hown A c;unfold Oper.wp execOp;simp only[ho,resolve,invoke,builtin,Sem.run_bind,Sem.run_pure,Result.andThen_ok,List.map_toArray,List.map_cons,List.map_nil,hs,hx,hrun];exact h v w (by simpa using hown) (World.grownBy.refl w _) (.inl rfl) (fun _=>rfl)
 ·exact zeg w s x t ho base e i z size bytes ht hi hz hsize hby hzs hsz v n xs hs hown B A m c news hx hr h1 h63 hbytes hbase fun v' w' h2 h3 h4=>h v' w' h2 h3 h4 (fun e=>absurd e hm)
end
end Go.Proofs.YtpakghepnahooaaGreatDoor
