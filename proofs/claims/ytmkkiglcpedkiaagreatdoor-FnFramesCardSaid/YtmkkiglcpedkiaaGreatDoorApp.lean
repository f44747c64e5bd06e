/- Slices that grow by append: the laws of the builtin append over a row of the call's own, and rows of trees. Plain lemmas; no program. -/
import Derived.Test.YtmkkiglcpedkiaaGreatDoorTypes
import Derived.Deep.AppendLies
import Derived.OwnWalk
set_option linter.unusedVariables false
set_option linter.unusedSimpArgs false
namespace Go.Proofs.YtmkkiglcpedkiaaGreatDoor
open Go.RowKit
theorem block_of_add (a:Addr) (n:Nat):(a.add n).block=a.block:=by unfold Addr.add;split<;>rfl
theorem add_of_add (a:Addr) (i j:Nat):(a.add i).add j=a.add (i+j):=by
 unfold Addr.add
 by_cases hi:i=0<;>by_cases hj:j=0<;>simp[hi,hj,Nat.add_assoc]
def Reads (w:World) (B size:Nat) (A:Option Addr) (n:Nat) (xs:List Value):Prop :=
 xs.length=n*size∧(0<n→∃ ad,A=some ad∧ad.block<B∧∀ j u,xs[j]? = some u→w.cell? (ad.add j)=some u)
section
variable {w w':World} {B B' size n:Nat} {A:Option Addr} {xs:List Value}
theorem Reads.none_:Reads w B size A 0 []:=⟨by simp,fun h=>absurd h (by omega)⟩
theorem Reads.at_ {k:Nat} (h:Reads w B 1 A n xs) (hk:k<n):∃ ad u,A=some ad∧ad.block<B∧xs[k]? = some u∧w.cell? (ad.add k)=some u:=by
 obtain⟨ad,e,hb,hc⟩:=h.2 (by omega);have hl:k<xs.length:=by have:=h.1;omega
 exact⟨ad,xs[k],e,hb,List.getElem?_eq_getElem hl,hc k _ (List.getElem?_eq_getElem hl)⟩
theorem Reads.keep (h:Reads w B size A n xs) (hk:∀ p:Addr,p.block<B→w'.cell? p=w.cell? p):Reads w' B size A n xs :=
 ⟨h.1,fun hn=>by
  obtain⟨ad,e,hb,hc⟩:=h.2 hn
  exact⟨ad,e,hb,fun j u hu=>(hk _ (by rw[block_of_add];exact hb)).trans (hc j u hu)⟩⟩
theorem Reads.more (h:Reads w B size A n xs) (hB:B≤B'):Reads w B' size A n xs :=
 ⟨h.1,fun hn=>by
  obtain⟨ad,e,hb,hc⟩:=h.2 hn
  exact⟨ad,e,by omega,hc⟩⟩
theorem Reads.below (h:Reads w B size A n xs) (hb:Below B w w'):Reads w' B size A n xs:=h.keep fun _ hp=>hb.cell hp
theorem Reads.drew (h:Reads w B size A n xs):Reads w.drew B size A n xs:=h
theorem Reads.drewN (h:Reads w B size A n xs) (k:Nat):Reads (w.drewN k) B size A n xs:=h
theorem Reads.alloc (h:Reads w B size A n xs) (hB:B≤w.heap.size) (o:Obj):Reads (w.alloc o) B size A n xs:=h.keep fun p hp=>World.cell?_alloc_lt w o p (by omega)
theorem Reads.setCell (h:Reads w B size A n xs) {p:Addr} (hB:B≤p.block) (u:Value):Reads (w.setCell p u) B size A n xs :=
 h.keep fun q hq=>World.cell?_setCell_other w p q u (fun e=>by subst e;omega)
theorem Reads.grown (h:Reads w B size A n xs) {row:Option Nat} (hg:w.grownBy w' row) (hB:B≤w.heap.size) (hr:∀ g,row=some g→B≤g):Reads w' B size A n xs :=
 h.keep fun p hp=>World.cell?_of_block (hg.block p.block (by omega) (fun e=>by have:=hr _ e.symm;omega))
theorem Reads.cut (h:Reads w B size A n xs) {k cap:Nat} (hk:k≤n) (hc:n≤cap) :
  Reads w B size (if cap=k then A else A.map (·.add (k*size))) (n-k) (xs.drop (k*size)):=by
 refine⟨by rw[List.length_drop,h.1,Nat.sub_mul],fun hn=>?_⟩;obtain⟨ad,rfl,hb,hcell⟩:=h.2 (by omega);rw[if_neg (by omega)];refine⟨ad.add (k*size),rfl,by rw[block_of_add];exact hb,fun j u hu=>?_⟩;rw[add_of_add];exact hcell _ u (by rw[← hu,List.getElem?_drop])
end
section
variable {P:Program} (w:World)
theorem run_append_of_nil (base:Nat) (t ty e:TypeId) (i:TypeInfo) (size:Nat) (ht:P.underlying t=some (.slice e)) (hi:P.info? e=some i)
  (v:Value) (n:Nat) (xs:List Value) (hown:w.ownsRow base e size v n xs) (c:Nat):(Builtin.append_ #[t,t] ty #[v,.slice none 0 c]).run P w=.ok v w:=by
 rcases hown.2 with ⟨rfl,rfl⟩|⟨g,cap,cur,rfl,_,_,hnc,_⟩
 ·simp[Builtin.append_,run_underlying ht,sizeOf,typeInfo,hi,Builtin.lenOf,Builtin.firstCells]
 ·simp[Builtin.append_,run_underlying ht,sizeOf,typeInfo,hi,Builtin.lenOf,Builtin.firstCells,hnc,storeCells]
theorem run_append_any (base:Nat) (t ty e:TypeId) (i:TypeInfo) (z:Value) (size bytes:Nat) (ht:P.underlying t=some (.slice e)) (hi:P.info? e=some i) (hz:i.zero=some z)
  (hsize:i.size=size) (hby:i.bytes=bytes) (hzs:z.cells.size=size) (hsz:0<size)
  (v:Value) (n:Nat) (xs:List Value) (hown:w.ownsRow base e size v n xs)
  (B:Nat) (A:Option Addr) (m c:Nat) (news:List Value) (hr:Reads w B size A m news) (h1:∀ u ∈ news,u.oneCell' = true)
  (h63:n+m≤maxLen) (hbytes:(n+m)*bytes≤140737488355328) (hbase:base≤w.heap.size) :
  ∃ v' w',(Builtin.append_ #[t,t] ty #[v,.slice A m c]).run P w=.ok v' w'∧w'.ownsRow base e size v' (n+m) (xs++news)∧w.grownBy w' v.ownBlock ∧
   (v'.ownBlock=v.ownBlock∨v'.ownBlock=some w.heap.size):=by
 rcases A with _|ad
 ·have hm:m=0:=by
   rcases Nat.eq_zero_or_pos m with h0|h0
   ·exact h0
   ·obtain⟨ad,h,_⟩:=hr.2 h0
    cases h
  subst hm;have hn:news = []:=List.eq_nil_of_length_eq_zero (by simpa using hr.1);subst hn;exact⟨v,w,run_append_of_nil w base t ty e i size ht hi v n xs hown c,by simpa using hown,World.grownBy.refl w _,.inl rfl⟩
 ·have hcells:∀ j u,news[j]? = some u→w.cell? (ad.add j)=some u:=by
   intro j u hu
   rcases Nat.eq_zero_or_pos m with h0|h0
   ·subst h0
    have hn:news = []:=List.eq_nil_of_length_eq_zero (by simpa using hr.1);subst hn;simp at hu
   ·obtain⟨ad',h,_,hc⟩:=hr.2 h0
    injection h with h;subst h;exact hc j u hu
  obtain⟨v',w',hrun,h2,h3,_,h5⟩:=run_append_own_at (P:=P) w base t ty e i z size bytes ht hi hz hsize hby hzs hsz v n xs hown ad m c news hr.1 hcells h1 h63 hbytes hbase;exact⟨v',w',hrun,h2,h3,h5⟩
theorem wp_append_any {o:Oper} {a:Act} {K:Act→World→Prop} {Q:Exit→Act→World→Prop} (s x:Operand) (t:TypeId)
  (ho:o.op=.call { callee:=.builtin .append,args:=#[s,x],argTypes:=#[t,t] })
  (base:Nat) (e:TypeId) (i:TypeInfo) (z:Value) (size bytes:Nat) (ht:P.underlying t=some (.slice e)) (hi:P.info? e=some i) (hz:i.zero=some z)
  (hsize:i.size=size) (hby:i.bytes=bytes) (hzs:z.cells.size=size) (hsz:0<size)
  (v:Value) (n:Nat) (xs:List Value) (hs:a.eval s=v) (hown:w.ownsRow base e size v n xs)
  (B:Nat) (A:Option Addr) (m c:Nat) (news:List Value) (hx:a.eval x=.slice A m c) (hr:Reads w B size A m news) (h1:∀ u ∈ news,u.oneCell' = true)
  (h63:n+m≤maxLen) (hbytes:(n+m)*bytes≤140737488355328) (hbase:base≤w.heap.size)
  (h:∀ v' w',w'.ownsRow base e size v' (n+m) (xs++news)→w.grownBy w' v.ownBlock→(v'.ownBlock=v.ownBlock∨v'.ownBlock=some w.heap.size)→K (a.put o.dst v') w'):o.wp P a w K Q:=by
 obtain⟨v',w',hrun,h2,h3,h4⟩:=run_append_any (P:=P) w base t o.type e i z size bytes ht hi hz hsize hby hzs hsz v n xs hown B A m c news hr h1 h63 hbytes hbase;unfold Oper.wp execOp;simp only[ho,resolve,invoke,builtin,Sem.run_bind,Sem.run_pure,Result.andThen_ok,List.map_toArray,List.map_cons,List.map_nil,hs,hx,hrun];exact h v' w' h2 h3 h4
theorem wpList_append_any {ops:Array Oper} {rest:List Oper} {o:Oper} {a:Act} {Q:Exit→Act→World→Prop} (hgd:o.guard=none) (s x:Operand) (t:TypeId)
  (ho:o.op=.call { callee:=.builtin .append,args:=#[s,x],argTypes:=#[t,t] })
  (base:Nat) (e:TypeId) (i:TypeInfo) (z:Value) (size bytes:Nat) (ht:P.underlying t=some (.slice e)) (hi:P.info? e=some i) (hz:i.zero=some z)
  (hsize:i.size=size) (hby:i.bytes=bytes) (hzs:z.cells.size=size) (hsz:0<size)
  (v:Value) (n:Nat) (xs:List Value) (hs:a.eval s=v) (hown:w.ownsRow base e size v n xs)
  (B:Nat) (A:Option Addr) (m c:Nat) (news:List Value) (hx:a.eval x=.slice A m c) (hr:Reads w B size A m news) (h1:∀ u ∈ news,u.oneCell' = true)
  (h63:n+m≤maxLen) (hbytes:(n+m)*bytes≤140737488355328) (hbase:base≤w.heap.size)
  (h:∀ v' w',w'.ownsRow base e size v' (n+m) (xs++news)→w.grownBy w' v.ownBlock→(v'.ownBlock=v.ownBlock∨v'.ownBlock=some w.heap.size)→wpList P ops Q rest (a.put o.dst v') w'):wpList P ops Q (o::rest) a w :=
 wpList_plain hgd fun _ hK=>wp_append_any w s x t ho base e i z size bytes ht hi hz hsize hby hzs hsz v n xs hs hown B A m c news hx hr h1 h63 hbytes hbase fun v' w' h2 h3 h4=>hK _ _ (h v' w' h2 h3 h4)
end
structure Grow (w:World) (base E size:Nat) (v:Value) (n:Nat) (ts:List Tr) (f:List Nat):Prop where
 own:∃ xs,w.ownsRow base E size v n xs∧RepV w ts xs f
 nd:f.Nodup
 free:Free w f
 far:∀ g,v.ownBlock=some g→g ∉ f
theorem Grow.nil {w:World} {base E size:Nat} : Grow w base E size (.slice none 0 0) 0 [] [] :=
 ⟨⟨[],⟨by simp,Or.inl ⟨rfl,rfl⟩⟩,rfl⟩,List.nodup_nil,fun b h=>by simp at h,fun g h=>by simp[Value.ownBlock] at h⟩
theorem Grow.len {w:World} {base E size:Nat} {v:Value} {n:Nat} {ts:List Tr} {f:List Nat} (h:Grow w base E size v n ts f):ts.length=n*size:=by
 obtain⟨xs,ho,hr⟩:=h.own;rw[hr.length,ho.1]
theorem ownsRow_frame {w w':World} {base E size n:Nat} {v:Value} {xs:List Value} (h:w.ownsRow base E size v n xs) (hf:∀ g,v.ownBlock=some g→w'.heap[g]? = w.heap[g]?):w'.ownsRow base E size v n xs:=by
 obtain⟨h1,h2⟩:=h;refine⟨h1,?_⟩
 rcases h2 with h2|⟨g,cap,cur,hv,hg,hh,r⟩
 ·exact Or.inl h2
 ·refine Or.inr ⟨g,cap,cur,hv,hg,?_,r⟩
  rw[hf g (by rw[hv];rfl)];exact hh
theorem Grow.frame {w w':World} {base E size n:Nat} {v:Value} {ts:List Tr} {f:List Nat} (h:Grow w base E size v n ts f) (hv:∀ g,v.ownBlock=some g→w'.heap[g]? = w.heap[g]?) (hf:∀ b ∈ f,w'.heap[b]? = w.heap[b]?):Grow w' base E size v n ts f:=by
 obtain⟨xs,ho,hr⟩:=h.own;exact⟨⟨xs,ownsRow_frame ho hv,hr.frame hf⟩,h.nd,h.free.frame hf,h.far⟩
theorem Grow.block {w:World} {base E size n:Nat} {v:Value} {ts:List Tr} {f:List Nat} (h:Grow w base E size v n ts f) {g:Nat} (hg:v.ownBlock=some g):base≤g∧g<w.heap.size:=by
 obtain⟨xs,⟨_,ho⟩,_⟩:=h.own
 rcases ho with ⟨rfl,_⟩|⟨g',cap,cur,rfl,hb,hh,_⟩
 ·simp[Value.ownBlock] at hg
 ·have:g' = g:=by simpa [Value.ownBlock] using hg
  subst this;refine⟨hb,?_⟩
  rcases Nat.lt_or_ge g' w.heap.size with hlt|hge
  ·exact hlt
  ·rw[Array.getElem?_eq_none hge] at hh;cases hh
theorem Grow.below {w w':World} {base E size n lo:Nat} {v:Value} {ts:List Tr} {f:List Nat} (h:Grow w base E size v n ts f) (hin:In lo w.heap.size f) (hb:Below w.heap.size w w'):Grow w' base E size v n ts f :=
 h.frame (fun g hg=>hb.block g (h.block hg).2) (fun b hx=>hb.block b (hin b hx).2)
theorem Grow.step {w w':World} {base E size n m lo:Nat} {v v':Value} {ts us:List Tr} {xs vs:List Value} {f g:List Nat} (h:Grow w base E size v n ts f) (hx:w.ownsRow base E size v n xs) (hv:RepV w us vs g) (hin:In lo w.heap.size f)
  (hgin:In lo w.heap.size g) (hg:g.Nodup) (hgf:∀ x ∈ g,x ∉ f) (hgo:Free w g) (hgv:∀ b,v.ownBlock=some b→b ∉ g)
  (hown:w'.ownsRow base E size v' (n+m) (xs++vs)) (hgr:w.grownBy w' v.ownBlock) (hat:v'.ownBlock=v.ownBlock∨v'.ownBlock=some w.heap.size) :
  Grow w' base E size v' (n+m) (ts++us) (f++g):=by
 obtain⟨xs',ho,hr⟩:=h.own;have hxe:xs' = xs:=by
  obtain⟨l1,o1⟩:=ho;obtain⟨l2,o2⟩:=hx
  rcases o1 with ⟨e1,e2⟩|⟨g1,cap1,cur1,e1,_,hh1,_,_,_,t1⟩<;>rcases o2 with ⟨e3,e4⟩|⟨g2,cap2,cur2,e3,_,hh2,_,_,_,t2⟩
  ·subst e2
   have q1:xs' = []:=List.eq_nil_of_length_eq_zero (by simpa using l1);have q2:xs = []:=List.eq_nil_of_length_eq_zero (by simpa using l2);rw[q1,q2]
  ·rw[e1] at e3;injection e3 with e3;cases e3
  ·rw[e1] at e3;injection e3 with e3;cases e3
  ·rw[e1] at e3
   injection e3 with e3;injection e3 with e3;injection e3 with e3;subst e3;rw[hh1] at hh2;injection hh2 with hh2;injection hh2 with hh2;subst hh2;rw[← t1,← t2]
 subst hxe;have kf:∀ b ∈ f,w'.heap[b]? = w.heap[b]?:=fun b hb=>hgr.block b (hin b hb).2 (fun e=>h.far b e.symm hb)
 have kg:∀ b ∈ g,w'.heap[b]? = w.heap[b]?:=fun b hb=>hgr.block b (hgin b hb).2 (fun e=>hgv b e.symm hb)
 refine⟨⟨xs'++vs,hown,?_⟩,List.nodup_append.2 ⟨h.nd,hg,fun a ha b hb e=>hgf b hb (e ▸ ha)⟩,?_,?_⟩
 ·have:∀ (ts:List Tr) (xs:List Value) (f:List Nat),RepV w' ts xs f→RepV w' (ts++us) (xs++vs) (f++g):=by
   intro ts
   induction ts with
   | nil=>intro xs f h;cases xs with
    | nil=>rw[show f = [] from h];exact hv.frame kg
    | cons _ _=>exact h.elim
   | cons t ts ih =>
    intro xs f h
    cases xs with
    | nil=>exact h.elim
    | cons x xs =>
     obtain⟨f1,f2,h1,h2,rfl⟩:=h;exact⟨f1,f2++g,h1,ih xs f2 h2,by simp⟩
  exact this ts xs' f (hr.frame kf)
 ·intro b hb i
  rcases List.mem_append.1 hb with hb|hb
  ·exact h.free.frame kf b hb i
  ·exact hgo.frame kg b hb i
 ·intro b hb hm
  rcases hat with e|e
  ·rw[e] at hb
   rcases List.mem_append.1 hm with hm|hm
   ·exact h.far b hb hm
   ·exact hgv b hb hm
  ·rw[e] at hb
   injection hb with hb
   rcases List.mem_append.1 hm with hm|hm
   ·have:=(hin b hm).2;omega
   ·have:=(hgin b hm).2;omega
theorem Grow.toOwn {w:World} {base E size n lo:Nat} {v:Value} {ts:List Tr} {f:List Nat} (h:Grow w base E size v n ts f) (hsz:0<size) (hin:In lo w.heap.size f) (hlo:lo≤base) :
  ∃ a c fp,v=.slice a n c∧Own w (.sl size ts) (.slice a n c) fp∧In lo w.heap.size fp:=by
 have hlen:=h.len;obtain⟨xs,⟨hl,ho⟩,hr⟩:=h.own
 rcases ho with ⟨rfl,rfl⟩|⟨g,cap,cur,rfl,hb,hh,hnc,hcm,hcs,htk⟩
 ·have e:ts = []:=List.eq_nil_of_length_eq_zero (by simpa using hlen)
  subst e;exact⟨none,0,[],rfl,⟨Rep_sl.2 ⟨none,0,0,rfl,by simp,Nat.le_refl _,by unfold maxLen;omega,Or.inl ⟨rfl,rfl⟩⟩,List.nodup_nil,fun b h=>by simp at h⟩,In.nil⟩
 ·by_cases e:ts = []
  ·subst e
   refine⟨some ⟨g,0,none⟩,cap,[],rfl,⟨Rep_sl.2 ⟨_,n,cap,rfl,hlen,hnc,hcm,Or.inl ⟨rfl,rfl⟩⟩,List.nodup_nil,fun b h=>by simp at h⟩,In.nil⟩
  ·have hgl:=(h.block (g:=g) rfl).2
   refine⟨some ⟨g,0,none⟩,cap,g::f,rfl,⟨Rep_sl.2 ⟨_,n,cap,rfl,hlen,hnc,hcm,Or.inr ⟨g,0,f,e,rfl,rfl,?_⟩⟩,List.nodup_cons.2 ⟨h.far g rfl,h.nd⟩,?_⟩,?_⟩
   ·refine Reps_of_setRow hr (fun j hj=>?_)
    rw[Nat.zero_add,cell_of_row' hh,← htk,List.getElem?_take_of_lt (by omega),Array.getElem?_toList]
   ·intro b hb' i
    rcases List.mem_cons.1 hb' with rfl|hb'
    ·exact free_of_row hh i
    ·exact h.free b hb' i
   ·intro b hb'
    rcases List.mem_cons.1 hb' with rfl|hb'
    ·exact⟨by omega,hgl⟩
    ·exact hin b hb'
end Go.Proofs.YtmkkiglcpedkiaaGreatDoor
