/- Boxes: cells made one behind the other; stores into a block above a bound. Plain lemmas; no program. -/
import Derived.Test.YtpakghepnahooaaGreatDoorSpare
import Derived.Lib.SliceRun
import Derived.ArgAppend
set_option linter.unusedVariables false
set_option linter.unusedSimpArgs false
namespace Go.Proofs.YtpakghepnahooaaGreatDoor
open Go.RowKit
structure RowV (w:World) (b off:Nat) (xs:List Value):Prop where
 cell:∀ j u,xs[j]? = some u→w.cell? ⟨b,off+j,none⟩=some u
 free:∀ i,w.frozen? ⟨b,i,none⟩=false
section
variable {w w':World} {b off:Nat} {xs ys:List Value}
theorem RowV.at_ (h:RowV w b off xs) (j:Nat) (hj:j<xs.length):w.cell? ⟨b,off+j,none⟩=some xs[j]:=h.cell j _ (List.getElem?_eq_getElem hj)
theorem RowV.some_ (h:RowV w b off xs) (j:Nat) (hj:j<xs.length):(w.cell? ⟨b,off+j,none⟩).isSome=true:=by rw[h.at_ j hj];rfl
theorem RowV.frame (h:RowV w b off xs) (hf:w'.heap[b]? = w.heap[b]?):RowV w' b off xs :=
 ⟨fun j u hu=>by rw[World.cell?_of_block (w:=w) hf];exact h.cell j u hu,fun i=>by rw[World.frozen?_of_block (w:=w) hf];exact h.free i⟩
theorem RowV.drew (h:RowV w b off xs):RowV w.drew b off xs:=h.frame rfl
theorem RowV.take (h:RowV w b off xs) (n:Nat):RowV w b off (xs.take n):=⟨fun j u hu=>h.cell j u (by
 have:=(List.getElem?_eq_some_iff.1 hu).1
 rw[List.length_take] at this
 rw[List.getElem?_take_of_lt II] at hu;exact hu),h.free⟩
theorem RowV.drop (h:RowV w b off xs) (n:Nat):RowV w b (off+n) (xs.drop n):=⟨fun j u hu=>by
 rw[List.getElem?_drop] at hu
 rw[Nat.add_assoc];exact h.cell _ u hu,h.free⟩
theorem RowV.set (h:RowV w b off xs) (p:Nat) (hl:p+ys.length≤xs.length):RowV (w.setCells b (off+p) ys) b off (xs.take p++ys):=by
 refine⟨fun j u hu=>?_,fun i=>by rw[World.frozen?_setCells];exact h.free i⟩
 by_cases hj:j<p
 ·rw[List.getElem?_append_left Q3m,List.getElem?_take_of_lt hj] at hu
  rw[World.cell?_setCells_out b _ _ _ _ (fun _ _=>Or.inl (by show off+j<off+p;omega))];exact h.cell j u hu
 ·rw[List.getElem?_append_right Q3m,List.length_take,Nat.min_eq_left II] at hu
  obtain⟨h1,h2⟩:=List.getElem?_eq_some_iff.1 hu;have:=World.cell?_setCells_in b ys (off+p) w (fun q hq=>by rw[Nat.add_assoc];exact h.some_ (p+q) II) (j-p) h1;rw[show off+j=off+p+(j-p) by omega,this,h2]
theorem RowV.behind (h:RowV w b off xs) (p:Nat) (hl:xs.length≤p):RowV (w.setCells b (off+p) ys) b off xs:=by
 refine⟨fun j u hu=>?_,fun i=>by rw[World.frozen?_setCells];exact h.free i⟩;have hj:=(List.getElem?_eq_some_iff.1 hu).1;rw[World.cell?_setCells_out b _ _ _ _ (fun _ _=>Or.inl (by show off+j<off+p;omega))];exact h.cell j u hu
theorem Own.rowV {w:World} {k n c:Nat} {a:Option Addr} {xs:List Value} {fp:List Nat} (h:Own w (.sl k (xs.map .lit)) (IZ a n c) fp) :
  xs.length=n*k∧n≤c∧c≤maxLen∧(xs≠[]→∃ b off,a=some ⟨b,off,none⟩∧fp = [b]∧RowV w b off xs):=by
 obtain⟨a',n',c',hv,hl,hn,hc,hh⟩:=zb7.1 h.rep;injection hv with e1 e2 e3;subst e1 e2 e3;refine⟨by simpa using hl,hn,hc,fun hne=>?_⟩
 rcases hh with ⟨he,_⟩|⟨b,off,f,_,ha,hfp,hr⟩
 ·exact absurd (by simpa using he) hne
 ·have key:∀ (xs:List Value) (off:Nat) (f:List Nat),Reps w (xs.map .lit) b off f→f = []∧∀ j u,xs[j]? = some u→w.cell? ⟨b,off+j,none⟩=some u:=by
   intro xs
   induction xs with
   | nil=>intro off f h;exact⟨zcx.1 h,fun j u hu=>by simp at hu⟩
   | cons x xs ih =>
    intro off f h;obtain⟨v,f1,f2,h1,h2,h3,rfl⟩:=zbp.1 h;obtain⟨rfl,rfl⟩:=zc7.1 h2;obtain⟨rfl,h4⟩:=ih (off+1) f2 h3;refine⟨rfl,fun j u hu=>?_⟩
    cases j with
    | zero=>simp at hu;subst hu;exact h1
    | succ j=>rw[show off+(j+1)=off+1+j by omega];exact h4 j u (by simpa using hu)
  obtain⟨rfl,hcs⟩:=key xs off f hr;exact⟨b,off,ha,hfp,⟨hcs,fun i=>h.free b (by rw[hfp];simp) i⟩⟩
theorem RowV.own {w:World} {b off k n c:Nat} {xs:List Value} (h:RowV w b off xs) (hl:xs.length=n*k) (hn:n≤c) (hc:c≤maxLen):∃ fp,Own w (.sl k (xs.map .lit)) (IZ (some ⟨b,off,none⟩) n c) fp∧∀ y ∈ fp,y=b:=by
 by_cases e:xs = []
 ·subst e
  exact⟨[],⟨zb7.2 ⟨_,n,c,rfl,by simpa using hl,hn,hc,Or.inl ⟨rfl,rfl⟩⟩,List.nodup_nil,fun b h=>by simp at h⟩,fun y hy=>by simp at hy⟩
 ·refine⟨[b],⟨zb7.2 ⟨_,n,c,rfl,by simpa using hl,hn,hc,Or.inr ⟨b,off,[],by simpa using e,rfl,rfl,?_⟩⟩,by simp,fun y hy i=>?_⟩,fun y hy=>by simpa using hy⟩
  ·exact Reps.lits xs b off (fun i hi=>h.at_ i hi)
  ·obtain rfl:y=b:=by simpa using hy
   exact h.free i
theorem flat_lits {α:Type} (tr:α→List Tr) (vals:α→List Value) (h:∀ x,tr x=(vals x).map .lit) (l:List α):l.flatMap tr=(l.flatMap vals).map .lit:=by
 induction l with
 | nil=>rfl
 | cons x l ih=>rw[List.flatMap_cons,List.flatMap_cons,List.map_append,ih,h]
theorem flatv_take {α:Type} (g:α→List Value) (k:Nat) (hg:∀ x,(g x).length=k) (l:List α) (i:Nat):(l.take i).flatMap g=(l.flatMap g).take (i*k):=by
 induction l generalizing i with
 | nil=>simp
 | cons x l ih =>
  cases i with
  | zero=>simp
  | succ i =>
   rw[List.take_succ_cons,List.flatMap_cons,List.flatMap_cons,List.take_append,hg,ih,List.take_of_length_le (l:=g x) (by rw[hg,Nat.succ_mul];omega)];rw[show (i+1)*k-k=i*k by rw[Nat.succ_mul];omega]
theorem flatv_drop {α:Type} (g:α→List Value) (k:Nat) (hg:∀ x,(g x).length=k) (l:List α) (i:Nat):(l.drop i).flatMap g=(l.flatMap g).drop (i*k):=by
 have h:(l.flatMap g).take (i*k)++(l.drop i).flatMap g=(l.flatMap g).take (i*k)++(l.flatMap g).drop (i*k):=by
  rw[← flatv_take g k hg,← List.flatMap_append,List.take_append_drop,flatv_take g k hg,List.take_append_drop]
 exact List.append_cancel_left h
end
end Go.Proofs.YtpakghepnahooaaGreatDoor
namespace Go.Proofs.YtpakghepnahooaaGreatDoor
open Go.RowKit
theorem RepV_lits (w:World):(xs:List Value)→RepV w (xs.map .lit) xs []:=by
 intro xs
 induction xs with
 | nil=>rfl
 | cons x xs ih=>exact⟨[],[],zc7.2 ⟨rfl,rfl⟩,ih,rfl⟩
theorem ownsRow_own {w:World} {base E k n lo:Nat} {v:Value} {xs:List Value} (h:w.ownsRow base E k v n xs) (hk:0<k) (hlo:lo≤base):∃ a c fp,v=IZ a n c∧Own w (.sl k (xs.map .lit)) (IZ a n c) fp∧In lo w fp :=
 Grow.toOwn (f:=[]) ⟨⟨xs,h,RepV_lits w xs⟩,List.nodup_nil,fun b h=>by simp at h,fun g _=>by simp⟩ hk In.nil hlo
theorem Rd.readsV {B:Nat} {w:World} {k n c:Nat} {a:Option Addr} {xs:List Value} (h:Rd B w (.sl k (xs.map .lit)) (IZ a n c)) (hk:0<k):Reads w B k a n xs:=by
 obtain⟨a',n',c',hv,hl,_,_,hcells⟩:=h.sl;injection hv with e1 e2 e3;subst e1 e2 e3;have hlen:xs.length=n*k:=by simpa using hl
 refine⟨hlen,fun hn=>?_⟩;have hpos:=Nat.mul_pos hn hk;obtain⟨b,off,ha,hb,hat⟩:=hcells (by intro e;have:=congrArg List.length e;simp at this;rw[this] at hlen;simp at hlen;omega);refine⟨⟨b,off,none⟩,ha,hb,fun j u hu=>?_⟩;obtain⟨hj,hju⟩:=List.getElem?_eq_some_iff.1 hu;obtain⟨u',hc,hr⟩:=hat j (by simpa using hj);rw[add_mk,hc];have:=Rd.lit.1 (show Rd B w (.lit xs[j]) u' by simpa using hr);rw[this,hju]
theorem Reads.head {w:World} {B size n:Nat} {A:Option Addr} {xs:List Value} (h:Reads w B size A n xs) {k:Nat} (hk:k≤n):Reads w B size A k (xs.take (k*size)):=by
 refine⟨by rw[List.length_take,h.1,Nat.min_eq_left (Nat.mul_le_mul_right _ hk)],fun hn=>?_⟩;obtain⟨ad,e,hb,hc⟩:=h.2 II;refine⟨ad,e,hb,fun j u hu=>hc j u ?_⟩;have:=(List.getElem?_eq_some_iff.1 hu).1;rw[List.length_take] at this;rw[List.getElem?_take_of_lt II] at hu;exact hu
section
variable {P:Program}
theorem zen {Y:World} {ops:Array Oper} {rest:List Oper} {o:Oper} {a:Act} {Q:Exit→Act→World→Prop} (hgd:o.guard=none) (s x:Operand) (t:TypeId)
  (ho:o.op=.call { callee:=.builtin .append,args:=#[s,x],argTypes:=#[t,t] })
  (e:TypeId) (i:TypeInfo) (z:Value) (size bytes:Nat) (ht:P.underlying t=some (.slice e)) (hi:P.info? e=some i) (hz:i.zero=some z)
  (hsize:i.size=size) (hby:i.bytes=bytes) (hzs:z.cells.size=size) (hsz:0<size)
  (hs:a.eval s=IZ (some ⟨Y,0,none⟩) 0 0) (B:Nat) (A:Option Addr) (m c:Nat) (news:List Value) (hx:a.eval x=IZ A m c) (hr:Reads Y B size A m news) (hB:B≤Y.heap.size) (h1:∀ u ∈ news,u.oneCell' = true)
  (h63:m≤maxLen) (hbytes:m*bytes≤140737488355328)
  (h:∀ a' c' w',w'.ownsRow Y.heap.size e size (IZ a' m c') m news→OI Y Y w'→Y.heap.size<w'.heap.size→wpList P ops Q rest (a.put o.dst (IZ a' m c')) w'):wpList P ops Q (o::rest) a (Y.alloc (.cells #[] e)):=by
 refine zb1 _ hgd s x t ho Y.heap.size e i z size bytes ht hi hz hsize hby hzs hsz (IZ (some ⟨Y,0,none⟩) 0 0) 0 [] hs (ze6 Y e size) B A m c news hx (hr.alloc hB _) h1 II (by rw[Nat.zero_add];exact hbytes) Q4b ?_;intro v' w' hown hg hat;simp only[Nat.zero_add,List.nil_append] at hown;obtain⟨a',c',rfl,_⟩:=zaw hown;exact h a' c' w' hown (((Below.refl _ _).alloc (Nat.le_refl _) _).grown hg Q4b (fun k hk=>by simp[Value.ownBlock] at hk;omega)) (by have:=hg.size;simp at this;omega)
theorem zcw {w:World} {ops:Array Oper} {rest:List Oper} {o:Oper} {a:Act} {Q:Exit→Act→World→Prop} (hgd:o.guard=none) (s x:Operand) (t:TypeId)
  (ho:o.op=.call { callee:=.builtin .append,args:=#[s,x],argTypes:=#[t,t] })
  (base:Nat) (e:TypeId) (i:TypeInfo) (z:Value) (size bytes:Nat) (ht:P.underlying t=some (.slice e)) (hi:P.info? e=some i) (hz:i.zero=some z)
  (hsize:i.size=size) (hby:i.bytes=bytes) (hzs:z.cells.size=size) (hsz:0<size)
  (v:Value) (n:Nat) (xs:List Value) (hs:a.eval s=v) (hown:w.ownsRow base e size v n xs)
  (B:Nat) (A:Option Addr) (m c:Nat) (news:List Value) (hx:a.eval x=IZ A m c) (hr:Reads w B size A m news) (h1:∀ u ∈ news,u.oneCell' = true)
  (h63:n+m≤maxLen) (hbytes:(n+m)*bytes≤140737488355328) (hbase:base≤w.heap.size)
  (h:∀ a' c' w',w'.ownsRow base e size (IZ a' (n+m) c') (n+m) (xs++news)→OI base w w'→wpList P ops Q rest (a.put o.dst (IZ a' (n+m) c')) w'):wpList P ops Q (o::rest) a w:=by
 refine zb1 _ hgd s x t ho base e i z size bytes ht hi hz hsize hby hzs hsz v n xs hs hown B A m c news hx hr h1 h63 hbytes hbase ?_;intro v' w' hown' hg hat;obtain⟨a',c',rfl,_⟩:=zaw hown';exact h a' c' w' hown' ((Below.refl _ _).grown hg hbase (fun k hk=>(zbf hown hk).1))
end
end Go.Proofs.YtpakghepnahooaaGreatDoor
namespace Go.Proofs.YtpakghepnahooaaGreatDoor
open Go.RowKit
section
variable {w w':World} {B T:Nat} {cs:Array Value}
theorem bkC {v:Value} (h:w.heap[B]? = some (.cells cs T (0,0))) (j:Nat) (hj:cs[j]? = some v):w.cell? ⟨B,j,none⟩=some v:=(za9 h j).trans hj
theorem bkF (h:w.heap[B]? = some (.cells cs T (0,0))) (j:Nat):w.frozen? ⟨B,j,none⟩=false:=zc5 h j
theorem bkS (h:w.heap[B]? = some (.cells cs T (0,0))) (j:Nat) (v:Value):(w.setCell ⟨B,j,none⟩ v).heap[B]? = some (.cells (cs.setIfInBounds j v) T (0,0)):=row_setCell h j v
theorem bkO {o:Option Obj} (h:w.heap[B]? = o) {p:Addr} (hp:B≠p.block) (v:Value):(w.setCell p v).heap[B]? = o:=(Below.heap_setCell w p v B hp).trans h
theorem bkB {o:Option Obj} (h:w.heap[B]? = o) (hb:OI w w w') (hl:B<w.heap.size):w'.heap[B]? = o:=(hb.block B hl).trans h
theorem bkN (w:World) (cs:Array Value) (T:Nat):(w.alloc (.cells cs T)).heap[w.heap.size]? = some (.cells cs T (0,0)):=by show (w.heap.push _)[w.heap.size]? = _;simp
theorem bkA {o:Option Obj} (h:w.heap[B]? = o) (hl:B<w.heap.size) (x:Obj):(w.alloc x).heap[B]? = o:=(Below.heap_alloc w x B hl).trans h
end
theorem zao (w:World) (o:Obj):OI w w (w.alloc o):=(Below.refl _ _).alloc (Nat.le_refl _) _
theorem zbl (w:World):OI w w w.drew:=⟨rfl,rfl,rfl,Nat.le_refl _,fun _ _=>rfl⟩
end Go.Proofs.YtpakghepnahooaaGreatDoor
namespace Go.Proofs.YtpakghepnahooaaGreatDoor
open Go.RowKit
theorem zav (w:World) (c0:Array Value) (t0:Nat):∃ W0,w.alloc (.cells c0 t0)=W0∧OI w w W0∧w.heap.size+1≤W0.heap.size∧W0.heap[w.heap.size]? = some (.cells c0 t0 (0,0)) :=
 ⟨_,rfl,zao _ _,by simp,bkN _ _ _⟩
theorem zdv (w:World) (c0:Array Value) (t0:Nat) (c1:Array Value) (t1:Nat):∃ W0,(w.alloc (.cells c0 t0)).alloc (.cells c1 t1)=W0∧OI w w W0∧w.heap.size+2≤W0.heap.size∧W0.heap[w.heap.size]? = some (.cells c0 t0 (0,0))∧W0.heap[w.heap.size+1]? = some (.cells c1 t1 (0,0)):=by
 refine⟨_,rfl,(zao _ _).alloc Q4b _,by simp,bkA (bkN _ _ _) Q4b _,?_⟩;have h:=bkN (w.alloc (.cells c0 t0)) c1 t1
 rwa [show (w.alloc (.cells c0 t0)).heap.size=w.heap.size+1 by simp] at h
theorem boxes3 (w:World) (c0:Array Value) (t0:Nat) (c1:Array Value) (t1:Nat) (c2:Array Value) (t2:Nat):∃ W0,((w.alloc (.cells c0 t0)).alloc (.cells c1 t1)).alloc (.cells c2 t2)=W0∧OI w w W0∧w.heap.size+3≤W0.heap.size∧W0.heap[w.heap.size]? = some (.cells c0 t0 (0,0))∧W0.heap[w.heap.size+1]? = some (.cells c1 t1 (0,0))∧W0.heap[w.heap.size+2]? = some (.cells c2 t2 (0,0)):=by
 obtain⟨W,e,h1,h2,h3,h4⟩:=zdv w c0 t0 c1 t1;have hs:W.heap.size=w.heap.size+2:=by subst e;simp
 rw[e];refine⟨_,rfl,h1.alloc II _,by simp<;>omega,bkA h3 II _,bkA h4 II _,?_⟩;have h:=bkN W c2 t2
 rwa [hs] at h
theorem bset {B:Nat} {a w:World} {b:Nat} (h:OI B a w) (hb:B≤b) (j:Nat) (v:Value):OI B a (w.setCell ⟨b,j,none⟩ v):=h.setCell (p:=⟨b,j,none⟩) hb v
end Go.Proofs.YtpakghepnahooaaGreatDoor
