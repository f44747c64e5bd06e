/- Contracts: domains of problems, for the program and for the reference. Conditions: bounded lengths. -/
import Derived.Test.YtjfmkmcefnidcaaGreatRowV
import Derived.Test.YtjfmkmcefnidcaaGreatOver
import Derived.StillTail
import Derived.Test.YtjfmkmcefnidcaaGreatSl
namespace Go.Proofs.YtjfmkmcefnidcaaGreat
open Go.RowKit
set_option linter.unusedVariables false
theorem RepV_lits (w:World):(xs:List Value)→RepV w (xs.map .lit) xs []:=by
 intro xs
 induction xs with
 | nil=>rfl
 | cons x xs ih=>exact⟨[],[],Rep_lit.2 ⟨rfl,rfl⟩,ih,rfl⟩
theorem ownsRow_own {w:World} {base E k n lo:Nat} {v:Value} {xs:List Value} (h:w.ownsRow base E k v n xs) (hk:0<k) (hlo:lo≤base):∃ a c fp,v=.slice a n c∧Own w (.sl k (xs.map .lit)) (.slice a n c) fp∧In lo w.heap.size fp :=
 Grow.toOwn (f:=[]) ⟨⟨xs,h,RepV_lits w xs⟩,List.nodup_nil,fun b h=>by simp at h,fun g _=>by simp⟩ hk In.nil hlo
theorem Rd.readsV {B:Nat} {w:World} {k n c:Nat} {a:Option Addr} {xs:List Value} (h:Rd B w (.sl k (xs.map .lit)) (.slice a n c)) (hk:0<k):Reads w B k a n xs:=by
 obtain⟨a',n',c',hv,hl,_,_,hcells⟩:=h.sl
 injection hv with e1 e2 e3
 subst e1 e2 e3
 have hlen:xs.length=n*k:=by simpa using hl
 refine⟨hlen,fun hn=>?_⟩
 have hpos:=Nat.mul_pos hn hk
 obtain⟨b,off,ha,hb,hat⟩:=hcells (by intro e;have:=congrArg List.length e;simp at this;rw[this] at hlen;simp at hlen;omega)
 refine⟨⟨b,off,none⟩,ha,hb,fun j u hu=>?_⟩
 obtain⟨hj,hju⟩:=List.getElem?_eq_some_iff.1 hu
 obtain⟨u',hc,hr⟩:=hat j (by simpa using hj)
 rw[add_mk,hc]
 have:=Rd.lit.1 (show Rd B w (.lit xs[j]) u' by simpa using hr)
 rw[this,hju]
theorem Reads.head {w:World} {B size n:Nat} {A:Option Addr} {xs:List Value} (h:Reads w B size A n xs) {k:Nat} (hk:k≤n):Reads w B size A k (xs.take (k*size)):=by
 refine⟨by rw[List.length_take,h.1,Nat.min_eq_left (Nat.mul_le_mul_right _ hk)],fun hn=>?_⟩
 obtain⟨ad,e,hb,hc⟩:=h.2 (by omega)
 refine⟨ad,e,hb,fun j u hu=>hc j u ?_⟩
 have:=(List.getElem?_eq_some_iff.1 hu).1
 rw[List.length_take] at this
 rw[List.getElem?_take_of_lt (by omega)] at hu
 exact hu
section
variable {P:Program}
theorem wpList_append_first {Y:World} {ops:Array Oper} {rest:List Oper} {o:Oper} {a:Act} {Q:Exit→Act→World→Prop} (hgd:o.guard=none) (s x:Operand) (t:TypeId)
  (ho:o.op=.call { callee:=.builtin .append,args:=#[s,x],argTypes:=#[t,t] })
  (e:TypeId) (i:TypeInfo) (z:Value) (size bytes:Nat) (ht:P.underlying t=some (.slice e)) (hi:P.info? e=some i) (hz:i.zero=some z)
  (hsize:i.size=size) (hby:i.bytes=bytes) (hzs:z.cells.size=size) (hsz:0<size)
  (hs:a.eval s=.slice (some ⟨Y.heap.size,0,none⟩) 0 0) (B:Nat) (A:Option Addr) (m c:Nat) (news:List Value) (hx:a.eval x=.slice A m c) (hr:Reads Y B size A m news) (hB:B≤Y.heap.size) (h1:∀ u ∈ news,u.oneCell' = true)
  (h63:m≤maxLen) (hbytes:m*bytes≤140737488355328)
  (h:∀ a' c' w',w'.ownsRow Y.heap.size e size (.slice a' m c') m news→Below Y.heap.size Y w'→Y.heap.size<w'.heap.size→wpList P ops Q rest (a.put o.dst (.slice a' m c')) w'):wpList P ops Q (o::rest) a (Y.alloc (.cells #[] e)):=by
 refine wpList_append_any _ hgd s x t ho Y.heap.size e i z size bytes ht hi hz hsize hby hzs hsz (.slice (some ⟨Y.heap.size,0,none⟩) 0 0) 0 [] hs (own_emptyK Y e size) B A m c news hx (hr.alloc hB _) h1 (by omega) (by rw[Nat.zero_add];exact hbytes) (by simp) ?_
 intro v' w' hown hg hat
 simp only[Nat.zero_add,List.nil_append] at hown
 obtain⟨a',c',rfl,_⟩:=ownsRow_slice hown
 exact h a' c' w' hown (((Below.refl _ _).alloc (Nat.le_refl _) _).grown hg (by simp) (fun k hk=>by simp[Value.ownBlock] at hk;omega)) (by have:=hg.size;simp at this;omega)
theorem wpList_append_more {w:World} {ops:Array Oper} {rest:List Oper} {o:Oper} {a:Act} {Q:Exit→Act→World→Prop} (hgd:o.guard=none) (s x:Operand) (t:TypeId)
  (ho:o.op=.call { callee:=.builtin .append,args:=#[s,x],argTypes:=#[t,t] })
  (base:Nat) (e:TypeId) (i:TypeInfo) (z:Value) (size bytes:Nat) (ht:P.underlying t=some (.slice e)) (hi:P.info? e=some i) (hz:i.zero=some z)
  (hsize:i.size=size) (hby:i.bytes=bytes) (hzs:z.cells.size=size) (hsz:0<size)
  (v:Value) (n:Nat) (xs:List Value) (hs:a.eval s=v) (hown:w.ownsRow base e size v n xs)
  (B:Nat) (A:Option Addr) (m c:Nat) (news:List Value) (hx:a.eval x=.slice A m c) (hr:Reads w B size A m news) (h1:∀ u ∈ news,u.oneCell' = true)
  (h63:n+m≤maxLen) (hbytes:(n+m)*bytes≤140737488355328) (hbase:base≤w.heap.size)
  (h:∀ a' c' w',w'.ownsRow base e size (.slice a' (n+m) c') (n+m) (xs++news)→Below base w w'→wpList P ops Q rest (a.put o.dst (.slice a' (n+m) c')) w'):wpList P ops Q (o::rest) a w:=by
 refine wpList_append_any _ hgd s x t ho base e i z size bytes ht hi hz hsize hby hzs hsz v n xs hs hown B A m c news hx hr h1 h63 hbytes hbase ?_
 intro v' w' hown' hg hat
 obtain⟨a',c',rfl,_⟩:=ownsRow_slice hown'
 exact h a' c' w' hown' ((Below.refl _ _).grown hg hbase (fun k hk=>(ownsRow_block hown hk).1))
end
end Go.Proofs.YtjfmkmcefnidcaaGreat
namespace Go.Proofs.YtjfmkmcefnidcaaGreat
open Go.RowKit
set_option linter.unusedVariables false
section
variable {w w':World} {B T:Nat} {cs:Array Value}
theorem bkC {v:Value} (h:w.heap[B]? = some (.cells cs T (0,0))) (j:Nat) (hj:cs[j]? = some v):w.cell? ⟨B,j,none⟩=some v:=(cell_of_row' h j).trans hj
theorem bkF (h:w.heap[B]? = some (.cells cs T (0,0))) (j:Nat):w.frozen? ⟨B,j,none⟩=false:=free_of_row h j
theorem bkS (h:w.heap[B]? = some (.cells cs T (0,0))) (j:Nat) (v:Value):(w.setCell ⟨B,j,none⟩ v).heap[B]? = some (.cells (cs.setIfInBounds j v) T (0,0)):=row_setCell h j v
theorem bkO {o:Option Obj} (h:w.heap[B]? = o) {p:Addr} (hp:B≠p.block) (v:Value):(w.setCell p v).heap[B]? = o:=(Below.heap_setCell w p v B hp).trans h
theorem bkB {o:Option Obj} (h:w.heap[B]? = o) (hb:Below w.heap.size w w') (hl:B<w.heap.size):w'.heap[B]? = o:=(hb.block B hl).trans h
theorem bkN (w:World) (cs:Array Value) (T:Nat):(w.alloc (.cells cs T)).heap[w.heap.size]? = some (.cells cs T (0,0)):=by show (w.heap.push _)[w.heap.size]? = _;simp
theorem bkA {o:Option Obj} (h:w.heap[B]? = o) (hl:B<w.heap.size) (x:Obj):(w.alloc x).heap[B]? = o:=(Below.heap_alloc w x B hl).trans h
end
theorem below_alloc (w:World) (o:Obj):Below w.heap.size w (w.alloc o):=(Below.refl _ _).alloc (Nat.le_refl _) _
theorem below_drew1 (w:World):Below w.heap.size w w.drew:=⟨rfl,rfl,rfl,Nat.le_refl _,fun _ _=>rfl⟩
theorem rowOwnB {w:World} {base E k n lo:Nat} {v:Value} {xs:List Value} (h:w.ownsRow base E k v n xs) (hk:0<k) (hlo:lo≤base):∃ fp,Own w (.sl k (xs.map .lit)) v fp∧In lo w.heap.size fp∧∀ x ∈ fp,v.ownBlock=some x:=by
 obtain⟨fp,h1,h2,h3⟩:=Grow.toOwnB (f:=[]) ⟨⟨xs,h,RepV_lits w xs⟩,List.nodup_nil,fun b h=>by simp at h,fun g _=>by simp⟩ hk In.nil hlo
 exact⟨fp,h1,h2,fun x hx=>by rcases h3 x hx with e|e;exact e;simp at e⟩
theorem flatSplit {α β:Type} (g:α→List β) (l:List α) (k:Nat) (h:k<l.length):l.flatMap g=(l.take k).flatMap g++(g l[k]++(l.drop (k+1)).flatMap g):=by
 conv=>lhs;rw[← List.take_append_drop k l]
 rw[List.flatMap_append,List.drop_eq_getElem_cons h,List.flatMap_cons]
theorem flatSet {α β:Type} (g:α→List β) (l:List α) (k:Nat) (h:k<l.length) (x:α):(l.set k x).flatMap g=(l.take k).flatMap g++(g x++(l.drop (k+1)).flatMap g):=by
 rw[List.set_eq_take_append_cons_drop,if_pos h,List.flatMap_append,List.flatMap_cons]
theorem RdV_vals {B:Nat} {w:World} : (vs:List Value)→(xs:List Value)→RdV B w (vs.map .lit) xs→xs=vs:=by
 intro vs
 induction vs with
 | nil=>intro xs h;exact h.unnil
 | cons v vs ih =>
  intro xs h
  obtain⟨u,r,rfl,h1,h2⟩:=h.uncons
  rw[Rd.lit.1 h1,ih r h2]
end Go.Proofs.YtjfmkmcefnidcaaGreat
namespace Go.Proofs.YtjfmkmcefnidcaaGreat
open Go.RowKit
set_option linter.unusedVariables false
section
variable {P:Program} {ops:Array Oper} {md:Region.Mode} {C:World→Prop} {n:Nat}
def headAny (P:Program) (md:Region.Mode) (ops:Array Oper) (C:World→Prop) (n:Nat) (L:Array Bool→Act→Prop):Nat→Array Bool→Act→Prop
 | 0,done,a=>L done a
 | f+1,done,a=>Region.ready md ops done≠[]∧∀ i ∈ Region.ready md ops done,i<n∧qOp P ops C i (headAny P md ops C n L f (done.setIfInBounds i true)) a
theorem headAny_run {g:Nat} {L:Array Bool→Act→Prop} {Q:Exit→Act→World→Prop} (hL:∀ done a w,C w→L done a→wpAny P md ops Q g done a w) (f:Nat) :
  ∀ (done:Array Bool) (a:Act) (w:World),C w→headAny P md ops C n L f done a→wpAny P md ops Q (f+g) done a w:=by
 induction f with
 | zero=>intro done a w hw h;rw[Nat.zero_add];exact hL done a w hw h
 | succ f ih =>
  intro done a w hw h
  rw[Nat.succ_add]
  refine⟨fun e=>absurd e h.1,fun i hi=>?_⟩
  exact wpOp_of_qOp hw (fun a' w' hw' h'=>ih _ a' w' hw' h') (h.2 i hi).2
theorem headAny_first {i:Nat} {oi:Oper} {v:Value} {L:Array Bool→Act→Prop} (hi:ops[i]? = some oi) (hsel:∀ (j:Nat) (o:Oper) cs b,ops[j]? = some o→o.op≠.select cs b)
  (hs:Region.sinkB md ops n=true) (hc:Region.chainB md ops n=true) (hn:n<ops.size) (hin:i<n) (hdone:∀ done a,L done a→∀ j ∈ Region.ready md ops done,n≤j) (f:Nat) :
  ∀ (done:Array Bool) (a:Act),HeadInv md ops n done →
   (∀ j oj,ops[j]? = some oj→j≠i→done.getD j true=false→(∀ e ∈ oj.after,Region.binds md e=true→e.on≠i)→oi.apart ops oj=true) →
   i ∈ Region.ready md ops done→YieldsIn P ops C oi v a→headAny P md ops C n L f (done.setIfInBounds i true) (a.put oi.dst v)→headAny P md ops C n L (f+1) done a:=by
 induction f with
 | zero =>
  intro done a inv _ hr hy H
  refine⟨List.ne_nil_of_mem hr,fun j hj=>?_⟩
  have hjn:j<n:=Nat.lt_of_not_le fun h=>tail_waits hs hc hn inv _ i rfl hin (mem_ready.1 hr).1 j h hj
  refine⟨hjn,?_⟩
  by_cases e:j=i
  ·cases e;exact hy.qOp hi H
  ·exact absurd (hdone _ _ H j (ready_mono hj e)) (by omega)
 | succ f ih =>
  intro done a inv hfree hr hy H
  refine⟨List.ne_nil_of_mem hr,fun j hj=>?_⟩
  have hun:=(mem_ready.1 hr).1
  have hjn:j<n:=Nat.lt_of_not_le fun h=>tail_waits hs hc hn inv _ i rfl hin hun j h hj
  refine⟨hjn,?_⟩
  by_cases e:j=i
  ·cases e;exact hy.qOp hi H
  ·obtain⟨hjun,oj,hoj,hall⟩:=mem_ready.1 hj
   have hno:∀ e ∈ oj.after,Region.binds md e=true→e.on≠i:=fun e he hb heq=>by
    have h1:=hall e he hb
    rw[heq,getD_both hun] at h1
    cases h1
   have hput:=qOp_put hoj (hfree j oj hoj e hjun hno) (fun cs b=>hsel i oi cs b hi) (fun cs b=>hsel j oj cs b hoj) hy (H.2 j (ready_mono hj e)).2
   refine qOp_mono (fun a' h3=>ih (done.setIfInBounds j true) a' (inv.set hj hjn) (fun k ok hk hki hku hkn=>?_) (ready_mono hr (Ne.symm e)) h3.1 ?_) hput
   ·refine hfree k ok hk hki ?_ hkn
    by_cases ejk:j=k
    ·cases ejk;exact hjun
    ·rwa [getD_set_ne true ejk] at hku
   ·rw[Array.setIfInBounds_comm _ _ e];exact h3.2
theorem headAny_lex {g:Nat} {q:Act→Prop} (hsel:Region.noSelect ops=true) (hs:Region.sinkB md ops n=true) (hc:Region.chainB md ops n=true) (hn:n<ops.size) (l:List Oper) :
  ∀ (k:Nat) (done:Array Bool) (a:Act),(∀ j,j<l.length→l[j]? = ops[k+j]?)→k+l.length=n→HeadInv md ops n done→Region.lexHead md ops g l.length k done=true→wpQuiet P ops C q l a →
   headAny P md ops C n (fun done' a'=>Region.seqB md ops g n done' = true∧q a') l.length done a:=by
 induction l with
 | nil =>
  intro k done a _ hk _ hB h
  obtain rfl:k=n:=by simpa using hk
  exact⟨by simpa [Region.lexHead] using hB,h⟩
 | cons o l ih =>
  intro k done a hl hk inv hB h
  have h0:ops[k]? = some o:=by simpa using (hl 0 (by simp)).symm
  simp only[List.length_cons,Region.lexHead,Bool.and_eq_true] at hB hk
  have hr:k ∈ Region.ready md ops done:=by simpa using hB.1.1
  have hq:qOp P ops C k (wpQuiet P ops C q l) a:=by unfold qOp;simp only[h0];exact h
  obtain⟨v,hy,hK⟩:=yieldsIn_of_qOp h0 hq
  refine headAny_first h0 (Region.noSelect_spec hsel) hs hc hn (by omega) (fun d a' hL=>seqB_ready hL.1) l.length done a inv (Region.free_spec h0 hB.1.2) hr hy ?_
  refine ih (k+1) _ _ (fun j hj=>?_) (by omega) (inv.set hr (by omega)) hB.2 hK
  have:=hl (j+1) (by simp;omega)
  simpa [Nat.add_assoc,Nat.add_comm 1 j] using this
end
theorem wp_region_over_tail {P:Program} {id:Nat} {Q:Exit→Act→World→Prop} {a:Act} {w:World} {l:List Oper} (n B:Nat) (w0:World) (hb:Below B w0 w) (hm:P.follows .mixedOrders=true) (hB:Region.lexTailB .any l.toArray n=true)
  (h:wpQuiet P l.toArray (fun W=>∃ X,W=over B w0 X) (fun a'=>∀ X,wpList P l.toArray Q (l.drop n) a' (over B w0 X)) (l.take n) a):(Code.region id l.toArray true).wp P Q a w:=by
 simp only[Region.lexTailB,Bool.and_eq_true,decide_eq_true_eq] at hB
 obtain⟨⟨⟨⟨hsel,hn⟩,hs⟩,hc⟩,hlex⟩:=hB
 have hn2:n≤l.length:=Nat.le_of_lt (by simpa using hn)
 have htl:(l.take n).length=n:=by rw[List.length_take];omega
 have hdl:(l.drop n).length=l.toArray.size-n:=by simp
 have inv:HeadInv .any l.toArray n (Array.replicate l.toArray.size false) :=
  ⟨by simp,(fun j oj _ hj=>by rw[getD_replicate_false] at hj;cases hj),fun t _ ht=>getD_in (by simpa using ht) (getD_replicate_false _ _)⟩
 have H:=headAny_lex (md:=.any) (g:=l.toArray.size-n) (C:=fun W=>∃ X,W=over B w0 X) hsel hs hc hn (l.take n) 0 _ a (fun j hj=>by
  rw[htl] at hj
  simp[hj]) (by rw[htl];omega) inv (by rw[htl];exact hlex) h
 refine wp_region_any hm ?_
 have R:=headAny_run (Q:=Q) (g:=l.toArray.size-n) (fun done a' w' hw hL=>by
  obtain⟨X,rfl⟩:=hw
  have:=wpAny_of_seq (md:=.any) (Q':=Q) (l.drop n) n done a' (over B w0 X) (fun j=>by simp[List.getElem?_drop]) (by rw[hdl];exact hL.1) (hL.2 X)
  rwa [hdl] at this) _ _ _ w.drew ⟨w.drew,(over_self hb.drew).symm⟩ H
 rw[htl,show n+(l.toArray.size-n)=l.toArray.size by simp;omega] at R
 exact R
end Go.Proofs.YtjfmkmcefnidcaaGreat
namespace Go.Proofs.YtjfmkmcefnidcaaGreat
open Go.RowKit
set_option linter.unusedVariables false
def gi (l:List Int) (i:Nat):Int:=l.getD i 0
def incB:List Int→Bool
 | []=>true
 | [_]=>true
 | a::b::r=>decide (a<b)&&incB (b::r)
theorem incB_iff:(l:List Int)→(incB l=true↔∀ i,i+1<l.length→gi l i<gi l (i+1)):=by
 intro l
 unfold gi
 induction l with
 | nil=>simp[incB]
 | cons a l ih =>
  cases l with
  | nil=>simp[incB]
  | cons b r =>
   rw[incB,Bool.and_eq_true,decide_eq_true_iff,ih]
   constructor
   ·rintro⟨h1,h2⟩ i hi
    cases i with
    | zero=>simpa using h1
    | succ i=>have:=h2 i (by simp at hi ⊢;omega);simpa using this
   ·intro h
    refine⟨by simpa using h 0 (by simp),fun i hi=>?_⟩
    have:=h (i+1) (by simp at hi ⊢;omega)
    simpa using this
theorem gi_eq {l:List Int} {i:Nat} (h:i<l.length):l[i]=gi l i:=by simp[gi,h]
theorem quiet_left {P:Program} {f:FuncId} {args:Array Value} {w:World} {n:Nat} {v:Value}
  (h:Calls P f args (w.drewN n) fun e w'=>e=.returned v∧w.drewN n=w'):Calls P f args (w.drewN n) fun e w''=>e=.returned v∧∃ m,w'' = w.drewN m :=
 h.mono fun _ _ ⟨he,hm⟩=>⟨he,n,hm.symm⟩
def risesB (l:List Int) (lo hi:Int):Bool:=incB l&&l.all fun n=>inB n lo hi
theorem all_iff (l:List Int) (lo hi:Int):(l.all fun n=>inB n lo hi)=true↔∀ i,i<l.length→inB (gi l i) lo hi=true:=by
 rw[List.all_eq_true]
 constructor
 ·intro h i hi
  have:=h l[i] (List.getElem_mem hi)
  rwa [gi_eq] at this
 ·intro h x hx
  obtain⟨i,hi,rfl⟩:=List.getElem_of_mem hx
  have:=h i hi
  rwa [← gi_eq hi] at this
end Go.Proofs.YtjfmkmcefnidcaaGreat
