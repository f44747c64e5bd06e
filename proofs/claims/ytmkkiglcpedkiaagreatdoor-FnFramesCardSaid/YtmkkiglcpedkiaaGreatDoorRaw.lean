/- Rows whose cells are copied as they are, and rows whose elements are replaced one by one by copies of their own. Plain lemmas; no program. -/
import Derived.Test.YtmkkiglcpedkiaaGreatDoorApp
set_option linter.unusedVariables false
set_option linter.unusedSimpArgs false
namespace Go.Proofs.YtmkkiglcpedkiaaGreatDoor
open Go.RowKit
theorem bat {B:Nat} {w w':World} (hb:Below B w w') (b o:Nat) (h:b<B):w'.cell? ⟨b,o,none⟩=w.cell? ⟨b,o,none⟩:=hb.cell (p:=⟨b,o,none⟩) h
theorem baf {B:Nat} {w w':World} (hb:Below B w w') (b o:Nat) (h:b<B):w'.frozen? ⟨b,o,none⟩=w.frozen? ⟨b,o,none⟩:=hb.frozen (p:=⟨b,o,none⟩) h
theorem Reads.fresh (w:World) (E size:Nat) (vs:List Value) (hl:vs.length=size):Reads (w.alloc (.cells vs.toArray E)) (w.heap.size+1) size (some ⟨w.heap.size,0,none⟩) 1 vs:=by
 refine⟨by omega,fun _=>⟨⟨w.heap.size,0,none⟩,rfl,by show w.heap.size<w.heap.size+1;omega,fun j u hu=>?_⟩⟩;have e:(⟨w.heap.size,0,none⟩:Addr).add j=⟨w.heap.size,j,none⟩:=by
  unfold Addr.add
  split
  ·rename_i h;subst h;rfl
  ·simp
 rw[e];have hh:(w.alloc (.cells vs.toArray E)).heap[w.heap.size]? = some (.cells vs.toArray E (0,0)):=by show (w.heap.push _)[w.heap.size]? = _;simp
 rw[cell_of_row' hh]
 simpa using hu
structure Grown (w w':World) (base E size:Nat) (v v':Value) (n:Nat) (ts:List Tr) (f:List Nat):Prop where
 grow:Grow w' base E size v' n ts f
 below:Below base w w'
 size:w.heap.size<w'.heap.size
 keep:∀ b,b<w.heap.size→v.ownBlock≠some b→w'.heap[b]? = w.heap[b]?
 row:v'.ownBlock=v.ownBlock∨∃ b,v'.ownBlock=some b∧w.heap.size≤b
theorem wpList_append1 {P:Program} {ops:Array Oper} {rest:List Oper} {o:Oper} {a:Act} {Q:Exit→Act→World→Prop} {w:World} (hgd:o.guard=none) (s x:Operand) (t:TypeId)
  (ho:o.op=.call { callee:=.builtin .append,args:=#[s,x],argTypes:=#[t,t] })
  (base:Nat) (e:TypeId) (i:TypeInfo) (z:Value) (size bytes:Nat) (ht:P.underlying t=some (.slice e)) (hi:P.info? e=some i) (hz:i.zero=some z)
  (hsize:i.size=size) (hby:i.bytes=bytes) (hzs:z.cells.size=size) (hsz:0<size)
  (v:Value) (n:Nat) (ts:List Tr) (f:List Nat) (hs:a.eval s=v) (G:Grow w base e size v n ts f)
  (vs:List Value) (us:List Tr) (g:List Nat) (hl:vs.length=size) (c:Nat) (hx:a.eval x=.slice (some ⟨w.heap.size,0,none⟩) 1 c) (h1:∀ u ∈ vs,u.oneCell' = true)
  (hv:RepV w us vs g) (hg:g.Nodup) (hgo:Free w g) (lo:Nat) (hin:In lo w.heap.size f) (hgin:In lo w.heap.size g) (hgf:∀ x ∈ g,x ∉ f) (hgv:∀ b,v.ownBlock=some b→b ∉ g)
  (h63:n+1≤maxLen) (hbytes:(n+1)*bytes≤140737488355328) (hbase:base≤w.heap.size)
  (h:∀ v' w',Grown w w' base e size v v' (n+1) (ts++us) (f++g)→wpList P ops Q rest (a.put o.dst v') w'):wpList P ops Q (o::rest) a (w.alloc (.cells vs.toArray e)):=by
 obtain⟨xs,hxo,hxr⟩:=G.own;have hb2:Below w.heap.size w (w.alloc (.cells vs.toArray e)):=(Below.refl _ _).alloc (Nat.le_refl _) _;have HX2:=ownsRow_frame hxo (w':=w.alloc (.cells vs.toArray e)) (fun g hg=>hb2.block g (G.block hg).2);have G2:=G.below hin hb2;have hv2:=hv.frame (w':=w.alloc (.cells vs.toArray e)) (fun b hb=>hb2.block b (hgin b hb).2);refine wpList_append_any _ hgd s x t ho base e i z size bytes ht hi hz hsize hby hzs hsz v n xs hs HX2 (w.heap.size+1) (some ⟨w.heap.size,0,none⟩) 1 c vs hx (Reads.fresh w e size vs hl) h1 h63 hbytes (by simp<;>omega) ?_;intro v' w' hown hgr hat
 refine h v' w' ⟨G2.step HX2 hv2 (hin.mono (Nat.le_refl _) (by simp)) (hgin.mono (Nat.le_refl _) (by simp)) hg hgf (fun b hb i=>by
  rw[World.frozen?_of_block (w:=w) (hb2.block b (hgin b hb).2)];exact hgo b hb i) hgv hown hgr hat,?_,?_,?_,?_⟩
 ·exact ((Below.refl _ _).alloc hbase _).grown hgr (by simp<;>omega) (fun b hb=>(G.block hb).1)
 ·have:=hgr.size;simp at this;omega
 ·intro b hb hne
  rw[hgr.block b (by simp<;>omega) (fun e=>hne e.symm)];exact hb2.block b hb
 ·rcases hat with e|e
  ·exact Or.inl e
  ·exact Or.inr ⟨_,e,by simp⟩
end Go.Proofs.YtmkkiglcpedkiaaGreatDoor
namespace Go.Proofs.YtmkkiglcpedkiaaGreatDoor
open Go.RowKit
theorem add_mk (b off j:Nat):(⟨b,off,none⟩:Addr).add j=⟨b,off+j,none⟩:=by
 unfold Addr.add
 split
 ·rename_i h;subst h;rfl
 ·rfl
def oneT:Tr→Prop
 | .lit v=>v.oneCell' = true
 | .sl _ _=>True
theorem Reps.raw {B:Nat} {w:World} {b:Nat} : (es:List Tr)→(off:Nat)→(fp:List Nat)→Reps w es b off fp→(∀ x ∈ fp,x<B)→(∀ t ∈ es,oneT t) →
  ∃ xs,RdV B w es xs∧xs.length=es.length∧(∀ j u,xs[j]? = some u→w.cell? ⟨b,off+j,none⟩=some u)∧∀ u ∈ xs,u.oneCell' = true:=by
 intro es
 induction es with
 | nil=>intro off fp _ _ _;exact⟨[],trivial,rfl,fun j u h=>by simp at h,fun u h=>by simp at h⟩
 | cons t es ih =>
  intro off fp h hf h1;obtain⟨v,f,g,hc,hr,hrs,rfl⟩:=Reps_cons.1 h;obtain⟨xs,hx,hl,hcs,ho⟩:=ih (off+1) g hrs (fun x hx=>hf x (by simp[hx])) (fun t ht=>h1 t (by simp[ht]));refine⟨v::xs,⟨⟨f,hr,fun x hx=>hf x (by simp[hx])⟩,hx⟩,by simp[hl],fun j u hu=>?_,fun u hu=>?_⟩
  ·cases j with
   | zero=>simp at hu;subst hu;exact hc
   | succ j=>rw[show off+(j+1)=off+1+j by omega];exact hcs j u (by simpa using hu)
  ·rcases List.mem_cons.1 hu with rfl|hu
   ·have h0:=h1 t (by simp)
    cases t with
    | lit x=>obtain⟨rfl,_⟩:=Rep_lit.1 hr;exact h0
    | sl k es=>obtain⟨a,n,c,rfl,_⟩:=Rep_sl.1 hr;rfl
   ·exact ho u hu
theorem Rd.raw {B:Nat} {w:World} {k:Nat} {es:List Tr} {v:Value} (h:Rd B w (.sl k es) v) (hk:0<k) (h1:∀ t ∈ es,oneT t) :
  ∃ a n c xs,v=.slice a n c∧es.length=n*k∧n≤c∧c≤maxLen∧Reads w B k a n xs∧RdV B w es xs∧∀ u ∈ xs,u.oneCell' = true:=by
 obtain⟨fp,h,hf⟩:=h;obtain⟨a,n,c,rfl,hl,hnc,hcm,h⟩:=Rep_sl.1 h
 rcases h with ⟨rfl,_⟩|⟨b,off,f,hne,rfl,rfl,hr⟩
 ·have hn:n=0:=by
   rcases Nat.eq_zero_or_pos n with h|h
   ·exact h
   ·have:=Nat.mul_pos h hk;simp at hl;omega
  subst hn;exact⟨a,0,c,[],rfl,hl,hnc,hcm,Reads.none_,trivial,fun u h=>by simp at h⟩
 ·obtain⟨xs,hx,hxl,hcs,ho⟩:=hr.raw es off f (fun x hx=>hf x (by simp[hx])) h1
  refine⟨_,n,c,xs,rfl,hl,hnc,hcm,⟨by rw[hxl,hl],fun _=>⟨⟨b,off,none⟩,rfl,hf b (by simp),fun j u hu=>?_⟩⟩,hx,ho⟩;rw[add_mk];exact hcs j u hu
theorem RdV.at_ {B:Nat} {w:World} : {es:List Tr}→{xs:List Value}→RdV B w es xs→(i:Nat)→(t:Tr)→es[i]? = some t→∃ u,xs[i]? = some u∧Rd B w t u:=by
 intro es
 induction es with
 | nil=>intro xs _ i t h;simp at h
 | cons t es ih =>
  intro xs h i t' ht;obtain⟨v,r,rfl,h1,h2⟩:=h.uncons
  cases i with
  | zero=>simp at ht;subst ht;exact⟨v,rfl,h1⟩
  | succ i=>obtain⟨u,hu,hr⟩:=ih h2 i t' (by simpa using ht);exact⟨u,by simpa using hu,hr⟩
theorem RdV.len {B:Nat} {w:World} : {es:List Tr}→{xs:List Value}→RdV B w es xs→xs.length=es.length:=by
 intro es
 induction es with
 | nil=>intro xs h;obtain rfl:=h.unnil;rfl
 | cons t es ih =>
  intro xs h;obtain⟨v,r,rfl,h1,h2⟩:=h.uncons;simp[ih h2]
theorem own_emptyK (w:World) (E k:Nat):(w.alloc (.cells #[] E)).ownsRow w.heap.size E k (.slice (some ⟨w.heap.size,0,none⟩) 0 0) 0 [] :=
 ⟨by simp,Or.inr ⟨w.heap.size,0,#[],rfl,Nat.le_refl _,by show (w.heap.push _)[w.heap.size]? = _;simp,Nat.le_refl _,by unfold maxLen;omega,by simp,by simp⟩⟩
theorem ownsRow_slice {w:World} {base E k n:Nat} {v:Value} {xs:List Value} (h:w.ownsRow base E k v n xs):∃ a c,v=.slice a n c∧n≤c:=by
 rcases h.2 with ⟨rfl,rfl⟩|⟨g,cap,cur,rfl,_,_,hn,_⟩
 ·exact⟨none,0,rfl,Nat.le_refl _⟩
 ·exact⟨_,cap,rfl,hn⟩
structure Half (w:World) (base E k:Nat) (v:Value) (n:Nat) (ts:List Tr) (xs:List Value) (f:List Nat):Prop where
 own:∃ ys,w.ownsRow base E k v n ys∧RepV w ts (ys.take ts.length) f∧ys.drop ts.length=xs.drop ts.length
 nd:f.Nodup
 free:Free w f
 far:∀ g,v.ownBlock=some g→g ∉ f
section
variable {w w':World} {base E k n:Nat} {v:Value} {ts us:List Tr} {xs vs:List Value} {f g:List Nat}
theorem Half.start (h:w.ownsRow base E k v n xs):Half w base E k v n [] xs []:=⟨⟨xs,h,rfl,rfl⟩,List.nodup_nil,fun b h=>by simp at h,fun g _=>by simp⟩
theorem Half.frame (h:Half w base E k v n ts xs f) (hv:∀ g,v.ownBlock=some g→w'.heap[g]? = w.heap[g]?) (hf:∀ b ∈ f,w'.heap[b]? = w.heap[b]?):Half w' base E k v n ts xs f:=by
 obtain⟨ys,ho,hr,hd⟩:=h.own;exact⟨⟨ys,ownsRow_frame ho hv,hr.frame hf,hd⟩,h.nd,h.free.frame hf,h.far⟩
theorem ownsRow_block (h:w.ownsRow base E k v n xs) {b:Nat} (hb:v.ownBlock=some b):base≤b∧b<w.heap.size:=by
 rcases h.2 with ⟨rfl,_⟩|⟨g',cap,cur,rfl,hg,hh,_⟩
 ·simp[Value.ownBlock] at hb
 ·have:g' = b:=by simpa [Value.ownBlock] using hb
  subst this;refine⟨hg,?_⟩
  rcases Nat.lt_or_ge g' w.heap.size with hlt|hge
  ·exact hlt
  ·rw[Array.getElem?_eq_none hge] at hh;cases hh
theorem Half.block (h:Half w base E k v n ts xs f) {b:Nat} (hb:v.ownBlock=some b):base≤b∧b<w.heap.size:=by
 obtain⟨ys,ho,_,_⟩:=h.own;exact ownsRow_block ho hb
theorem Half.form (h:Half w base E k v n ts xs f) (hn:0<n):∃ b cap,v=.slice (some ⟨b,0,none⟩) n cap∧base≤b∧b<w.heap.size:=by
 obtain⟨ys,ho,_,_⟩:=h.own
 rcases ho.2 with ⟨_,e⟩|⟨g',cap,cur,e,hg,hh,_⟩
 ·omega
 ·refine⟨g',cap,e,hg,?_⟩
  rcases Nat.lt_or_ge g' w.heap.size with hlt|hge
  ·exact hlt
  ·rw[Array.getElem?_eq_none hge] at hh;cases hh
theorem Half.chg {fp:List Nat} (h:Half w base E k v n ts xs f) {lo:Nat} (hin:In lo w.heap.size f) (hc:Chg fp w w') (hv:∀ b,v.ownBlock=some b→b ∉ fp) (hf:∀ b ∈ f,b ∉ fp):Half w' base E k v n ts xs f :=
 h.frame (fun g hg=>hc.block g (h.block hg).2 (hv g hg)) (fun b hb=>hc.block b (hin b hb).2 (hf b hb))
theorem Half.below {lo:Nat} (h:Half w base E k v n ts xs f) (hin:In lo w.heap.size f) (hb:Below w.heap.size w w'):Half w' base E k v n ts xs f :=
 h.frame (fun g hg=>hb.block g (h.block hg).2) (fun b hx=>hb.block b (hin b hx).2)
theorem RepV.takeLen:{ts:List Tr}→{vs:List Value}→{f:List Nat}→RepV w ts vs f→vs.length=ts.length:=fun h=>h.length.symm
theorem Half.done (h:Half w base E k v n ts xs f) (hl:ts.length=n*k):Grow w base E k v n ts f:=by
 obtain⟨ys,ho,hr,hd⟩:=h.own;have:ys.take ts.length=ys:=List.take_of_length_le (by rw[ho.1,hl];exact Nat.le_refl _);rw[this] at hr;exact⟨⟨ys,ho,hr⟩,h.nd,h.free,h.far⟩
theorem Half.cell (h:Half w base E k v n ts xs f) {b cap:Nat} (hv:v=.slice (some ⟨b,0,none⟩) n cap) {j:Nat} (hj:ts.length≤j) {u:Value} (hu:xs[j]? = some u) (hlt:j<n*k):w.cell? ⟨b,j,none⟩=some u:=by
 obtain⟨ys,ho,hr,hd⟩:=h.own
 rcases ho.2 with ⟨e,_⟩|⟨g',cap',cur,e,_,hh,_,_,_,htk⟩
 ·rw[hv] at e;injection e with e;cases e
 ·rw[hv] at e
  injection e with e;injection e with e;injection e with e;subst e;rw[cell_of_row' hh];have:ys[j]? = some u:=by
   have h1:(ys.drop ts.length)[j-ts.length]? = (xs.drop ts.length)[j-ts.length]?:=by rw[hd]
   rw[List.getElem?_drop,List.getElem?_drop,show ts.length+(j-ts.length)=j by omega] at h1;rw[h1,hu]
  rw[← htk,List.getElem?_take_of_lt hlt,Array.getElem?_toList] at this;exact this
theorem Half.open_ (h:Half w base E k v n ts xs f) {b cap:Nat} (hv:v=.slice (some ⟨b,0,none⟩) n cap) (j:Nat):w.frozen? ⟨b,j,none⟩=false:=by
 obtain⟨ys,ho,hr,hd⟩:=h.own
 rcases ho.2 with ⟨e,_⟩|⟨g',cap',cur,e,_,hh,_⟩
 ·rw[hv] at e;injection e with e;cases e
 ·rw[hv] at e
  injection e with e;injection e with e;injection e with e;subst e;exact free_of_row hh j
theorem Half.step (h:Half w base E k v n ts xs f) {b cap:Nat} (hv:v=.slice (some ⟨b,0,none⟩) n cap) (hr:RepV w us vs g) (hl:ts.length+us.length≤n*k)
  (hg:g.Nodup) (hgb:b ∉ g) (hgf:∀ x ∈ g,x ∉ f) (hgo:Free w g):Half (setRow w b ts.length vs) base E k v n (ts++us) xs (f++g):=by
 obtain⟨ys,ho,hrep,hd⟩:=h.own;have hvl:=hr.takeLen;have hne:∀ x ∈ f,(setRow w b ts.length vs).heap[x]? = w.heap[x]?:=fun x hx=>heap_setRow b vs w _ x (fun e=>h.far b (by rw[hv];rfl) (e ▸ hx))
 have hne':∀ x ∈ g,(setRow w b ts.length vs).heap[x]? = w.heap[x]?:=fun x hx=>heap_setRow b vs w _ x (fun e=>hgb (e ▸ hx))
 rcases ho with ⟨hyl,⟨e,_⟩|⟨g',cap',cur,e,hbase,hh,hnc,hcm,hcs,htk⟩⟩
 ·rw[hv] at e;injection e with e;cases e
 rw[hv] at e;injection e with e _ e3;injection e with e;injection e with e;subst e e3;obtain⟨cs',h1,h2,h3,h4,h5⟩:=row_setRow vs w ts.length cur hh;have hck:n*k≤cap*k:=Nat.mul_le_mul_right k hnc;have hget:∀ i,i<n*k→(cs'.toList.take (n*k))[i]? = cs'[i]?:=fun i hi=>by rw[List.getElem?_take_of_lt hi,Array.getElem?_toList]
 have hgy:∀ i,i<n*k→ys[i]? = cur[i]?:=fun i hi=>by rw[← htk,List.getElem?_take_of_lt hi,Array.getElem?_toList]
 have hlen:(cs'.toList.take (n*k)).length=n*k:=by rw[List.length_take,Array.length_toList,h2,hcs];omega
 refine⟨⟨cs'.toList.take (n*k),⟨hlen,Or.inr ⟨b,cap,cs',hv,hbase,h1,hnc,hcm,by rw[h2,hcs],rfl⟩⟩,?_,?_⟩,List.nodup_append.2 ⟨h.nd,hg,fun a ha b hb e=>hgf b hb (e ▸ ha)⟩,?_,?_⟩
 ·have ht:(cs'.toList.take (n*k)).take (ts++us).length=ys.take ts.length++vs:=by
   apply List.ext_getElem?
   intro i;rw[List.length_append]
   by_cases hi:i<ts.length
   ·rw[List.getElem?_take_of_lt (by omega),hget i (by omega),h3 i hi,List.getElem?_append_left (by rw[List.length_take];omega),List.getElem?_take_of_lt hi,hgy i (by omega)]
   ·by_cases hi2:i<ts.length+us.length
    ·rw[List.getElem?_take_of_lt hi2,hget i (by omega),List.getElem?_append_right (by rw[List.length_take];omega),List.length_take,Nat.min_eq_left (by omega)]
     have:=h5 (by omega) (i-ts.length) (by omega);rw[show ts.length+(i-ts.length)=i by omega] at this;exact this
    ·rw[List.getElem?_eq_none (by rw[List.length_take];omega),List.getElem?_eq_none (by rw[List.length_append,List.length_take];omega)]
  rw[ht];have:∀ (W:World) (ts:List Tr) (xs:List Value) (f:List Nat),RepV W us vs g→RepV W ts xs f→RepV W (ts++us) (xs++vs) (f++g):=by
   intro W ts
   induction ts with
   | nil=>intro xs f hu h;cases xs with
    | nil=>rw[show f = [] from h];exact hu
    | cons _ _=>exact h.elim
   | cons t ts ih =>
    intro xs f hu h
    cases xs with
    | nil=>exact h.elim
    | cons x xs =>
     obtain⟨f1,f2,h1,h2,rfl⟩:=h;exact⟨f1,f2++g,h1,ih xs f2 hu h2,by simp⟩
  exact this _ ts _ f (hr.frame hne') (hrep.frame hne)
 ·apply List.ext_getElem?
  intro i;rw[List.getElem?_drop,List.getElem?_drop,List.length_append]
  by_cases hi:ts.length+us.length+i<n*k
  ·rw[hget _ hi,h4 _ (by omega),← hgy _ hi]
   have h1:(ys.drop ts.length)[us.length+i]? = (xs.drop ts.length)[us.length+i]?:=by rw[hd]
   rw[List.getElem?_drop,List.getElem?_drop] at h1;rw[Nat.add_assoc];exact h1
  ·have hyx:(ys.drop ts.length).length=(xs.drop ts.length).length:=by rw[hd]
   rw[List.length_drop,List.length_drop] at hyx;rw[List.getElem?_eq_none (by omega),List.getElem?_eq_none (by omega)]
 ·intro x hx i
  rcases List.mem_append.1 hx with hx|hx
  ·exact h.free.frame hne x hx i
  ·exact hgo.frame hne' x hx i
 ·intro x hx hm
  rw[hv] at hx;have:b=x:=by simpa [Value.ownBlock] using hx
  subst this
  rcases List.mem_append.1 hm with hm|hm
  ·exact h.far b (by rw[hv];rfl) hm
  ·exact hgb hm
theorem Grow.toOwnB {w:World} {base E size n lo:Nat} {v:Value} {ts:List Tr} {f:List Nat} (h:Grow w base E size v n ts f) (hsz:0<size) (hin:In lo w.heap.size f) (hlo:lo≤base) :
  ∃ fp,Own w (.sl size ts) v fp∧In lo w.heap.size fp∧∀ x ∈ fp,v.ownBlock=some x∨x ∈ f:=by
 have hlen:=h.len;obtain⟨xs,⟨hl,ho⟩,hr⟩:=h.own
 rcases ho with ⟨rfl,rfl⟩|⟨g,cap,cur,rfl,hb,hh,hnc,hcm,hcs,htk⟩
 ·have e:ts = []:=List.eq_nil_of_length_eq_zero (by simpa using hlen)
  subst e;exact⟨[],⟨Rep_sl.2 ⟨none,0,0,rfl,by simp,Nat.le_refl _,by unfold maxLen;omega,Or.inl ⟨rfl,rfl⟩⟩,List.nodup_nil,fun b h=>by simp at h⟩,In.nil,fun x hx=>by simp at hx⟩
 ·by_cases e:ts = []
  ·subst e
   exact⟨[],⟨Rep_sl.2 ⟨_,n,cap,rfl,hlen,hnc,hcm,Or.inl ⟨rfl,rfl⟩⟩,List.nodup_nil,fun b h=>by simp at h⟩,In.nil,fun x hx=>by simp at hx⟩
  ·have hgl:=(h.block (g:=g) rfl).2
   refine⟨g::f,⟨Rep_sl.2 ⟨_,n,cap,rfl,hlen,hnc,hcm,Or.inr ⟨g,0,f,e,rfl,rfl,?_⟩⟩,List.nodup_cons.2 ⟨h.far g rfl,h.nd⟩,?_⟩,?_,?_⟩
   ·refine Reps_of_setRow hr (fun j hj=>?_)
    rw[Nat.zero_add,cell_of_row' hh,← htk,List.getElem?_take_of_lt (by omega),Array.getElem?_toList]
   ·intro b hb' i
    rcases List.mem_cons.1 hb' with rfl|hb'
    ·exact free_of_row hh i
    ·exact h.free b hb' i
   ·intro b hb'
    rcases List.mem_cons.1 hb' with rfl|hb'
    ·exact⟨by omega,hgl⟩
    ·exact hin b hb'
   ·intro b hb'
    rcases List.mem_cons.1 hb' with rfl|hb'
    ·exact Or.inl rfl
    ·exact Or.inr hb'
end
end Go.Proofs.YtmkkiglcpedkiaaGreatDoor
