/- The data types of the program as Lean structures, and the trees of cells that they are. -/
import Derived.Test.YtpakghepnahooaaGreatDoorSh
import Derived.Below
import Derived.Deep.Draws
import Derived.Deep.OwnRows
set_option linter.unusedVariables false
set_option linter.unusedSimpArgs false
namespace Go.Proofs.YtpakghepnahooaaGreatDoor
open Go.RowKit
inductive Tr where
 | lit (v:Value)
 | sl (k:Nat) (es:List Tr)
mutual
def Rep (w:World):Tr→Value→List Nat→Prop
 | .lit u,v,fp=>v=u∧fp = []
 | .sl k es,v,fp=>∃ a n c,v=IZ a n c∧es.length=n*k∧n≤c∧c≤maxLen ∧
   ((es = []∧fp = [])∨∃ b off f,es≠[]∧a=some ⟨b,off,none⟩∧fp=b::f∧Reps w es b off f)
def Reps (w:World):List Tr→Nat→Nat→List Nat→Prop
 | [],_,_,fp=>fp = []
 | t::ts,b,off,fp=>∃ v f g,(w,b,off,v)∧Rep w t v f∧Reps w ts b (off+1) g∧fp=f++g
end
theorem zc7 {w:World} {u v:Value} {fp:List Nat} : Rep w (.lit u) v fp↔v=u∧fp = []:=by rw[Rep]
theorem zb7 {w:World} {k:Nat} {es:List Tr} {v:Value} {fp:List Nat} : Rep w (.sl k es) v fp↔∃ a n c,v=IZ a n c∧es.length=n*k∧n≤c∧c≤maxLen ∧
   ((es = []∧fp = [])∨∃ b off f,es≠[]∧a=some ⟨b,off,none⟩∧fp=b::f∧Reps w es b off f):=by rw[Rep]
theorem zcx {w:World} {b off:Nat} {fp:List Nat} : Reps w [] b off fp↔fp = []:=by rw[Reps]
theorem zbp {w:World} {t:Tr} {ts:List Tr} {b off:Nat} {fp:List Nat} : Reps w (t::ts) b off fp↔∃ v f g,(w,b,off,v)∧Rep w t v f∧Reps w ts b (off+1) g∧fp=f++g:=by rw[Reps]
theorem Rep.frame_aux {w w':World} : (t:Tr)→(v:Value)→(fp:List Nat)→Rep w t v fp→(∀ b ∈ fp,w'.heap[b]? = w.heap[b]?)→Rep w' t v fp:=by
 intro t;refine Tr.rec (motive_1:=fun t=>∀ v fp,Rep w t v fp→(∀ b ∈ fp,w'.heap[b]? = w.heap[b]?)→Rep w' t v fp)
  (motive_2:=fun ts=>∀ b off fp,Reps w ts b off fp→(w'.heap[b]? = w.heap[b]?)→(∀ b ∈ fp,w'.heap[b]? = w.heap[b]?)→Reps w' ts b off fp) ?_ ?_ ?_ ?_ t
 ·intro u v fp h _
  rw[zc7] at h ⊢;exact h
 ·intro k es ih v fp h hf
  rw[zb7] at h ⊢;obtain⟨a,n,c,hv,hl,hn,hc,h⟩:=h;refine⟨a,n,c,hv,hl,hn,hc,?_⟩
  rcases h with h|⟨b,off,f,hne,ha,hfp,hr⟩
  ·exact Or.inl h
  ·subst hfp
   exact Or.inr ⟨b,off,f,hne,ha,rfl,ih b off f hr (hf b (by simp)) (fun x hx=>hf x (by simp[hx]))⟩
 ·intro b off fp h _ _
  rw[zcx] at h ⊢;exact h
 ·intro t ts iht ihts b off fp h hb hf
  rw[zbp] at h ⊢;obtain⟨v,f,g,hc,hr,hrs,rfl⟩:=h;exact⟨v,f,g,by rw[World.cell?_of_block (w:=w) hb];exact hc,iht v f hr (fun x hx=>hf x (by simp[hx])),ihts b (off+1) g hrs hb (fun x hx=>hf x (by simp[hx])),rfl⟩
theorem Rep.frame {w w':World} {t:Tr} {v:Value} {fp:List Nat} (h:Rep w t v fp) (hf:∀ b ∈ fp,w'.heap[b]? = w.heap[b]?):Rep w' t v fp:=Rep.frame_aux t v fp h hf
theorem Reps.frame {w w':World} : {ts:List Tr}→{b off:Nat}→{fp:List Nat}→Reps w ts b off fp→w'.heap[b]? = w.heap[b]?→(∀ b ∈ fp,w'.heap[b]? = w.heap[b]?)→Reps w' ts b off fp:=by
 intro ts
 induction ts with
 | nil=>intro b off fp h _ _;rw[zcx] at h ⊢;exact h
 | cons t ts ih =>
  intro b off fp h hb hf;rw[zbp] at h ⊢;obtain⟨v,f,g,hc,hr,hrs,rfl⟩:=h;exact⟨v,f,g,by rw[World.cell?_of_block (w:=w) hb];exact hc,hr.frame (fun x hx=>hf x (by simp[hx])),ih hrs hb (fun x hx=>hf x (by simp[hx])),rfl⟩
theorem Reps.at_ {w:World} : {ts:List Tr}→{b off:Nat}→{fp:List Nat}→Reps w ts b off fp→(i:Nat)→(hi:i<ts.length)→∃ v f,(w,b,off+i,v)∧Rep w ts[i] v f∧∀ x ∈ f,x ∈ fp:=by
 intro ts
 induction ts with
 | nil=>intro b off fp _ i hi;simp at hi
 | cons t ts ih =>
  intro b off fp h i hi;rw[zbp] at h;obtain⟨v,f,g,hc,hr,hrs,rfl⟩:=h
  cases i with
  | zero=>exact⟨v,f,by simpa using hc,by simpa using hr,fun x hx=>by simp[hx]⟩
  | succ i =>
   obtain⟨v',f',h1,h2,h3⟩:=ih hrs i (by simpa using hi);refine⟨v',f',?_,by simpa using h2,fun x hx=>by simp[h3 x hx]⟩;rw[← h1];congr 2;omega
theorem Reps.append {w:World} : {ts us:List Tr}→{b off:Nat}→{f g:List Nat}→Reps w ts b off f→Reps w us b (off+ts.length) g→Reps w (ts++us) b off (f++g):=by
 intro ts
 induction ts with
 | nil=>intro us b off f g h k;rw[zcx] at h;subst h;simpa using k
 | cons t ts ih =>
  intro us b off f g h k;rw[zbp] at h;obtain⟨v,f1,f2,hc,hr,hrs,rfl⟩:=h;rw[List.cons_append,zbp];refine⟨v,f1,f2++g,hc,hr,ih hrs ?_,by simp⟩;have e:off+1+ts.length=off+(t::ts).length:=by simp<;>omega
  rw[e];exact k
theorem Reps.split {w:World} : {ts us:List Tr}→{b off:Nat}→{fp:List Nat}→Reps w (ts++us) b off fp→∃ f g,Reps w ts b off f∧Reps w us b (off+ts.length) g∧fp=f++g:=by
 intro ts
 induction ts with
 | nil=>intro us b off fp h;exact⟨[],fp,by rw[zcx],by simpa using h,rfl⟩
 | cons t ts ih =>
  intro us b off fp h;rw[List.cons_append,zbp] at h;obtain⟨v,f1,f2,hc,hr,hrs,rfl⟩:=h;obtain⟨f,g,h1,h2,rfl⟩:=ih hrs;refine⟨f1++f,g,by rw[zbp];exact⟨v,f1,f,hc,hr,h1,rfl⟩,?_,by simp⟩;have e:off+1+ts.length=off+(t::ts).length:=by simp<;>omega
  rw[← e];exact h2
theorem Reps.lits {w:World} : (vs:List Value)→(b off:Nat)→(∀ (i:Nat) (h:i<vs.length),w.cell? ⟨b,off+i,none⟩=some vs[i])→Reps w (vs.map .lit) b off []:=by
 intro vs
 induction vs with
 | nil=>intro b off _;rw[List.map_nil,zcx]
 | cons v vs ih =>
  intro b off h;rw[List.map_cons,zbp];refine⟨v,[],[],(by have:=h 0 (by simp);simp only[Nat.add_zero,List.getElem_cons_zero] at this;exact this),by rw[zc7];exact⟨rfl,rfl⟩,ih b (off+1) (fun i hi=>?_),rfl⟩;have:=h (i+1) (by simpa using hi);rw[← Nat.add_assoc] at this;rw[Nat.add_right_comm];simpa using this
def Rd (B:Nat) (w:World) (t:Tr) (v:Value):Prop:=∃ fp,Rep w t v fp∧∀ b ∈ fp,b<B
theorem Rd.below {B:Nat} {w w':World} {t:Tr} {v:Value} (h:Rd B w t v) (hb:OI B w w'):Rd B w' t v:=by
 obtain⟨fp,h,hf⟩:=h;exact⟨fp,h.frame (fun b hx=>hb.block b (hf b hx)),hf⟩
theorem Rd.drew {B:Nat} {w:World} {t:Tr} {v:Value} (h:Rd B w t v):Rd B w.drew t v:=h.below ⟨rfl,rfl,rfl,Nat.le_refl _,fun _ _=>rfl⟩
theorem Rd.drewN {B:Nat} {w:World} {t:Tr} {v:Value} (h:Rd B w t v) (n:Nat):Rd B (w.drewN n) t v:=h.below ⟨rfl,rfl,rfl,Nat.le_refl _,fun _ _=>rfl⟩
theorem Rd.mono {B B':Nat} {w:World} {t:Tr} {v:Value} (h:Rd B w t v) (hB:B≤B'):Rd B' w t v:=by
 obtain⟨fp,h,hf⟩:=h;exact⟨fp,h,fun b hx=>Nat.lt_of_lt_of_le (hf b hx) hB⟩
theorem Rd.lit {B:Nat} {w:World} {u v:Value} : Rd B w (.lit u) v↔v=u:=by
 constructor
 ·rintro⟨fp,h,_⟩;rw[zc7] at h;exact h.1
 ·rintro rfl;exact⟨[],by rw[zc7];exact⟨rfl,rfl⟩,fun b h=>by simp at h⟩
theorem Rd.sl {B:Nat} {w:World} {k:Nat} {es:List Tr} {v:Value} (h:Rd B w (.sl k es) v) :
  ∃ a n c,v=IZ a n c∧es.length=n*k∧n≤c∧c≤maxLen∧(es≠[]→∃ b off,a=some ⟨b,off,none⟩∧b<B∧∀ (i:Nat) (hi:i<es.length),∃ u,(w,b,off+i,u)∧Rd B w es[i] u):=by
 obtain⟨fp,h,hf⟩:=h;rw[zb7] at h;obtain⟨a,n,c,hv,hl,hn,hc,h⟩:=h;refine⟨a,n,c,hv,hl,hn,hc,fun hne=>?_⟩
 rcases h with ⟨h,_⟩|⟨b,off,f,_,ha,hfp,hr⟩
 ·exact absurd h hne
 ·subst hfp
  refine⟨b,off,ha,hf b (by simp),fun i hi=>?_⟩;obtain⟨u,f',h1,h2,h3⟩:=hr.at_ i hi;exact⟨u,h1,f',h2,fun x hx=>hf x (by simp[h3 x hx])⟩
theorem flat_get {α:Type} (g:α→List Tr) (k:Nat) (hg:∀ x,(g x).length=k):(l:List α)→(i:Nat)→(hi:i<l.length)→(j:Nat)→(hj:j<k)→(l.flatMap g)[i*k+j]? = (g l[i])[j]?:=by
 intro l
 induction l with
 | nil=>intro i hi;simp at hi
 | cons x l ih =>
  intro i hi j hj;rw[List.flatMap_cons]
  cases i with
  | zero=>rw[List.getElem?_append_left (by rw[hg];omega)];simp
  | succ i =>
   have e:(i+1)*k+j=k+(i*k+j):=by rw[Nat.succ_mul];omega
   rw[List.getElem?_append_right (by rw[hg];omega),hg,e,Nat.add_sub_cancel_left]
   simpa using ih i (by simpa using hi) j hj
theorem zc6 {α:Type} (g:α→List Tr) (k:Nat) (hg:∀ x,(g x).length=k) (l:List α):(l.flatMap g).length=l.length*k:=by
 induction l with
 | nil=>simp
 | cons x l ih=>rw[List.flatMap_cons,List.length_append,ih,hg,List.length_cons,Nat.succ_mul];omega
theorem Rd.slAt {α:Type} {B:Nat} {w:World} {k:Nat} {g:α→List Tr} {l:List α} {v:Value} (hk:0<k) (hg:∀ x,(g x).length=k) (h:Rd B w (.sl k (l.flatMap g)) v) :
  ∃ a c,v=IZ a l.length c∧l.length≤c∧c≤maxLen∧(0<l.length→∃ b off,a=some ⟨b,off,none⟩∧b<B∧∀ (i:Nat) (hi:i<l.length) (j:Nat) (t:Tr),(g l[i])[j]? = some t →
   ∃ u,(w,b,off+i*k+j,u)∧Rd B w t u):=by
 obtain⟨a,n,c,he,hl,hnc,hcm,hcells⟩:=h.sl;rw[zc6 _ k hg] at hl;obtain rfl:l.length=n:=Nat.eq_of_mul_eq_mul_right hk hl;refine⟨a,c,he,hnc,hcm,fun hne=>?_⟩
 obtain⟨b,off,ha,hbl,hat⟩:=hcells (by
  intro e;have:=congrArg List.length e;rw[zc6 _ k hg] at this;have h0:0<l.length*k:=Nat.mul_pos hne hk;simp at this
  omega)
 refine⟨b,off,ha,hbl,fun i hi j t hu=>?_⟩;have hj:j<k:=by
  rw[← hg l[i]];exact (List.getElem?_eq_some_iff.1 hu).1
 have hlt:i*k+j<(l.flatMap g).length:=by
  rw[zc6 _ k hg];have:(i+1)*k≤l.length*k:=Nat.mul_le_mul_right k hi;rw[Nat.succ_mul] at this;omega
 obtain⟨u',hc,hr⟩:=hat (i*k+j) hlt;have e:=flat_get g k hg l i hi j hj;rw[hu,List.getElem?_eq_getElem hlt] at e;injection e with e;rw[e] at hr;exact⟨u',by rw[Nat.add_assoc];exact hc,hr⟩
theorem map_flat {α:Type} (g:α→Tr) (l:List α):l.map g=l.flatMap fun x=>[g x]:=by
 induction l with
 | nil=>rfl
 | cons x l ih=>rw[List.map_cons,List.flatMap_cons,ih];rfl
theorem Rd.slAt1 {α:Type} {B:Nat} {w:World} {g:α→Tr} {l:List α} {v:Value} (h:Rd B w (.sl 1 (l.map g)) v) :
  ∃ a c,v=IZ a l.length c∧l.length≤c∧c≤maxLen∧(0<l.length→∃ b off,a=some ⟨b,off,none⟩∧b<B∧∀ (i:Nat) (hi:i<l.length),
   ∃ u,(w,b,off+i,u)∧Rd B w (g l[i]) u):=by
 rw[map_flat g l] at h;obtain⟨a,c,hv,h1,h2,h3⟩:=h.slAt (k:=1) (g:=fun x=>[g x]) (by decide) (fun _=>rfl);refine⟨a,c,hv,h1,h2,fun hn=>?_⟩;obtain⟨b,off,ha,hb,hat⟩:=h3 hn;refine⟨b,off,ha,hb,fun i hi=>?_⟩;obtain⟨u,hu,hr⟩:=hat i hi 0 _ rfl;exact⟨u,by simpa using hu,hr⟩
def intT (n:Int):Tr:=.lit (J n)
def strT (s:ByteArray):Tr:=.lit (IQ s)
def zam (l:List Int):Tr:=.sl 1 (l.map intT)
def intssT (l:List (List Int)):Tr:=.sl 1 (l.map zam)
theorem Rd.ints {B:Nat} {w:World} {l:List Int} {v:Value} (h:Rd B w (zam l) v) :
  ∃ a c,v=IZ a l.length c∧l.length≤c∧c≤maxLen∧(0<l.length→∃ b off,a=some ⟨b,off,none⟩∧b<B∧∀ (i:Nat) (hi:i<l.length),w.cell? ⟨b,off+i,none⟩=some (J l[i])):=by
 obtain⟨a,c,hv,h1,h2,h3⟩:=Rd.slAt1 h;refine⟨a,c,hv,h1,h2,fun hn=>?_⟩;obtain⟨b,off,ha,hb,hat⟩:=h3 hn;refine⟨b,off,ha,hb,fun i hi=>?_⟩;obtain⟨u,hu,hr⟩:=hat i hi;rw[hu,Rd.lit.1 hr]
def RdV (B:Nat) (w:World):List Tr→List Value→Prop
 | [],[]=>True
 | t::ts,v::vs=>Rd B w t v∧RdV B w ts vs
 | _,_=>False
theorem RdV.uncons {B:Nat} {w:World} {t:Tr} {ts:List Tr} {vs:List Value} (h:RdV B w (t::ts) vs):∃ v r,vs=v::r∧Rd B w t v∧RdV B w ts r:=by
 cases vs with
 | nil=>exact h.elim
 | cons v r=>exact⟨v,r,rfl,h.1,h.2⟩
theorem RdV.unnil {B:Nat} {w:World} {vs:List Value} (h:RdV B w [] vs):vs = []:=by
 cases vs with
 | nil=>rfl
 | cons v r=>exact h.elim
theorem RdV.below {B:Nat} {w w':World} : {ts:List Tr}→{vs:List Value}→RdV B w ts vs→OI B w w'→RdV B w' ts vs:=by
 intro ts
 induction ts with
 | nil=>intro vs h _;cases vs<;>exact h
 | cons t ts ih=>intro vs h hb;cases vs with
  | nil=>exact h
  | cons v vs=>exact⟨h.1.below hb,ih h.2 hb⟩
theorem RdV.mono {B B':Nat} {w:World} : {ts:List Tr}→{vs:List Value}→RdV B w ts vs→B≤B'→RdV B' w ts vs:=by
 intro ts
 induction ts with
 | nil=>intro vs h _;cases vs<;>exact h
 | cons t ts ih=>intro vs h hb;cases vs with
  | nil=>exact h
  | cons v vs=>exact⟨h.1.mono hb,ih h.2 hb⟩
def RepV (w:World):List Tr→List Value→List Nat→Prop
 | [],[],fp=>fp = []
 | t::ts,v::vs,fp=>∃ f g,Rep w t v f∧RepV w ts vs g∧fp=f++g
 | _,_,_=>False
theorem RepV.frame {w w':World} : {ts:List Tr}→{vs:List Value}→{fp:List Nat}→RepV w ts vs fp→(∀ b ∈ fp,w'.heap[b]? = w.heap[b]?)→RepV w' ts vs fp:=by
 intro ts
 induction ts with
 | nil=>intro vs fp h _;cases vs<;>exact h
 | cons t ts ih =>
  intro vs fp h hf
  cases vs with
  | nil=>exact h
  | cons v vs =>
   obtain⟨f,g,h1,h2,rfl⟩:=h;exact⟨f,g,h1.frame (fun b hb=>hf b (by simp[hb])),ih h2 (fun b hb=>hf b (by simp[hb])),rfl⟩
theorem RepV.length {w:World} : {ts:List Tr}→{vs:List Value}→{fp:List Nat}→RepV w ts vs fp→ts.length=vs.length:=by
 intro ts
 induction ts with
 | nil=>intro vs fp h;cases vs with
  | nil=>rfl
  | cons _ _=>exact h.elim
 | cons t ts ih =>
  intro vs fp h
  cases vs with
  | nil=>exact h.elim
  | cons v vs=>obtain⟨f,g,_,h2,_⟩:=h;simp[ih h2]
theorem RepV.lits {w:World} : (vs:List Value)→RepV w (vs.map .lit) vs []:=by
 intro vs
 induction vs with
 | nil=>rfl
 | cons v vs ih=>exact⟨[],[],zc7.2 ⟨rfl,rfl⟩,ih,rfl⟩
def setRow (w:World) (B off:Nat):List Value→World
 | []=>w
 | v::vs=>setRow (w.setCell ⟨B,off,none⟩ v) B (off+1) vs
theorem zfh (B:Nat):(vs:List Value)→(w:World)→(off i:Nat)→i≠B→(setRow w B off vs).heap[i]? = w.heap[i]?:=by
 intro vs
 induction vs with
 | nil=>intro w off i _;rfl
 | cons v vs ih =>
  intro w off i hi;show (setRow (w.setCell ⟨B,off,none⟩ v) B (off+1) vs).heap[i]? = _
  rw[ih _ _ _ hi];exact Below.heap_setCell w ⟨B,off,none⟩ v i hi
theorem row_setCell {w:World} {B E:Nat} {cs:Array Value} {fz:Nat × Nat} (h:w.heap[B]? = some (.cells cs E fz)) (i:Nat) (v:Value):(w.setCell ⟨B,i,none⟩ v).heap[B]? = some (.cells (cs.setIfInBounds i v) E fz):=by
 simp[World.setCell,Array.getElem?_modify,h]
theorem zac (w:World) (a:Addr) (v:Value):(w.setCell a v).heap.size=w.heap.size:=by simp[World.setCell]
theorem row_setRow {B E:Nat} : (vs:List Value)→(w:World)→(off:Nat)→(cs:Array Value)→w.heap[B]? = some (.cells cs E (0,0)) →
  ∃ cs',(setRow w B off vs).heap[B]? = some (.cells cs' E (0,0))∧cs'.size=cs.size∧(∀ i,i<off→cs'[i]? = cs[i]?)∧(∀ i,off+vs.length≤i→cs'[i]? = cs[i]?)∧(off+vs.length≤cs.size→∀ j,j<vs.length→cs'[off+j]? = vs[j]?):=by
 intro vs
 induction vs with
 | nil=>intro w off cs h;exact⟨cs,h,rfl,fun _ _=>rfl,fun _ _=>rfl,fun _ j hj=>by simp at hj⟩
 | cons v vs ih =>
  intro w off cs h;obtain⟨cs',h1,h2,h3,h4,h5⟩:=ih (w.setCell ⟨B,off,none⟩ v) (off+1) _ (row_setCell h off v);refine⟨cs',h1,by rw[h2];simp,fun i hi=>?_,fun i hi=>?_,fun hl j hj=>?_⟩
  ·rw[h3 i II,Array.getElem?_setIfInBounds,if_neg II]
  ·rw[h4 i (by simp at hi;omega),Array.getElem?_setIfInBounds,if_neg (by simp at hi;omega)]
  ·cases j with
   | zero =>
    have hs:off<cs.size:=by simp at hl;omega
    rw[Nat.add_zero,h3 off II,Array.getElem?_setIfInBounds,if_pos rfl];simp[hs]
   | succ j =>
    have:=h5 (by simp at hl ⊢;omega) j (by simpa using hj);rw[show off+(j+1)=off+1+j from by omega,this];simp
theorem za9 {w:World} {B E:Nat} {cs:Array Value} {fz:Nat × Nat} (h:w.heap[B]? = some (.cells cs E fz)) (i:Nat):w.cell? ⟨B,i,none⟩=cs[i]?:=by
 simp[World.cell?,h]
theorem zc5 {w:World} {B E:Nat} {cs:Array Value} (h:w.heap[B]? = some (.cells cs E (0,0))) (i:Nat):w.frozen? ⟨B,i,none⟩=false:=by
 simp[World.frozen?,h]
def Free (w:World) (fp:List Nat):Prop:=∀ b ∈ fp,∀ i,w.frozen? ⟨b,i,none⟩=false
theorem Free.frame {w w':World} {fp:List Nat} (h:Free w fp) (hf:∀ b ∈ fp,w'.heap[b]? = w.heap[b]?):Free w' fp:=fun b hb i=>by
 rw[World.frozen?_of_block (w:=w) (hf b hb)];exact h b hb i
def In (lo hi:Nat) (fp:List Nat):Prop:=∀ b ∈ fp,lo≤b∧b<hi
theorem In.nil {lo hi:Nat} : In lo hi []:=fun b h=>by simp at h
theorem In.append {lo hi:Nat} {f g:List Nat} (h:In lo hi f) (k:In lo hi g):In lo hi (f++g):=fun b hb=>by
 rcases List.mem_append.1 hb with hb|hb
 ·exact h b hb
 ·exact k b hb
theorem In.mono {lo hi lo' hi':Nat} {f:List Nat} (h:In lo hi f) (h1:lo'≤lo) (h2:hi≤hi'):In lo' hi' f:=fun b hb=>⟨Nat.le_trans h1 (h b hb).1,Nat.lt_of_lt_of_le (h b hb).2 h2⟩
structure Own (w:World) (t:Tr) (v:Value) (fp:List Nat):Prop where
 rep:Rep w t v fp
 nd:fp.Nodup
 free:Free w fp
theorem Own.frame {w w':World} {t:Tr} {v:Value} {fp:List Nat} (h:Own w t v fp) (hf:∀ b ∈ fp,w'.heap[b]? = w.heap[b]?):Own w' t v fp:=⟨h.rep.frame hf,h.nd,h.free.frame hf⟩
theorem Own.below {w w':World} {t:Tr} {v:Value} {fp:List Nat} {lo hi B:Nat} (h:Own w t v fp) (hi':In lo hi fp) (hB:hi≤B) (hb:OI B w w'):Own w' t v fp :=
 h.frame fun b hx=>hb.block b (by have:=(hi' b hx).2;omega)
theorem Own.rd {w:World} {t:Tr} {v:Value} {fp:List Nat} {lo hi:Nat} (h:Own w t v fp) (hi':In lo hi fp):Rd hi w t v:=⟨fp,h.rep,fun b hb=>(hi' b hb).2⟩
theorem Own.lit {w:World} {v:Value} : Own w (.lit v) v []:=⟨zc7.2 ⟨rfl,rfl⟩,List.nodup_nil,fun b h=>by simp at h⟩
structure Fill (w:World) (B E m:Nat) (ts:List Tr) (f:List Nat):Prop where
 row:∃ cs,w.heap[B]? = some (.cells cs E (0,0))∧cs.size=m
 reps:Reps w ts B 0 f
 nd:f.Nodup
 nb:B ∉ f
 free:Free w f
theorem Fill.start (w:World) (cs:Array Value) (E:Nat):Fill (w.alloc (.cells cs E)) w.heap.size E cs.size [] [] :=
 ⟨⟨cs,by show (w.heap.push _)[w.heap.size]? = _;simp,rfl⟩,zcx.2 rfl,List.nodup_nil,by simp,fun b h=>by simp at h⟩
theorem Fill.lt {w:World} {B E m:Nat} {ts:List Tr} {f:List Nat} (h:Fill w B E m ts f):B<w.heap.size:=by
 obtain⟨cs,h,_⟩:=h.row
 rcases Nat.lt_or_ge B w.heap.size with hlt|hge
 ·exact hlt
 ·rw[Array.getElem?_eq_none hge] at h;cases h
theorem Fill.room {w:World} {B E m:Nat} {ts:List Tr} {f:List Nat} (h:Fill w B E m ts f) (j:Nat) (hj:j<m):∃ v,w.cell? ⟨B,j,none⟩=some v:=by
 obtain⟨cs,hc,rfl⟩:=h.row;exact⟨cs[j],by rw[za9 hc,Array.getElem?_eq_getElem hj]⟩
theorem Fill.open_ {w:World} {B E m:Nat} {ts:List Tr} {f:List Nat} (h:Fill w B E m ts f) (j:Nat):w.frozen? ⟨B,j,none⟩=false:=by
 obtain⟨cs,h,_⟩:=h.row;exact zc5 h j
theorem Fill.frame {w w':World} {B E m:Nat} {ts:List Tr} {f:List Nat} (h:Fill w B E m ts f) (hB:w'.heap[B]? = w.heap[B]?) (hf:∀ b ∈ f,w'.heap[b]? = w.heap[b]?):Fill w' B E m ts f :=
 ⟨by rw[hB];exact h.row,h.reps.frame hB hf,h.nd,h.nb,h.free.frame hf⟩
theorem Fill.below {w w':World} {B E m lo:Nat} {ts:List Tr} {f:List Nat} (h:Fill w B E m ts f) (hi:In lo w f) (hb:OI w w w'):Fill w' B E m ts f :=
 h.frame (hb.block B h.lt) (fun b hx=>hb.block b (hi b hx).2)
theorem zd4 {w:World} {B:Nat} : {us:List Tr}→{vs:List Value}→{g:List Nat}→{off:Nat}→RepV w us vs g→(∀ j,j<vs.length→w.cell? ⟨B,off+j,none⟩=vs[j]?)→Reps w us B off g:=by
 intro us
 induction us with
 | nil=>intro vs g off h _;cases vs with
  | nil=>exact zcx.2 h
  | cons _ _=>exact h.elim
 | cons t ts ih =>
  intro vs g off h hc
  cases vs with
  | nil=>exact h.elim
  | cons v vs =>
   obtain⟨f,g',h1,h2,rfl⟩:=h;refine zbp.2 ⟨v,f,g',by simpa using hc 0 (by simp),h1,ih h2 (fun j hj=>?_),rfl⟩;have:=hc (j+1) (by simpa using hj);rw[show off+1+j=off+(j+1) from by omega,this];simp
theorem Fill.step {w:World} {B E m:Nat} {ts us:List Tr} {vs:List Value} {f g:List Nat} (h:Fill w B E m ts f) (hv:RepV w us vs g) (hl:ts.length+vs.length≤m)
  (hg:g.Nodup) (hgb:B ∉ g) (hgf:∀ x ∈ g,x ∉ f) (hgo:Free w g):Fill (setRow w B ts.length vs) B E m (ts++us) (f++g):=by
 obtain⟨cs,hcs,hm⟩:=h.row;obtain⟨cs',h1,h2,h3,h4,h5⟩:=row_setRow vs w ts.length cs hcs;have hne:∀ b ∈ f,(setRow w B ts.length vs).heap[b]? = w.heap[b]?:=fun b hb=>zfh B vs w _ b (fun e=>h.nb (e ▸ hb))
 have hne':∀ b ∈ g,(setRow w B ts.length vs).heap[b]? = w.heap[b]?:=fun b hb=>zfh B vs w _ b (fun e=>hgb (e ▸ hb))
 refine⟨⟨cs',h1,by rw[h2];exact hm⟩,?_,?_,by simp[h.nb,hgb],?_⟩
 ·refine Reps.append ?_ ?_
  ·
   have old:∀ (ts':List Tr) (off:Nat) (f':List Nat),Reps w ts' B off f'→off+ts'.length≤ts.length→(∀ x ∈ f',x ∈ f)→Reps (setRow w B ts.length vs) ts' B off f':=by
    intro ts'
    induction ts' with
    | nil=>intro off f' hr _ _;exact zcx.2 (zcx.1 hr)
    | cons t ts' ih =>
     intro off f' hr hle hin;obtain⟨v,fa,fb,hc,hr1,hr2,rfl⟩:=zbp.1 hr;refine zbp.2 ⟨v,fa,fb,?_,hr1.frame (fun b hb=>hne b (hin b (by simp[hb]))),ih (off+1) fb hr2 (by simp at hle;omega) (fun x hx=>hin x (by simp[hx])),rfl⟩;rw[za9 h1,h3 off (by simp at hle;omega),← za9 hcs,hc]
   exact old ts 0 f h.reps II (fun x hx=>hx)
  ·rw[Nat.zero_add]
   refine zd4 (hv.frame hne') (fun j hj=>?_);rw[za9 h1,h5 II j hj]
 ·exact List.nodup_append.2 ⟨h.nd,hg,fun a ha b hb e=>hgf b hb (e ▸ ha)⟩
 ·intro b hb i
  rcases List.mem_append.1 hb with hb|hb
  ·exact h.free.frame hne b hb i
  ·exact hgo.frame hne' b hb i
theorem Fill.own {w:World} {B E n k:Nat} {ts:List Tr} {f:List Nat} (h:Fill w B E (n*k) ts f) (hl:ts.length=n*k) (hn:n≤maxLen):∃ fp,Own w (.sl k ts) (IZ (some ⟨B,0,none⟩) n n) fp∧∀ x ∈ fp,x=B∨x ∈ f:=by
 by_cases e:ts = []
 ·exact⟨[],⟨zb7.2 ⟨_,n,n,rfl,hl,Nat.le_refl _,hn,Or.inl ⟨e,rfl⟩⟩,List.nodup_nil,fun b h=>by simp at h⟩,fun x hx=>by simp at hx⟩
 ·refine⟨B::f,⟨zb7.2 ⟨_,n,n,rfl,hl,Nat.le_refl _,hn,Or.inr ⟨B,0,f,e,rfl,rfl,h.reps⟩⟩,List.nodup_cons.2 ⟨h.nb,h.nd⟩,?_⟩,fun x hx=>by simpa using hx⟩
  intro b hb i
  rcases List.mem_cons.1 hb with rfl|hb
  ·exact h.open_ i
  ·exact h.free b hb i
structure Chg (fp:List Nat) (w w':World):Prop where
 os:w'.os=w.os
 tape:w'.tape=w.tape
 output:w'.output=w.output
 size:w.heap.size≤w'.heap.size
 block:∀ b,b<w.heap.size→b ∉ fp→w'.heap[b]? = w.heap[b]?
theorem Chg.refl (fp:List Nat) (w:World):Chg fp w w:=⟨rfl,rfl,rfl,Nat.le_refl _,fun _ _ _=>rfl⟩
theorem Chg.trans {fp:List Nat} {a b c:World} (h:Chg fp a b) (k:Chg fp b c):Chg fp a c :=
 ⟨k.os.trans h.os,k.tape.trans h.tape,k.output.trans h.output,Nat.le_trans h.size k.size,fun x hx hn=>(k.block x (Nat.lt_of_lt_of_le hx h.size) hn).trans (h.block x hx hn)⟩
theorem Chg.mono {fp fq:List Nat} {a b:World} (h:Chg fp a b) (hs:∀ x ∈ fp,x ∈ fq):Chg fq a b:=⟨h.os,h.tape,h.output,h.size,fun x hx hn=>h.block x hx (fun e=>hn (hs x e))⟩
theorem Chg.of_below {fp:List Nat} {a b:World} (h:OI a a b):Chg fp a b:=⟨h.os,h.tape,h.output,h.size,fun x hx _=>h.block x hx⟩
theorem Chg.setCell {fp:List Nat} {a w:World} (h:Chg fp a w) {p:Addr} (hp:p.block ∈ fp) (u:Value):Chg fp a (w.setCell p u) :=
 ⟨h.os,h.tape,h.output,by rw[zac];exact h.size,fun x hx hn=>(Below.heap_setCell w p u x (fun e=>hn (e ▸ hp))).trans (h.block x hx hn)⟩
theorem Chg.drew {fp:List Nat} {a w:World} (h:Chg fp a w):Chg fp a w.drew:=⟨h.os,h.tape,h.output,h.size,h.block⟩
theorem Chg.alloc {fp:List Nat} {a w:World} (h:Chg fp a w) (o:Obj):Chg fp a (w.alloc o) :=
 ⟨h.os,h.tape,h.output,Nat.le_trans h.size (by simp),fun x hx hn=>(Below.heap_alloc w o x (Nat.lt_of_lt_of_le hx h.size)).trans (h.block x hx hn)⟩
theorem Chg.below {fp:List Nat} {a b:World} {B:Nat} (h:Chg fp a b) (hB:B≤a.heap.size) (hf:∀ x ∈ fp,B≤x):OI B a b :=
 ⟨h.os,h.tape,h.output,h.size,fun x hx=>h.block x II (fun e=>by have:=hf x e;omega)⟩
theorem Rd.chg {B:Nat} {w w':World} {t:Tr} {v:Value} {fp:List Nat} (h:Rd B w t v) (hc:Chg fp w w') (hB:B≤w.heap.size) (hf:∀ x ∈ fp,B≤x):Rd B w' t v:=h.below (hc.below hB hf)
theorem Own.chg {w w':World} {t:Tr} {v:Value} {fp fq:List Nat} {lo hi:Nat} (h:Own w t v fp) (hi':In lo hi fp) (hs:hi≤w.heap.size) (hc:Chg fq w w') (hd:∀ x ∈ fp,x ∉ fq):Own w' t v fp :=
 h.frame fun b hx=>hc.block b (by have:=(hi' b hx).2;omega) (hd b hx)
mutual
def siz:Tr→Nat
 | .lit (.string s)=>s.size
 | .lit _=>0
 | .sl k es=>es.length / k+sizL es
def sizL:List Tr→Nat
 | []=>0
 | t::ts=>siz t+sizL ts
end
theorem sizL_append:(a b:List Tr)→sizL (a++b)=sizL a+sizL b:=by
 intro a
 induction a with
 | nil=>intro b;simp[sizL]
 | cons t ts ih=>intro b;simp[sizL,ih];omega
theorem siz_flat {α:Type} (g:α→List Tr) (k:Nat) (hk:0<k) (hg:∀ x,(g x).length=k) (l:List α):siz (.sl k (l.flatMap g))=l.length+sizL (l.flatMap g):=by
 rw[siz,zc6 g k hg,Nat.mul_div_cancel _ hk]
theorem sizL_take_succ {α:Type} (g:α→List Tr) (l:List α) (i:Nat) (hi:i<l.length):sizL ((l.take (i+1)).flatMap g)=sizL ((l.take i).flatMap g)+sizL (g l[i]):=by
 rw[List.take_succ_eq_append_getElem hi,List.flatMap_append,sizL_append];simp
theorem sizL_take_le {α:Type} (g:α→List Tr) (l:List α) (i:Nat):sizL ((l.take i).flatMap g)≤sizL (l.flatMap g):=by
 have h:=sizL_append ((l.take i).flatMap g) ((l.drop i).flatMap g);rw[← List.flatMap_append,List.take_append_drop] at h;omega
theorem zcl {α:Type} (g:α→List Tr) (l:List α) (i:Nat) (hi:i<l.length):sizL (g l[i])≤sizL (l.flatMap g):=by
 have h1:=sizL_take_succ g l i hi;have h2:=sizL_take_le g l (i+1);omega
theorem flat_take_succ {α:Type} (g:α→List Tr) (l:List α) (k:Nat) (h:k<l.length):(l.take (k+1)).flatMap g=(l.take k).flatMap g++g l[k]:=by
 rw[List.take_succ_eq_append_getElem h,List.flatMap_append];simp
theorem Reps.change {w:World} : {ts us:List Tr}→{t:Tr}→{b off:Nat}→{f:List Nat}→Reps w (ts++t::us) b off f →
  ∃ f1 g f2 v,f=f1++(g++f2)∧(w,b,off+ts.length,v)∧Rep w t v g ∧
   ∀ w' t',(w'.heap[b]? = w.heap[b]?)→(∀ x,x ∈ f1∨x ∈ f2→w'.heap[x]? = w.heap[x]?)→Rep w' t' v g→Reps w' (ts++t'::us) b off f:=by
 intro ts us t b off f h;obtain⟨f1,h1,hs1,hs2,rfl⟩:=h.split;obtain⟨v,g,f2,hc,hr,hrs,rfl⟩:=zbp.1 hs2;refine⟨f1,g,f2,v,rfl,hc,hr,fun w' t' hb hx hr'=>?_⟩;refine Reps.append (hs1.frame hb (fun x hx'=>hx x (Or.inl hx'))) (zbp.2 ⟨v,g,f2,?_,hr',hrs.frame hb (fun x hx'=>hx x (Or.inr hx')),rfl⟩);rw[World.cell?_of_block (w:=w) hb];exact hc
theorem Reps.setLit {w:World} : {ts us:List Tr}→{v0:Value}→{b off:Nat}→{f:List Nat}→Reps w (ts++.lit v0::us) b off f→b ∉ f→(u:Value) →
  Reps (w.setCell ⟨b,off+ts.length,none⟩ u) (ts++.lit u::us) b off f:=by
 intro ts us v0 b off f h hb u;obtain⟨f1,h1,hs1,hs2,rfl⟩:=h.split;obtain⟨v,g,f2,hc,hr,hrs,rfl⟩:=zbp.1 hs2;obtain⟨rfl,rfl⟩:=zc7.1 hr;have hfar:∀ x ∈ f1++([]++f2),(w.setCell ⟨b,off+ts.length,none⟩ u).heap[x]? = w.heap[x]?:=fun x hx=>Below.heap_setCell w _ u x (fun e=>by subst e;exact hb hx)
 have keep:∀ (as:List Tr) (o:Nat) (fa:List Nat),Reps w as b o fa→(o+as.length≤off+ts.length∨off+ts.length<o)→(∀ x ∈ fa,x ∈ f1++([]++f2))→Reps (w.setCell ⟨b,off+ts.length,none⟩ u) as b o fa:=by
  intro as
  induction as with
  | nil=>intro o fa hr _ _;exact zcx.2 (zcx.1 hr)
  | cons t as ih =>
   intro o fa hr ho hin;obtain⟨v',g',f',hc',hr',hrs',rfl⟩:=zbp.1 hr;refine zbp.2 ⟨v',g',f',?_,hr'.frame (fun x hx=>hfar x (hin x (by simp[hx]))),ih (o+1) f' hrs' (by simp at ho;omega) (fun x hx=>hin x (by simp[hx])),rfl⟩;rw[← hc'];exact World.cell?_setCell_other w _ _ u (fun e=>by injection e with _ e;simp at ho;omega)
 refine Reps.append (keep ts off f1 hs1 II (fun x hx=>by simp[hx])) (zbp.2 ⟨u,[],f2,?_,zc7.2 ⟨rfl,rfl⟩,keep us _ f2 hrs II (fun x hx=>by simp[hx]),rfl⟩);exact World.cell?_setCell_same w ⟨b,off+ts.length,none⟩ u hc
theorem frozen_setCell (w:World) (a:Addr) (u:Value) (p:Addr):(w.setCell a u).frozen? p=w.frozen? p:=by
 by_cases h:p.block=a.block
 ·simp only[World.frozen?,World.setCell,Array.getElem?_modify,h,if_true]
  cases w.heap[a.block]? with
  | none=>rfl
  | some o=>cases o<;>rfl
 ·exact World.frozen?_of_block (w:=w) (Below.heap_setCell w a u p.block h)
theorem Own.litAt {w:World} {k:Nat} {ts us:List Tr} {v0:Value} {v:Value} {fp:List Nat} (h:Own w (.sl k (ts++.lit v0::us)) v fp) :
  ∃ b off f n c,v=IZ (some ⟨b,off,none⟩) n c∧fp=b::f∧(w,b,off+ts.length,v0)∧(∀ i,w.frozen? ⟨b,i,none⟩=false) ∧
   ∀ u,Own (w.setCell ⟨b,off+ts.length,none⟩ u) (.sl k (ts++.lit u::us)) v fp:=by
 obtain⟨a,n,c,hv,hl,hn,hc,hh⟩:=zb7.1 h.rep
 rcases hh with ⟨he,_⟩|⟨b,off,f,hne,ha,hfp,hr⟩
 ·simp at he
 ·subst ha hfp
  have hnb:b ∉ f:=(List.nodup_cons.1 h.nd).1;obtain⟨f1,g,f2,x,hf,hcell,hrep,_⟩:=hr.change;obtain⟨rfl,rfl⟩:=zc7.1 hrep;refine⟨b,off,f,n,c,hv,rfl,hcell,h.free b (by simp),fun u=>⟨?_,h.nd,?_⟩⟩
  ·exact zb7.2 ⟨_,n,c,hv,by simpa using hl,hn,hc,Or.inr ⟨b,off,f,by simp,rfl,rfl,hr.setLit hnb u⟩⟩
  ·intro b' hb' i
   rw[frozen_setCell];exact h.free b' hb' i
theorem Own.form {α:Type} {w:World} {k:Nat} {g:α→List Tr} {l:List α} {v:Value} {fp:List Nat} (hk:0<k) (hg:∀ x,(g x).length=k) (h:Own w (.sl k (l.flatMap g)) v fp):∃ a c,v=IZ a l.length c∧l.length≤c∧c≤maxLen:=by
 obtain⟨a,n,c,hv,hl,hn,hc,_⟩:=zb7.1 h.rep;rw[zc6 _ k hg] at hl;obtain rfl:l.length=n:=Nat.eq_of_mul_eq_mul_right hk hl;exact⟨a,c,hv,hn,hc⟩
structure OwnV (w:World) (ts:List Tr) (vs:List Value) (fp:List Nat):Prop where
 rep:RepV w ts vs fp
 nd:fp.Nodup
 free:Free w fp
theorem OwnV.frame {w w':World} {ts:List Tr} {vs:List Value} {fp:List Nat} (h:OwnV w ts vs fp) (hf:∀ b ∈ fp,w'.heap[b]? = w.heap[b]?):OwnV w' ts vs fp:=⟨h.rep.frame hf,h.nd,h.free.frame hf⟩
theorem OwnV.below {w w':World} {ts:List Tr} {vs:List Value} {fp:List Nat} {lo hi B:Nat} (h:OwnV w ts vs fp) (hi':In lo hi fp) (hB:hi≤B) (hb:OI B w w'):OwnV w' ts vs fp :=
 h.frame fun b hx=>hb.block b (by have:=(hi' b hx).2;omega)
theorem OwnV.chg {w w':World} {ts:List Tr} {vs:List Value} {fp fq:List Nat} {lo hi:Nat} (h:OwnV w ts vs fp) (hi':In lo hi fp) (hs:hi≤w.heap.size) (hc:Chg fq w w') (hd:∀ x ∈ fp,x ∉ fq):OwnV w' ts vs fp :=
 h.frame fun b hx=>hc.block b (by have:=(hi' b hx).2;omega) (hd b hx)
theorem OwnV.nil {w:World} : OwnV w [] [] []:=⟨rfl,List.nodup_nil,fun b h=>by simp at h⟩
theorem OwnV.cons {w:World} {t:Tr} {ts:List Tr} {v:Value} {vs:List Value} {f g:List Nat} (h:Own w t v f) (k:OwnV w ts vs g) (hd:∀ x ∈ f,x ∉ g):OwnV w (t::ts) (v::vs) (f++g) :=
 ⟨⟨f,g,h.rep,k.rep,rfl⟩,List.nodup_append.2 ⟨h.nd,k.nd,fun a ha b hb e=>hd a ha (e ▸ hb)⟩,fun b hb i=>by
  rcases List.mem_append.1 hb with hb|hb
  ·exact h.free b hb i
  ·exact k.free b hb i⟩
theorem OwnV.consLit {w:World} {u v:Value} {ts:List Tr} {vs:List Value} {g:List Nat} (k:OwnV w ts vs g) (e:v=u):OwnV w (.lit u::ts) (v::vs) g:=by
 subst e;exact OwnV.cons (f:=[]) Own.lit k (fun x hx=>by simp at hx)
theorem OwnV.uncons {w:World} {t:Tr} {ts:List Tr} {v:Value} {vs:List Value} {fp:List Nat} (h:OwnV w (t::ts) (v::vs) fp):∃ f g,fp=f++g∧Own w t v f∧OwnV w ts vs g∧∀ x ∈ f,x ∉ g:=by
 obtain⟨f,g,h1,h2,rfl⟩:=h.rep;obtain⟨n1,n2,n3⟩:=List.nodup_append.1 h.nd;exact⟨f,g,rfl,⟨h1,n1,fun b hb i=>h.free b (by simp[hb]) i⟩,⟨h2,n2,fun b hb i=>h.free b (by simp[hb]) i⟩,fun x hx e=>n3 x hx x e rfl⟩
theorem OwnV.rd {w:World} : {ts:List Tr}→{vs:List Value}→{fp:List Nat}→{lo hi:Nat}→OwnV w ts vs fp→In lo hi fp→RdV hi w ts vs:=by
 intro ts
 induction ts with
 | nil=>intro vs fp lo hi h _;cases vs with
  | nil=>trivial
  | cons _ _=>exact h.rep.elim
 | cons t ts ih =>
  intro vs fp lo hi h hin
  cases vs with
  | nil=>exact h.rep.elim
  | cons v vs =>
   obtain⟨f,g,rfl,h1,h2,_⟩:=h.uncons;exact⟨h1.rd (lo:=lo) (fun b hb=>hin b (by simp[hb])),ih (lo:=lo) h2 (fun b hb=>hin b (by simp[hb]))⟩
theorem Own.someAddr {w:World} {k:Nat} {ts us:List Tr} {t:Tr} {a:Option Addr} {n c:Nat} {fp:List Nat} (h:Own w (.sl k (ts++(t::us))) (IZ a n c) fp):∃ b off,a=some ⟨b,off,none⟩∧b ∈ fp:=by
 obtain⟨a',n',c',hv,_,_,_,hh⟩:=zb7.1 h.rep
 rcases hh with ⟨he,_⟩|⟨b,off,f,_,ha,hfp,_⟩
 ·simp at he
 ·injection hv with h1 _ _
  exact⟨b,off,by rw[h1,ha],by rw[hfp];simp⟩
theorem split_at {ch:List Tr} {q:Nat} {t:Tr} (hq:ch[q]? = some t):ch=ch.take q++t::ch.drop (q+1)∧∀ t',ch.set q t' = ch.take q++t'::ch.drop (q+1):=by
 obtain⟨hl,he⟩:=List.getElem?_eq_some_iff.1 hq;subst he;refine⟨?_,fun t'=>?_⟩
 ·rw[List.getElem_cons_drop,List.take_append_drop]
 ·rw[List.set_eq_take_append_cons_drop,if_pos hl]
theorem Own.setChunk {w:World} {k:Nat} {TS ch US:List Tr} {b off n c:Nat} {fp:List Nat} (h:Own w (.sl k (TS++(ch++US))) (IZ (some ⟨b,off,none⟩) n c) fp) (q:Nat) (v0:Value) (hq:ch[q]? = some (.lit v0)) (idx:Nat) (hidx:idx=off+(TS.length+q)) (u:Value) :
  Own (w.setCell ⟨b,idx,none⟩ u) (.sl k (TS++(ch.set q (.lit u)++US))) (IZ (some ⟨b,off,none⟩) n c) fp:=by
 obtain⟨e1,e2⟩:=split_at hq;have hl:(ch.take q).length=q:=by rw[List.length_take];have:=(List.getElem?_eq_some_iff.1 hq).1;omega
 have h':Own w (.sl k ((TS++ch.take q)++(.lit v0::(ch.drop (q+1)++US)))) (IZ (some ⟨b,off,none⟩) n c) fp:=by
  rw[e1] at h
  simpa using h
 obtain⟨b',off',f,n',c',hv,_,_,_,hset⟩:=h'.litAt;injection hv with h1 _ _;injection h1 with h1;injection h1 with hb ho _;subst hb ho;have:=hset u;rw[List.length_append,hl,← hidx] at this;rw[e2]
 simpa using this
theorem Own.cellChunk {w:World} {k:Nat} {TS ch US:List Tr} {b off n c:Nat} {fp:List Nat} (h:Own w (.sl k (TS++(ch++US))) (IZ (some ⟨b,off,none⟩) n c) fp) (q:Nat) (v0:Value) (hq:ch[q]? = some (.lit v0)) (idx:Nat) (hidx:idx=off+(TS.length+q)) :
  (w,b,idx,v0)∧∀ i,w.frozen? ⟨b,i,none⟩=false:=by
 obtain⟨e1,e2⟩:=split_at hq;have hl:(ch.take q).length=q:=by rw[List.length_take];have:=(List.getElem?_eq_some_iff.1 hq).1;omega
 have h':Own w (.sl k ((TS++ch.take q)++(.lit v0::(ch.drop (q+1)++US)))) (IZ (some ⟨b,off,none⟩) n c) fp:=by
  rw[e1] at h
  simpa using h
 obtain⟨b',off',f,n',c',hv,_,hc,hf,_⟩:=h'.litAt;injection hv with h1 _ _;injection h1 with h1;injection h1 with hb ho _;subst hb ho;rw[List.length_append,hl,← hidx] at hc;exact⟨hc,hf⟩
theorem Own.setFar {w:World} {t:Tr} {v:Value} {fp:List Nat} (h:Own w t v fp) {p:Addr} (hp:p.block ∉ fp) (u:Value):Own (w.setCell p u) t v fp :=
 h.frame fun b hb=>Below.heap_setCell w p u b (fun e=>hp (e ▸ hb))
theorem OwnV.setFar {w:World} {ts:List Tr} {vs:List Value} {fp:List Nat} (h:OwnV w ts vs fp) {p:Addr} (hp:p.block ∉ fp) (u:Value):OwnV (w.setCell p u) ts vs fp :=
 h.frame fun b hb=>Below.heap_setCell w p u b (fun e=>hp (e ▸ hb))
theorem OwnV.append {w:World} : {ts us:List Tr}→{vs xs:List Value}→{f g:List Nat}→OwnV w ts vs f→OwnV w us xs g→(∀ x ∈ f,x ∉ g)→OwnV w (ts++us) (vs++xs) (f++g):=by
 intro ts us vs xs f g h k hd;refine⟨?_,List.nodup_append.2 ⟨h.nd,k.nd,fun a ha b hb e=>hd a ha (e ▸ hb)⟩,fun b hb i=>?_⟩
 ·have:∀ (ts:List Tr) (vs:List Value) (f:List Nat),RepV w ts vs f→RepV w (ts++us) (vs++xs) (f++g):=by
   intro ts
   induction ts with
   | nil=>intro vs f h;cases vs with
    | nil=>rw[show f = [] from h];exact k.rep
    | cons _ _=>exact h.elim
   | cons t ts ih =>
    intro vs f h
    cases vs with
    | nil=>exact h.elim
    | cons x vs =>
     obtain⟨f1,f2,h1,h2,rfl⟩:=h;exact⟨f1,f2++g,h1,ih vs f2 h2,by simp⟩
  exact this ts vs f h.rep
 ·rcases List.mem_append.1 hb with hb|hb
  ·exact h.free b hb i
  ·exact k.free b hb i
def I64 (n:Int):Prop:=-9223372036854775808≤n∧n≤9223372036854775807
structure DPoint where
 x:Int
 y:Int
def DPoint.tr (x:DPoint):List Tr:=[intT x.x,intT x.y]
def DPoint.sT (l:List DPoint):Tr:=.sl 2 (l.flatMap DPoint.tr)
structure DPoint.ok (x_:DPoint):Prop where
 x:I64 x_.x
 y:I64 x_.y
structure DMode where
 need:Int
 rate:Int
def DMode.tr (x:DMode):List Tr:=[intT x.need,intT x.rate]
theorem DMode.tr_len (x:DMode):x.tr.length=2:=rfl
def DMode.sT (l:List DMode):Tr:=.sl 2 (l.flatMap DMode.tr)
structure DMode.ok (x_:DMode):Prop where
 need:I64 x_.need
 rate:I64 x_.rate
theorem DMode.rd {B:Nat} {w:World} {l:List DMode} {v:Value} (h:Rd B w (DMode.sT l) v) :
  ∃ a c,v=IZ a l.length c∧l.length≤c∧c≤maxLen∧(0<l.length→∃ b off,a=some ⟨b,off,none⟩∧b<B∧∀ (i:Nat) (hi:i<l.length),
   (w,b,off+i*2,J l[i].need)∧(w,b,off+i*2+1,J l[i].rate)):=by
 obtain⟨a,c,he,h1,h2,h3⟩:=Rd.slAt (k:=2) (g:=DMode.tr) (by decide) DMode.tr_len h;refine⟨a,c,he,h1,h2,fun hn=>?_⟩;obtain⟨b,off,ha,hb,hat⟩:=h3 hn;refine⟨b,off,ha,hb,fun i hi=>?_⟩;obtain⟨u0,c0,r0⟩:=hat i hi 0 _ rfl;rw[Rd.lit.1 r0] at c0;obtain⟨u1,c1,r1⟩:=hat i hi 1 _ rfl;rw[Rd.lit.1 r1] at c1;exact⟨c0,c1⟩
structure DEnd where
 place:DPoint
 above:Int
def DEnd.tr (x:DEnd):List Tr:=[intT x.place.x,intT x.place.y,intT x.above]
def DEnd.sT (l:List DEnd):Tr:=.sl 3 (l.flatMap DEnd.tr)
structure DEnd.ok (x_:DEnd):Prop where
 place:x_.place.ok
 above:I64 x_.above
structure DSite where
 name:ByteArray
 holder:ByteArray
 place:DPoint
def DSite.tr (x:DSite):List Tr:=[strT x.name,strT x.holder,intT x.place.x,intT x.place.y]
theorem DSite.tr_len (x:DSite):x.tr.length=4:=rfl
def DSite.sT (l:List DSite):Tr:=.sl 4 (l.flatMap DSite.tr)
structure DSite.ok (x_:DSite):Prop where
 name:x_.name.size≤maxLen
 holder:x_.holder.size≤maxLen
 place:x_.place.ok
theorem DSite.rd {B:Nat} {w:World} {l:List DSite} {v:Value} (h:Rd B w (DSite.sT l) v) :
  ∃ a c,v=IZ a l.length c∧l.length≤c∧c≤maxLen∧(0<l.length→∃ b off,a=some ⟨b,off,none⟩∧b<B∧∀ (i:Nat) (hi:i<l.length),
   (w,b,off+i*4,IQ l[i].name)∧(w,b,off+i*4+1,IQ l[i].holder)∧(w,b,off+i*4+2,J l[i].place.x)∧(w,b,off+i*4+3,J l[i].place.y)):=by
 obtain⟨a,c,he,h1,h2,h3⟩:=Rd.slAt (k:=4) (g:=DSite.tr) (by decide) DSite.tr_len h;refine⟨a,c,he,h1,h2,fun hn=>?_⟩;obtain⟨b,off,ha,hb,hat⟩:=h3 hn;refine⟨b,off,ha,hb,fun i hi=>?_⟩;obtain⟨u0,c0,r0⟩:=hat i hi 0 _ rfl;rw[Rd.lit.1 r0] at c0;obtain⟨u1,c1,r1⟩:=hat i hi 1 _ rfl;rw[Rd.lit.1 r1] at c1;obtain⟨u2,c2,r2⟩:=hat i hi 2 _ rfl;rw[Rd.lit.1 r2] at c2;obtain⟨u3,c3,r3⟩:=hat i hi 3 _ rfl;rw[Rd.lit.1 r3] at c3;exact⟨c0,c1,c2,c3⟩
structure DSector where
 name:ByteArray
 site:ByteArray
 antenna:ByteArray
 radio:ByteArray
 band:ByteArray
 azimuth:Int
 tilt:Int
 above:Int
 channel:Int
def DSector.tr (x:DSector):List Tr:=[strT x.name,strT x.site,strT x.antenna,strT x.radio,strT x.band,intT x.azimuth,intT x.tilt,intT x.above,intT x.channel]
theorem DSector.tr_len (x:DSector):x.tr.length=9:=rfl
def DSector.sT (l:List DSector):Tr:=.sl 9 (l.flatMap DSector.tr)
structure DSector.ok (x_:DSector):Prop where
 name:x_.name.size≤maxLen
 site:x_.site.size≤maxLen
 antenna:x_.antenna.size≤maxLen
 radio:x_.radio.size≤maxLen
 band:x_.band.size≤maxLen
 azimuth:I64 x_.azimuth
 tilt:I64 x_.tilt
 above:I64 x_.above
 channel:I64 x_.channel
theorem DSector.rd {B:Nat} {w:World} {l:List DSector} {v:Value} (h:Rd B w (DSector.sT l) v) :
  ∃ a c,v=IZ a l.length c∧l.length≤c∧c≤maxLen∧(0<l.length→∃ b off,a=some ⟨b,off,none⟩∧b<B∧∀ (i:Nat) (hi:i<l.length),
   (w,b,off+i*9,IQ l[i].name)∧(w,b,off+i*9+1,IQ l[i].site)∧(w,b,off+i*9+2,IQ l[i].antenna)∧(w,b,off+i*9+3,IQ l[i].radio)∧(w,b,off+i*9+4,IQ l[i].band)∧(w,b,off+i*9+5,J l[i].azimuth)∧(w,b,off+i*9+6,J l[i].tilt)∧(w,b,off+i*9+7,J l[i].above)∧(w,b,off+i*9+8,J l[i].channel)):=by
 obtain⟨a,c,he,h1,h2,h3⟩:=Rd.slAt (k:=9) (g:=DSector.tr) (by decide) DSector.tr_len h;refine⟨a,c,he,h1,h2,fun hn=>?_⟩;obtain⟨b,off,ha,hb,hat⟩:=h3 hn;refine⟨b,off,ha,hb,fun i hi=>?_⟩;obtain⟨u0,c0,r0⟩:=hat i hi 0 _ rfl;rw[Rd.lit.1 r0] at c0;obtain⟨u1,c1,r1⟩:=hat i hi 1 _ rfl;rw[Rd.lit.1 r1] at c1;obtain⟨u2,c2,r2⟩:=hat i hi 2 _ rfl;rw[Rd.lit.1 r2] at c2;obtain⟨u3,c3,r3⟩:=hat i hi 3 _ rfl;rw[Rd.lit.1 r3] at c3;obtain⟨u4,c4,r4⟩:=hat i hi 4 _ rfl;rw[Rd.lit.1 r4] at c4;obtain⟨u5,c5,r5⟩:=hat i hi 5 _ rfl;rw[Rd.lit.1 r5] at c5;obtain⟨u6,c6,r6⟩:=hat i hi 6 _ rfl;rw[Rd.lit.1 r6] at c6;obtain⟨u7,c7,r7⟩:=hat i hi 7 _ rfl;rw[Rd.lit.1 r7] at c7;obtain⟨u8,c8,r8⟩:=hat i hi 8 _ rfl;rw[Rd.lit.1 r8] at c8;exact⟨c0,c1,c2,c3,c4,c5,c6,c7,c8⟩
structure DAntenna where
 name:ByteArray
 gain:Int
 horizontal:List Int
 vertical:List Int
def DAntenna.tr (x:DAntenna):List Tr:=[strT x.name,intT x.gain,zam x.horizontal,zam x.vertical]
theorem DAntenna.tr_len (x:DAntenna):x.tr.length=4:=rfl
def DAntenna.sT (l:List DAntenna):Tr:=.sl 4 (l.flatMap DAntenna.tr)
structure DAntenna.ok (x_:DAntenna):Prop where
 name:x_.name.size≤maxLen
 gain:I64 x_.gain
 horizontal:(∀ n ∈ x_.horizontal,I64 n)
 vertical:(∀ n ∈ x_.vertical,I64 n)
theorem DAntenna.rd {B:Nat} {w:World} {l:List DAntenna} {v:Value} (h:Rd B w (DAntenna.sT l) v) :
  ∃ a c,v=IZ a l.length c∧l.length≤c∧c≤maxLen∧(0<l.length→∃ b off,a=some ⟨b,off,none⟩∧b<B∧∀ (i:Nat) (hi:i<l.length),
   (w,b,off+i*4,IQ l[i].name)∧(w,b,off+i*4+1,J l[i].gain)∧(∃ u,(w,b,off+i*4+2,u)∧Rd B w (zam l[i].horizontal) u)∧(∃ u,(w,b,off+i*4+3,u)∧Rd B w (zam l[i].vertical) u)):=by
 obtain⟨a,c,he,h1,h2,h3⟩:=Rd.slAt (k:=4) (g:=DAntenna.tr) (by decide) DAntenna.tr_len h;refine⟨a,c,he,h1,h2,fun hn=>?_⟩;obtain⟨b,off,ha,hb,hat⟩:=h3 hn;refine⟨b,off,ha,hb,fun i hi=>?_⟩;obtain⟨u0,c0,r0⟩:=hat i hi 0 _ rfl;rw[Rd.lit.1 r0] at c0;obtain⟨u1,c1,r1⟩:=hat i hi 1 _ rfl;rw[Rd.lit.1 r1] at c1;obtain⟨u2,c2,r2⟩:=hat i hi 2 _ rfl;obtain⟨u3,c3,r3⟩:=hat i hi 3 _ rfl;exact⟨c0,c1,⟨u2,c2,r2⟩,⟨u3,c3,r3⟩⟩
structure DRadio where
 name:ByteArray
 power:Int
 feeder:Int
 noise:Int
 width:Int
 modes:List DMode
def DRadio.tr (x:DRadio):List Tr:=[strT x.name,intT x.power,intT x.feeder,intT x.noise,intT x.width,DMode.sT x.modes]
theorem DRadio.tr_len (x:DRadio):x.tr.length=6:=rfl
def DRadio.sT (l:List DRadio):Tr:=.sl 6 (l.flatMap DRadio.tr)
structure DRadio.ok (x_:DRadio):Prop where
 name:x_.name.size≤maxLen
 power:I64 x_.power
 feeder:I64 x_.feeder
 noise:I64 x_.noise
 width:I64 x_.width
 modes:(∀ y ∈ x_.modes,y.ok)
theorem DRadio.rd {B:Nat} {w:World} {l:List DRadio} {v:Value} (h:Rd B w (DRadio.sT l) v) :
  ∃ a c,v=IZ a l.length c∧l.length≤c∧c≤maxLen∧(0<l.length→∃ b off,a=some ⟨b,off,none⟩∧b<B∧∀ (i:Nat) (hi:i<l.length),
   (w,b,off+i*6,IQ l[i].name)∧(w,b,off+i*6+1,J l[i].power)∧(w,b,off+i*6+2,J l[i].feeder)∧(w,b,off+i*6+3,J l[i].noise)∧(w,b,off+i*6+4,J l[i].width)∧(∃ u,(w,b,off+i*6+5,u)∧Rd B w (DMode.sT l[i].modes) u)):=by
 obtain⟨a,c,he,h1,h2,h3⟩:=Rd.slAt (k:=6) (g:=DRadio.tr) (by decide) DRadio.tr_len h;refine⟨a,c,he,h1,h2,fun hn=>?_⟩;obtain⟨b,off,ha,hb,hat⟩:=h3 hn;refine⟨b,off,ha,hb,fun i hi=>?_⟩;obtain⟨u0,c0,r0⟩:=hat i hi 0 _ rfl;rw[Rd.lit.1 r0] at c0;obtain⟨u1,c1,r1⟩:=hat i hi 1 _ rfl;rw[Rd.lit.1 r1] at c1;obtain⟨u2,c2,r2⟩:=hat i hi 2 _ rfl;rw[Rd.lit.1 r2] at c2;obtain⟨u3,c3,r3⟩:=hat i hi 3 _ rfl;rw[Rd.lit.1 r3] at c3;obtain⟨u4,c4,r4⟩:=hat i hi 4 _ rfl;rw[Rd.lit.1 r4] at c4;obtain⟨u5,c5,r5⟩:=hat i hi 5 _ rfl;exact⟨c0,c1,c2,c3,c4,⟨u5,c5,r5⟩⟩
structure DNetwork where
 sites:List DSite
 sectors:List DSector
 antennas:List DAntenna
 radios:List DRadio
def DNetwork.tr (x:DNetwork):List Tr:=[DSite.sT x.sites,DSector.sT x.sectors,DAntenna.sT x.antennas,DRadio.sT x.radios]
def DNetwork.sT (l:List DNetwork):Tr:=.sl 4 (l.flatMap DNetwork.tr)
structure DNetwork.ok (x_:DNetwork):Prop where
 sites:(∀ y ∈ x_.sites,y.ok)
 sectors:(∀ y ∈ x_.sectors,y.ok)
 antennas:(∀ y ∈ x_.antennas,y.ok)
 radios:(∀ y ∈ x_.radios,y.ok)
structure DTerrain where
 step:Int
 width:Int
 height:Int
 heights:List Int
 clutter:List Int
def DTerrain.tr (x:DTerrain):List Tr:=[intT x.step,intT x.width,intT x.height,zam x.heights,zam x.clutter]
def DTerrain.sT (l:List DTerrain):Tr:=.sl 5 (l.flatMap DTerrain.tr)
structure DTerrain.ok (x_:DTerrain):Prop where
 step:I64 x_.step
 width:I64 x_.width
 height:I64 x_.height
 heights:(∀ n ∈ x_.heights,I64 n)
 clutter:(∀ n ∈ x_.clutter,I64 n)
structure DRaster where
 step:Int
 width:Int
 height:Int
 server:List Int
 level:List Int
def DRaster.tr (x:DRaster):List Tr:=[intT x.step,intT x.width,intT x.height,zam x.server,zam x.level]
def DRaster.sT (l:List DRaster):Tr:=.sl 5 (l.flatMap DRaster.tr)
structure DRaster.ok (x_:DRaster):Prop where
 step:I64 x_.step
 width:I64 x_.width
 height:I64 x_.height
 server:(∀ n ∈ x_.server,I64 n)
 level:(∀ n ∈ x_.level,I64 n)
theorem DNetwork.opn {B:Nat} {w:World} {x:DNetwork} {vs:List Value} (h0:RdV B w x.tr vs):∃ v0 v1 v2 v3,vs = [v0,v1,v2,v3]∧Rd B w (DSite.sT x.sites) v0∧Rd B w (DSector.sT x.sectors) v1∧Rd B w (DAntenna.sT x.antennas) v2∧Rd B w (DRadio.sT x.radios) v3:=by
 obtain⟨y0,r0,rfl,d0,h1⟩:=RdV.uncons h0;obtain⟨y1,r1,rfl,d1,h2⟩:=RdV.uncons h1;obtain⟨y2,r2,rfl,d2,h3⟩:=RdV.uncons h2;obtain⟨y3,r3,rfl,d3,h4⟩:=RdV.uncons h3;obtain rfl:=RdV.unnil h4;exact⟨y0,y1,y2,y3,rfl,d0,d1,d2,d3⟩
instance (x : DAntenna) (v0 v1 : Value) : CoeDep (DAntenna × Value × Value) (x, v0, v1) (Array Value) := ⟨#[.string x.name, .int .i64 x.gain, v0, v1]⟩
instance (x : DAntenna) (a0 : Option Addr) (c0 : Nat) (a1 : Option Addr) (c1 : Nat) : CoeDep (DAntenna × Option Addr × Nat × Option Addr × Nat) (x, a0, c0, a1, c1) (Array Value) := ⟨#[.string x.name, .int .i64 x.gain, .slice a0 x.horizontal.length c0, .slice a1 x.vertical.length c1]⟩
instance : Coe DEnd (Array Value) := ⟨fun x => #[.int .i64 x.place.x, .int .i64 x.place.y, .int .i64 x.above]⟩
instance (x : DNetwork) (a0 : Option Addr) (c0 : Nat) (a1 : Option Addr) (c1 : Nat) (a2 : Option Addr) (c2 : Nat) (a3 : Option Addr) (c3 : Nat) : CoeDep (DNetwork × Option Addr × Nat × Option Addr × Nat × Option Addr × Nat × Option Addr × Nat) (x, a0, c0, a1, c1, a2, c2, a3, c3) (Array Value) := ⟨#[.slice a0 x.sites.length c0, .slice a1 x.sectors.length c1, .slice a2 x.antennas.length c2, .slice a3 x.radios.length c3]⟩
instance (x : DRadio) (v0 : Value) : CoeDep (DRadio × Value) (x, v0) (Array Value) := ⟨#[.string x.name, .int .i64 x.power, .int .i64 x.feeder, .int .i64 x.noise, .int .i64 x.width, v0]⟩
instance (x : DRadio) (a0 : Option Addr) (c0 : Nat) : CoeDep (DRadio × Option Addr × Nat) (x, a0, c0) (Array Value) := ⟨#[.string x.name, .int .i64 x.power, .int .i64 x.feeder, .int .i64 x.noise, .int .i64 x.width, .slice a0 x.modes.length c0]⟩
instance : Coe DSector (Array Value) := ⟨fun x => #[.string x.name, .string x.site, .string x.antenna, .string x.radio, .string x.band, .int .i64 x.azimuth, .int .i64 x.tilt, .int .i64 x.above, .int .i64 x.channel]⟩
instance : Coe DSite (Array Value) := ⟨fun x => #[.string x.name, .string x.holder, .int .i64 x.place.x, .int .i64 x.place.y]⟩
instance (x : DTerrain) (v0 v1 : Value) : CoeDep (DTerrain × Value × Value) (x, v0, v1) (Array Value) := ⟨#[.int .i64 x.step, .int .i64 x.width, .int .i64 x.height, v0, v1]⟩
instance (x : DTerrain) (a0 : Option Addr) (c0 : Nat) (a1 : Option Addr) (c1 : Nat) : CoeDep (DTerrain × Option Addr × Nat × Option Addr × Nat) (x, a0, c0, a1, c1) (Array Value) := ⟨#[.int .i64 x.step, .int .i64 x.width, .int .i64 x.height, .slice a0 x.heights.length c0, .slice a1 x.clutter.length c1]⟩
instance : CoeDep Unit () (Array Value) := ⟨#[.slice none 0 0, .slice none 0 0, .slice none 0 0, .slice none 0 0]⟩
end Go.Proofs.YtpakghepnahooaaGreatDoor
