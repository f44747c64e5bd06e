/- Words for memory, continued: owned structures, rows that are filled in a loop, marks. Plain lemmas; no program. -/
import Derived.Below
import Derived.Deep.Draws
import Derived.Deep.OwnRows
set_option linter.unusedVariables false
set_option linter.unusedSimpArgs false
namespace Go.Proofs.YtmkkiglcpedkiaaGreatDoor
open Go.RowKit
inductive Tr where
 | lit (v:Value)
 | sl (k:Nat) (es:List Tr)
mutual
def Rep (w:World):Tr→Value→List Nat→Prop
 | .lit u,v,fp=>v=u∧fp = []
 | .sl k es,v,fp=>∃ a n c,v=.slice a n c∧es.length=n*k∧n≤c∧c≤maxLen ∧
   ((es = []∧fp = [])∨∃ b off f,es≠[]∧a=some ⟨b,off,none⟩∧fp=b::f∧Reps w es b off f)
def Reps (w:World):List Tr→Nat→Nat→List Nat→Prop
 | [],_,_,fp=>fp = []
 | t::ts,b,off,fp=>∃ v f g,w.cell? ⟨b,off,none⟩=some v∧Rep w t v f∧Reps w ts b (off+1) g∧fp=f++g
end
theorem Rep_lit {w:World} {u v:Value} {fp:List Nat} : Rep w (.lit u) v fp↔v=u∧fp = []:=by rw[Rep]
theorem Rep_sl {w:World} {k:Nat} {es:List Tr} {v:Value} {fp:List Nat} : Rep w (.sl k es) v fp↔∃ a n c,v=.slice a n c∧es.length=n*k∧n≤c∧c≤maxLen ∧
   ((es = []∧fp = [])∨∃ b off f,es≠[]∧a=some ⟨b,off,none⟩∧fp=b::f∧Reps w es b off f):=by rw[Rep]
theorem Reps_nil {w:World} {b off:Nat} {fp:List Nat} : Reps w [] b off fp↔fp = []:=by rw[Reps]
theorem Reps_cons {w:World} {t:Tr} {ts:List Tr} {b off:Nat} {fp:List Nat} : Reps w (t::ts) b off fp↔∃ v f g,w.cell? ⟨b,off,none⟩=some v∧Rep w t v f∧Reps w ts b (off+1) g∧fp=f++g:=by rw[Reps]
theorem Rep.frame_aux {w w':World} : (t:Tr)→(v:Value)→(fp:List Nat)→Rep w t v fp→(∀ b ∈ fp,w'.heap[b]? = w.heap[b]?)→Rep w' t v fp:=by
 intro t;refine Tr.rec (motive_1:=fun t=>∀ v fp,Rep w t v fp→(∀ b ∈ fp,w'.heap[b]? = w.heap[b]?)→Rep w' t v fp)
  (motive_2:=fun ts=>∀ b off fp,Reps w ts b off fp→(w'.heap[b]? = w.heap[b]?)→(∀ b ∈ fp,w'.heap[b]? = w.heap[b]?)→Reps w' ts b off fp) ?_ ?_ ?_ ?_ t
 ·intro u v fp h _
  rw[Rep_lit] at h ⊢;exact h
 ·intro k es ih v fp h hf
  rw[Rep_sl] at h ⊢;obtain⟨a,n,c,hv,hl,hn,hc,h⟩:=h;refine⟨a,n,c,hv,hl,hn,hc,?_⟩
  rcases h with h|⟨b,off,f,hne,ha,hfp,hr⟩
  ·exact Or.inl h
  ·subst hfp
   exact Or.inr ⟨b,off,f,hne,ha,rfl,ih b off f hr (hf b (by simp)) (fun x hx=>hf x (by simp[hx]))⟩
 ·intro b off fp h _ _
  rw[Reps_nil] at h ⊢;exact h
 ·intro t ts iht ihts b off fp h hb hf
  rw[Reps_cons] at h ⊢;obtain⟨v,f,g,hc,hr,hrs,rfl⟩:=h;exact⟨v,f,g,by rw[World.cell?_of_block (w:=w) hb];exact hc,iht v f hr (fun x hx=>hf x (by simp[hx])),ihts b (off+1) g hrs hb (fun x hx=>hf x (by simp[hx])),rfl⟩
theorem Rep.frame {w w':World} {t:Tr} {v:Value} {fp:List Nat} (h:Rep w t v fp) (hf:∀ b ∈ fp,w'.heap[b]? = w.heap[b]?):Rep w' t v fp:=Rep.frame_aux t v fp h hf
theorem Reps.frame {w w':World} : {ts:List Tr}→{b off:Nat}→{fp:List Nat}→Reps w ts b off fp→w'.heap[b]? = w.heap[b]?→(∀ b ∈ fp,w'.heap[b]? = w.heap[b]?)→Reps w' ts b off fp:=by
 intro ts
 induction ts with
 | nil=>intro b off fp h _ _;rw[Reps_nil] at h ⊢;exact h
 | cons t ts ih =>
  intro b off fp h hb hf;rw[Reps_cons] at h ⊢;obtain⟨v,f,g,hc,hr,hrs,rfl⟩:=h;exact⟨v,f,g,by rw[World.cell?_of_block (w:=w) hb];exact hc,hr.frame (fun x hx=>hf x (by simp[hx])),ih hrs hb (fun x hx=>hf x (by simp[hx])),rfl⟩
theorem Reps.at_ {w:World} : {ts:List Tr}→{b off:Nat}→{fp:List Nat}→Reps w ts b off fp→(i:Nat)→(hi:i<ts.length)→∃ v f,w.cell? ⟨b,off+i,none⟩=some v∧Rep w ts[i] v f∧∀ x ∈ f,x ∈ fp:=by
 intro ts
 induction ts with
 | nil=>intro b off fp _ i hi;simp at hi
 | cons t ts ih =>
  intro b off fp h i hi;rw[Reps_cons] at h;obtain⟨v,f,g,hc,hr,hrs,rfl⟩:=h
  cases i with
  | zero=>exact⟨v,f,by simpa using hc,by simpa using hr,fun x hx=>by simp[hx]⟩
  | succ i =>
   obtain⟨v',f',h1,h2,h3⟩:=ih hrs i (by simpa using hi);refine⟨v',f',?_,by simpa using h2,fun x hx=>by simp[h3 x hx]⟩;rw[← h1];congr 2;omega
theorem Reps.append {w:World} : {ts us:List Tr}→{b off:Nat}→{f g:List Nat}→Reps w ts b off f→Reps w us b (off+ts.length) g→Reps w (ts++us) b off (f++g):=by
 intro ts
 induction ts with
 | nil=>intro us b off f g h k;rw[Reps_nil] at h;subst h;simpa using k
 | cons t ts ih =>
  intro us b off f g h k;rw[Reps_cons] at h;obtain⟨v,f1,f2,hc,hr,hrs,rfl⟩:=h;rw[List.cons_append,Reps_cons];refine⟨v,f1,f2++g,hc,hr,ih hrs ?_,by simp⟩;have e:off+1+ts.length=off+(t::ts).length:=by simp<;>omega
  rw[e];exact k
theorem Reps.split {w:World} : {ts us:List Tr}→{b off:Nat}→{fp:List Nat}→Reps w (ts++us) b off fp→∃ f g,Reps w ts b off f∧Reps w us b (off+ts.length) g∧fp=f++g:=by
 intro ts
 induction ts with
 | nil=>intro us b off fp h;exact⟨[],fp,by rw[Reps_nil],by simpa using h,rfl⟩
 | cons t ts ih =>
  intro us b off fp h;rw[List.cons_append,Reps_cons] at h;obtain⟨v,f1,f2,hc,hr,hrs,rfl⟩:=h;obtain⟨f,g,h1,h2,rfl⟩:=ih hrs;refine⟨f1++f,g,by rw[Reps_cons];exact⟨v,f1,f,hc,hr,h1,rfl⟩,?_,by simp⟩;have e:off+1+ts.length=off+(t::ts).length:=by simp<;>omega
  rw[← e];exact h2
theorem Reps.lits {w:World} : (vs:List Value)→(b off:Nat)→(∀ (i:Nat) (h:i<vs.length),w.cell? ⟨b,off+i,none⟩=some vs[i])→Reps w (vs.map .lit) b off []:=by
 intro vs
 induction vs with
 | nil=>intro b off _;rw[List.map_nil,Reps_nil]
 | cons v vs ih =>
  intro b off h;rw[List.map_cons,Reps_cons];refine⟨v,[],[],(by have:=h 0 (by simp);simp only[Nat.add_zero,List.getElem_cons_zero] at this;exact this),by rw[Rep_lit];exact⟨rfl,rfl⟩,ih b (off+1) (fun i hi=>?_),rfl⟩;have:=h (i+1) (by simpa using hi);rw[← Nat.add_assoc] at this;rw[Nat.add_right_comm];simpa using this
def Rd (B:Nat) (w:World) (t:Tr) (v:Value):Prop:=∃ fp,Rep w t v fp∧∀ b ∈ fp,b<B
theorem Rd.below {B:Nat} {w w':World} {t:Tr} {v:Value} (h:Rd B w t v) (hb:Below B w w'):Rd B w' t v:=by
 obtain⟨fp,h,hf⟩:=h;exact⟨fp,h.frame (fun b hx=>hb.block b (hf b hx)),hf⟩
theorem Rd.drew {B:Nat} {w:World} {t:Tr} {v:Value} (h:Rd B w t v):Rd B w.drew t v:=h.below ⟨rfl,rfl,rfl,Nat.le_refl _,fun _ _=>rfl⟩
theorem Rd.drewN {B:Nat} {w:World} {t:Tr} {v:Value} (h:Rd B w t v) (n:Nat):Rd B (w.drewN n) t v:=h.below ⟨rfl,rfl,rfl,Nat.le_refl _,fun _ _=>rfl⟩
theorem Rd.mono {B B':Nat} {w:World} {t:Tr} {v:Value} (h:Rd B w t v) (hB:B≤B'):Rd B' w t v:=by
 obtain⟨fp,h,hf⟩:=h;exact⟨fp,h,fun b hx=>Nat.lt_of_lt_of_le (hf b hx) hB⟩
theorem Rd.lit {B:Nat} {w:World} {u v:Value} : Rd B w (.lit u) v↔v=u:=by
 constructor
 ·rintro⟨fp,h,_⟩;rw[Rep_lit] at h;exact h.1
 ·rintro rfl;exact⟨[],by rw[Rep_lit];exact⟨rfl,rfl⟩,fun b h=>by simp at h⟩
theorem Rd.sl {B:Nat} {w:World} {k:Nat} {es:List Tr} {v:Value} (h:Rd B w (.sl k es) v) :
  ∃ a n c,v=.slice a n c∧es.length=n*k∧n≤c∧c≤maxLen∧(es≠[]→∃ b off,a=some ⟨b,off,none⟩∧b<B∧∀ (i:Nat) (hi:i<es.length),∃ u,w.cell? ⟨b,off+i,none⟩=some u∧Rd B w es[i] u):=by
 obtain⟨fp,h,hf⟩:=h;rw[Rep_sl] at h;obtain⟨a,n,c,hv,hl,hn,hc,h⟩:=h;refine⟨a,n,c,hv,hl,hn,hc,fun hne=>?_⟩
 rcases h with ⟨h,_⟩|⟨b,off,f,_,ha,hfp,hr⟩
 ·exact absurd h hne
 ·subst hfp
  refine⟨b,off,ha,hf b (by simp),fun i hi=>?_⟩;obtain⟨u,f',h1,h2,h3⟩:=hr.at_ i hi;exact⟨u,h1,f',h2,fun x hx=>hf x (by simp[h3 x hx])⟩
theorem flat_get {α:Type} (g:α→List Tr) (k:Nat) (hg:∀ x,(g x).length=k):(l:List α)→(i:Nat)→(hi:i<l.length)→(j:Nat)→(hj:j<k)→(l.flatMap g)[i*k+j]? = (g l[i])[j]?:=by
 intro l
 induction l with
 | nil=>intro i hi;simp at hi
 | cons x l ih =>
  intro i hi j hj;rw[List.flatMap_cons]
  cases i with
  | zero=>rw[List.getElem?_append_left (by rw[hg];omega)];simp
  | succ i =>
   have e:(i+1)*k+j=k+(i*k+j):=by rw[Nat.succ_mul];omega
   rw[List.getElem?_append_right (by rw[hg];omega),hg,e,Nat.add_sub_cancel_left]
   simpa using ih i (by simpa using hi) j hj
theorem flat_length {α:Type} (g:α→List Tr) (k:Nat) (hg:∀ x,(g x).length=k) (l:List α):(l.flatMap g).length=l.length*k:=by
 induction l with
 | nil=>simp
 | cons x l ih=>rw[List.flatMap_cons,List.length_append,ih,hg,List.length_cons,Nat.succ_mul];omega
theorem Rd.slAt {α:Type} {B:Nat} {w:World} {k:Nat} {g:α→List Tr} {l:List α} {v:Value} (hk:0<k) (hg:∀ x,(g x).length=k) (h:Rd B w (.sl k (l.flatMap g)) v) :
  ∃ a c,v=.slice a l.length c∧l.length≤c∧c≤maxLen∧(0<l.length→∃ b off,a=some ⟨b,off,none⟩∧b<B∧∀ (i:Nat) (hi:i<l.length) (j:Nat) (t:Tr),(g l[i])[j]? = some t →
   ∃ u,w.cell? ⟨b,off+i*k+j,none⟩=some u∧Rd B w t u):=by
 obtain⟨a,n,c,he,hl,hnc,hcm,hcells⟩:=h.sl;rw[flat_length _ k hg] at hl;obtain rfl:l.length=n:=Nat.eq_of_mul_eq_mul_right hk hl;refine⟨a,c,he,hnc,hcm,fun hne=>?_⟩
 obtain⟨b,off,ha,hbl,hat⟩:=hcells (by
  intro e;have:=congrArg List.length e;rw[flat_length _ k hg] at this;have h0:0<l.length*k:=Nat.mul_pos hne hk;simp at this
  omega)
 refine⟨b,off,ha,hbl,fun i hi j t hu=>?_⟩;have hj:j<k:=by
  rw[← hg l[i]];exact (List.getElem?_eq_some_iff.1 hu).1
 have hlt:i*k+j<(l.flatMap g).length:=by
  rw[flat_length _ k hg];have:(i+1)*k≤l.length*k:=Nat.mul_le_mul_right k hi;rw[Nat.succ_mul] at this;omega
 obtain⟨u',hc,hr⟩:=hat (i*k+j) hlt;have e:=flat_get g k hg l i hi j hj;rw[hu,List.getElem?_eq_getElem hlt] at e;injection e with e;rw[e] at hr;exact⟨u',by rw[Nat.add_assoc];exact hc,hr⟩
theorem map_flat {α:Type} (g:α→Tr) (l:List α):l.map g=l.flatMap fun x=>[g x]:=by
 induction l with
 | nil=>rfl
 | cons x l ih=>rw[List.map_cons,List.flatMap_cons,ih];rfl
theorem Rd.slAt1 {α:Type} {B:Nat} {w:World} {g:α→Tr} {l:List α} {v:Value} (h:Rd B w (.sl 1 (l.map g)) v) :
  ∃ a c,v=.slice a l.length c∧l.length≤c∧c≤maxLen∧(0<l.length→∃ b off,a=some ⟨b,off,none⟩∧b<B∧∀ (i:Nat) (hi:i<l.length),
   ∃ u,w.cell? ⟨b,off+i,none⟩=some u∧Rd B w (g l[i]) u):=by
 rw[map_flat g l] at h;obtain⟨a,c,hv,h1,h2,h3⟩:=h.slAt (k:=1) (g:=fun x=>[g x]) (by decide) (fun _=>rfl);refine⟨a,c,hv,h1,h2,fun hn=>?_⟩;obtain⟨b,off,ha,hb,hat⟩:=h3 hn;refine⟨b,off,ha,hb,fun i hi=>?_⟩;obtain⟨u,hu,hr⟩:=hat i hi 0 _ rfl;exact⟨u,by simpa using hu,hr⟩
def intT (n:Int):Tr:=.lit (.int .i64 n)
def strT (s:ByteArray):Tr:=.lit (.string s)
def intsT (l:List Int):Tr:=.sl 1 (l.map intT)
def strsT (l:List ByteArray):Tr:=.sl 1 (l.map strT)
theorem Rd.strs {B:Nat} {w:World} {l:List ByteArray} {v:Value} (h:Rd B w (strsT l) v) :
  ∃ a c,v=.slice a l.length c∧l.length≤c∧c≤maxLen∧(0<l.length→∃ b off,a=some ⟨b,off,none⟩∧b<B∧∀ (i:Nat) (hi:i<l.length),w.cell? ⟨b,off+i,none⟩=some (.string l[i])):=by
 obtain⟨a,c,hv,h1,h2,h3⟩:=Rd.slAt1 h;refine⟨a,c,hv,h1,h2,fun hn=>?_⟩;obtain⟨b,off,ha,hb,hat⟩:=h3 hn;refine⟨b,off,ha,hb,fun i hi=>?_⟩;obtain⟨u,hu,hr⟩:=hat i hi;rw[hu,Rd.lit.1 hr]
def RdV (B:Nat) (w:World):List Tr→List Value→Prop
 | [],[]=>True
 | t::ts,v::vs=>Rd B w t v∧RdV B w ts vs
 | _,_=>False
theorem RdV.uncons {B:Nat} {w:World} {t:Tr} {ts:List Tr} {vs:List Value} (h:RdV B w (t::ts) vs):∃ v r,vs=v::r∧Rd B w t v∧RdV B w ts r:=by
 cases vs with
 | nil=>exact h.elim
 | cons v r=>exact⟨v,r,rfl,h.1,h.2⟩
theorem RdV.unnil {B:Nat} {w:World} {vs:List Value} (h:RdV B w [] vs):vs = []:=by
 cases vs with
 | nil=>rfl
 | cons v r=>exact h.elim
theorem RdV.below {B:Nat} {w w':World} : {ts:List Tr}→{vs:List Value}→RdV B w ts vs→Below B w w'→RdV B w' ts vs:=by
 intro ts
 induction ts with
 | nil=>intro vs h _;cases vs<;>exact h
 | cons t ts ih=>intro vs h hb;cases vs with
  | nil=>exact h
  | cons v vs=>exact⟨h.1.below hb,ih h.2 hb⟩
theorem RdV.mono {B B':Nat} {w:World} : {ts:List Tr}→{vs:List Value}→RdV B w ts vs→B≤B'→RdV B' w ts vs:=by
 intro ts
 induction ts with
 | nil=>intro vs h _;cases vs<;>exact h
 | cons t ts ih=>intro vs h hb;cases vs with
  | nil=>exact h
  | cons v vs=>exact⟨h.1.mono hb,ih h.2 hb⟩
def RepV (w:World):List Tr→List Value→List Nat→Prop
 | [],[],fp=>fp = []
 | t::ts,v::vs,fp=>∃ f g,Rep w t v f∧RepV w ts vs g∧fp=f++g
 | _,_,_=>False
theorem RepV.frame {w w':World} : {ts:List Tr}→{vs:List Value}→{fp:List Nat}→RepV w ts vs fp→(∀ b ∈ fp,w'.heap[b]? = w.heap[b]?)→RepV w' ts vs fp:=by
 intro ts
 induction ts with
 | nil=>intro vs fp h _;cases vs<;>exact h
 | cons t ts ih =>
  intro vs fp h hf
  cases vs with
  | nil=>exact h
  | cons v vs =>
   obtain⟨f,g,h1,h2,rfl⟩:=h;exact⟨f,g,h1.frame (fun b hb=>hf b (by simp[hb])),ih h2 (fun b hb=>hf b (by simp[hb])),rfl⟩
theorem RepV.length {w:World} : {ts:List Tr}→{vs:List Value}→{fp:List Nat}→RepV w ts vs fp→ts.length=vs.length:=by
 intro ts
 induction ts with
 | nil=>intro vs fp h;cases vs with
  | nil=>rfl
  | cons _ _=>exact h.elim
 | cons t ts ih =>
  intro vs fp h
  cases vs with
  | nil=>exact h.elim
  | cons v vs=>obtain⟨f,g,_,h2,_⟩:=h;simp[ih h2]
theorem RepV.lits {w:World} : (vs:List Value)→RepV w (vs.map .lit) vs []:=by
 intro vs
 induction vs with
 | nil=>rfl
 | cons v vs ih=>exact⟨[],[],Rep_lit.2 ⟨rfl,rfl⟩,ih,rfl⟩
def setRow (w:World) (B off:Nat):List Value→World
 | []=>w
 | v::vs=>setRow (w.setCell ⟨B,off,none⟩ v) B (off+1) vs
theorem heap_setRow (B:Nat):(vs:List Value)→(w:World)→(off i:Nat)→i≠B→(setRow w B off vs).heap[i]? = w.heap[i]?:=by
 intro vs
 induction vs with
 | nil=>intro w off i _;rfl
 | cons v vs ih =>
  intro w off i hi;show (setRow (w.setCell ⟨B,off,none⟩ v) B (off+1) vs).heap[i]? = _
  rw[ih _ _ _ hi];exact Below.heap_setCell w ⟨B,off,none⟩ v i hi
theorem row_setCell {w:World} {B E:Nat} {cs:Array Value} {fz:Nat × Nat} (h:w.heap[B]? = some (.cells cs E fz)) (i:Nat) (v:Value):(w.setCell ⟨B,i,none⟩ v).heap[B]? = some (.cells (cs.setIfInBounds i v) E fz):=by
 simp[World.setCell,Array.getElem?_modify,h]
theorem size_setCell (w:World) (a:Addr) (v:Value):(w.setCell a v).heap.size=w.heap.size:=by simp[World.setCell]
theorem row_setRow {B E:Nat} : (vs:List Value)→(w:World)→(off:Nat)→(cs:Array Value)→w.heap[B]? = some (.cells cs E (0,0)) →
  ∃ cs',(setRow w B off vs).heap[B]? = some (.cells cs' E (0,0))∧cs'.size=cs.size∧(∀ i,i<off→cs'[i]? = cs[i]?)∧(∀ i,off+vs.length≤i→cs'[i]? = cs[i]?)∧(off+vs.length≤cs.size→∀ j,j<vs.length→cs'[off+j]? = vs[j]?):=by
 intro vs
 induction vs with
 | nil=>intro w off cs h;exact⟨cs,h,rfl,fun _ _=>rfl,fun _ _=>rfl,fun _ j hj=>by simp at hj⟩
 | cons v vs ih =>
  intro w off cs h;obtain⟨cs',h1,h2,h3,h4,h5⟩:=ih (w.setCell ⟨B,off,none⟩ v) (off+1) _ (row_setCell h off v);refine⟨cs',h1,by rw[h2];simp,fun i hi=>?_,fun i hi=>?_,fun hl j hj=>?_⟩
  ·rw[h3 i (by omega),Array.getElem?_setIfInBounds,if_neg (by omega)]
  ·rw[h4 i (by simp at hi;omega),Array.getElem?_setIfInBounds,if_neg (by simp at hi;omega)]
  ·cases j with
   | zero =>
    have hs:off<cs.size:=by simp at hl;omega
    rw[Nat.add_zero,h3 off (by omega),Array.getElem?_setIfInBounds,if_pos rfl];simp[hs]
   | succ j =>
    have:=h5 (by simp at hl ⊢;omega) j (by simpa using hj);rw[show off+(j+1)=off+1+j from by omega,this];simp
theorem cell_of_row' {w:World} {B E:Nat} {cs:Array Value} {fz:Nat × Nat} (h:w.heap[B]? = some (.cells cs E fz)) (i:Nat):w.cell? ⟨B,i,none⟩=cs[i]?:=by
 simp[World.cell?,h]
theorem free_of_row {w:World} {B E:Nat} {cs:Array Value} (h:w.heap[B]? = some (.cells cs E (0,0))) (i:Nat):w.frozen? ⟨B,i,none⟩=false:=by
 simp[World.frozen?,h]
def Free (w:World) (fp:List Nat):Prop:=∀ b ∈ fp,∀ i,w.frozen? ⟨b,i,none⟩=false
theorem Free.frame {w w':World} {fp:List Nat} (h:Free w fp) (hf:∀ b ∈ fp,w'.heap[b]? = w.heap[b]?):Free w' fp:=fun b hb i=>by
 rw[World.frozen?_of_block (w:=w) (hf b hb)];exact h b hb i
def In (lo hi:Nat) (fp:List Nat):Prop:=∀ b ∈ fp,lo≤b∧b<hi
theorem In.nil {lo hi:Nat} : In lo hi []:=fun b h=>by simp at h
theorem In.append {lo hi:Nat} {f g:List Nat} (h:In lo hi f) (k:In lo hi g):In lo hi (f++g):=fun b hb=>by
 rcases List.mem_append.1 hb with hb|hb
 ·exact h b hb
 ·exact k b hb
theorem In.mono {lo hi lo' hi':Nat} {f:List Nat} (h:In lo hi f) (h1:lo'≤lo) (h2:hi≤hi'):In lo' hi' f:=fun b hb=>⟨Nat.le_trans h1 (h b hb).1,Nat.lt_of_lt_of_le (h b hb).2 h2⟩
structure Own (w:World) (t:Tr) (v:Value) (fp:List Nat):Prop where
 rep:Rep w t v fp
 nd:fp.Nodup
 free:Free w fp
theorem Own.frame {w w':World} {t:Tr} {v:Value} {fp:List Nat} (h:Own w t v fp) (hf:∀ b ∈ fp,w'.heap[b]? = w.heap[b]?):Own w' t v fp:=⟨h.rep.frame hf,h.nd,h.free.frame hf⟩
theorem Own.below {w w':World} {t:Tr} {v:Value} {fp:List Nat} {lo hi B:Nat} (h:Own w t v fp) (hi':In lo hi fp) (hB:hi≤B) (hb:Below B w w'):Own w' t v fp :=
 h.frame fun b hx=>hb.block b (by have:=(hi' b hx).2;omega)
theorem Own.rd {w:World} {t:Tr} {v:Value} {fp:List Nat} {lo hi:Nat} (h:Own w t v fp) (hi':In lo hi fp):Rd hi w t v:=⟨fp,h.rep,fun b hb=>(hi' b hb).2⟩
theorem Own.lit {w:World} {v:Value} : Own w (.lit v) v []:=⟨Rep_lit.2 ⟨rfl,rfl⟩,List.nodup_nil,fun b h=>by simp at h⟩
structure Fill (w:World) (B E m:Nat) (ts:List Tr) (f:List Nat):Prop where
 row:∃ cs,w.heap[B]? = some (.cells cs E (0,0))∧cs.size=m
 reps:Reps w ts B 0 f
 nd:f.Nodup
 nb:B ∉ f
 free:Free w f
theorem Fill.start (w:World) (cs:Array Value) (E:Nat):Fill (w.alloc (.cells cs E)) w.heap.size E cs.size [] [] :=
 ⟨⟨cs,by show (w.heap.push _)[w.heap.size]? = _;simp,rfl⟩,Reps_nil.2 rfl,List.nodup_nil,by simp,fun b h=>by simp at h⟩
theorem Fill.lt {w:World} {B E m:Nat} {ts:List Tr} {f:List Nat} (h:Fill w B E m ts f):B<w.heap.size:=by
 obtain⟨cs,h,_⟩:=h.row
 rcases Nat.lt_or_ge B w.heap.size with hlt|hge
 ·exact hlt
 ·rw[Array.getElem?_eq_none hge] at h;cases h
theorem Fill.open_ {w:World} {B E m:Nat} {ts:List Tr} {f:List Nat} (h:Fill w B E m ts f) (j:Nat):w.frozen? ⟨B,j,none⟩=false:=by
 obtain⟨cs,h,_⟩:=h.row;exact free_of_row h j
theorem Fill.frame {w w':World} {B E m:Nat} {ts:List Tr} {f:List Nat} (h:Fill w B E m ts f) (hB:w'.heap[B]? = w.heap[B]?) (hf:∀ b ∈ f,w'.heap[b]? = w.heap[b]?):Fill w' B E m ts f :=
 ⟨by rw[hB];exact h.row,h.reps.frame hB hf,h.nd,h.nb,h.free.frame hf⟩
theorem Fill.below {w w':World} {B E m lo:Nat} {ts:List Tr} {f:List Nat} (h:Fill w B E m ts f) (hi:In lo w.heap.size f) (hb:Below w.heap.size w w'):Fill w' B E m ts f :=
 h.frame (hb.block B h.lt) (fun b hx=>hb.block b (hi b hx).2)
theorem Reps_of_setRow {w:World} {B:Nat} : {us:List Tr}→{vs:List Value}→{g:List Nat}→{off:Nat}→RepV w us vs g→(∀ j,j<vs.length→w.cell? ⟨B,off+j,none⟩=vs[j]?)→Reps w us B off g:=by
 intro us
 induction us with
 | nil=>intro vs g off h _;cases vs with
  | nil=>exact Reps_nil.2 h
  | cons _ _=>exact h.elim
 | cons t ts ih =>
  intro vs g off h hc
  cases vs with
  | nil=>exact h.elim
  | cons v vs =>
   obtain⟨f,g',h1,h2,rfl⟩:=h;refine Reps_cons.2 ⟨v,f,g',by simpa using hc 0 (by simp),h1,ih h2 (fun j hj=>?_),rfl⟩;have:=hc (j+1) (by simpa using hj);rw[show off+1+j=off+(j+1) from by omega,this];simp
theorem Fill.step {w:World} {B E m:Nat} {ts us:List Tr} {vs:List Value} {f g:List Nat} (h:Fill w B E m ts f) (hv:RepV w us vs g) (hl:ts.length+vs.length≤m)
  (hg:g.Nodup) (hgb:B ∉ g) (hgf:∀ x ∈ g,x ∉ f) (hgo:Free w g):Fill (setRow w B ts.length vs) B E m (ts++us) (f++g):=by
 obtain⟨cs,hcs,hm⟩:=h.row;obtain⟨cs',h1,h2,h3,h4,h5⟩:=row_setRow vs w ts.length cs hcs;have hne:∀ b ∈ f,(setRow w B ts.length vs).heap[b]? = w.heap[b]?:=fun b hb=>heap_setRow B vs w _ b (fun e=>h.nb (e ▸ hb))
 have hne':∀ b ∈ g,(setRow w B ts.length vs).heap[b]? = w.heap[b]?:=fun b hb=>heap_setRow B vs w _ b (fun e=>hgb (e ▸ hb))
 refine⟨⟨cs',h1,by rw[h2];exact hm⟩,?_,?_,by simp[h.nb,hgb],?_⟩
 ·refine Reps.append ?_ ?_
  ·
   have old:∀ (ts':List Tr) (off:Nat) (f':List Nat),Reps w ts' B off f'→off+ts'.length≤ts.length→(∀ x ∈ f',x ∈ f)→Reps (setRow w B ts.length vs) ts' B off f':=by
    intro ts'
    induction ts' with
    | nil=>intro off f' hr _ _;exact Reps_nil.2 (Reps_nil.1 hr)
    | cons t ts' ih =>
     intro off f' hr hle hin;obtain⟨v,fa,fb,hc,hr1,hr2,rfl⟩:=Reps_cons.1 hr;refine Reps_cons.2 ⟨v,fa,fb,?_,hr1.frame (fun b hb=>hne b (hin b (by simp[hb]))),ih (off+1) fb hr2 (by simp at hle;omega) (fun x hx=>hin x (by simp[hx])),rfl⟩;rw[cell_of_row' h1,h3 off (by simp at hle;omega),← cell_of_row' hcs,hc]
   exact old ts 0 f h.reps (by omega) (fun x hx=>hx)
  ·rw[Nat.zero_add]
   refine Reps_of_setRow (hv.frame hne') (fun j hj=>?_);rw[cell_of_row' h1,h5 (by omega) j hj]
 ·exact List.nodup_append.2 ⟨h.nd,hg,fun a ha b hb e=>hgf b hb (e ▸ ha)⟩
 ·intro b hb i
  rcases List.mem_append.1 hb with hb|hb
  ·exact h.free.frame hne b hb i
  ·exact hgo.frame hne' b hb i
theorem Fill.own {w:World} {B E n k:Nat} {ts:List Tr} {f:List Nat} (h:Fill w B E (n*k) ts f) (hl:ts.length=n*k) (hn:n≤maxLen):∃ fp,Own w (.sl k ts) (.slice (some ⟨B,0,none⟩) n n) fp∧∀ x ∈ fp,x=B∨x ∈ f:=by
 by_cases e:ts = []
 ·exact⟨[],⟨Rep_sl.2 ⟨_,n,n,rfl,hl,Nat.le_refl _,hn,Or.inl ⟨e,rfl⟩⟩,List.nodup_nil,fun b h=>by simp at h⟩,fun x hx=>by simp at hx⟩
 ·refine⟨B::f,⟨Rep_sl.2 ⟨_,n,n,rfl,hl,Nat.le_refl _,hn,Or.inr ⟨B,0,f,e,rfl,rfl,h.reps⟩⟩,List.nodup_cons.2 ⟨h.nb,h.nd⟩,?_⟩,fun x hx=>by simpa using hx⟩
  intro b hb i
  rcases List.mem_cons.1 hb with rfl|hb
  ·exact h.open_ i
  ·exact h.free b hb i
structure Chg (fp:List Nat) (w w':World):Prop where
 os:w'.os=w.os
 tape:w'.tape=w.tape
 output:w'.output=w.output
 size:w.heap.size≤w'.heap.size
 block:∀ b,b<w.heap.size→b ∉ fp→w'.heap[b]? = w.heap[b]?
theorem Chg.refl (fp:List Nat) (w:World):Chg fp w w:=⟨rfl,rfl,rfl,Nat.le_refl _,fun _ _ _=>rfl⟩
theorem Chg.trans {fp:List Nat} {a b c:World} (h:Chg fp a b) (k:Chg fp b c):Chg fp a c :=
 ⟨k.os.trans h.os,k.tape.trans h.tape,k.output.trans h.output,Nat.le_trans h.size k.size,fun x hx hn=>(k.block x (Nat.lt_of_lt_of_le hx h.size) hn).trans (h.block x hx hn)⟩
theorem Chg.mono {fp fq:List Nat} {a b:World} (h:Chg fp a b) (hs:∀ x ∈ fp,x ∈ fq):Chg fq a b:=⟨h.os,h.tape,h.output,h.size,fun x hx hn=>h.block x hx (fun e=>hn (hs x e))⟩
theorem Chg.of_below {fp:List Nat} {a b:World} (h:Below a.heap.size a b):Chg fp a b:=⟨h.os,h.tape,h.output,h.size,fun x hx _=>h.block x hx⟩
theorem Chg.setCell {fp:List Nat} {a w:World} (h:Chg fp a w) {p:Addr} (hp:p.block ∈ fp) (u:Value):Chg fp a (w.setCell p u) :=
 ⟨h.os,h.tape,h.output,by rw[size_setCell];exact h.size,fun x hx hn=>(Below.heap_setCell w p u x (fun e=>hn (e ▸ hp))).trans (h.block x hx hn)⟩
theorem Chg.drew {fp:List Nat} {a w:World} (h:Chg fp a w):Chg fp a w.drew:=⟨h.os,h.tape,h.output,h.size,h.block⟩
theorem Chg.alloc {fp:List Nat} {a w:World} (h:Chg fp a w) (o:Obj):Chg fp a (w.alloc o) :=
 ⟨h.os,h.tape,h.output,Nat.le_trans h.size (by simp),fun x hx hn=>(Below.heap_alloc w o x (Nat.lt_of_lt_of_le hx h.size)).trans (h.block x hx hn)⟩
theorem Chg.below {fp:List Nat} {a b:World} {B:Nat} (h:Chg fp a b) (hB:B≤a.heap.size) (hf:∀ x ∈ fp,B≤x):Below B a b :=
 ⟨h.os,h.tape,h.output,h.size,fun x hx=>h.block x (by omega) (fun e=>by have:=hf x e;omega)⟩
theorem Rd.chg {B:Nat} {w w':World} {t:Tr} {v:Value} {fp:List Nat} (h:Rd B w t v) (hc:Chg fp w w') (hB:B≤w.heap.size) (hf:∀ x ∈ fp,B≤x):Rd B w' t v:=h.below (hc.below hB hf)
theorem Own.chg {w w':World} {t:Tr} {v:Value} {fp fq:List Nat} {lo hi:Nat} (h:Own w t v fp) (hi':In lo hi fp) (hs:hi≤w.heap.size) (hc:Chg fq w w') (hd:∀ x ∈ fp,x ∉ fq):Own w' t v fp :=
 h.frame fun b hx=>hc.block b (by have:=(hi' b hx).2;omega) (hd b hx)
mutual
def cnt:Tr→Nat
 | .lit _=>1
 | .sl _ es=>cntL es
def cntL:List Tr→Nat
 | []=>0
 | t::ts=>cnt t+cntL ts
end
def mdigits (k:Nat):List UInt8:=if h:k=0 then [] else mdigits (k / 10)++[UInt8.ofNat (48+k % 10)]
termination_by k
decreasing_by omega
def mtext (k:Nat):ByteArray:=if k=0 then ⟨#[109,48]⟩ else ⟨(109::mdigits k).toArray⟩
def mlit:Value→Nat→Value
 | .string _,k=>.string (mtext k)
 | _,k=>.int .i64 k
mutual
def mkT:Tr→Nat→Tr
 | .lit v,k=>.lit (mlit v k)
 | .sl n es,k=>.sl n (mkL es k)
def mkL:List Tr→Nat→List Tr
 | [],_=>[]
 | t::ts,k=>mkT t k::mkL ts (k+cnt t)
end
mutual
def siz:Tr→Nat
 | .lit (.string s)=>s.size
 | .lit _=>0
 | .sl k es=>es.length / k+sizL es
def sizL:List Tr→Nat
 | []=>0
 | t::ts=>siz t+sizL ts
end
theorem sizL_append:(a b:List Tr)→sizL (a++b)=sizL a+sizL b:=by
 intro a
 induction a with
 | nil=>intro b;simp[sizL]
 | cons t ts ih=>intro b;simp[sizL,ih];omega
theorem siz_flat {α:Type} (g:α→List Tr) (k:Nat) (hk:0<k) (hg:∀ x,(g x).length=k) (l:List α):siz (.sl k (l.flatMap g))=l.length+sizL (l.flatMap g):=by
 rw[siz,flat_length g k hg,Nat.mul_div_cancel _ hk]
end Go.Proofs.YtmkkiglcpedkiaaGreatDoor
