/- Words for memory: a value that represents a tree of plain values and slices, the blocks that it covers, and what keeps it. Plain lemmas; no program. -/
import Derived.Below
import Derived.Deep.Draws
import Derived.Deep.OwnRows
set_option linter.unusedVariables false
set_option linter.unusedSimpArgs false
namespace Go.Proofs.YtpodllefipleiaaGreatDoor
open Go.RowKit
inductive Tr where
 | lit (v:Value)
 | sl (k:Nat) (es:List Tr)
mutual
def Rep (w:World):Tr→Value→List Nat→Prop
 | .lit u,v,fp=>v=u∧fp = []
 | .sl k es,v,fp=>∃ a n c,v=.slice a n c∧es.length=n*k∧n≤c∧c≤maxLen ∧
   ((es = []∧fp = [])∨∃ b off f,es≠[]∧a=some ⟨b,off,none⟩∧fp=b::f∧Reps w es b off f)
def Reps (w:World):List Tr→Nat→Nat→List Nat→Prop
 | [],_,_,fp=>fp = []
 | t::ts,b,off,fp=>∃ v f g,w.cell? ⟨b,off,none⟩=some v∧Rep w t v f∧Reps w ts b (off+1) g∧fp=f++g
end
theorem zbt {w:World} {u v:Value} {fp:List Nat} : Rep w (.lit u) v fp↔v=u∧fp = []:=by rw[Rep]
theorem za5 {w:World} {k:Nat} {es:List Tr} {v:Value} {fp:List Nat} : Rep w (.sl k es) v fp↔∃ a n c,v=.slice a n c∧es.length=n*k∧n≤c∧c≤maxLen ∧
   ((es = []∧fp = [])∨∃ b off f,es≠[]∧a=some ⟨b,off,none⟩∧fp=b::f∧Reps w es b off f):=by rw[Rep]
theorem zbo {w:World} {b off:Nat} {fp:List Nat} : Reps w [] b off fp↔fp = []:=by rw[Reps]
theorem za0 {w:World} {t:Tr} {ts:List Tr} {b off:Nat} {fp:List Nat} : Reps w (t::ts) b off fp↔∃ v f g,w.cell? ⟨b,off,none⟩=some v∧Rep w t v f∧Reps w ts b (off+1) g∧fp=f++g:=by rw[Reps]
theorem Rep.frame_aux {w w':World} : (t:Tr)→(v:Value)→(fp:List Nat)→Rep w t v fp→(∀ b ∈ fp,w'.heap[b]? = w.heap[b]?)→Rep w' t v fp:=by
 intro t;refine Tr.rec (motive_1:=fun t=>∀ v fp,Rep w t v fp→(∀ b ∈ fp,w'.heap[b]? = w.heap[b]?)→Rep w' t v fp)
  (motive_2:=fun ts=>∀ b off fp,Reps w ts b off fp→(w'.heap[b]? = w.heap[b]?)→(∀ b ∈ fp,w'.heap[b]? = w.heap[b]?)→Reps w' ts b off fp) ?_ ?_ ?_ ?_ t
 ·intro u v fp h _
  rw[zbt] at h ⊢;exact h
 ·intro k es ih v fp h hf
  rw[za5] at h ⊢;obtain⟨a,n,c,hv,hl,hn,hc,h⟩:=h;refine⟨a,n,c,hv,hl,hn,hc,?_⟩
  rcases h with h|⟨b,off,f,hne,ha,hfp,hr⟩
  ·exact Or.inl h
  ·subst hfp
   exact Or.inr ⟨b,off,f,hne,ha,rfl,ih b off f hr (hf b (by simp)) (fun x hx=>hf x (by simp[hx]))⟩
 ·intro b off fp h _ _
  rw[zbo] at h ⊢;exact h
 ·intro t ts iht ihts b off fp h hb hf
  rw[za0] at h ⊢;obtain⟨v,f,g,hc,hr,hrs,rfl⟩:=h;exact⟨v,f,g,by rw[World.cell?_of_block (w:=w) hb];exact hc,iht v f hr (fun x hx=>hf x (by simp[hx])),ihts b (off+1) g hrs hb (fun x hx=>hf x (by simp[hx])),rfl⟩
theorem Rep.frame {w w':World} {t:Tr} {v:Value} {fp:List Nat} (h:Rep w t v fp) (hf:∀ b ∈ fp,w'.heap[b]? = w.heap[b]?):Rep w' t v fp:=Rep.frame_aux t v fp h hf
theorem Reps.frame {w w':World} : {ts:List Tr}→{b off:Nat}→{fp:List Nat}→Reps w ts b off fp→w'.heap[b]? = w.heap[b]?→(∀ b ∈ fp,w'.heap[b]? = w.heap[b]?)→Reps w' ts b off fp:=by
 intro ts
 induction ts with
 | nil=>intro b off fp h _ _;rw[zbo] at h ⊢;exact h
 | cons t ts ih =>
  intro b off fp h hb hf;rw[za0] at h ⊢;obtain⟨v,f,g,hc,hr,hrs,rfl⟩:=h;exact⟨v,f,g,by rw[World.cell?_of_block (w:=w) hb];exact hc,hr.frame (fun x hx=>hf x (by simp[hx])),ih hrs hb (fun x hx=>hf x (by simp[hx])),rfl⟩
theorem Reps.at_ {w:World} : {ts:List Tr}→{b off:Nat}→{fp:List Nat}→Reps w ts b off fp→(i:Nat)→(hi:i<ts.length)→∃ v f,w.cell? ⟨b,off+i,none⟩=some v∧Rep w ts[i] v f∧∀ x ∈ f,x ∈ fp:=by
 intro ts
 induction ts with
 | nil=>intro b off fp _ i hi;simp at hi
 | cons t ts ih =>
  intro b off fp h i hi;rw[za0] at h;obtain⟨v,f,g,hc,hr,hrs,rfl⟩:=h
  cases i with
  | zero=>exact⟨v,f,by simpa using hc,by simpa using hr,fun x hx=>by simp[hx]⟩
  | succ i =>
   obtain⟨v',f',h1,h2,h3⟩:=ih hrs i (by simpa using hi);refine⟨v',f',?_,by simpa using h2,fun x hx=>by simp[h3 x hx]⟩;rw[← h1];congr 2;omega
theorem Reps.append {w:World} : {ts us:List Tr}→{b off:Nat}→{f g:List Nat}→Reps w ts b off f→Reps w us b (off+ts.length) g→Reps w (ts++us) b off (f++g):=by
 intro ts
 induction ts with
 | nil=>intro us b off f g h k;rw[zbo] at h;subst h;simpa using k
 | cons t ts ih =>
  intro us b off f g h k;rw[za0] at h;obtain⟨v,f1,f2,hc,hr,hrs,rfl⟩:=h;rw[List.cons_append,za0];refine⟨v,f1,f2++g,hc,hr,ih hrs ?_,by simp⟩;have e:off+1+ts.length=off+(t::ts).length:=by simp<;>omega
  rw[e];exact k
theorem Reps.split {w:World} : {ts us:List Tr}→{b off:Nat}→{fp:List Nat}→Reps w (ts++us) b off fp→∃ f g,Reps w ts b off f∧Reps w us b (off+ts.length) g∧fp=f++g:=by
 intro ts
 induction ts with
 | nil=>intro us b off fp h;exact⟨[],fp,by rw[zbo],by simpa using h,rfl⟩
 | cons t ts ih =>
  intro us b off fp h;rw[List.cons_append,za0] at h;obtain⟨v,f1,f2,hc,hr,hrs,rfl⟩:=h;obtain⟨f,g,h1,h2,rfl⟩:=ih hrs;refine⟨f1++f,g,by rw[za0];exact⟨v,f1,f,hc,hr,h1,rfl⟩,?_,by simp⟩;have e:off+1+ts.length=off+(t::ts).length:=by simp<;>omega
  rw[← e];exact h2
theorem Reps.lits {w:World} : (vs:List Value)→(b off:Nat)→(∀ (i:Nat) (h:i<vs.length),w.cell? ⟨b,off+i,none⟩=some vs[i])→Reps w (vs.map .lit) b off []:=by
 intro vs
 induction vs with
 | nil=>intro b off _;rw[List.map_nil,zbo]
 | cons v vs ih =>
  intro b off h;rw[List.map_cons,za0];refine⟨v,[],[],(by have:=h 0 (by simp);simp only[Nat.add_zero,List.getElem_cons_zero] at this;exact this),by rw[zbt];exact⟨rfl,rfl⟩,ih b (off+1) (fun i hi=>?_),rfl⟩;have:=h (i+1) (by simpa using hi);rw[← Nat.add_assoc] at this;rw[Nat.add_right_comm];simpa using this
def Rd (B:Nat) (w:World) (t:Tr) (v:Value):Prop:=∃ fp,Rep w t v fp∧∀ b ∈ fp,b<B
theorem Rd.below {B:Nat} {w w':World} {t:Tr} {v:Value} (h:Rd B w t v) (hb:Below B w w'):Rd B w' t v:=by
 obtain⟨fp,h,hf⟩:=h;exact⟨fp,h.frame (fun b hx=>hb.block b (hf b hx)),hf⟩
theorem Rd.drew {B:Nat} {w:World} {t:Tr} {v:Value} (h:Rd B w t v):Rd B w.drew t v:=h.below ⟨rfl,rfl,rfl,Nat.le_refl _,fun _ _=>rfl⟩
theorem Rd.drewN {B:Nat} {w:World} {t:Tr} {v:Value} (h:Rd B w t v) (n:Nat):Rd B (w.drewN n) t v:=h.below ⟨rfl,rfl,rfl,Nat.le_refl _,fun _ _=>rfl⟩
theorem Rd.mono {B B':Nat} {w:World} {t:Tr} {v:Value} (h:Rd B w t v) (hB:B≤B'):Rd B' w t v:=by
 obtain⟨fp,h,hf⟩:=h;exact⟨fp,h,fun b hx=>Nat.lt_of_lt_of_le (hf b hx) hB⟩
theorem Rd.lit {B:Nat} {w:World} {u v:Value} : Rd B w (.lit u) v↔v=u:=by
 constructor
 ·rintro⟨fp,h,_⟩;rw[zbt] at h;exact h.1
 ·rintro rfl;exact⟨[],by rw[zbt];exact⟨rfl,rfl⟩,fun b h=>by simp at h⟩
theorem Rd.sl {B:Nat} {w:World} {k:Nat} {es:List Tr} {v:Value} (h:Rd B w (.sl k es) v) :
  ∃ a n c,v=.slice a n c∧es.length=n*k∧n≤c∧c≤maxLen∧(es≠[]→∃ b off,a=some ⟨b,off,none⟩∧b<B∧∀ (i:Nat) (hi:i<es.length),∃ u,w.cell? ⟨b,off+i,none⟩=some u∧Rd B w es[i] u):=by
 obtain⟨fp,h,hf⟩:=h;rw[za5] at h;obtain⟨a,n,c,hv,hl,hn,hc,h⟩:=h;refine⟨a,n,c,hv,hl,hn,hc,fun hne=>?_⟩
 rcases h with ⟨h,_⟩|⟨b,off,f,_,ha,hfp,hr⟩
 ·exact absurd h hne
 ·subst hfp
  refine⟨b,off,ha,hf b (by simp),fun i hi=>?_⟩;obtain⟨u,f',h1,h2,h3⟩:=hr.at_ i hi;exact⟨u,h1,f',h2,fun x hx=>hf x (by simp[h3 x hx])⟩
theorem flat_get {α:Type} (g:α→List Tr) (k:Nat) (hg:∀ x,(g x).length=k):(l:List α)→(i:Nat)→(hi:i<l.length)→(j:Nat)→(hj:j<k)→(l.flatMap g)[i*k+j]? = (g l[i])[j]?:=by
 intro l
 induction l with
 | nil=>intro i hi;simp at hi
 | cons x l ih =>
  intro i hi j hj;rw[List.flatMap_cons]
  cases i with
  | zero=>rw[List.getElem?_append_left (by rw[hg];omega)];simp
  | succ i =>
   have e:(i+1)*k+j=k+(i*k+j):=by rw[Nat.succ_mul];omega
   rw[List.getElem?_append_right (by rw[hg];omega),hg,e,Nat.add_sub_cancel_left]
   simpa using ih i (by simpa using hi) j hj
theorem zcd {α:Type} (g:α→List Tr) (k:Nat) (hg:∀ x,(g x).length=k) (l:List α):(l.flatMap g).length=l.length*k:=by
 induction l with
 | nil=>simp
 | cons x l ih=>rw[List.flatMap_cons,List.length_append,ih,hg,List.length_cons,Nat.succ_mul];omega
theorem Rd.slAt {α:Type} {B:Nat} {w:World} {k:Nat} {g:α→List Tr} {l:List α} {v:Value} (hk:0<k) (hg:∀ x,(g x).length=k) (h:Rd B w (.sl k (l.flatMap g)) v) :
  ∃ a c,v=.slice a l.length c∧l.length≤c∧c≤maxLen∧(0<l.length→∃ b off,a=some ⟨b,off,none⟩∧b<B∧∀ (i:Nat) (hi:i<l.length) (j:Nat) (t:Tr),(g l[i])[j]? = some t →
   ∃ u,w.cell? ⟨b,off+i*k+j,none⟩=some u∧Rd B w t u):=by
 obtain⟨a,n,c,he,hl,hnc,hcm,hcells⟩:=h.sl;rw[zcd _ k hg] at hl;obtain rfl:l.length=n:=Nat.eq_of_mul_eq_mul_right hk hl;refine⟨a,c,he,hnc,hcm,fun hne=>?_⟩
 obtain⟨b,off,ha,hbl,hat⟩:=hcells (by
  intro e;have:=congrArg List.length e;rw[zcd _ k hg] at this;have h0:0<l.length*k:=Nat.mul_pos hne hk;simp at this
  omega)
 refine⟨b,off,ha,hbl,fun i hi j t hu=>?_⟩;have hj:j<k:=by
  rw[← hg l[i]];exact (List.getElem?_eq_some_iff.1 hu).1
 have hlt:i*k+j<(l.flatMap g).length:=by
  rw[zcd _ k hg];have:(i+1)*k≤l.length*k:=Nat.mul_le_mul_right k hi;rw[Nat.succ_mul] at this;omega
 obtain⟨u',hc,hr⟩:=hat (i*k+j) hlt;have e:=flat_get g k hg l i hi j hj;rw[hu,List.getElem?_eq_getElem hlt] at e;injection e with e;rw[e] at hr;exact⟨u',by rw[Nat.add_assoc];exact hc,hr⟩
theorem map_flat {α:Type} (g:α→Tr) (l:List α):l.map g=l.flatMap fun x=>[g x]:=by
 induction l with
 | nil=>rfl
 | cons x l ih=>rw[List.map_cons,List.flatMap_cons,ih];rfl
theorem Rd.slAt1 {α:Type} {B:Nat} {w:World} {g:α→Tr} {l:List α} {v:Value} (h:Rd B w (.sl 1 (l.map g)) v) :
  ∃ a c,v=.slice a l.length c∧l.length≤c∧c≤maxLen∧(0<l.length→∃ b off,a=some ⟨b,off,none⟩∧b<B∧∀ (i:Nat) (hi:i<l.length),
   ∃ u,w.cell? ⟨b,off+i,none⟩=some u∧Rd B w (g l[i]) u):=by
 rw[map_flat g l] at h;obtain⟨a,c,hv,h1,h2,h3⟩:=h.slAt (k:=1) (g:=fun x=>[g x]) (by decide) (fun _=>rfl);refine⟨a,c,hv,h1,h2,fun hn=>?_⟩;obtain⟨b,off,ha,hb,hat⟩:=h3 hn;refine⟨b,off,ha,hb,fun i hi=>?_⟩;obtain⟨u,hu,hr⟩:=hat i hi 0 _ rfl;exact⟨u,by simpa using hu,hr⟩
def intT (n:Int):Tr:=.lit (.int .i64 n)
def strT (s:ByteArray):Tr:=.lit (.string s)
def intsT (l:List Int):Tr:=.sl 1 (l.map intT)
def strsT (l:List ByteArray):Tr:=.sl 1 (l.map strT)
theorem Rd.ints {B:Nat} {w:World} {l:List Int} {v:Value} (h:Rd B w (intsT l) v) :
  ∃ a c,v=.slice a l.length c∧l.length≤c∧c≤maxLen∧(0<l.length→∃ b off,a=some ⟨b,off,none⟩∧b<B∧∀ (i:Nat) (hi:i<l.length),w.cell? ⟨b,off+i,none⟩=some (.int .i64 l[i])):=by
 obtain⟨a,c,hv,h1,h2,h3⟩:=Rd.slAt1 h;refine⟨a,c,hv,h1,h2,fun hn=>?_⟩;obtain⟨b,off,ha,hb,hat⟩:=h3 hn;refine⟨b,off,ha,hb,fun i hi=>?_⟩;obtain⟨u,hu,hr⟩:=hat i hi;rw[hu,Rd.lit.1 hr]
theorem Rd.strs {B:Nat} {w:World} {l:List ByteArray} {v:Value} (h:Rd B w (strsT l) v) :
  ∃ a c,v=.slice a l.length c∧l.length≤c∧c≤maxLen∧(0<l.length→∃ b off,a=some ⟨b,off,none⟩∧b<B∧∀ (i:Nat) (hi:i<l.length),w.cell? ⟨b,off+i,none⟩=some (.string l[i])):=by
 obtain⟨a,c,hv,h1,h2,h3⟩:=Rd.slAt1 h;refine⟨a,c,hv,h1,h2,fun hn=>?_⟩;obtain⟨b,off,ha,hb,hat⟩:=h3 hn;refine⟨b,off,ha,hb,fun i hi=>?_⟩;obtain⟨u,hu,hr⟩:=hat i hi;rw[hu,Rd.lit.1 hr]
def RdV (B:Nat) (w:World):List Tr→List Value→Prop
 | [],[]=>True
 | t::ts,v::vs=>Rd B w t v∧RdV B w ts vs
 | _,_=>False
theorem RdV.uncons {B:Nat} {w:World} {t:Tr} {ts:List Tr} {vs:List Value} (h:RdV B w (t::ts) vs):∃ v r,vs=v::r∧Rd B w t v∧RdV B w ts r:=by
 cases vs with
 | nil=>exact h.elim
 | cons v r=>exact⟨v,r,rfl,h.1,h.2⟩
theorem RdV.unnil {B:Nat} {w:World} {vs:List Value} (h:RdV B w [] vs):vs = []:=by
 cases vs with
 | nil=>rfl
 | cons v r=>exact h.elim
theorem RdV.below {B:Nat} {w w':World} : {ts:List Tr}→{vs:List Value}→RdV B w ts vs→Below B w w'→RdV B w' ts vs:=by
 intro ts
 induction ts with
 | nil=>intro vs h _;cases vs<;>exact h
 | cons t ts ih=>intro vs h hb;cases vs with
  | nil=>exact h
  | cons v vs=>exact⟨h.1.below hb,ih h.2 hb⟩
theorem RdV.mono {B B':Nat} {w:World} : {ts:List Tr}→{vs:List Value}→RdV B w ts vs→B≤B'→RdV B' w ts vs:=by
 intro ts
 induction ts with
 | nil=>intro vs h _;cases vs<;>exact h
 | cons t ts ih=>intro vs h hb;cases vs with
  | nil=>exact h
  | cons v vs=>exact⟨h.1.mono hb,ih h.2 hb⟩
end Go.Proofs.YtpodllefipleiaaGreatDoor
