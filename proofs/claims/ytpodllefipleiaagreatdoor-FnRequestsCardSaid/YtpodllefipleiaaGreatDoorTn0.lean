/- Fits of samples: a fit by rounded least squares leaves almost the least deviation. Plain laws. No program. -/
import Derived.Test.YtpodllefipleiaaGreatDoorOwn
set_option linter.unusedVariables false
set_option linter.unusedSimpArgs false
namespace Go.Proofs.YtpodllefipleiaaGreatDoor
open Go.RowKit
theorem Reps.change {w:World} : {ts us:List Tr}→{t:Tr}→{b off:Nat}→{f:List Nat}→Reps w (ts++t::us) b off f →
  ∃ f1 g f2 v,f=f1++(g++f2)∧w.cell? ⟨b,off+ts.length,none⟩=some v∧Rep w t v g ∧
   ∀ w' t',(w'.heap[b]? = w.heap[b]?)→(∀ x,x ∈ f1∨x ∈ f2→w'.heap[x]? = w.heap[x]?)→Rep w' t' v g→Reps w' (ts++t'::us) b off f:=by
 intro ts us t b off f h;obtain⟨f1,h1,hs1,hs2,rfl⟩:=h.split;obtain⟨v,g,f2,hc,hr,hrs,rfl⟩:=za0.1 hs2;refine⟨f1,g,f2,v,rfl,hc,hr,fun w' t' hb hx hr'=>?_⟩;refine Reps.append (hs1.frame hb (fun x hx'=>hx x (Or.inl hx'))) (za0.2 ⟨v,g,f2,?_,hr',hrs.frame hb (fun x hx'=>hx x (Or.inr hx')),rfl⟩);rw[World.cell?_of_block (w:=w) hb];exact hc
def mid {α:Type} (g:α→List Tr) (k:Nat) (l:List α) (m i:Nat):Tr:=.sl k (mkL ((l.take i).flatMap g) m++(l.drop i).flatMap g)
theorem Own.form {α:Type} {w:World} {k:Nat} {g:α→List Tr} {l:List α} {v:Value} {fp:List Nat} (hk:0<k) (hg:∀ x,(g x).length=k) (h:Own w (.sl k (l.flatMap g)) v fp):∃ a c,v=.slice a l.length c∧l.length≤c∧c≤maxLen:=by
 obtain⟨a,n,c,hv,hl,hn,hc,_⟩:=za5.1 h.rep;rw[zcd _ k hg] at hl;obtain rfl:l.length=n:=Nat.eq_of_mul_eq_mul_right hk hl;exact⟨a,c,hv,hn,hc⟩
structure OwnV (w:World) (ts:List Tr) (vs:List Value) (fp:List Nat):Prop where
 rep:RepV w ts vs fp
 nd:fp.Nodup
 free:Free w fp
theorem OwnV.frame {w w':World} {ts:List Tr} {vs:List Value} {fp:List Nat} (h:OwnV w ts vs fp) (hf:∀ b ∈ fp,w'.heap[b]? = w.heap[b]?):OwnV w' ts vs fp:=⟨h.rep.frame hf,h.nd,h.free.frame hf⟩
theorem OwnV.below {w w':World} {ts:List Tr} {vs:List Value} {fp:List Nat} {lo hi B:Nat} (h:OwnV w ts vs fp) (hi':In lo hi fp) (hB:hi≤B) (hb:Below B w w'):OwnV w' ts vs fp :=
 h.frame fun b hx=>hb.block b (by have:=(hi' b hx).2;omega)
theorem OwnV.chg {w w':World} {ts:List Tr} {vs:List Value} {fp fq:List Nat} {lo hi:Nat} (h:OwnV w ts vs fp) (hi':In lo hi fp) (hs:hi≤w.heap.size) (hc:Chg fq w w') (hd:∀ x ∈ fp,x ∉ fq):OwnV w' ts vs fp :=
 h.frame fun b hx=>hc.block b (by have:=(hi' b hx).2;omega) (hd b hx)
theorem OwnV.nil {w:World} : OwnV w [] [] []:=⟨rfl,List.nodup_nil,fun b h=>by simp at h⟩
theorem OwnV.cons {w:World} {t:Tr} {ts:List Tr} {v:Value} {vs:List Value} {f g:List Nat} (h:Own w t v f) (k:OwnV w ts vs g) (hd:∀ x ∈ f,x ∉ g):OwnV w (t::ts) (v::vs) (f++g) :=
 ⟨⟨f,g,h.rep,k.rep,rfl⟩,List.nodup_append.2 ⟨h.nd,k.nd,fun a ha b hb e=>hd a ha (e ▸ hb)⟩,fun b hb i=>by
  rcases List.mem_append.1 hb with hb|hb
  ·exact h.free b hb i
  ·exact k.free b hb i⟩
theorem OwnV.uncons {w:World} {t:Tr} {ts:List Tr} {v:Value} {vs:List Value} {fp:List Nat} (h:OwnV w (t::ts) (v::vs) fp):∃ f g,fp=f++g∧Own w t v f∧OwnV w ts vs g∧∀ x ∈ f,x ∉ g:=by
 obtain⟨f,g,h1,h2,rfl⟩:=h.rep;obtain⟨n1,n2,n3⟩:=List.nodup_append.1 h.nd;exact⟨f,g,rfl,⟨h1,n1,fun b hb i=>h.free b (by simp[hb]) i⟩,⟨h2,n2,fun b hb i=>h.free b (by simp[hb]) i⟩,fun x hx e=>n3 x hx x e rfl⟩
theorem OwnV.rd {w:World} : {ts:List Tr}→{vs:List Value}→{fp:List Nat}→{lo hi:Nat}→OwnV w ts vs fp→In lo hi fp→RdV hi w ts vs:=by
 intro ts
 induction ts with
 | nil=>intro vs fp lo hi h _;cases vs with
  | nil=>trivial
  | cons _ _=>exact h.rep.elim
 | cons t ts ih =>
  intro vs fp lo hi h hin
  cases vs with
  | nil=>exact h.rep.elim
  | cons v vs =>
   obtain⟨f,g,rfl,h1,h2,_⟩:=h.uncons;exact⟨h1.rd (lo:=lo) (fun b hb=>hin b (by simp[hb])),ih (lo:=lo) h2 (fun b hb=>hin b (by simp[hb]))⟩
theorem OwnV.append {w:World} : {ts us:List Tr}→{vs xs:List Value}→{f g:List Nat}→OwnV w ts vs f→OwnV w us xs g→(∀ x ∈ f,x ∉ g)→OwnV w (ts++us) (vs++xs) (f++g):=by
 intro ts us vs xs f g h k hd;refine⟨?_,List.nodup_append.2 ⟨h.nd,k.nd,fun a ha b hb e=>hd a ha (e ▸ hb)⟩,fun b hb i=>?_⟩
 ·have:∀ (ts:List Tr) (vs:List Value) (f:List Nat),RepV w ts vs f→RepV w (ts++us) (vs++xs) (f++g):=by
   intro ts
   induction ts with
   | nil=>intro vs f h;cases vs with
    | nil=>rw[show f = [] from h];exact k.rep
    | cons _ _=>exact h.elim
   | cons t ts ih =>
    intro vs f h
    cases vs with
    | nil=>exact h.elim
    | cons x vs =>
     obtain⟨f1,f2,h1,h2,rfl⟩:=h;exact⟨f1,f2++g,h1,ih vs f2 h2,by simp⟩
  exact this ts vs f h.rep
 ·rcases List.mem_append.1 hb with hb|hb
  ·exact h.free b hb i
  ·exact k.free b hb i
def I64 (n:Int):Prop:=-9223372036854775808≤n∧n≤9223372036854775807
structure DRequest where
 id:ByteArray
 applicant:ByteArray
 partner:ByteArray
 low:Int
 high:Int
 filed:Int
 deadline:Int
 state:Int
def DRequest.tr (x:DRequest):List Tr:=[strT x.id,strT x.applicant,strT x.partner,intT x.low,intT x.high,intT x.filed,intT x.deadline,intT x.state]
theorem DRequest.tr_len (x:DRequest):x.tr.length=8:=rfl
def DRequest.sT (l:List DRequest):Tr:=.sl 8 (l.flatMap DRequest.tr)
structure DRequest.ok (x_:DRequest):Prop where
 id:x_.id.size≤maxLen
 applicant:x_.applicant.size≤maxLen
 partner:x_.partner.size≤maxLen
 low:I64 x_.low
 high:I64 x_.high
 filed:I64 x_.filed
 deadline:I64 x_.deadline
 state:I64 x_.state
theorem DRequest.rd {B:Nat} {w:World} {l:List DRequest} {v:Value} (h:Rd B w (DRequest.sT l) v) :
  ∃ a c,v=.slice a l.length c∧l.length≤c∧c≤maxLen∧(0<l.length→∃ b off,a=some ⟨b,off,none⟩∧b<B∧∀ (i:Nat) (hi:i<l.length),
   w.cell? ⟨b,off+i*8,none⟩=some (.string l[i].id)∧w.cell? ⟨b,off+i*8+1,none⟩=some (.string l[i].applicant)∧w.cell? ⟨b,off+i*8+2,none⟩=some (.string l[i].partner)∧w.cell? ⟨b,off+i*8+3,none⟩=some (.int .i64 l[i].low)∧w.cell? ⟨b,off+i*8+4,none⟩=some (.int .i64 l[i].high)∧w.cell? ⟨b,off+i*8+5,none⟩=some (.int .i64 l[i].filed)∧w.cell? ⟨b,off+i*8+6,none⟩=some (.int .i64 l[i].deadline)∧w.cell? ⟨b,off+i*8+7,none⟩=some (.int .i64 l[i].state)):=by
 obtain⟨a,c,he,h1,h2,h3⟩:=Rd.slAt (k:=8) (g:=DRequest.tr) (by decide) DRequest.tr_len h;refine⟨a,c,he,h1,h2,fun hn=>?_⟩;obtain⟨b,off,ha,hb,hat⟩:=h3 hn;refine⟨b,off,ha,hb,fun i hi=>?_⟩;obtain⟨u0,c0,r0⟩:=hat i hi 0 _ rfl;rw[Rd.lit.1 r0] at c0;obtain⟨u1,c1,r1⟩:=hat i hi 1 _ rfl;rw[Rd.lit.1 r1] at c1;obtain⟨u2,c2,r2⟩:=hat i hi 2 _ rfl;rw[Rd.lit.1 r2] at c2;obtain⟨u3,c3,r3⟩:=hat i hi 3 _ rfl;rw[Rd.lit.1 r3] at c3;obtain⟨u4,c4,r4⟩:=hat i hi 4 _ rfl;rw[Rd.lit.1 r4] at c4;obtain⟨u5,c5,r5⟩:=hat i hi 5 _ rfl;rw[Rd.lit.1 r5] at c5;obtain⟨u6,c6,r6⟩:=hat i hi 6 _ rfl;rw[Rd.lit.1 r6] at c6;obtain⟨u7,c7,r7⟩:=hat i hi 7 _ rfl;rw[Rd.lit.1 r7] at c7;exact⟨c0,c1,c2,c3,c4,c5,c6,c7⟩
end Go.Proofs.YtpodllefipleiaaGreatDoor
namespace Go.Proofs.YtpodllefipleiaaGreatDoor
theorem sq_le_imp {p q:Int} (hp:0≤p) (h:q*q≤p*p):q≤p:=by
 rcases Int.lt_or_le p q with hlt|hge
 ·have a:p*p≤p*q:=Int.mul_le_mul_of_nonneg_left (Int.le_of_lt hlt) hp
  have b:p*q<q*q:=Int.mul_lt_mul_of_pos_right hlt (by omega);omega
 ·exact hge
theorem sq_nn (a:Int):0≤a*a:=by
 rcases Int.le_total 0 a with h|h
 ·exact Int.mul_nonneg h h
 ·exact Int.mul_nonneg_of_nonpos_of_nonpos h h
theorem cs_step {A B C u v:Int} (hA:0≤A) (hB:0≤B) (h:C*C≤A*B):(C+u*v)*(C+u*v)≤(A+u*u)*(B+v*v):=by
 have hp:0≤A*(v*v)+B*(u*u):=Int.add_nonneg (Int.mul_nonneg hA (sq_nn v)) (Int.mul_nonneg hB (sq_nn u));have h1:(2*C*(u*v))*(2*C*(u*v))≤(A*(v*v)+B*(u*u))*(A*(v*v)+B*(u*u)):=by
  have e1:(2*C*(u*v))*(2*C*(u*v))=4*((C*C)*((u*v)*(u*v))):=by grind
  have e2:(A*(v*v)+B*(u*u))*(A*(v*v)+B*(u*u))=4*((A*B)*((u*v)*(u*v)))+(A*(v*v)-B*(u*u))*(A*(v*v)-B*(u*u)):=by grind
  have e3:=Int.mul_le_mul_of_nonneg_right h (sq_nn (u*v));have e4:=sq_nn (A*(v*v)-B*(u*u));omega
 have h2:=sq_le_imp hp h1;have e:(A+u*u)*(B+v*v)-(C+u*v)*(C+u*v)=(A*B-C*C)+((A*(v*v)+B*(u*u))-2*C*(u*v)):=by grind
 omega
def sumM {α:Type} (l:List α) (f:α→Int):Int:=(l.map f).sum
theorem sumM_cons {α:Type} (x:α) (l:List α) (f:α→Int):sumM (x::l) f=f x+sumM l f:=rfl
theorem sumM_nn {α:Type} (l:List α) (f:α→Int) (h:∀ x ∈ l,0≤f x):0≤sumM l f:=by
 induction l with
 | nil=>exact Int.le_refl _
 | cons x l ih=>rw[sumM_cons];exact Int.add_nonneg (h x (by simp)) (ih fun y hy=>h y (by simp[hy]))
theorem cs {α:Type} (l:List α) (f g:α→Int):sumM l (fun x=>f x*g x)*sumM l (fun x=>f x*g x)≤sumM l (fun x=>f x*f x)*sumM l (fun x=>g x*g x):=by
 induction l with
 | nil=>simp[sumM]
 | cons x l ih =>
  rw[sumM_cons,sumM_cons,sumM_cons];have h:=cs_step (u:=f x) (v:=g x) (sumM_nn l _ fun y _=>sq_nn (f y)) (sumM_nn l _ fun y _=>sq_nn (g y)) ih;rw[Int.add_comm (f x*g x),Int.add_comm (f x*f x),Int.add_comm (g x*g x)];exact h
end Go.Proofs.YtpodllefipleiaaGreatDoor
