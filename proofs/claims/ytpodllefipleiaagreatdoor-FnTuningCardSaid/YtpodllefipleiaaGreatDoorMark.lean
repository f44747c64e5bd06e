/- Words for memory, continued: what a store or a change of a part does to an owned structure; marks read back. Plain lemmas; no program. -/
import Derived.Test.YtpodllefipleiaaGreatDoorOwn
set_option linter.unusedVariables false
set_option linter.unusedSimpArgs false
namespace Go.Proofs.YtpodllefipleiaaGreatDoor
open Go.RowKit
theorem Reps.change {w:World} : {ts us:List Tr}→{t:Tr}→{b off:Nat}→{f:List Nat}→Reps w (ts++t::us) b off f →
  ∃ f1 g f2 v,f=f1++(g++f2)∧w.cell? ⟨b,off+ts.length,none⟩=some v∧Rep w t v g ∧
   ∀ w' t',(w'.heap[b]? = w.heap[b]?)→(∀ x,x ∈ f1∨x ∈ f2→w'.heap[x]? = w.heap[x]?)→Rep w' t' v g→Reps w' (ts++t'::us) b off f:=by
 intro ts us t b off f h;obtain⟨f1,h1,hs1,hs2,rfl⟩:=h.split;obtain⟨v,g,f2,hc,hr,hrs,rfl⟩:=zaj.1 hs2;refine⟨f1,g,f2,v,rfl,hc,hr,fun w' t' hb hx hr'=>?_⟩;refine Reps.append (hs1.frame hb (fun x hx'=>hx x (Or.inl hx'))) (zaj.2 ⟨v,g,f2,?_,hr',hrs.frame hb (fun x hx'=>hx x (Or.inr hx')),rfl⟩);rw[World.cell?_of_block (w:=w) hb];exact hc
theorem Own.form {α:Type} {w:World} {k:Nat} {g:α→List Tr} {l:List α} {v:Value} {fp:List Nat} (hk:0<k) (hg:∀ x,(g x).length=k) (h:Own w (.sl k (l.flatMap g)) v fp):∃ a c,v=.slice a l.length c∧l.length≤c∧c≤maxLen:=by
 obtain⟨a,n,c,hv,hl,hn,hc,_⟩:=zaw.1 h.rep;rw[zbb _ k hg] at hl;obtain rfl:l.length=n:=Nat.eq_of_mul_eq_mul_right hk hl;exact⟨a,c,hv,hn,hc⟩
structure OwnV (w:World) (ts:List Tr) (vs:List Value) (fp:List Nat):Prop where
 rep:RepV w ts vs fp
 nd:fp.Nodup
 free:Free w fp
theorem OwnV.frame {w w':World} {ts:List Tr} {vs:List Value} {fp:List Nat} (h:OwnV w ts vs fp) (hf:∀ b ∈ fp,w'.heap[b]? = w.heap[b]?):OwnV w' ts vs fp:=⟨h.rep.frame hf,h.nd,h.free.frame hf⟩
theorem OwnV.below {w w':World} {ts:List Tr} {vs:List Value} {fp:List Nat} {lo hi B:Nat} (h:OwnV w ts vs fp) (hi':In lo hi fp) (hB:hi≤B) (hb:Below B w w'):OwnV w' ts vs fp :=
 h.frame fun b hx=>hb.block b (by have:=(hi' b hx).2;omega)
theorem OwnV.chg {w w':World} {ts:List Tr} {vs:List Value} {fp fq:List Nat} {lo hi:Nat} (h:OwnV w ts vs fp) (hi':In lo hi fp) (hs:hi≤w.heap.size) (hc:Chg fq w w') (hd:∀ x ∈ fp,x ∉ fq):OwnV w' ts vs fp :=
 h.frame fun b hx=>hc.block b (by have:=(hi' b hx).2;omega) (hd b hx)
theorem OwnV.nil {w:World} : OwnV w [] [] []:=⟨rfl,List.nodup_nil,fun b h=>by simp at h⟩
theorem OwnV.cons {w:World} {t:Tr} {ts:List Tr} {v:Value} {vs:List Value} {f g:List Nat} (h:Own w t v f) (k:OwnV w ts vs g) (hd:∀ x ∈ f,x ∉ g):OwnV w (t::ts) (v::vs) (f++g) :=
 ⟨⟨f,g,h.rep,k.rep,rfl⟩,List.nodup_append.2 ⟨h.nd,k.nd,fun a ha b hb e=>hd a ha (e ▸ hb)⟩,fun b hb i=>by
  rcases List.mem_append.1 hb with hb|hb
  ·exact h.free b hb i
  ·exact k.free b hb i⟩
theorem OwnV.uncons {w:World} {t:Tr} {ts:List Tr} {v:Value} {vs:List Value} {fp:List Nat} (h:OwnV w (t::ts) (v::vs) fp):∃ f g,fp=f++g∧Own w t v f∧OwnV w ts vs g∧∀ x ∈ f,x ∉ g:=by
 obtain⟨f,g,h1,h2,rfl⟩:=h.rep;obtain⟨n1,n2,n3⟩:=List.nodup_append.1 h.nd;exact⟨f,g,rfl,⟨h1,n1,fun b hb i=>h.free b (by simp[hb]) i⟩,⟨h2,n2,fun b hb i=>h.free b (by simp[hb]) i⟩,fun x hx e=>n3 x hx x e rfl⟩
theorem OwnV.rd {w:World} : {ts:List Tr}→{vs:List Value}→{fp:List Nat}→{lo hi:Nat}→OwnV w ts vs fp→In lo hi fp→RdV hi w ts vs:=by
 intro ts
 induction ts with
 | nil=>intro vs fp lo hi h _;cases vs with
  | nil=>trivial
  | cons _ _=>exact h.rep.elim
 | cons t ts ih =>
  intro vs fp lo hi h hin
  cases vs with
  | nil=>exact h.rep.elim
  | cons v vs =>
   obtain⟨f,g,rfl,h1,h2,_⟩:=h.uncons;exact⟨h1.rd (lo:=lo) (fun b hb=>hin b (by simp[hb])),ih (lo:=lo) h2 (fun b hb=>hin b (by simp[hb]))⟩
theorem OwnV.append {w:World} : {ts us:List Tr}→{vs xs:List Value}→{f g:List Nat}→OwnV w ts vs f→OwnV w us xs g→(∀ x ∈ f,x ∉ g)→OwnV w (ts++us) (vs++xs) (f++g):=by
 intro ts us vs xs f g h k hd;refine⟨?_,List.nodup_append.2 ⟨h.nd,k.nd,fun a ha b hb e=>hd a ha (e ▸ hb)⟩,fun b hb i=>?_⟩
 ·have:∀ (ts:List Tr) (vs:List Value) (f:List Nat),RepV w ts vs f→RepV w (ts++us) (vs++xs) (f++g):=by
   intro ts
   induction ts with
   | nil=>intro vs f h;cases vs with
    | nil=>rw[show f = [] from h];exact k.rep
    | cons _ _=>exact h.elim
   | cons t ts ih =>
    intro vs f h
    cases vs with
    | nil=>exact h.elim
    | cons x vs =>
     obtain⟨f1,f2,h1,h2,rfl⟩:=h;exact⟨f1,f2++g,h1,ih vs f2 h2,by simp⟩
  exact this ts vs f h.rep
 ·rcases List.mem_append.1 hb with hb|hb
  ·exact h.free b hb i
  ·exact k.free b hb i
end Go.Proofs.YtpodllefipleiaaGreatDoor
