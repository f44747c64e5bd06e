/- Rows of plain values, cell by cell: what storing a run of cells leaves of them. Plain lemmas; no program. -/
import Derived.Test.YtpodllefipleiaaGreatDoorRaw
import Derived.Lib.SliceRun
import Derived.ArgAppend
set_option linter.unusedVariables false
set_option linter.unusedSimpArgs false
namespace Go.Proofs.YtpodllefipleiaaGreatDoor
open Go.RowKit
structure RowV (w:World) (b off:Nat) (xs:List Value):Prop where
 cell:∀ j u,xs[j]? = some u→w.cell? ⟨b,off+j,none⟩=some u
 free:∀ i,w.frozen? ⟨b,i,none⟩=false
section
variable {w w':World} {b off:Nat} {xs ys:List Value}
theorem RowV.at_ (h:RowV w b off xs) (j:Nat) (hj:j<xs.length):w.cell? ⟨b,off+j,none⟩=some xs[j]:=h.cell j _ (List.getElem?_eq_getElem hj)
theorem RowV.some_ (h:RowV w b off xs) (j:Nat) (hj:j<xs.length):(w.cell? ⟨b,off+j,none⟩).isSome=true:=by rw[h.at_ j hj];rfl
theorem RowV.frame (h:RowV w b off xs) (hf:w'.heap[b]? = w.heap[b]?):RowV w' b off xs :=
 ⟨fun j u hu=>by rw[World.cell?_of_block (w:=w) hf];exact h.cell j u hu,fun i=>by rw[World.frozen?_of_block (w:=w) hf];exact h.free i⟩
theorem RowV.drew (h:RowV w b off xs):RowV w.drew b off xs:=h.frame rfl
theorem RowV.take (h:RowV w b off xs) (n:Nat):RowV w b off (xs.take n):=⟨fun j u hu=>h.cell j u (by
 have:=(List.getElem?_eq_some_iff.1 hu).1
 rw[List.length_take] at this
 rw[List.getElem?_take_of_lt (by omega)] at hu;exact hu),h.free⟩
theorem RowV.drop (h:RowV w b off xs) (n:Nat):RowV w b (off+n) (xs.drop n):=⟨fun j u hu=>by
 rw[List.getElem?_drop] at hu
 rw[Nat.add_assoc];exact h.cell _ u hu,h.free⟩
theorem RowV.set (h:RowV w b off xs) (p:Nat) (hl:p+ys.length≤xs.length):RowV (w.setCells b (off+p) ys) b off (xs.take p++ys):=by
 refine⟨fun j u hu=>?_,fun i=>by rw[World.frozen?_setCells];exact h.free i⟩
 by_cases hj:j<p
 ·rw[List.getElem?_append_left (by rw[List.length_take];omega),List.getElem?_take_of_lt hj] at hu
  rw[World.cell?_setCells_out b _ _ _ _ (fun _ _=>Or.inl (by show off+j<off+p;omega))];exact h.cell j u hu
 ·rw[List.getElem?_append_right (by rw[List.length_take];omega),List.length_take,Nat.min_eq_left (by omega)] at hu
  obtain⟨h1,h2⟩:=List.getElem?_eq_some_iff.1 hu;have:=World.cell?_setCells_in b ys (off+p) w (fun q hq=>by rw[Nat.add_assoc];exact h.some_ (p+q) (by omega)) (j-p) h1;rw[show off+j=off+p+(j-p) by omega,this,h2]
theorem RowV.behind (h:RowV w b off xs) (p:Nat) (hl:xs.length≤p):RowV (w.setCells b (off+p) ys) b off xs:=by
 refine⟨fun j u hu=>?_,fun i=>by rw[World.frozen?_setCells];exact h.free i⟩;have hj:=(List.getElem?_eq_some_iff.1 hu).1;rw[World.cell?_setCells_out b _ _ _ _ (fun _ _=>Or.inl (by show off+j<off+p;omega))];exact h.cell j u hu
theorem chg_setCellsV {fp:List Nat} {a:World} {b:Nat} : {w:World}→Chg fp a w→b ∈ fp→(vs:List Value)→(o:Nat)→Chg fp a (w.setCells b o vs):=by
 intro w h hb vs
 induction vs generalizing w with
 | nil=>intro o;exact h
 | cons v vs ih=>intro o;rw[World.setCells];exact ih (h.setCell (p:=⟨b,o,none⟩) hb v) (o+1)
theorem size_setCellsV (b:Nat):∀ (vs:List Value) (o:Nat) (w:World),(w.setCells b o vs).heap.size=w.heap.size:=by
 intro vs
 induction vs with
 | nil=>intro o w;rfl
 | cons v vs ih=>intro o w;rw[World.setCells,ih,zak]
theorem Own.rowV {w:World} {k n c:Nat} {a:Option Addr} {xs:List Value} {fp:List Nat} (h:Own w (.sl k (xs.map .lit)) (.slice a n c) fp) :
  xs.length=n*k∧n≤c∧c≤maxLen∧(xs≠[]→∃ b off,a=some ⟨b,off,none⟩∧fp = [b]∧RowV w b off xs):=by
 obtain⟨a',n',c',hv,hl,hn,hc,hh⟩:=zaw.1 h.rep;injection hv with e1 e2 e3;subst e1 e2 e3;refine⟨by simpa using hl,hn,hc,fun hne=>?_⟩
 rcases hh with ⟨he,_⟩|⟨b,off,f,_,ha,hfp,hr⟩
 ·exact absurd (by simpa using he) hne
 ·have key:∀ (xs:List Value) (off:Nat) (f:List Nat),Reps w (xs.map .lit) b off f→f = []∧∀ j u,xs[j]? = some u→w.cell? ⟨b,off+j,none⟩=some u:=by
   intro xs
   induction xs with
   | nil=>intro off f h;exact⟨za1.1 h,fun j u hu=>by simp at hu⟩
   | cons x xs ih =>
    intro off f h;obtain⟨v,f1,f2,h1,h2,h3,rfl⟩:=zaj.1 h;obtain⟨rfl,rfl⟩:=za5.1 h2;obtain⟨rfl,h4⟩:=ih (off+1) f2 h3;refine⟨rfl,fun j u hu=>?_⟩
    cases j with
    | zero=>simp at hu;subst hu;exact h1
    | succ j=>rw[show off+(j+1)=off+1+j by omega];exact h4 j u (by simpa using hu)
  obtain⟨rfl,hcs⟩:=key xs off f hr;exact⟨b,off,ha,hfp,⟨hcs,fun i=>h.free b (by rw[hfp];simp) i⟩⟩
theorem RowV.own {w:World} {b off k n c:Nat} {xs:List Value} (h:RowV w b off xs) (hl:xs.length=n*k) (hn:n≤c) (hc:c≤maxLen):∃ fp,Own w (.sl k (xs.map .lit)) (.slice (some ⟨b,off,none⟩) n c) fp∧∀ y ∈ fp,y=b:=by
 by_cases e:xs = []
 ·subst e
  exact⟨[],⟨zaw.2 ⟨_,n,c,rfl,by simpa using hl,hn,hc,Or.inl ⟨rfl,rfl⟩⟩,List.nodup_nil,fun b h=>by simp at h⟩,fun y hy=>by simp at hy⟩
 ·refine⟨[b],⟨zaw.2 ⟨_,n,c,rfl,by simpa using hl,hn,hc,Or.inr ⟨b,off,[],by simpa using e,rfl,rfl,?_⟩⟩,by simp,fun y hy i=>?_⟩,fun y hy=>by simpa using hy⟩
  ·exact Reps.lits xs b off (fun i hi=>h.at_ i hi)
  ·obtain rfl:y=b:=by simpa using hy
   exact h.free i
theorem flat_lits {α:Type} (tr:α→List Tr) (vals:α→List Value) (h:∀ x,tr x=(vals x).map .lit) (l:List α):l.flatMap tr=(l.flatMap vals).map .lit:=by
 induction l with
 | nil=>rfl
 | cons x l ih=>rw[List.flatMap_cons,List.flatMap_cons,List.map_append,ih,h]
theorem zai {α:Type} (g:α→List Value) (k:Nat) (hg:∀ x,(g x).length=k) (l:List α):(l.flatMap g).length=l.length*k:=by
 induction l with
 | nil=>simp
 | cons x l ih=>rw[List.flatMap_cons,List.length_append,ih,hg,List.length_cons,Nat.succ_mul];omega
theorem flatv_take {α:Type} (g:α→List Value) (k:Nat) (hg:∀ x,(g x).length=k) (l:List α) (i:Nat):(l.take i).flatMap g=(l.flatMap g).take (i*k):=by
 induction l generalizing i with
 | nil=>simp
 | cons x l ih =>
  cases i with
  | zero=>simp
  | succ i =>
   rw[List.take_succ_cons,List.flatMap_cons,List.flatMap_cons,List.take_append,hg,ih,List.take_of_length_le (l:=g x) (by rw[hg,Nat.succ_mul];omega)];rw[show (i+1)*k-k=i*k by rw[Nat.succ_mul];omega]
end
end Go.Proofs.YtpodllefipleiaaGreatDoor
