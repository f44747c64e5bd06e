/- Boxes: cells made one behind the other; stores into a block above a bound. Plain lemmas; no program. -/
import Derived.Test.YtpodllefipleiaaGreatDoorRowV
set_option linter.unusedVariables false
set_option linter.unusedSimpArgs false
namespace Go.Proofs.YtpodllefipleiaaGreatDoor
open Go.RowKit
theorem RepV_lits (w:World):(xs:List Value)→RepV w (xs.map .lit) xs []:=by
 intro xs
 induction xs with
 | nil=>rfl
 | cons x xs ih=>exact⟨[],[],za5.2 ⟨rfl,rfl⟩,ih,rfl⟩
theorem Reads.head {w:World} {B size n:Nat} {A:Option Addr} {xs:List Value} (h:Reads w B size A n xs) {k:Nat} (hk:k≤n):Reads w B size A k (xs.take (k*size)):=by
 refine⟨by rw[List.length_take,h.1,Nat.min_eq_left (Nat.mul_le_mul_right _ hk)],fun hn=>?_⟩;obtain⟨ad,e,hb,hc⟩:=h.2 (by omega);refine⟨ad,e,hb,fun j u hu=>hc j u ?_⟩;have:=(List.getElem?_eq_some_iff.1 hu).1;rw[List.length_take] at this;rw[List.getElem?_take_of_lt (by omega)] at hu;exact hu
section
variable {P:Program}
end
end Go.Proofs.YtpodllefipleiaaGreatDoor
namespace Go.Proofs.YtpodllefipleiaaGreatDoor
open Go.RowKit
section
variable {w w':World} {B T:Nat} {cs:Array Value}
theorem bkC {v:Value} (h:w.heap[B]? = some (.cells cs T (0,0))) (j:Nat) (hj:cs[j]? = some v):w.cell? ⟨B,j,none⟩=some v:=(zam h j).trans hj
theorem bkF (h:w.heap[B]? = some (.cells cs T (0,0))) (j:Nat):w.frozen? ⟨B,j,none⟩=false:=zbz h j
theorem bkS (h:w.heap[B]? = some (.cells cs T (0,0))) (j:Nat) (v:Value):(w.setCell ⟨B,j,none⟩ v).heap[B]? = some (.cells (cs.setIfInBounds j v) T (0,0)):=row_setCell h j v
theorem bkO {o:Option Obj} (h:w.heap[B]? = o) {p:Addr} (hp:B≠p.block) (v:Value):(w.setCell p v).heap[B]? = o:=(Below.heap_setCell w p v B hp).trans h
theorem bkB {o:Option Obj} (h:w.heap[B]? = o) (hb:Below w.heap.size w w') (hl:B<w.heap.size):w'.heap[B]? = o:=(hb.block B hl).trans h
theorem bkN (w:World) (cs:Array Value) (T:Nat):(w.alloc (.cells cs T)).heap[w.heap.size]? = some (.cells cs T (0,0)):=by show (w.heap.push _)[w.heap.size]? = _;simp
theorem bkA {o:Option Obj} (h:w.heap[B]? = o) (hl:B<w.heap.size) (x:Obj):(w.alloc x).heap[B]? = o:=(Below.heap_alloc w x B hl).trans h
end
theorem zao (w:World) (o:Obj):Below w.heap.size w (w.alloc o):=(Below.refl _ _).alloc (Nat.le_refl _) _
theorem za4 (w:World):Below w.heap.size w w.drew:=⟨rfl,rfl,rfl,Nat.le_refl _,fun _ _=>rfl⟩
theorem flatSplit {α β:Type} (g:α→List β) (l:List α) (k:Nat) (h:k<l.length):l.flatMap g=(l.take k).flatMap g++(g l[k]++(l.drop (k+1)).flatMap g):=by
 conv=>lhs;rw[← List.take_append_drop k l]
 rw[List.flatMap_append,List.drop_eq_getElem_cons h,List.flatMap_cons]
theorem flatSet {α β:Type} (g:α→List β) (l:List α) (k:Nat) (h:k<l.length) (x:α):(l.set k x).flatMap g=(l.take k).flatMap g++(g x++(l.drop (k+1)).flatMap g):=by
 rw[List.set_eq_take_append_cons_drop,if_pos h,List.flatMap_append,List.flatMap_cons]
end Go.Proofs.YtpodllefipleiaaGreatDoor
namespace Go.Proofs.YtpodllefipleiaaGreatDoor
open Go.RowKit
theorem zbi (w:World) (c0:Array Value) (t0:Nat):∃ W0,w.alloc (.cells c0 t0)=W0∧Below w.heap.size w W0∧w.heap.size+1≤W0.heap.size∧W0.heap[w.heap.size]? = some (.cells c0 t0 (0,0)) :=
 ⟨_,rfl,zao _ _,by simp,bkN _ _ _⟩
theorem boxes2 (w:World) (c0:Array Value) (t0:Nat) (c1:Array Value) (t1:Nat):∃ W0,(w.alloc (.cells c0 t0)).alloc (.cells c1 t1)=W0∧Below w.heap.size w W0∧w.heap.size+2≤W0.heap.size∧W0.heap[w.heap.size]? = some (.cells c0 t0 (0,0))∧W0.heap[w.heap.size+1]? = some (.cells c1 t1 (0,0)):=by
 refine⟨_,rfl,(zao _ _).alloc (by simp) _,by simp,bkA (bkN _ _ _) (by simp) _,?_⟩;have h:=bkN (w.alloc (.cells c0 t0)) c1 t1
 rwa [show (w.alloc (.cells c0 t0)).heap.size=w.heap.size+1 by simp] at h
end Go.Proofs.YtpodllefipleiaaGreatDoor
