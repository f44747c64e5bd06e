/- Rows of integers, cell by cell. Plain lemmas; no program. -/
import Derived.Test.YtgmapjgodibchaaGreatDoorProb1
import Derived.Test.YtgmapjgodibchaaGreatDoorBox
set_option linter.unusedVariables false
set_option linter.unusedSimpArgs false
namespace Go.Proofs.YtgmapjgodibchaaGreatDoor
open Go.RowKit
def RowF (w:World) (b off n:Nat) (f:Nat→Int):Prop:=∀ q,q<n→w.cell? ⟨b,off+q,none⟩=some (I (f q))
theorem RowF.set {w:World} {b off n:Nat} {f:Nat→Int} (h:RowF w b off n f) (i:Nat) (hi:i<n) (u:Int):RowF (w.setCell ⟨b,off+i,none⟩ (I u)) b off n (fun q=>if q=i then u else f q):=by
 intro q hq
 by_cases e:q=i
 ·subst e
  rw[World.cell?_setCell_same _ _ _ (h q hq)];simp
 ·rw[World.cell?_setCell_other _ _ _ _ (fun h=>by injection h with _ h;omega),h q hq];simp[e]
theorem RowF.below {w w':World} {b off n:Nat} {f:Nat→Int} (h:RowF w b off n f) (hb:IJ w w w') (hl:b<w.heap.size):RowF w' b off n f:=fun q hq=>by
 rw[hb.cell (p:=⟨b,_,none⟩) hl];exact h q hq
theorem RowF.own {w:World} {b off n c m:Nat} {f:Nat→Int} {l:List Int} (h:RowF w b off n f) (hl:l.length=m) (hm:m≤n) (hc:n≤c) (hcm:c≤maxLen) (hf:∀ q (hq:q<l.length),f q=l[q]) (hfz:∀ i,w.frozen? ⟨b,i,none⟩=false) :
  ∃ fp,Own w (zai l) (II (some ⟨b,off,none⟩) m c) fp∧∀ y ∈ fp,y=b:=by
 by_cases e:l = []
 ·subst e
  exact⟨[],⟨zcf.2 ⟨_,m,c,rfl,by simpa using hl,O,hcm,Or.inl ⟨rfl,rfl⟩⟩,List.nodup_nil,fun b h=>by simp at h⟩,fun y hy=>by simp at hy⟩
 ·refine⟨[b],⟨zcf.2 ⟨_,m,c,rfl,by simpa using hl,O,hcm,Or.inr ⟨b,off,[],by simpa using e,rfl,rfl,?_⟩⟩,by simp,fun y hy i=>?_⟩,fun y hy=>by simpa using hy⟩
  ·have:=Reps.lits (w:=w) (l.map (Value.int .i64)) b off (fun i hi=>by
    have hi':i<l.length:=by simpa using hi
    rw[h i O,hf i hi'];simp)
   rw[List.map_map] at this;exact this
  ·obtain rfl:y=b:=by simpa using hy
   exact hfz i
end Go.Proofs.YtgmapjgodibchaaGreatDoor
