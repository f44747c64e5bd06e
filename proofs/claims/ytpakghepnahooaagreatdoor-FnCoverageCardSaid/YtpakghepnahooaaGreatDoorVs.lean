/- Structs of plain cells as lists of values. Plain lemmas. -/
import Derived.Test.YtpakghepnahooaaGreatDoorBox
import Derived.Test.YtpakghepnahooaaGreatDoorHProtected
set_option linter.unusedVariables false
set_option linter.unusedSimpArgs false
namespace Go.Proofs.YtpakghepnahooaaGreatDoor
open Go.RowKit
def RowF (w:World) (b off n:Nat) (f:Nat→Int):Prop:=∀ q,q<n→w.cell? ⟨b,off+q,none⟩=some (J (f q))
theorem RowF.set {w:World} {b off n:Nat} {f:Nat→Int} (h:RowF w b off n f) (i:Nat) (hi:i<n) (u:Int):RowF (w.setCell ⟨b,off+i,none⟩ (J u)) b off n (fun q=>if q=i then u else f q):=by
 intro q hq
 by_cases e:q=i
 ·subst e
  rw[World.cell?_setCell_same _ _ _ (h q hq)];simp
 ·rw[World.cell?_setCell_other _ _ _ _ (fun h=>by injection h with _ h;omega),h q hq];simp[e]
theorem RowF.below {w w':World} {b off n:Nat} {f:Nat→Int} (h:RowF w b off n f) (hb:OI w w w') (hl:b<w.heap.size):RowF w' b off n f:=fun q hq=>by
 rw[hb.cell (p:=⟨b,_,none⟩) hl];exact h q hq
theorem RowF.own {w:World} {b off n c m:Nat} {f:Nat→Int} {l:List Int} (h:RowF w b off n f) (hl:l.length=m) (hm:m≤n) (hc:n≤c) (hcm:c≤maxLen) (hf:∀ q (hq:q<l.length),f q=l[q]) (hfz:∀ i,w.frozen? ⟨b,i,none⟩=false) :
  ∃ fp,Own w (zam l) (IZ (some ⟨b,off,none⟩) m c) fp∧∀ y ∈ fp,y=b:=by
 by_cases e:l = []
 ·subst e
  exact⟨[],⟨zb7.2 ⟨_,m,c,rfl,by simpa using hl,II,hcm,Or.inl ⟨rfl,rfl⟩⟩,List.nodup_nil,fun b h=>by simp at h⟩,fun y hy=>by simp at hy⟩
 ·refine⟨[b],⟨zb7.2 ⟨_,m,c,rfl,by simpa using hl,II,hcm,Or.inr ⟨b,off,[],by simpa using e,rfl,rfl,?_⟩⟩,by simp,fun y hy i=>?_⟩,fun y hy=>by simpa using hy⟩
  ·have:=Reps.lits (w:=w) (l.map (Value.int .i64)) b off (fun i hi=>by
    have hi':i<l.length:=by simpa using hi
    rw[h i II,hf i hi'];simp)
   rw[List.map_map] at this;exact this
  ·obtain rfl:y=b:=by simpa using hy
   exact hfz i
def DSite.vs (x:DSite):List Value:=[IQ x.name,IQ x.holder,J x.place.x,J x.place.y]
theorem DSite.tr_vs (x:DSite):x.tr=x.vs.map .lit:=rfl
theorem DSite.vs_len (x:DSite):x.vs.length=4:=rfl
theorem DSite.vs_one (l:List DSite):∀ u ∈ l.flatMap DSite.vs,u.oneCell' = true:=by
 intro u hu;obtain⟨x,_,hx⟩:=List.mem_flatMap.1 hu;simp only[DSite.vs,List.mem_cons,List.not_mem_nil,or_false] at hx
 rcases hx with rfl|rfl|rfl|rfl<;>rfl
theorem DSite.sT_vs (l:List DSite):DSite.sT l=.sl 4 ((l.flatMap DSite.vs).map .lit):=by
 show Tr.sl 4 (l.flatMap DSite.tr)=_
 rw[flat_lits DSite.tr DSite.vs DSite.tr_vs]
def DSector.vs (x:DSector):List Value:=[IQ x.name,IQ x.site,IQ x.antenna,IQ x.radio,IQ x.band,J x.azimuth,J x.tilt,J x.above,J x.channel]
theorem DSector.tr_vs (x:DSector):x.tr=x.vs.map .lit:=rfl
theorem DSector.vs_len (x:DSector):x.vs.length=9:=rfl
theorem DSector.vs_one (l:List DSector):∀ u ∈ l.flatMap DSector.vs,u.oneCell' = true:=by
 intro u hu;obtain⟨x,_,hx⟩:=List.mem_flatMap.1 hu;simp only[DSector.vs,List.mem_cons,List.not_mem_nil,or_false] at hx
 rcases hx with rfl|rfl|rfl|rfl|rfl|rfl|rfl|rfl|rfl<;>rfl
theorem DSector.sT_vs (l:List DSector):DSector.sT l=.sl 9 ((l.flatMap DSector.vs).map .lit):=by
 show Tr.sl 9 (l.flatMap DSector.tr)=_
 rw[flat_lits DSector.tr DSector.vs DSector.tr_vs]
end Go.Proofs.YtpakghepnahooaaGreatDoor
