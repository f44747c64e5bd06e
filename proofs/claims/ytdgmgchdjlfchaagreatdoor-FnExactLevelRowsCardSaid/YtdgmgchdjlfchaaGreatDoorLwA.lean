/- Rows of levels: plain laws. No program. -/
import Derived.Test.YtdgmgchdjlfchaaGreatDoorLvK
import Derived.Test.YtdgmgchdjlfchaaGreatDoorEirp5
set_option linter.unusedVariables false
set_option linter.unusedSimpArgs false
namespace Go.Proofs.YtdgmgchdjlfchaaGreatDoor
theorem terrB_ok {t:DTerrain} (h:zdr t=true):TerrOk t:=by
 unfold zdr at h;simp only[Bool.and_eq_true,decide_eq_true_eq,beq_iff_eq] at h;obtain⟨hs,hl,hc,ha,hb⟩:=h;unfold zeg at hs;simp only[Bool.and_eq_true,decide_eq_true_eq] at hs;obtain⟨h1,h2,h3,h4⟩:=hs;obtain⟨a0,a1⟩:=zaq.1 h1;obtain⟨b0,b1⟩:=zaq.1 h2;obtain⟨c0,c1⟩:=zaq.1 h3;have m1:(t.width-1)*t.step≤max (t.width-1) (t.height-1)*t.step:=Int.mul_le_mul_of_nonneg_right (by omega) (by omega);have m2:(t.height-1)*t.step≤max (t.width-1) (t.height-1)*t.step:=Int.mul_le_mul_of_nonneg_right (by omega) (by omega);have m3:0≤(t.width-1)*t.step:=Int.mul_nonneg (by omega) (by omega);have m4:0≤(t.height-1)*t.step:=Int.mul_nonneg (by omega) (by omega);exact⟨a0,a1,b0,b1,c0,c1,⟨m3,by omega⟩,⟨m4,by omega⟩,hl,by omega,fun k=>all_gi ha (by omega) k,fun k=>all_gi hb (by omega) k⟩
def inTB (t:DTerrain) (p:DPoint):Bool:=inB p.x 0 ((t.width-1)*t.step)&&inB p.y 0 ((t.height-1)*t.step)
theorem inTB_true {t:DTerrain} {p:DPoint} : inTB t p=true↔inT t p:=by
 unfold inTB inT;rw[Bool.and_eq_true,zaq,zaq]
theorem endB_true {e:DEnd} : endB e=true↔ptB e.place∧endP e:=by
 unfold endB zcs ptB endP;rw[Bool.and_eq_true,Bool.and_eq_true,zaq,zaq,zaq]
def samePB (p q:DPoint):Bool:=decide (p.x=q.x)&&decide (p.y=q.y)
theorem samePB_true {p q:DPoint} : samePB p q=true↔(p.x=q.x∧p.y=q.y):=by
 unfold samePB;rw[Bool.and_eq_true,decide_eq_true_eq,decide_eq_true_eq]
theorem samePB_false {p q:DPoint} : samePB p q=false↔¬ (p.x=q.x∧p.y=q.y):=by
 rw[← samePB_true];simp
def levI (t:DTerrain) (n:DNetwork) (x:DSector) (f:Int) (e:DEnd):Int :=
 eirpN n x (zdh (endR n x).place e.place) (zdz t (endR n x) e)-pathT t (endR n x) e f
def zca (t:DTerrain) (n:DNetwork) (x:DSector) (e:DEnd):Bool:=inTB t (endR n x).place&&!samePB (endR n x).place e.place
theorem reachB_true {t:DTerrain} {n:DNetwork} {x:DSector} {e:DEnd} : zca t n x e=true↔inT t (endR n x).place∧¬ ((endR n x).place.x=e.place.x∧(endR n x).place.y=e.place.y):=by
 unfold zca;rw[Bool.and_eq_true,inTB_true,Bool.not_eq_true',samePB_false]
theorem sector_above {n:DNetwork} (h:netB n=true) {q:Nat} (hq:q<n.sectors.length):endP (endR n (zah n.sectors q)):=by
 obtain⟨ka,kr,hp⟩:=zej h hq;have hs:=hp.sec;unfold zal at hs;simp only[Bool.and_eq_true] at hs;exact zaq.1 hs.2.2.2.2.2.2.2.1
end Go.Proofs.YtdgmgchdjlfchaaGreatDoor
namespace Go.Proofs.YtdgmgchdjlfchaaGreatDoor
open Go.RowKit
def clipI (z:Int):Int:=min (max z (-300000)) 300000
theorem clipI_bd (z:Int):-300000≤clipI z∧clipI z≤300000:=by unfold clipI;omega
theorem clipI_other (z:Int):max (-300000) (min 300000 z)=clipI z:=by unfold clipI;omega
def rowL (t:DTerrain) (n:DNetwork) (f:Int) (e:DEnd):List Int:=n.sectors.map fun x=>clipI (levI t n x f e)
theorem rowL_len (t:DTerrain) (n:DNetwork) (f:Int) (e:DEnd):(rowL t n f e).length=n.sectors.length:=by simp[rowL]
theorem rowL_take (t:DTerrain) (n:DNetwork) (f:Int) (e:DEnd) {k:Nat} (hk:k<n.sectors.length):((rowL t n f e).take (k+1)).map intT=((rowL t n f e).take k).map intT++[intT (clipI (levI t n (zah n.sectors k) f e))]:=by
 have h:k<(rowL t n f e).length:=by rw[rowL_len];exact hk
 rw[List.take_succ_eq_append_getElem h,List.map_append];simp only[rowL,List.getElem_map,za5 hk,List.map_cons,List.map_nil]
def zbx (t:DTerrain) (n:DNetwork) (e:DEnd):Bool:=(n.sectors.all fun x=>zca t n x e)&&decide (0<n.sectors.length)
theorem reachA_true {t:DTerrain} {n:DNetwork} {e:DEnd} (h:zbx t n e=true):0<n.sectors.length∧∀ k,k<n.sectors.length→zca t n (zah n.sectors k) e=true:=by
 unfold zbx at h;rw[Bool.and_eq_true,decide_eq_true_eq,List.all_eq_true] at h;refine⟨by omega,fun k hk=>?_⟩;rw[← za5 hk];exact h.1 _ (List.getElem_mem hk)
theorem zcn {α:Type} (p:α→Bool) (l:List α) {k:Nat} (hk:k<l.length):(l.take (k+1)).all p=((l.take k).all p&&p l[k]):=by
 rw[List.take_succ_eq_append_getElem hk,List.all_append];simp
theorem zcq {α:Type} {p:α→Bool} {l:List α} {k:Nat} (hk:k<l.length) (h:p l[k]=false):l.all p=false:=by
 rw[List.all_eq_false];exact⟨l[k],List.getElem_mem hk,by rw[h];decide⟩
def gEnd (l:List DEnd) (k:Nat):DEnd:=l.getD k ⟨⟨0,0⟩,0⟩
theorem zcr {l:List DEnd} {k:Nat} (h:k<l.length):l[k]=gEnd l k:=by simp[gEnd,h]
def za6 (t:DTerrain) (n:DNetwork) (f:Int) (l:List DEnd):List (List Int) × Int :=
 if zdr t=true∧netB n=true∧l.all endB=true then
  (if inB f 1 100000000=true∧(1≤l.length∧l.length≤32)∧(l.all fun e=>za9 t e.place)=true then
   (if (l.all fun e=>zbx t n e)=true then (l.map (rowL t n f),0) else ([],6))
  else ([],2)) else ([],1)
theorem zeu {n:DNetwork} (h:netB n=true) (k:Nat) (hk:k<n.sectors.length):∃ ks,∃ hks:ks<n.sites.length,zck n.sites (zah n.sectors k).site=(ks:Int):=site_of_sector h hk
end Go.Proofs.YtdgmgchdjlfchaaGreatDoor
