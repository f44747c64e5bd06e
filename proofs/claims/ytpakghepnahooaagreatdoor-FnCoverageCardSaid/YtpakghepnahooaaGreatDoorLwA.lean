/- Rows of levels: plain laws. No program. -/
import Derived.Test.YtpakghepnahooaaGreatDoorLvK
import Derived.Test.YtpakghepnahooaaGreatDoorNetG0
set_option linter.unusedVariables false
set_option linter.unusedSimpArgs false
namespace Go.Proofs.YtpakghepnahooaaGreatDoor
theorem terrB_ok {t:DTerrain} (h:zc0 t=true):TerrOk t:=by
 unfold zc0 at h;simp only[Bool.and_eq_true,decide_eq_true_eq,beq_iff_eq] at h;obtain⟨hs,hl,hc,ha,hb⟩:=h;unfold ze0 at hs;simp only[Bool.and_eq_true,decide_eq_true_eq] at hs;obtain⟨h1,h2,h3,h4⟩:=hs;obtain⟨a0,a1⟩:=zaq.1 h1;obtain⟨b0,b1⟩:=zaq.1 h2;obtain⟨c0,c1⟩:=zaq.1 h3;have m1:(t.width-1)*t.step≤max (t.width-1) (t.height-1)*t.step:=Int.mul_le_mul_of_nonneg_right II II;have m2:(t.height-1)*t.step≤max (t.width-1) (t.height-1)*t.step:=Int.mul_le_mul_of_nonneg_right II II;have m3:0≤(t.width-1)*t.step:=Int.mul_nonneg II II;have m4:0≤(t.height-1)*t.step:=Int.mul_nonneg II II;exact⟨a0,a1,b0,b1,c0,c1,⟨m3,II⟩,⟨m4,II⟩,hl,II,fun k=>all_gi ha II k,fun k=>all_gi hb II k⟩
def inTB (t:DTerrain) (p:DPoint):Bool:=inB p.x 0 ((t.width-1)*t.step)&&inB p.y 0 ((t.height-1)*t.step)
theorem inTB_true {t:DTerrain} {p:DPoint} : inTB t p=true↔inT t p:=by
 unfold inTB inT;rw[Bool.and_eq_true,zaq,zaq]
def samePB (p q:DPoint):Bool:=decide (p.x=q.x)&&decide (p.y=q.y)
theorem samePB_true {p q:DPoint} : samePB p q=true↔(p.x=q.x∧p.y=q.y):=by
 unfold samePB;rw[Bool.and_eq_true,decide_eq_true_eq,decide_eq_true_eq]
theorem samePB_false {p q:DPoint} : samePB p q=false↔¬ (p.x=q.x∧p.y=q.y):=by
 rw[← samePB_true];simp
def levI (t:DTerrain) (n:DNetwork) (x:DSector) (f:Int) (e:DEnd):Int :=
 eirpN n x (zfi (endR n x).place e.place) (pathE t (endR n x) e)-pathT t (endR n x) e f
def reachB (t:DTerrain) (n:DNetwork) (x:DSector) (e:DEnd):Bool:=inTB t (endR n x).place&&!samePB (endR n x).place e.place
theorem reachB_true {t:DTerrain} {n:DNetwork} {x:DSector} {e:DEnd} : reachB t n x e=true↔inT t (endR n x).place∧¬ ((endR n x).place.x=e.place.x∧(endR n x).place.y=e.place.y):=by
 unfold reachB;rw[Bool.and_eq_true,inTB_true,Bool.not_eq_true',samePB_false]
theorem sector_above {n:DNetwork} (h:netB n=true) {q:Nat} (hq:q<n.sectors.length):endP (endR n (zad n.sectors q)):=by
 obtain⟨ka,kr,hp⟩:=zc2 h hq;have hs:=hp.sec;unfold zag at hs;simp only[Bool.and_eq_true] at hs;exact zaq.1 hs.2.2.2.2.2.2.2.1
end Go.Proofs.YtpakghepnahooaaGreatDoor
namespace Go.Proofs.YtpakghepnahooaaGreatDoor
open Go.RowKit
theorem lw_take_succ {α:Type} (p:α→Bool) (l:List α) {k:Nat} (hk:k<l.length):(l.take (k+1)).all p=((l.take k).all p&&p l[k]):=by
 rw[List.take_succ_eq_append_getElem hk,List.all_append];simp
theorem lw_false_at {α:Type} {p:α→Bool} {l:List α} {k:Nat} (hk:k<l.length) (h:p l[k]=false):l.all p=false:=by
 rw[List.all_eq_false];exact⟨l[k],List.getElem_mem hk,by rw[h];decide⟩
theorem netB_sectors {n:DNetwork} (h:netB n=true) (k:Nat) (hk:k<n.sectors.length):∃ ks,∃ hks:ks<n.sites.length,zby n.sites (zad n.sectors k).site=(ks:Int):=site_of_sector h hk
end Go.Proofs.YtpakghepnahooaaGreatDoor
