/- The fit of samples and the deviation of samples from a fit: what the program computes, and the law of P30. Plain. No program. -/
import Derived.Test.YtpodllefipleiaaGreatDoorTn0
import Derived.Test.YtpodllefipleiaaGreatDoorLv0
set_option linter.unusedVariables false
set_option linter.unusedSimpArgs false
namespace Go.Proofs.YtpodllefipleiaaGreatDoor
theorem rdiv_two (a:Int) {b:Int} (hb:0<b):-b≤2*(b*rdiv a b-a)∧2*(b*rdiv a b-a)≤b:=by
 unfold rdiv
 split
 ·have h1:=Int.mul_ediv_add_emod (b-2*a) (2*b)
  have h2:=Int.emod_nonneg (b-2*a) (show 2*b≠0 by omega);have h3:=Int.emod_lt_of_pos (b-2*a) (show 0<2*b by omega);generalize (b-2*a) / (2*b)=t at *;generalize (b-2*a) % (2*b)=r at *;have e:b * -t = -(b*t):=Int.mul_neg _ _;have e2:2*b*t=2*(b*t):=Int.mul_assoc _ _ _;rw[e];rw[e2] at h1;omega
 ·have h1:=Int.mul_ediv_add_emod (2*a+b) (2*b)
  have h2:=Int.emod_nonneg (2*a+b) (show 2*b≠0 by omega);have h3:=Int.emod_lt_of_pos (2*a+b) (show 0<2*b by omega);generalize (2*a+b) / (2*b)=t at *;generalize (2*a+b) % (2*b)=r at *;have e2:2*b*t=2*(b*t):=Int.mul_assoc _ _ _;rw[e2] at h1;omega
def zan (l:List (Int × Int)):Int:=rdiv (-1000*((l.length:Int)*sDY l-sD l*sY l)) ((l.length:Int)*sDD l-sD l*sD l)
def offF (l:List (Int × Int)):Int:=rdiv (1000*sY l+zan l*sD l) (1000*(l.length:Int))
def levF (o s d:Int):Int:=o-rdiv (s*d) 1000
def difF (o s:Int) (x:Int × Int):Int:=x.2-levF o s x.1
def devF (l:List (Int × Int)) (o s:Int):Int:=isq (sumM l (fun x=>difF o s x*difF o s x) / (l.length:Int))
theorem dif_bd (o s:Int) (x:Int × Int):-500≤1000*difF o s x-za3 o s x∧1000*difF o s x-za3 o s x≤500:=by
 have h:=rdiv_two (s*x.1) (b:=1000) (by decide);unfold difF levF za3;omega
theorem slope_pos (l:List (Int × Int)):0≤(l.length:Int)*sDD l-sD l*sD l:=by
 have h:=cs l (fun _=>1) (fun x=>x.1);have e:sumM l (fun _=>(1:Int)*1)=(l.length:Int):=by rw[sumM_const];omega
 have e2:sumM l (fun x=>(1:Int)*x.1)=sD l:=by unfold sD;congr 1;funext x;omega
 rw[e,e2] at h;unfold sDD;omega
theorem fit_law (l:List (Int × Int)) (hn:0<l.length) (hD:(l.length:Int)*sDD l≠sD l*sD l) (o2 s2:Int):devF l (offF l) (zan l)≤devF l o2 s2+30:=by
 have hn':(0:Int)<(l.length:Int):=by omega
 have hp:=slope_pos l;have hD':0<(l.length:Int)*sDD l-sD l*sD l:=by omega
 have b1:=rdiv_two (-1000*((l.length:Int)*sDY l-sD l*sY l)) hD';have b0:=rdiv_two (1000*sY l+zan l*sD l) (b:=1000*(l.length:Int)) (by omega)
 have hb:=fit_best l hn (offF l) (zan l) (by
  unfold offF;generalize rdiv (1000*sY l+zan l*sD l) (1000*(l.length:Int))=o at *
  omega) hD' (by
  unfold zan;generalize rdiv (-1000*((l.length:Int)*sDY l-sD l*sY l)) ((l.length:Int)*sDD l-sD l*sD l)=s at *;rw[Int.mul_comm s]
  omega) o2 s2
 have q1:=zbt l (fun x=>difF (offF l) (zan l) x*difF (offF l) (zan l) x) fun y _=>sq_nn _
 have q2:=zbt l (fun x=>difF o2 s2 x*difF o2 s2 x) fun y _=>sq_nn _
 have i1:=isq_spec (Int.ediv_nonneg q1 (Int.le_of_lt hn'));have i2:=isq_spec (Int.ediv_nonneg q2 (Int.le_of_lt hn'));refine fit_roots l hn _ _ o2 s2 hb (difF (offF l) (zan l)) (difF o2 s2) (fun x _=>dif_bd _ _ x) (fun x _=>dif_bd _ _ x) _ _ (zbq _) (zbq _) ?_ ?_
 ·have h1:=Int.mul_le_mul_of_nonneg_left i1.1 (Int.le_of_lt hn')
  have h2:=Int.mul_ediv_self_le (x:=sumM l (fun x=>difF (offF l) (zan l) x*difF (offF l) (zan l) x)) (k:=(l.length:Int)) (by omega);exact Int.le_trans h1 h2
 ·have h1:sumM l (fun x=>difF o2 s2 x*difF o2 s2 x) / (l.length:Int)+1≤(devF l o2 s2+1)*(devF l o2 s2+1):=i2.2
  have h2:=Int.mul_le_mul_of_nonneg_left h1 (Int.le_of_lt hn');have h3:=Int.lt_mul_ediv_self_add (x:=sumM l (fun x=>difF o2 s2 x*difF o2 s2 x)) hn';rw[Int.mul_add,Int.mul_one] at h2;omega
end Go.Proofs.YtpodllefipleiaaGreatDoor
