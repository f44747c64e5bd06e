/- Samples are restored from their text; what bounds a fit. Plain. No program. -/
import Derived.Test.YtpodllefipleiaaGreatDoorTn1
import Derived.Test.YtpodllefipleiaaGreatDoorTx3
set_option linter.unusedVariables false
set_option linter.unusedSimpArgs false
namespace Go.Proofs.YtpodllefipleiaaGreatDoor
theorem splitC_join (c:UInt8):(l:List (List UInt8))→(hne:l≠[])→(h:∀ p ∈ l,c ∉ p)→zah c (Go.Lib.join l [c])=l
 | [],hne,_=>absurd rfl hne
 | [p],_,h=>by rw[Go.Lib.join_one];exact splitC_plain c p (h p (by simp))
 | p::q::r,_,h=>by
  have e:Go.Lib.join (p::q::r) [c]=p++c::Go.Lib.join (q::r) [c]:=by simp[Go.Lib.join_cons,Go.Lib.joinTail]
  rw[e,splitC_app c p _ (h p (by simp)),splitC_join c (q::r) (by simp) (fun x hx=>h x (List.mem_cons_of_mem _ hx))]
theorem itoa_no {v:Int} {c:UInt8} (h1:c≠45) (h2:isD c=false):c ∉ Go.Lib.itoa v:=fun h=>by
 rcases itoa_mem h with e|e
 ·exact h1 e
 ·rw[h2] at e;cases e
theorem smpS_back {x:DSample} (h:smpB x=true):smpS (zac x)=some x:=by
 unfold smpB inB at h;simp only[Bool.and_eq_true,decide_eq_true_eq] at h;unfold smpS zac;rw[splitC_app 58 _ _ (itoa_no (by decide) (by decide)),splitC_plain 58 _ (itoa_no (by decide) (by decide))];simp only[num_itoa x.distance (by omega),num_itoa x.level (by omega)]
theorem optAll_back {α:Type} {f:List UInt8→Option α} {t:α→List UInt8} {l:List α} (h:∀ x ∈ l,f (t x)=some x):zal f (l.map t)=some l:=by
 induction l with
 | nil=>rfl
 | cons x l ih=>rw[List.map_cons,zal,h x (by simp),ih (fun y hy=>h y (by simp[hy]))]
theorem smpText_no (x:DSample):(32:UInt8) ∉ zac x:=fun h=>by
 unfold zac at h
 rcases List.mem_append.1 h with h|h
 ·exact itoa_no (by decide) (by decide) h
 ·rcases List.mem_cons.1 h with e|h
  ·exact absurd e (by decide)
  ·exact itoa_no (by decide) (by decide) h
theorem samples_back {l:List DSample} (h:za9 l=true) (hne:l≠[]):zas (zab l)=some l:=by
 have h2:=h;unfold za9 at h2;rw[Bool.and_eq_true,decide_eq_true_eq,List.all_eq_true] at h2;have e:zab l=Go.Lib.join (l.map zac) [32]:=by unfold zab;rw[if_pos h,if_neg hne]
 have hs:zah 32 (zab l)=l.map zac:=by
  rw[e]
  exact splitC_join 32 _ (by simpa using hne) (fun p hp=>by
   obtain⟨x,_,rfl⟩:=List.mem_map.1 hp
   exact smpText_no x)
 have ho:=optAll_back (f:=smpS) (t:=zac) (l:=l) (fun x hx=>smpS_back (h2.2 x hx));have hN:zab l≠NONE:=fun e2=>by
  rw[e2] at hs;rw[← hs] at ho;have:zal smpS (zah 32 NONE)=none:=rfl;rw[this] at ho
  cases ho
 rw[samplesR_eq];unfold samplesS;rw[if_neg hN,hs,if_neg (by rw[List.length_map];omega),ho];show (if za9 l=true then some l else none)=some l
 rw[if_pos h]
def pts (l:List DSample):List (Int × Int):=l.map fun x=>(lgI x.distance,x.level)
theorem pts_len (l:List DSample):(pts l).length=l.length:=List.length_map _
theorem sumM_app {α:Type} (l r:List α) (f:α→Int):sumM (l++r) f=sumM l f+sumM r f:=by unfold sumM;rw[List.map_append,List.sum_append]
theorem sumM_bd {α:Type} (l:List α) (f:α→Int) (m:Int) (h:∀ x ∈ l,-m≤f x∧f x≤m):-((l.length:Int)*m)≤sumM l f∧sumM l f≤(l.length:Int)*m:=by
 have h1:=sumM_le l f (fun _=>m) (fun x hx=>(h x hx).2);have h2:=sumM_le l (fun _=>-m) f (fun x hx=>(h x hx).1);rw[sumM_const] at h1 h2;have e:(l.length:Int) * -m = -((l.length:Int)*m):=Int.mul_neg _ _;omega
theorem sq_ge (a:Int):a≤a*a∧-a≤a*a:=by
 rcases Int.lt_or_le a 0 with h|h
 ·have:(-a)*1≤(-a)*(-a):=Int.mul_le_mul_of_nonneg_left (by omega) (by omega)
  rw[Int.neg_mul_neg] at this;omega
 ·by_cases h0:a=0
  ·subst h0;simp
  ·have:a*1≤a*a:=Int.mul_le_mul_of_nonneg_left (by omega) (by omega)
   omega
theorem ab_bd {a b M:Int} (hM:0≤M) (h1:-M≤b) (h2:b≤M):-(M*(a*a))≤a*b∧a*b≤M*(a*a):=by
 have hs:=sq_ge a;have k1:=Int.mul_le_mul_of_nonneg_left hs.1 hM;have k2:=Int.mul_le_mul_of_nonneg_left hs.2 hM;rw[Int.mul_neg] at k2
 rcases Int.le_total 0 a with h|h
 ·have j1:=Int.mul_le_mul_of_nonneg_left h2 h
  have j2:=Int.mul_le_mul_of_nonneg_left h1 h;rw[Int.mul_neg] at j2;rw[Int.mul_comm a M] at j1 j2;omega
 ·have j1:=Int.mul_le_mul_of_nonneg_left h2 (show 0≤-a by omega)
  have j2:=Int.mul_le_mul_of_nonneg_left h1 (show 0≤-a by omega);rw[Int.neg_mul_neg,Int.neg_mul] at j2;rw[Int.neg_mul,Int.neg_mul] at j1;rw[Int.mul_comm a M] at j1 j2;omega
theorem cov_bd (l:List (Int × Int)) {K:Int} (hK:0≤K) (h:∀ x ∈ l,-K≤x.2∧x.2≤K) :
  -(2*K*((l.length:Int)*sDD l-sD l*sD l))≤(l.length:Int)*sDY l-sD l*sY l∧(l.length:Int)*sDY l-sD l*sY l≤2*K*((l.length:Int)*sDD l-sD l*sD l):=by
 induction l with
 | nil=>simp[sDD,sD,sDY,sY,sumM]
 | cons p l ih =>
  obtain⟨d,y⟩:=p;have hy:=h (d,y) (by simp);have ih':=ih (fun x hx=>h x (by simp[hx]));have s1:∀ l:List (Int × Int),sumM l (fun q=>(d-q.1)*(d-q.1))=(l.length:Int)*(d*d)-2*(d*sD l)+sDD l:=fun l=>by
   unfold sD sDD
   induction l with
   | nil=>simp[sumM]
   | cons q l ih=>rw[zaa,zaa,zaa,ih,List.length_cons];grind
  have s2:∀ l:List (Int × Int),sumM l (fun q=>(d-q.1)*(y-q.2))=(l.length:Int)*(d*y)-d*sY l-y*sD l+sDY l:=fun l=>by
   unfold sD sY sDY
   induction l with
   | nil=>simp[sumM]
   | cons q l ih=>rw[zaa,zaa,zaa,zaa,ih,List.length_cons];grind
  have b1:=sumM_le l (fun q=>(d-q.1)*(y-q.2)) (fun q=>(2*K)*((d-q.1)*(d-q.1))) (fun q hq=>by
   have:=h q (by simp[hq])
   exact (ab_bd (by omega) (by omega) (by omega)).2)
  have b2:=sumM_le l (fun q=>-(2*K*((d-q.1)*(d-q.1)))) (fun q=>(d-q.1)*(y-q.2)) (fun q hq=>by
   have:=h q (by simp[hq])
   exact (ab_bd (by omega) (by omega) (by omega)).1)
  have e1:∀ l:List (Int × Int),sumM l (fun q=>(2*K)*((d-q.1)*(d-q.1)))=2*K*sumM l (fun q=>(d-q.1)*(d-q.1)):=fun l=>by
   induction l with
   | nil=>simp[sumM]
   | cons q l ih=>rw[zaa,zaa,ih,Int.mul_add]
  have e2:∀ l:List (Int × Int),sumM l (fun q=>-(2*K*((d-q.1)*(d-q.1)))) = -(2*K*sumM l (fun q=>(d-q.1)*(d-q.1))):=fun l=>by
   induction l with
   | nil=>simp[sumM]
   | cons q l ih=>rw[zaa,zaa,ih,Int.mul_add];omega
  rw[e1,s1,s2] at b1;rw[e2,s1,s2] at b2;unfold sD sY sDD sDY at *;simp only[zaa,List.length_cons];generalize sumM l (fun x=>x.1)=X at *;generalize sumM l (fun x=>x.2)=Y at *;generalize sumM l (fun x=>x.1*x.1)=U at *;generalize sumM l (fun x=>x.1*x.2)=V at *;have en:((l.length+1:Nat):Int)=(l.length:Int)+1:=by omega
  rw[en];generalize (l.length:Int)=n at *;have q1:(n+1)*(d*d+U)-(d+X)*(d+X)=(n*U-X*X)+(n*(d*d)-2*(d*X)+U):=by grind
  have q2:(n+1)*(d*y+V)-(d+X)*(y+Y)=(n*V-X*Y)+(n*(d*y)-d*Y-y*X+V):=by grind
  rw[q1,q2,Int.mul_add];omega
theorem rdiv_one {a D:Int} (hD:0<D) (h1:-(600000000*D)≤a) (h2:a≤600000000*D):-600000001≤rdiv a D∧rdiv a D≤600000001:=by
 have h:=rdiv_two a hD;generalize rdiv a D=s at *
 constructor
 ·rcases Int.lt_or_le s (-600000001) with hlt|hge
  ·have:=Int.mul_le_mul_of_nonneg_left (show s≤-600000002 by omega) (Int.le_of_lt hD)
   omega
  ·exact hge
 ·rcases Int.lt_or_le 600000001 s with hlt|hge
  ·have:=Int.mul_le_mul_of_nonneg_left (show 600000002≤s by omega) (Int.le_of_lt hD)
   omega
  ·exact hge
theorem slope_bd (l:List (Int × Int)) (h:∀ x ∈ l,-300000≤x.2∧x.2≤300000) (hD:(l.length:Int)*sDD l≠sD l*sD l):-600000001≤zan l∧zan l≤600000001:=by
 have hp:=slope_pos l;have hc:=cov_bd l (K:=300000) (by omega) h;unfold zan;generalize hE:(l.length:Int)*sDD l-sD l*sD l=D at *;generalize (l.length:Int)*sDY l-sD l*sY l=C at *;have hD':0<D:=by omega
 exact rdiv_one hD' (by omega) (by omega)
end Go.Proofs.YtpodllefipleiaaGreatDoor
