/- Rounded quotients, roots, logarithms. Plain lemmas; no program. -/
import Derived.Test.YtpakghepnahooaaGreatDoorSh
import Derived.Lib.ItoaNum
set_option linter.unusedVariables false
set_option linter.unusedSimpArgs false
namespace Go.Proofs.YtpakghepnahooaaGreatDoor
theorem Q47 {p:Prop} (h:p:=by decide):p:=h
def rdiv (a b:Int):Int:=if a<0 then -((b-2*a) / (2*b)) else (2*a+b) / (2*b)
theorem rdiv_nonneg {a b:Int} (hb:0<b) (ha:0≤a):rdiv a b=a / b+if b-a % b≤a % b then 1 else 0:=by
 unfold rdiv;rw[if_neg II];have h1:=Int.mul_ediv_add_emod a b;have h2:=Int.emod_nonneg a (show b≠0 by omega);have h3:=Int.emod_lt_of_pos a hb;generalize hq:a / b=q at *;generalize hr:a % b=r at *;have e:2*a+b=(2*r+b)+(2*b)*q:=by
  rw[← h1,Int.mul_add,Int.mul_assoc];omega
 rw[e,Int.add_mul_ediv_left _ _ (show 2*b≠0 by omega),Int.add_comm]
 congr 1
 split
 ·rw[show 2*r+b=(2*r-b)+(2*b)*1 by omega,Int.add_mul_ediv_left _ _ (show 2*b≠0 by omega),Int.ediv_eq_zero_of_lt II II];rfl
 ·exact Int.ediv_eq_zero_of_lt II II
theorem rdiv_neg {a b:Int} (hb:0<b):rdiv (-a) b = -rdiv a b:=by
 unfold rdiv
 by_cases h0:a=0
 ·subst h0
  have:b / (2*b)=0:=Int.ediv_eq_zero_of_lt II II;simp[this]
 ·by_cases h1:a<0
  ·rw[if_neg II,if_pos h1,Int.neg_neg,show 2 * -a+b=b-2*a by omega]
  ·rw[if_pos II,if_neg h1,show b-2 * -a=2*a+b by omega]
theorem rdiv_bd {a b:Int} (hb:0<b) (m:Int) (h0:-m≤a) (h1:a≤m):-(m+1)≤rdiv a b∧rdiv a b≤m+1:=by
 have key:∀ a:Int,0≤a→0≤rdiv a b∧rdiv a b≤a+1:=by
  intro a ha;rw[rdiv_nonneg hb ha];have h1:0≤a / b:=Int.ediv_nonneg ha II;have h2:a / b≤a:=Int.ediv_le_self b ha
  split<;>omega
 by_cases ha:0≤a
 ·have:=key a ha;omega
 ·have:=key (-a) II
  rw[show a = -(-a) by omega,rdiv_neg hb];omega
def isqN (n:Nat):Nat:=if h:n=0 then 0 else
 let r:=2*isqN (n / 4)
 if (r+1)*(r+1)≤n then r+1 else r
termination_by n
decreasing_by omega
theorem isqN_spec (n:Nat):isqN n*isqN n≤n∧n<(isqN n+1)*(isqN n+1):=by
 induction n using Nat.strongRecOn with
 | _ n ih =>
  rw[isqN]
  split
  ·rename_i h;subst h;exact⟨Nat.le_refl _,by decide⟩
  ·rename_i h
   obtain⟨h1,h2⟩:=ih (n / 4) II;generalize isqN (n / 4)=s at *;have e1:2*s*(2*s)=4*(s*s):=by rw[Nat.mul_mul_mul_comm]
   have e2:(2*s+1)*(2*s+1)=4*(s*s)+4*s+1:=by
    simp only[Nat.add_mul,Nat.mul_add,Nat.one_mul,Nat.mul_one];omega
   have e3:(s+1)*(s+1)=s*s+2*s+1:=by
    simp only[Nat.add_mul,Nat.mul_add,Nat.one_mul,Nat.mul_one];omega
   have e4:(2*s+1+1)*(2*s+1+1)=4*(s*s)+8*s+4:=by
    simp only[Nat.add_mul,Nat.mul_add,Nat.one_mul,Nat.mul_one];omega
   generalize s*s=ss at *;simp only[]
   split
   ·exact⟨II,II⟩
   ·exact⟨II,II⟩
def isq (n:Int):Int:=(isqN n.toNat:Int)
theorem ze7 (n:Int):0≤isq n:=by unfold isq;omega
theorem isq_spec {n:Int} (h:0≤n):isq n*isq n≤n∧n<(isq n+1)*(isq n+1):=by
 have ⟨h1,h2⟩:=isqN_spec n.toNat;unfold isq;have e:((n.toNat:Nat):Int)=n:=II
 constructor
 ·have:((isqN n.toNat*isqN n.toNat:Nat):Int)≤((n.toNat:Nat):Int):=II
  rw[Int.natCast_mul,e] at this;exact this
 ·have:((n.toNat:Nat):Int)<(((isqN n.toNat+1)*(isqN n.toNat+1):Nat):Int):=II
  rw[Int.natCast_mul,e] at this
  simpa using this
theorem isq_neg {n:Int} (h:n<0):isq n=0:=by
 unfold isq;rw[show n.toNat=0 by omega,isqN];simp
theorem sq_le_sq {a b:Int} (h0:0≤a) (h:a≤b):a*a≤b*b:=Int.mul_le_mul h h h0 II
theorem isq_le {n m:Int} (h:n<(m+1)*(m+1)) (hm:0≤m):isq n≤m:=by
 by_cases hn:0≤n
 ·have ⟨h1,_⟩:=isq_spec hn
  by_cases hc:isq n≤m
  ·exact hc
  ·have:=sq_le_sq (show 0≤m+1 by omega) (show m+1≤isq n by omega);omega
 ·rw[isq_neg II];omega
theorem isq_ge {n m:Int} (h:m*m≤n) (hm:0≤m):m≤isq n:=by
 have hn:0≤n:=Int.le_trans (Int.mul_nonneg hm hm) h;have ⟨_,h2⟩:=isq_spec hn
 by_cases hc:m≤isq n
 ·exact hc
 ·have:=sq_le_sq (show 0≤isq n+1 by have:=ze7 n;omega) (show isq n+1≤m by omega);omega
def tms (a b:Int):Int:=if 1000000000≤a*b / 100000000 then a*b / 100000000 / 10 else a*b / 100000000
def tmx (a b:Int):Int:=if 1000000000≤a*b / 100000000 then 1 else 0
def Sc (x:Int):Prop:=100000000≤x∧x≤999999999
theorem sc_mul {a b:Int} (ha:Sc a) (hb:Sc b):10000000000000000≤a*b∧a*b≤999999998000000001:=by
 constructor
 ·have:=Int.mul_le_mul ha.1 hb.1 Q47 (by have:=ha.1;omega);exact this
 ·have:=Int.mul_le_mul ha.2 hb.2 (by have:=hb.1;omega) Q47;exact this
theorem tms_sc {a b:Int} (ha:Sc a) (hb:Sc b):Sc (tms a b):=by
 have ⟨h1,h2⟩:=sc_mul ha hb;unfold tms Sc;generalize a*b=p at *
 split<;>omega
theorem tmx_bd (a b:Int):0≤tmx a b∧tmx a b≤1:=by unfold tmx;split<;>omega
def tenN (x:Int):Int:=tms (tms (tms (tms x x) (tms x x)) x) (tms (tms (tms x x) (tms x x)) x)
def tenX (x:Int):Int:=2*(2*tmx x x+tmx (tms x x) (tms x x)+tmx (tms (tms x x) (tms x x)) x)+tmx (tms (tms (tms x x) (tms x x)) x) (tms (tms (tms x x) (tms x x)) x)
theorem tenN_sc {x:Int} (h:Sc x):Sc (tenN x):=by
 have h2:=tms_sc h h;have h5:=tms_sc (tms_sc h2 h2) h;exact tms_sc h5 h5
theorem tenX_bd (x:Int):0≤tenX x∧tenX x≤9:=by
 unfold tenX;have a:=tmx_bd x x;have b:=tmx_bd (tms x x) (tms x x);have c:=tmx_bd (tms (tms x x) (tms x x)) x;have d:=tmx_bd (tms (tms (tms x x) (tms x x)) x) (tms (tms (tms x x) (tms x x)) x);omega
def zej:Nat→Int→Int→Int × Int
 | 0,x,r=>(x,r)
 | k+1,x,r=>((tenN (zej k x r).1),10*(zej k x r).2+tenX (zej k x r).1)
theorem logIt_sc {x r:Int} (h:Sc x):∀ k,Sc (zej k x r).1
 | 0=>h
 | k+1=>tenN_sc (logIt_sc h k)
theorem logIt_bd {x r:Int} (m:Nat) (h0:0≤r) (h1:r≤m):∀ k,0≤(zej k x r).2∧(zej k x r).2<(m+1)*10 ^ k
 | 0=>by simp[zej];omega
 | k+1=>by
  have ⟨a,b⟩:=logIt_bd (x:=x) m h0 h1 k;have c:=tenX_bd (zej k x r).1;show 0≤10*(zej k x r).2+tenX (zej k x r).1∧10*(zej k x r).2+tenX (zej k x r).1<(m+1)*10 ^ (k+1)
  rw[Int.pow_succ,← Int.mul_assoc];omega
def nrm (n r:Nat):Int:=if r≤8 then ((n*10 ^ (8-r):Nat):Int) else ((n / 10 ^ (r-8):Nat):Int)
def ndg (n:Int):Nat:=Go.Lib.nDigits n.toNat-1
theorem ndg_spec {n:Int} (h:1≤n):10 ^ ndg n≤n.toNat∧n.toNat<10 ^ (ndg n+1):=by
 unfold ndg;have key:∀ u:Nat,1≤u→10 ^ (Go.Lib.nDigits u-1)≤u:=by
  intro u
  induction u using Nat.strongRecOn with
  | _ u ih =>
   intro hu
   by_cases h10:u<10
   ·rw[Go.Lib.nDigits_small h10];simpa using hu
   ·rw[Go.Lib.nDigits_big h10]
    have:=ih (u / 10) II II;have hp:=Go.Lib.nDigits_pos (u / 10);rw[show Go.Lib.nDigits (u / 10)+1-1=(Go.Lib.nDigits (u / 10)-1)+1 by omega,Nat.pow_succ];omega
 have hp:=Go.Lib.nDigits_pos n.toNat;have hl:=Go.Lib.lt_pow_nDigits n.toNat;exact⟨key _ II,by rw[show Go.Lib.nDigits n.toNat-1+1=Go.Lib.nDigits n.toNat by omega];exact hl⟩
theorem nrm_sc {n:Int} (h:1≤n):Sc (nrm n.toNat (ndg n)):=by
 obtain⟨h1,h2⟩:=ndg_spec h;generalize ndg n=r at *;generalize n.toNat=u at *;unfold nrm Sc
 split
 ·rename_i hr
  have e:(10:Nat) ^ r*10 ^ (8-r)=100000000:=by rw[← Nat.pow_add,show r+(8-r)=8 by omega]
  have e2:(10:Nat) ^ (r+1)*10 ^ (8-r)=1000000000:=by rw[← Nat.pow_add,show r+1+(8-r)=9 by omega]
  have a:=Nat.mul_le_mul_right (10 ^ (8-r)) h1;have b:=(Nat.mul_lt_mul_right (show 0<10 ^ (8-r) from Nat.pow_pos II)).2 h2;rw[e] at a;rw[e2] at b;omega
 ·rename_i hr
  have e:(10:Nat) ^ r=100000000*10 ^ (r-8):=by
   rw[show (100000000:Nat)=10 ^ 8 from rfl,← Nat.pow_add,show 8+(r-8)=r by omega]
  have e2:(10:Nat) ^ (r+1)=10 ^ (r-8)*1000000000:=by
   rw[show (1000000000:Nat)=10 ^ 9 from rfl,← Nat.pow_add,show r-8+9=r+1 by omega]
  rw[e] at h1;rw[e2] at h2;have hp:0<10 ^ (r-8):=Nat.pow_pos II;have a:100000000≤u / 10 ^ (r-8):=(Nat.le_div_iff_mul_le hp).2 h1;have b:u / 10 ^ (r-8)<1000000000:=Nat.div_lt_of_lt_mul h2;omega
def lgB (n:Int):Int:=(zej 4 (nrm n.toNat (ndg n)) (ndg n)).2
def lgI (n:Int):Int:=if n<1 then 0 else lgB n
theorem ndg_le {n:Int} (h:1≤n) (h2:n≤9223372036854775807):ndg n≤18:=by
 obtain⟨h1,_⟩:=ndg_spec h
 by_cases hc:ndg n≤18
 ·exact hc
 ·have:=Nat.pow_le_pow_right (show 0<10 by omega) (show 19≤ndg n by omega)
  omega
theorem lgB_bd {n:Int} (h:1≤n) (h2:n≤9223372036854775807):0≤lgB n∧lgB n<190000:=by
 have:=logIt_bd (x:=nrm n.toNat (ndg n)) 18 (r:=ndg n) II (by have:=ndg_le h h2;omega) 4;unfold lgB;omega
theorem lgI_bd {n:Int} (h2:n≤9223372036854775807):0≤lgI n∧lgI n<190000:=by
 unfold lgI
 split
 ·omega
 ·exact lgB_bd II h2
def lineR (x0 y0 x1 y1 x:Int):Int:=if x≤x0∨x1≤x0 then y0 else (if x1≤x then y1 else y0+rdiv ((y1-y0)*(x-x0)) (x1-x0))
end Go.Proofs.YtpakghepnahooaaGreatDoor
