/- Fits of samples: a fit by rounded least squares leaves almost the least deviation. Plain laws. No program. -/
import Derived.Test.YtpodllefipleiaaGreatDoorMem
set_option linter.unusedVariables false
set_option linter.unusedSimpArgs false
namespace Go.Proofs.YtpodllefipleiaaGreatDoor
theorem sq_le_imp {p q:Int} (hp:0≤p) (h:q*q≤p*p):q≤p:=by
 rcases Int.lt_or_le p q with hlt|hge
 ·have a:p*p≤p*q:=Int.mul_le_mul_of_nonneg_left (Int.le_of_lt hlt) hp
  have b:p*q<q*q:=Int.mul_lt_mul_of_pos_right hlt (by omega);omega
 ·exact hge
theorem sq_nn (a:Int):0≤a*a:=by
 rcases Int.le_total 0 a with h|h
 ·exact Int.mul_nonneg h h
 ·exact Int.mul_nonneg_of_nonpos_of_nonpos h h
theorem cs_step {A B C u v:Int} (hA:0≤A) (hB:0≤B) (h:C*C≤A*B):(C+u*v)*(C+u*v)≤(A+u*u)*(B+v*v):=by
 have hp:0≤A*(v*v)+B*(u*u):=Int.add_nonneg (Int.mul_nonneg hA (sq_nn v)) (Int.mul_nonneg hB (sq_nn u));have h1:(2*C*(u*v))*(2*C*(u*v))≤(A*(v*v)+B*(u*u))*(A*(v*v)+B*(u*u)):=by
  have e1:(2*C*(u*v))*(2*C*(u*v))=4*((C*C)*((u*v)*(u*v))):=by grind
  have e2:(A*(v*v)+B*(u*u))*(A*(v*v)+B*(u*u))=4*((A*B)*((u*v)*(u*v)))+(A*(v*v)-B*(u*u))*(A*(v*v)-B*(u*u)):=by grind
  have e3:=Int.mul_le_mul_of_nonneg_right h (sq_nn (u*v));have e4:=sq_nn (A*(v*v)-B*(u*u));omega
 have h2:=sq_le_imp hp h1;have e:(A+u*u)*(B+v*v)-(C+u*v)*(C+u*v)=(A*B-C*C)+((A*(v*v)+B*(u*u))-2*C*(u*v)):=by grind
 omega
def sumM {α:Type} (l:List α) (f:α→Int):Int:=(l.map f).sum
theorem zaa {α:Type} (x:α) (l:List α) (f:α→Int):sumM (x::l) f=f x+sumM l f:=rfl
theorem zbt {α:Type} (l:List α) (f:α→Int) (h:∀ x ∈ l,0≤f x):0≤sumM l f:=by
 induction l with
 | nil=>exact Int.le_refl _
 | cons x l ih=>rw[zaa];exact Int.add_nonneg (h x (by simp)) (ih fun y hy=>h y (by simp[hy]))
theorem sumM_le {α:Type} (l:List α) (f g:α→Int) (h:∀ x ∈ l,f x≤g x):sumM l f≤sumM l g:=by
 induction l with
 | nil=>exact Int.le_refl _
 | cons x l ih=>rw[zaa,zaa];exact Int.add_le_add (h x (by simp)) (ih fun y hy=>h y (by simp[hy]))
theorem sumM_const {α:Type} (l:List α) (c:Int):sumM l (fun _=>c)=(l.length:Int)*c:=by
 induction l with
 | nil=>simp[sumM]
 | cons x l ih=>rw[zaa,ih,List.length_cons];grind
theorem cs {α:Type} (l:List α) (f g:α→Int):sumM l (fun x=>f x*g x)*sumM l (fun x=>f x*g x)≤sumM l (fun x=>f x*f x)*sumM l (fun x=>g x*g x):=by
 induction l with
 | nil=>simp[sumM]
 | cons x l ih =>
  rw[zaa,zaa,zaa];have h:=cs_step (u:=f x) (v:=g x) (zbt l _ fun y _=>sq_nn (f y)) (zbt l _ fun y _=>sq_nn (g y)) ih;rw[Int.add_comm (f x*g x),Int.add_comm (f x*f x),Int.add_comm (g x*g x)];exact h
theorem sum_add_sq {α:Type} (l:List α) (f g:α→Int):sumM l (fun x=>(f x+g x)*(f x+g x))=sumM l (fun x=>f x*f x)+2*sumM l (fun x=>f x*g x)+sumM l (fun x=>g x*g x):=by
 induction l with
 | nil=>simp[sumM]
 | cons x l ih=>rw[zaa,zaa,zaa,zaa,ih];grind
theorem mink {α:Type} (l:List α) (f g:α→Int) {U V:Int} (hU:0≤U) (hV:0≤V) (h1:sumM l (fun x=>f x*f x)≤(l.length:Int)*(U*U)) (h2:sumM l (fun x=>g x*g x)≤(l.length:Int)*(V*V)):sumM l (fun x=>(f x+g x)*(f x+g x))≤(l.length:Int)*((U+V)*(U+V)):=by
 have hn:(0:Int)≤(l.length:Int):=by omega
 have hc:=cs l f g;have ha:=zbt l (fun x=>f x*f x) fun y _=>sq_nn (f y)
 have hb:=zbt l (fun x=>g x*g x) fun y _=>sq_nn (g y)
 rw[sum_add_sq];generalize sumM l (fun x=>f x*f x)=A at *;generalize sumM l (fun x=>g x*g x)=B at *;generalize sumM l (fun x=>f x*g x)=C at *;generalize (l.length:Int)=n at *;have h3:A*B≤(n*(U*U))*(n*(V*V)):=Int.mul_le_mul h1 h2 hb (Int.mul_nonneg hn (sq_nn U));have h4:C≤n*(U*V):=by
  refine sq_le_imp (Int.mul_nonneg hn (Int.mul_nonneg hU hV)) ?_;have e:n*(U*V)*(n*(U*V))=(n*(U*U))*(n*(V*V)):=by grind
  omega
 have e:n*((U+V)*(U+V))=n*(U*U)+2*(n*(U*V))+n*(V*V):=by grind
 omega
def za3 (o s:Int) (x:Int × Int):Int:=1000*(x.2-o)+s*x.1
def sD (l:List (Int × Int)):Int:=sumM l fun x=>x.1
def sY (l:List (Int × Int)):Int:=sumM l fun x=>x.2
def sDD (l:List (Int × Int)):Int:=sumM l fun x=>x.1*x.1
def sDY (l:List (Int × Int)):Int:=sumM l fun x=>x.1*x.2
def sR (l:List (Int × Int)) (o s:Int):Int:=sumM l fun x=>za3 o s x*za3 o s x
theorem resid_two (l:List (Int × Int)) (o1 s1 o2 s2:Int):sR l o2 s2=sR l o1 s1+2*(1000*(o1-o2)*(1000*sY l-1000*((l.length:Int)*o1)+s1*sD l)+(s2-s1)*(1000*sDY l-1000*(o1*sD l)+s1*sDD l))+((l.length:Int)*(1000*(o1-o2)*(1000*(o1-o2)))+2*(1000*(o1-o2)*((s2-s1)*sD l))+(s2-s1)*(s2-s1)*sDD l):=by
 induction l with
 | nil=>simp[sR,sumM,sY,sD,sDY,sDD]
 | cons x l ih =>
  unfold sR sY sD sDY sDD at ih ⊢;simp only[zaa,List.length_cons];rw[ih];unfold za3
  grind
theorem fit_best (l:List (Int × Int)) (hn:0<l.length) (o1 s1:Int) (h0:2*(1000*sY l+s1*sD l-1000*(l.length:Int)*o1)≤1000*(l.length:Int)∧-(1000*(l.length:Int))≤2*(1000*sY l+s1*sD l-1000*(l.length:Int)*o1))
  (hD:0<(l.length:Int)*sDD l-sD l*sD l)
  (h1:2*(s1*((l.length:Int)*sDD l-sD l*sD l)+1000*((l.length:Int)*sDY l-sD l*sY l))≤(l.length:Int)*sDD l-sD l*sD l∧-((l.length:Int)*sDD l-sD l*sD l)≤2*(s1*((l.length:Int)*sDD l-sD l*sD l)+1000*((l.length:Int)*sDY l-sD l*sY l)))
  (o2 s2:Int):sR l o1 s1≤sR l o2 s2+(l.length:Int)*(500*500):=by
 rw[resid_two l o1 s1 o2 s2];generalize sR l o1 s1=S at *;generalize sY l=Y at *;generalize sD l=X at *;generalize sDY l=V at *;generalize sDD l=U at *;have hn':(0:Int)<(l.length:Int):=by omega
 generalize (l.length:Int)=n at *;generalize hR0:1000*Y+s1*X-1000*n*o1=R0 at *;generalize hΔ:n*U-X*X=D at *;generalize hE:s1*D+1000*(n*V-X*Y)=E at *;generalize hα:1000*(o1-o2)=a at *;generalize hβ:s2-s1=b at *;rw[Int.add_assoc S];have key:n*(2*(a*(1000*Y-1000*(n*o1)+s1*X)+b*(1000*V-1000*(o1*X)+s1*U))+(n*(a*a)+2*(a*(b*X))+b*b*U))=(n*a+b*X)*(n*a+b*X)+2*((n*a+b*X)*R0)+(b*b*D+2*(b*E)):=by
  rw[← hE,← hR0,← hΔ];grind
 generalize n*a+b*X=p at *;have k1:-(500*n*(500*n))≤p*p+2*(p*R0):=by
  have e:p*p+2*(p*R0)=(p+R0)*(p+R0)-R0*R0:=by grind
  have q1:=sq_nn (p+R0);have q2:R0*R0≤500*n*(500*n):=by
   have e2:500*n*(500*n)-R0*R0=(500*n-R0)*(500*n+R0):=by grind
   have:=Int.mul_nonneg (a:=500*n-R0) (b:=500*n+R0) (by omega) (by omega);omega
  omega
 have k2:0≤b*b*D+2*(b*E):=by
  rcases Int.lt_trichotomy b 0 with hb|hb|hb
  ·have e:b*b*D+2*(b*E)=(-b)*((-b)*D-2*E):=by grind
   have e3:D≤(-b)*D:=by
    have:=Int.mul_le_mul_of_nonneg_right (show (1:Int)≤-b by omega) (Int.le_of_lt hD);omega
   rw[e];exact Int.mul_nonneg (by omega) (by omega)
  ·subst hb;simp
  ·have e:b*b*D+2*(b*E)=b*(b*D+2*E):=by grind
   have e3:D≤b*D:=by
    have:=Int.mul_le_mul_of_nonneg_right (show (1:Int)≤b by omega) (Int.le_of_lt hD);omega
   rw[e];exact Int.mul_nonneg (by omega) (by omega)
 generalize 2*(a*(1000*Y-1000*(n*o1)+s1*X)+b*(1000*V-1000*(o1*X)+s1*U))+(n*(a*a)+2*(a*(b*X))+b*b*U)=T at *;have k3:-(n*(n*(500*500)))≤n*T:=by
  have e:n*(n*(500*500))=500*n*(500*n):=by grind
  omega
 have k4:-(n*(500*500))≤T:=by
  rcases Int.lt_or_le T (-(n*(500*500))) with hlt|hge
  ·have:=Int.mul_lt_mul_of_pos_left hlt hn'
   have e:n * -(n*(500*500)) = -(n*(n*(500*500))):=by grind
   omega
  ·exact hge
 omega
theorem fit_roots (l:List (Int × Int)) (hn:0<l.length) (o1 s1 o2 s2:Int) (hbest:sR l o1 s1≤sR l o2 s2+(l.length:Int)*(500*500))
  (a b:Int × Int→Int) (ha:∀ x ∈ l,-500≤1000*a x-za3 o1 s1 x∧1000*a x-za3 o1 s1 x≤500) (hb:∀ x ∈ l,-500≤1000*b x-za3 o2 s2 x∧1000*b x-za3 o2 s2 x≤500)
  (x y:Int) (hx0:0≤x) (hy0:0≤y) (hx:(l.length:Int)*(x*x)≤sumM l (fun q=>a q*a q)) (hy:sumM l (fun q=>b q*b q)<(l.length:Int)*((y+1)*(y+1))):x≤y+30:=by
 have hn':(0:Int)<(l.length:Int):=by omega
 have sq500:∀ z:Int,-500≤z→z≤500→z*z≤500*500:=fun z h1 h2=>by
  have e:500*500-z*z=(500-z)*(500+z):=by grind
  have:=Int.mul_nonneg (a:=500-z) (b:=500+z) (by omega) (by omega);omega
 have e1:sumM l (fun q=>(1000*b q)*(1000*b q))≤(l.length:Int)*((1000*(y+1))*(1000*(y+1))):=by
  have h:sumM l (fun q=>(1000*b q)*(1000*b q))=1000000*sumM l (fun q=>b q*b q):=by
   clear hy hx ha hb hbest hn hn'
   induction l with
   | nil=>simp[sumM]
   | cons q l ih=>rw[zaa,zaa,ih];grind
  rw[h];have e:(l.length:Int)*((1000*(y+1))*(1000*(y+1)))=1000000*((l.length:Int)*((y+1)*(y+1))):=by grind
  omega
 have d1:sumM l (fun q=>(za3 o2 s2 q-1000*b q)*(za3 o2 s2 q-1000*b q))≤(l.length:Int)*(500*500):=by
  rw[← sumM_const];exact sumM_le _ _ _ fun q hq=>sq500 _ (by have:=hb q hq;omega) (by have:=hb q hq;omega)
 have m1:=mink l (fun q=>1000*b q) (fun q=>za3 o2 s2 q-1000*b q) (U:=1000*(y+1)) (V:=500) (by omega) (by omega) e1 d1;have r2:sR l o2 s2=sumM l (fun q=>(1000*b q+(za3 o2 s2 q-1000*b q))*(1000*b q+(za3 o2 s2 q-1000*b q))):=by
  unfold sR
  congr 1
  funext q
  rw[show 1000*b q+(za3 o2 s2 q-1000*b q)=za3 o2 s2 q by omega]
 rw[← r2] at m1;have m2:sumM l (fun q=>za3 o1 s1 q*za3 o1 s1 q)≤(l.length:Int)*((1000*(y+1)+1000)*(1000*(y+1)+1000)):=by
  have h:sR l o1 s1≤(l.length:Int)*((1000*(y+1)+500)*(1000*(y+1)+500))+(l.length:Int)*(500*500):=by omega
  have e:(l.length:Int)*((1000*(y+1)+1000)*(1000*(y+1)+1000))=(l.length:Int)*((1000*(y+1)+500)*(1000*(y+1)+500))+(l.length:Int)*(500*500)+(l.length:Int)*(1000*(1000*(y+1)+500)):=by grind
  have p:=Int.mul_nonneg (a:=(l.length:Int)) (b:=1000*(1000*(y+1)+500)) (by omega) (by omega);unfold sR at h;omega
 have d2:sumM l (fun q=>(1000*a q-za3 o1 s1 q)*(1000*a q-za3 o1 s1 q))≤(l.length:Int)*(500*500):=by
  rw[← sumM_const];exact sumM_le _ _ _ fun q hq=>sq500 _ (ha q hq).1 (ha q hq).2
 have m3:=mink l (fun q=>za3 o1 s1 q) (fun q=>1000*a q-za3 o1 s1 q) (U:=1000*(y+1)+1000) (V:=500) (by omega) (by omega) m2 d2;have e3:sumM l (fun q=>(za3 o1 s1 q+(1000*a q-za3 o1 s1 q))*(za3 o1 s1 q+(1000*a q-za3 o1 s1 q)))=1000000*sumM l (fun q=>a q*a q):=by
  clear hy hx ha hb hbest hn hn' e1 d1 m1 r2 m2 d2 m3
  induction l with
  | nil=>simp[sumM]
  | cons q l ih=>rw[zaa,zaa,ih];grind
 rw[e3] at m3;have f1:(l.length:Int)*((1000*x)*(1000*x))≤(l.length:Int)*((1000*(y+1)+1000+500)*(1000*(y+1)+1000+500)):=by
  have e:(l.length:Int)*((1000*x)*(1000*x))=1000000*((l.length:Int)*(x*x)):=by grind
  omega
 have f2:(1000*x)*(1000*x)≤(1000*(y+1)+1000+500)*(1000*(y+1)+1000+500):=Int.le_of_mul_le_mul_left f1 hn';have f3:=sq_le_imp (p:=1000*(y+1)+1000+500) (by omega) f2;omega
end Go.Proofs.YtpodllefipleiaaGreatDoor
