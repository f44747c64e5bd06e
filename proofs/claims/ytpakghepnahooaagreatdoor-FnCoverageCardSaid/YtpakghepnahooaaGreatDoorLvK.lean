/- Small words for walks: contracts that change nothing, a cut of the world, products in bounds. Plain lemmas; no program. -/
import Derived.Test.YtpakghepnahooaaGreatDoorLv0
import Derived.Test.YtpakghepnahooaaGreatDoorTer
import Derived.Test.YtpakghepnahooaaGreatDoorTre2
set_option linter.unusedVariables false
set_option linter.unusedSimpArgs false
namespace Go.Proofs.YtpakghepnahooaaGreatDoor
def sinL:List Int:=[0,17452,34899,52336,69756,87156,104528,121869,139173,156434,173648,190809,207912,224951,241922,258819,275637,292372,309017,325568,342020,358368,374607,390731,406737,422618,438371,453990,469472,484810,500000,515038,529919,544639,559193,573576,587785,601815,615661,629320,642788,656059,669131,681998,694658,707107,719340,731354,743145,754710,766044,777146,788011,798636,809017,819152,829038,838671,848048,857167,866025,874620,882948,891007,898794,906308,913545,920505,927184,933580,939693,945519,951057,956305,961262,965926,970296,974370,978148,981627,984808,987688,990268,992546,994522,996195,997564,998630,999391,999848,1000000]
theorem gi_all {l:List Int} {p:Int→Bool} (h:l.all p=true) (h0:p 0=true) (k:Nat):p (gi l k)=true:=by
 unfold gi
 by_cases hk:k<l.length
 ·rw[List.getD_eq_getElem?_getD,List.getElem?_eq_getElem hk]
  exact List.all_eq_true.1 h _ (List.getElem_mem hk)
 ·rw[List.getD_eq_getElem?_getD,List.getElem?_eq_none II];exact h0
def sinT (k:Nat):Int:=gi sinL k
theorem sinT_bd (k:Nat):0≤sinT k∧sinT k≤1000000:=by
 have:=gi_all (l:=sinL) (p:=fun n=>decide (0≤n∧n≤1000000)) Q47 Q47 k;exact of_decide_eq_true this
def sin2 (d:Int):Int:=if 90<d then sinT (180-d).toNat else sinT d.toNat
def sinD (d:Int):Int:=if 180≤d then -(sin2 (d-180)) else sin2 d
def sinA (d:Int):Int:=sinD (d % 360)
def cosA (d:Int):Int:=sinD ((d+90) % 360)
theorem sin2_bd (d:Int):0≤sin2 d∧sin2 d≤1000000:=by
 unfold sin2;split<;>exact sinT_bd _
theorem sinD_bd (d:Int):-1000000≤sinD d∧sinD d≤1000000:=by
 unfold sinD;have h1:=sin2_bd d;have h2:=sin2_bd (d-180)
 split<;>omega
theorem sinA_bd (d:Int):-1000000≤sinA d∧sinA d≤1000000:=sinD_bd _
theorem cosA_bd (d:Int):-1000000≤cosA d∧cosA d≤1000000:=sinD_bd _
theorem ze1 {a b:Int} (A B:Int) (hA:0≤A) (hB:0≤B) (h1:-A≤a) (h2:a≤A) (h3:-B≤b) (h4:b≤B):-(A*B)≤a*b∧a*b≤A*B:=by
 have key:∀ x y:Int,0≤x→x≤A→0≤y→y≤B→0≤x*y∧x*y≤A*B:=fun x y h1 h2 h3 h4 =>
  ⟨Int.mul_nonneg h1 h3,Int.mul_le_mul h2 h4 h3 hA⟩
 have hP:0≤A*B:=Int.mul_nonneg hA hB
 rcases Int.le_total 0 a with ha|ha<;>rcases Int.le_total 0 b with hb|hb
 ·have:=key a b ha h2 hb h4;omega
 ·have:=key a (-b) ha h2 II II;rw[Int.mul_neg] at this;omega
 ·have:=key (-a) b II II hb h4;rw[Int.neg_mul] at this;omega
 ·have:=key (-a) (-b) II II II II;rw[Int.neg_mul_neg] at this;omega
def zdo (g:Int→Int) (s:Int):Nat→Int
 | 0=>s
 | k+1=>if g (zdo g s k)<g (s+((k+1:Nat):Int)) then s+((k+1:Nat):Int) else zdo g s k
theorem zek (g:Int→Int) (s:Int):∀ k,s≤zdo g s k∧zdo g s k≤s+(k:Int)
 | 0=>by simp[zdo]
 | k+1=>by
  have:=zek g s k;unfold zdo
  split<;>omega
def ptB (p:DPoint):Prop:=(0≤p.x∧p.x≤200000)∧(0≤p.y∧p.y≤200000)
def dotP (x y d:Int):Int:=x*sinA d+y*cosA d
theorem dotP_bd {x y:Int} (d:Int) (h1:-200000≤x) (h2:x≤200000) (h3:-200000≤y) (h4:y≤200000):(-200000000000≤x*sinA d∧x*sinA d≤200000000000)∧(-200000000000≤y*cosA d∧y*cosA d≤200000000000):=by
 have a:=ze1 (a:=x) (b:=sinA d) 200000 1000000 II II II h2 (by have:=sinA_bd d;omega) (sinA_bd d).2;have b:=ze1 (a:=y) (b:=cosA d) 200000 1000000 II II II h4 (by have:=cosA_bd d;omega) (cosA_bd d).2;omega
def zfi (a b:DPoint):Int:=zdo (dotP (b.x-a.x) (b.y-a.y)) 0 359
def dotE (d h e:Int):Int:=10*d*cosA e+h*sinA e
theorem dotE_bd {d h:Int} (e:Int) (h1:0≤d) (h2:d≤283000) (h3:-200000≤h) (h4:h≤200000):(-2830000000000≤10*d*cosA e∧10*d*cosA e≤2830000000000)∧(-200000000000≤h*sinA e∧h*sinA e≤200000000000):=by
 have a:=ze1 (a:=10*d) (b:=cosA e) 2830000 1000000 II II II II (by have:=cosA_bd e;omega) (cosA_bd e).2;have b:=ze1 (a:=h) (b:=sinA e) 200000 1000000 II II II h4 (by have:=sinA_bd e;omega) (sinA_bd e).2;omega
def elevI (d h:Int):Int:=zdo (dotE d h) (-90) 180
theorem bearI_bd (a b:DPoint):0≤zfi a b∧zfi a b≤359:=by have:=zek (dotP (b.x-a.x) (b.y-a.y)) 0 359;unfold zfi;omega
theorem elevI_bd (d h:Int):-90≤elevI d h∧elevI d h≤90:=by have:=zek (dotE d h) (-90) 180;unfold elevI;omega
def dist2 (a b:DPoint):Int:=(b.x-a.x)*(b.x-a.x)+(b.y-a.y)*(b.y-a.y)
def zcr (a b:DPoint):Int:=isq (dist2 a b)
theorem sq_bd {x:Int} (h1:-200000≤x) (h2:x≤200000):0≤x*x∧x*x≤40000000000:=by
 have a:=ze1 (a:=x) (b:=x) 200000 200000 II II II h2 II h2;refine⟨?_,II⟩
 rcases Int.le_total 0 x with h|h
 ·exact Int.mul_nonneg h h
 ·exact Int.mul_nonneg_of_nonpos_of_nonpos h h
theorem dist2_bd {a b:DPoint} (ha:ptB a) (hb:ptB b):0≤dist2 a b∧dist2 a b≤80000000000:=by
 unfold ptB at ha hb;have h1:=sq_bd (x:=b.x-a.x) II II;have h2:=sq_bd (x:=b.y-a.y) II II;unfold dist2;omega
theorem distI_bd {a b:DPoint} (ha:ptB a) (hb:ptB b):0≤zcr a b∧zcr a b≤283000:=by
 have h:=dist2_bd ha hb;exact⟨ze7 _,isq_le II II⟩
theorem dist2_symm (a b:DPoint):dist2 a b=dist2 b a:=by
 unfold dist2;rw[show b.x-a.x = -(a.x-b.x) by omega,show b.y-a.y = -(a.y-b.y) by omega,Int.neg_mul_neg,Int.neg_mul_neg]
theorem distI_symm (a b:DPoint):zcr a b=zcr b a:=by unfold zcr;rw[dist2_symm]
theorem sq_pos {x:Int} (h:x≠0):1≤x*x:=by
 rcases Int.lt_or_gt_of_ne h with h|h
 ·have:=Int.mul_pos_of_neg_of_neg h h;omega
 ·have:=Int.mul_pos h h;omega
theorem distI_pos {a b:DPoint} (ha:ptB a) (hb:ptB b) (h:¬ (a.x=b.x∧a.y=b.y)):1≤zcr a b:=by
 unfold ptB at ha hb;have h1:=sq_bd (x:=b.x-a.x) II II;have h2:=sq_bd (x:=b.y-a.y) II II;refine isq_ge ?_ II;unfold dist2
 by_cases hx:b.x-a.x=0
 ·have:=sq_pos (x:=b.y-a.y) II;omega
 ·have:=sq_pos hx;omega
structure TerrOk (t:DTerrain):Prop where
 s0:1≤t.step
 s1:t.step≤10000
 w0:2≤t.width
 w1:t.width≤24
 h0:2≤t.height
 h1:t.height≤24
 mw:0≤(t.width-1)*t.step∧(t.width-1)*t.step≤200000
 mh:0≤(t.height-1)*t.step∧(t.height-1)*t.step≤200000
 lh:(t.heights.length:Int)=t.width*t.height
 lc:(t.clutter.length:Int)=t.width*t.height
 hs:∀ k,0≤gi t.heights k∧gi t.heights k≤90000
 cs:∀ k,0≤gi t.clutter k∧gi t.clutter k≤7
def inT (t:DTerrain) (p:DPoint):Prop:=(0≤p.x∧p.x≤(t.width-1)*t.step)∧(0≤p.y∧p.y≤(t.height-1)*t.step)
theorem ze8 {t:DTerrain} (T:TerrOk t) {p:DPoint} (h:inT t p):ptB p:=by
 have:=T.mw;have:=T.mh;unfold inT at h;unfold ptB;omega
def colT (s w x:Int):Int:=min (x / s) (w-2)
theorem colT_bd {s w x:Int} (s0:1≤s) (w0:2≤w) (x0:0≤x) (x1:x≤(w-1)*s):(0≤colT s w x∧colT s w x≤w-2)∧0≤x-colT s w x*s∧x-colT s w x*s≤s:=by
 have h1:=Int.mul_ediv_add_emod x s;have h2:=Int.emod_nonneg x (show s≠0 by omega);have h3:=Int.emod_lt_of_pos x (show 0<s by omega);have h4:0≤x / s:=Int.ediv_nonneg x0 II;unfold colT;rw[Int.mul_comm] at h1
 by_cases hc:x / s≤w-2
 ·rw[show min (x / s) (w-2)=x / s by omega]
  generalize x / s*s=q at *;omega
 ·rw[show min (x / s) (w-2)=w-2 by omega]
  have h5:(w-1)*s≤x / s*s:=Int.mul_le_mul_of_nonneg_right II II;have h6:(w-1)*s=(w-2)*s+s:=by rw[show w-1=(w-2)+1 by omega,Int.add_mul,Int.one_mul]
  generalize x / s*s=q at *;generalize (w-2)*s=r at *;generalize (w-1)*s=r' at *;omega
theorem grid_bd {i k w h:Int} (i0:0≤i) (i1:i≤w-1) (k0:0≤k) (k1:k≤h-1) (w1:w≤24) (h1:h≤24):0≤k*w∧k*w≤552∧0≤k*w+i∧k*w+i<w*h:=by
 have a:0≤k*w:=Int.mul_nonneg k0 II;have b:k*w≤23*24:=Int.mul_le_mul II w1 II II;have c:k*w≤(h-1)*w:=Int.mul_le_mul_of_nonneg_right k1 II;have d:w*h=(h-1)*w+w:=by rw[Int.mul_comm w h,show h=(h-1)+1 by omega,Int.add_mul,Int.one_mul,show h-1+1-1=h-1 by omega]
 omega
def hIx (t:DTerrain) (i k:Int):Int:=gi t.heights (k*t.width+i).toNat
def hSum (t:DTerrain) (i k u v:Int):Int:=hIx t i k*(t.step-u)*(t.step-v)+hIx t (i+1) k*u*(t.step-v)+hIx t i (k+1)*(t.step-u)*v+hIx t (i+1) (k+1)*u*v
def hAt (t:DTerrain) (p:DPoint):Int :=
 rdiv (hSum t (colT t.step t.width p.x) (colT t.step t.height p.y) (p.x-colT t.step t.width p.x*t.step) (p.y-colT t.step t.height p.y*t.step)) (t.step*t.step)
theorem zev {h a b:Int} (h0:0≤h) (h1:h≤90000) (a0:0≤a) (a1:a≤10000) (b0:0≤b) (b1:b≤10000):(0≤h*a∧h*a≤900000000)∧(0≤h*a*b∧h*a*b≤9000000000000)∧h*a*b≤90000*(a*b):=by
 have c1:0≤h*a:=Int.mul_nonneg h0 a0;have c2:h*a≤90000*10000:=Int.mul_le_mul h1 a1 a0 II;have c3:0≤h*a*b:=Int.mul_nonneg c1 b0;have c4:h*a*b≤900000000*10000:=Int.mul_le_mul II b1 b0 II;have c5:0≤a*b:=Int.mul_nonneg a0 b0;have c6:h*(a*b)≤90000*(a*b):=Int.mul_le_mul_of_nonneg_right h1 c5;rw[← Int.mul_assoc] at c6;omega
theorem rdiv_in {a b m:Int} (hb:1≤b) (h0:0≤a) (h1:a≤m*b):0≤rdiv a b∧rdiv a b≤m:=by
 unfold rdiv;rw[if_neg II];refine⟨Int.ediv_nonneg II II,?_⟩;have:(2*a+b) / (2*b)<m+1:=by
  refine Int.ediv_lt_of_lt_mul II ?_;rw[Int.add_mul,Int.one_mul,← Int.mul_assoc,Int.mul_comm m 2,Int.mul_assoc];omega
 omega
theorem hSum_bd {t:DTerrain} (T:TerrOk t) {i k u v:Int} (u0:0≤u) (u1:u≤t.step) (v0:0≤v) (v1:v≤t.step):0≤hSum t i k u v∧hSum t i k u v≤90000*(t.step*t.step):=by
 have s1:=T.s1;have p1:=zev (T.hs (k*t.width+i).toNat).1 (T.hs (k*t.width+i).toNat).2 (show 0≤t.step-u by omega) II (show 0≤t.step-v by omega) II;have p2:=zev (T.hs (k*t.width+(i+1)).toNat).1 (T.hs (k*t.width+(i+1)).toNat).2 u0 II (show 0≤t.step-v by omega) II;have p3:=zev (T.hs ((k+1)*t.width+i).toNat).1 (T.hs ((k+1)*t.width+i).toNat).2 (show 0≤t.step-u by omega) II v0 II;have p4:=zev (T.hs ((k+1)*t.width+(i+1)).toNat).1 (T.hs ((k+1)*t.width+(i+1)).toNat).2 u0 II v0 II;have e:(t.step-u)*(t.step-v)+u*(t.step-v)+(t.step-u)*v+u*v=t.step*t.step:=by
  rw[← Int.add_mul,show t.step-u+u=t.step by omega,Int.add_assoc,← Int.add_mul,show t.step-u+u=t.step by omega,← Int.mul_add,show t.step-v+v=t.step by omega]
 unfold hSum hIx;omega
theorem step_sq {s:Int} (h0:1≤s) (h1:s≤10000):1≤s*s∧s*s≤100000000:=by
 have a:1*1≤s*s:=Int.mul_le_mul h0 h0 II II;have b:s*s≤10000*10000:=Int.mul_le_mul h1 h1 II II;omega
theorem hAt_bd {t:DTerrain} (T:TerrOk t) {p:DPoint} (h:inT t p):0≤hAt t p∧hAt t p≤90000:=by
 have a:=colT_bd T.s0 T.w0 h.1.1 h.1.2;have b:=colT_bd T.s0 T.h0 h.2.1 h.2.2;have c:=hSum_bd T (i:=colT t.step t.width p.x) (k:=colT t.step t.height p.y) a.2.1 a.2.2 b.2.1 b.2.2;have d:=step_sq T.s0 T.s1;exact rdiv_in II c.1 c.2
def cNear (s x:Int):Int:=(2*x+s) / (2*s)
theorem cNear_bd {s w x:Int} (s0:1≤s) (x0:0≤x) (x1:x≤(w-1)*s):0≤cNear s x∧cNear s x≤w-1:=by
 unfold cNear;refine⟨Int.ediv_nonneg II II,?_⟩;have:(2*x+s) / (2*s)<w:=by
  refine Int.ediv_lt_of_lt_mul II ?_;have e:w*(2*s)=2*((w-1)*s)+2*s:=by
   rw[show w*(2*s)=2*(w*s) by rw[← Int.mul_assoc,Int.mul_comm w 2,Int.mul_assoc],Int.sub_mul,Int.one_mul];omega
  generalize (w-1)*s=q at *;omega
 omega
def cAt (t:DTerrain) (p:DPoint):Int:=gi t.clutter (cNear t.step p.y*t.width+cNear t.step p.x).toNat
def zdj (a b:DPoint) (k:Nat):DPoint:=⟨a.x+rdiv ((k:Int)*(b.x-a.x)) 16,a.y+rdiv ((k:Int)*(b.y-a.y)) 16⟩
def befB (a b:DPoint):Bool:=decide (a.x<b.x) || (decide (a.x=b.x)&&decide (a.y≤b.y))
def zep (a b:DPoint):List DPoint:=(List.range 17).map (zdj a b)
def zdf (a b:DPoint):List DPoint:=if befB a b=true then zep a b else (zep b a).reverse
theorem part16 {k:Nat} {c:Int} (hk:k≤16):(0≤c→0≤rdiv ((k:Int)*c) 16∧rdiv ((k:Int)*c) 16≤c)∧(c≤0→c≤rdiv ((k:Int)*c) 16∧rdiv ((k:Int)*c) 16≤0):=by
 have key:∀ c:Int,0≤c→0≤rdiv ((k:Int)*c) 16∧rdiv ((k:Int)*c) 16≤c:=fun c hc=>by
  refine rdiv_in II (Int.mul_nonneg II hc) ?_;rw[Int.mul_comm c 16];exact Int.mul_le_mul_of_nonneg_right II hc
 refine⟨key c,fun hc=>?_⟩;have:=key (-c) II;rw[Int.mul_neg,rdiv_neg II] at this;omega
theorem placeK_mid {a b:DPoint} {k:Nat} (hk:k≤16) (X Y:Int) (hax:0≤a.x∧a.x≤X) (hbx:0≤b.x∧b.x≤X) (hay:0≤a.y∧a.y≤Y) (hby:0≤b.y∧b.y≤Y):(0≤(zdj a b k).x∧(zdj a b k).x≤X)∧(0≤(zdj a b k).y∧(zdj a b k).y≤Y):=by
 have h1:=part16 (c:=b.x-a.x) hk;have h2:=part16 (c:=b.y-a.y) hk;show (0≤a.x+rdiv ((k:Int)*(b.x-a.x)) 16∧a.x+rdiv ((k:Int)*(b.x-a.x)) 16≤X)∧(0≤a.y+rdiv ((k:Int)*(b.y-a.y)) 16∧a.y+rdiv ((k:Int)*(b.y-a.y)) 16≤Y)
 constructor
 ·rcases Int.le_total 0 (b.x-a.x) with h|h
  ·have:=h1.1 h;omega
  ·have:=h1.2 h;omega
 ·rcases Int.le_total 0 (b.y-a.y) with h|h
  ·have:=h2.1 h;omega
  ·have:=h2.2 h;omega
theorem placeK_in {t:DTerrain} {a b:DPoint} {k:Nat} (hk:k≤16) (ha:inT t a) (hb:inT t b):inT t (zdj a b k) :=
 placeK_mid hk _ _ ha.1 hb.1 ha.2 hb.2
theorem rdiv16 (c:Int):rdiv (16*c) 16=c:=by
 unfold rdiv;split<;>omega
theorem placeK_last (a b:DPoint):zdj a b 16=b:=by
 unfold zdj;show DPoint.mk (a.x+rdiv (16*(b.x-a.x)) 16) (a.y+rdiv (16*(b.y-a.y)) 16)=b
 rw[rdiv16,rdiv16]
 cases b;simp<;>omega
theorem placeK_first (a b:DPoint):zdj a b 0=a:=by
 unfold zdj;show DPoint.mk (a.x+rdiv (0*(b.x-a.x)) 16) (a.y+rdiv (0*(b.y-a.y)) 16)=a
 rw[Int.zero_mul,Int.zero_mul,show rdiv 0 16=0 from by decide]
 cases a;simp
theorem placesF_in {t:DTerrain} {a b:DPoint} (ha:inT t a) (hb:inT t b):∀ p ∈ zep a b,inT t p:=by
 intro p hp;obtain⟨k,hk,rfl⟩:=List.mem_map.1 hp;exact placeK_in (by have:=List.mem_range.1 hk;omega) ha hb
theorem placesB_in {t:DTerrain} {a b:DPoint} (ha:inT t a) (hb:inT t b):∀ p ∈ zdf a b,inT t p:=by
 unfold zdf
 split
 ·exact placesF_in ha hb
 ·intro p hp;exact placesF_in hb ha p (List.mem_reverse.1 hp)
theorem zdl (a b:DPoint):(zep a b).length=17:=by simp[zep]
theorem zdm (a b:DPoint):(zdf a b).length=17:=by unfold zdf;split<;>simp[zdl]
theorem placesF_0 (a b:DPoint):(zep a b)[0]'(by rw[zdl];omega)=a:=by
 simp only[zep,List.getElem_map,List.getElem_range];exact placeK_first a b
theorem placesF_16 (a b:DPoint):(zep a b)[16]'(by rw[zdl];omega)=b:=by
 simp only[zep,List.getElem_map,List.getElem_range];exact placeK_last a b
theorem placesB_0 (a b:DPoint):(zdf a b)[0]'(by rw[zdm];omega)=a:=by
 unfold zdf
 split
 ·exact placesF_0 a b
 ·rw[List.getElem_reverse];simp only[zdl];exact placesF_16 b a
theorem placesB_16 (a b:DPoint):(zdf a b)[16]'(by rw[zdm];omega)=b:=by
 unfold zdf
 split
 ·exact placesF_16 a b
 ·rw[List.getElem_reverse];simp only[zdl];exact placesF_0 b a
theorem befB_other {a b:DPoint} (h:befB a b=false):befB b a=true:=by
 unfold befB at *;simp at *;omega
theorem mulP {a b:Int} (A B:Int) (a0:0≤a) (a1:a≤A) (b0:0≤b) (b1:b≤B):0≤a*b∧a*b≤A*B :=
 ⟨Int.mul_nonneg a0 b0,Int.mul_le_mul a1 b1 b0 II⟩
structure Pf where
 d:Int
 f:Int
 l:Int
 hs:List Int
def Pf.n (p:Pf):Int:=(p.hs.length:Int)-1
def pfB (p:Pf):Bool:=inB p.d 1 283000&&(inB p.f 0 180000&&(inB p.l 0 180000&&(decide (2≤(p.hs.length:Int))&&(decide ((p.hs.length:Int)≤65)&&((p.hs.all fun n=>inB n 0 90000)&&(decide (gi p.hs 0≤p.f)&&decide (gi p.hs (p.hs.length-1)≤p.l)))))))
structure PfOk (p:Pf):Prop where
 d0:1≤p.d
 d1:p.d≤283000
 f0:0≤p.f
 f1:p.f≤180000
 l0:0≤p.l
 l1:p.l≤180000
 n0:2≤p.hs.length
 n1:p.hs.length≤65
 hs:∀ k,0≤gi p.hs k∧gi p.hs k≤90000
 c0:gi p.hs 0≤p.f
 c1:gi p.hs (p.hs.length-1)≤p.l
theorem all_gi {l:List Int} {a b:Int} (h:(l.all fun n=>inB n a b)=true) (h0:a≤0∧0≤b) (k:Nat):a≤gi l k∧gi l k≤b:=by
 have:=gi_all (p:=fun n=>inB n a b) h (zaq.2 h0) k;exact zaq.1 this
theorem gi_getElem {l:List Int} {k:Nat} (hk:k<l.length):l[k]=gi l k:=by
 unfold gi;rw[List.getD_eq_getElem?_getD,List.getElem?_eq_getElem hk];rfl
theorem gi_allB {l:List Int} {a b:Int} (h:∀ k,k<l.length→a≤gi l k∧gi l k≤b):(l.all fun n=>inB n a b)=true:=by
 rw[List.all_eq_true];intro x hx;obtain⟨k,hk,rfl⟩:=List.mem_iff_getElem.1 hx;rw[gi_getElem hk];exact zaq.2 (h k hk)
theorem pfB_ok {p:Pf} (h:pfB p=true):PfOk p:=by
 unfold pfB at h;simp only[Bool.and_eq_true,decide_eq_true_eq] at h;obtain⟨h1,h2,h3,h4,h5,h6,h7,h8⟩:=h;have h1:=zaq.1 h1;have h2:=zaq.1 h2;have h3:=zaq.1 h3;exact⟨h1.1,h1.2,h2.1,h2.2,h3.1,h3.2,II,II,fun k=>all_gi h6 II k,h7,h8⟩
theorem ok_pfB {p:Pf} (h:PfOk p):pfB p=true:=by
 unfold pfB;simp only[Bool.and_eq_true,decide_eq_true_eq];exact⟨zaq.2 ⟨h.d0,h.d1⟩,zaq.2 ⟨h.f0,h.f1⟩,zaq.2 ⟨h.l0,h.l1⟩,by have:=h.n0;omega,by have:=h.n1;omega,gi_allB (fun k _=>h.hs k),h.c0,h.c1⟩
def offP (d n i:Int):Int:=if 2*i≤n then rdiv (d*i) n else d-rdiv (d*(n-i)) n
theorem offP_bd {d n i:Int} (d0:0≤d) (n0:1≤n) (i0:0≤i) (i1:i≤n):0≤offP d n i∧offP d n i≤d:=by
 have key:∀ j:Int,0≤j→j≤n→0≤rdiv (d*j) n∧rdiv (d*j) n≤d:=fun j h0 h1 =>
  rdiv_in n0 (Int.mul_nonneg d0 h0) (Int.mul_le_mul_of_nonneg_left h1 d0)
 unfold offP
 split
 ·exact key i i0 i1
 ·have:=key (n-i) II II;omega
def lineP (f l n i:Int):Int:=rdiv (f*(n-i)+l*i) n
theorem lineP_bd {f l n i:Int} (f0:0≤f) (f1:f≤180000) (l0:0≤l) (l1:l≤180000) (n0:1≤n) (i0:0≤i) (i1:i≤n):0≤lineP f l n i∧lineP f l n i≤180000:=by
 have a:0≤f*(n-i):=Int.mul_nonneg f0 II;have b:0≤l*i:=Int.mul_nonneg l0 i0;have c:f*(n-i)≤180000*(n-i):=Int.mul_le_mul_of_nonneg_right f1 II;have d:l*i≤180000*i:=Int.mul_le_mul_of_nonneg_right l1 i0;exact rdiv_in n0 II II
def bulI (a b:Int):Int:=rdiv (10*a*b) 16989334
theorem bulI_bd {a b:Int} (a0:0≤a) (a1:a≤283000) (b0:0≤b) (b1:b≤283000):(0≤10*a*b∧10*a*b≤800890000000)∧0≤bulI a b∧bulI a b≤47141:=by
 have c:=mulP (a:=10*a) (b:=b) 2830000 283000 II II b0 b1;exact⟨II,rdiv_in II II II⟩
def freI (f a b:Int):Int:=if a+b=0 then 0 else isq (29979246*a*b / (f*(a+b)))
theorem freI_in {f a b:Int} (f0:1≤f) (f1:f≤100000000) (a0:0≤a) (a1:a≤283000) (b0:0≤b) (b1:b≤283000) :
  (0≤29979246*a∧29979246*a≤8484126618000)∧(0≤29979246*a*b∧29979246*a*b≤2401007832894000000)∧(0≤f*(a+b)∧f*(a+b)≤56600000000000)∧(a+b≠0→1≤f*(a+b)):=by
 have c:=mulP (a:=29979246*a) (b:=b) 8484126618000 283000 II II b0 b1;have d:=mulP (a:=f) (b:=a+b) 100000000 566000 II f1 II II;refine⟨II,II,II,fun h=>?_⟩;have:=Int.mul_le_mul (a:=1) (b:=1) (c:=f) (d:=a+b) f0 II II II;omega
theorem freI_bd {f a b:Int} (f0:1≤f) (f1:f≤100000000) (a0:0≤a) (a1:a≤283000) (b0:0≤b) (b1:b≤283000):0≤freI f a b∧freI f a b≤2000000000:=by
 obtain⟨_,h1,h2,h3⟩:=freI_in f0 f1 a0 a1 b0 b1;unfold freI
 split
 ·omega
 ·have:=Int.ediv_le_self (f*(a+b)) h1.1
  exact⟨ze7 _,isq_le II II⟩
def clrP (p:Pf) (i:Int):Int:=lineP p.f p.l p.n i-(gi p.hs i.toNat+bulI (offP p.d p.n i) (p.d-offP p.d p.n i))
def radP (p:Pf) (f i:Int):Int:=freI f (offP p.d p.n i) (p.d-offP p.d p.n i)
theorem off_ok {p:Pf} (h:PfOk p) {i:Int} (i0:0≤i) (i1:i≤p.n):0≤offP p.d p.n i∧offP p.d p.n i≤p.d∧offP p.d p.n i≤283000:=by
 have:=h.n0;have:=h.d0;have:=h.d1;have:=offP_bd (d:=p.d) (n:=p.n) (i:=i) II (by unfold Pf.n;omega) i0 i1;omega
theorem clrP_bd {p:Pf} (h:PfOk p) {i:Int} (i0:0≤i) (i1:i≤p.n):-200000≤clrP p i∧clrP p i≤200000:=by
 have a:=off_ok h i0 i1;have:=h.n0;have:=h.d0;have:=h.d1;have b:=lineP_bd (f:=p.f) (l:=p.l) (n:=p.n) (i:=i) h.f0 h.f1 h.l0 h.l1 (by unfold Pf.n;omega) i0 i1;have c:=(bulI_bd (a:=offP p.d p.n i) (b:=p.d-offP p.d p.n i) II II II II).2;have d:=h.hs i.toNat;unfold clrP;omega
theorem radP_bd {p:Pf} (h:PfOk p) {f i:Int} (f0:1≤f) (f1:f≤100000000) (i0:0≤i) (i1:i≤p.n):0≤radP p f i∧radP p f i≤2000000000:=by
 have a:=off_ok h i0 i1;have:=h.d1;exact freI_bd f0 f1 II II II II
def nuI (h r:Int):Int:=min (max (rdiv (1414*h) (max r 1)) (-1000000)) 1000000
theorem nuI_bd (h r:Int):-1000000≤nuI h r∧nuI h r≤1000000:=by unfold nuI;omega
def nuP (p:Pf) (f i:Int):Int:=nuI (-(clrP p i)) (radP p f i)
theorem nuP_bd (p:Pf) (f i:Int):-1000000≤nuP p f i∧nuP p f i≤1000000:=nuI_bd _ _
def edgI (nu:Int):Int:=if nu≤-780 then 0 else max (6900+2*(lgI (isq ((nu-100)*(nu-100)+1000000)+(nu-100))-30000)) 0
theorem edg_in {nu:Int} (h0:-780<nu) (h1:nu≤1000000):(0≤(nu-100)*(nu-100)∧(nu-100)*(nu-100)≤1000000000000)∧1≤isq ((nu-100)*(nu-100)+1000000)+(nu-100)∧isq ((nu-100)*(nu-100)+1000000)≤1100000:=by
 have a:-(1000000*1000000)≤(nu-100)*(nu-100)∧(nu-100)*(nu-100)≤1000000*1000000:=ze1 1000000 1000000 II II II II II II;have b:0≤(nu-100)*(nu-100):=by
  rcases Int.le_total 0 (nu-100) with h|h
  ·exact Int.mul_nonneg h h
  ·exact Int.mul_nonneg_of_nonpos_of_nonpos h h
 have c:1000≤isq ((nu-100)*(nu-100)+1000000):=isq_ge II II;have d:isq ((nu-100)*(nu-100)+1000000)≤1100000:=isq_le II II;omega
theorem edgI_bd {nu:Int} (h1:nu≤1000000):0≤edgI nu∧edgI nu≤400000:=by
 unfold edgI
 split
 ·omega
 ·have e:=edg_in (nu:=nu) II h1
  have:=lgI_bd (n:=isq ((nu-100)*(nu-100)+1000000)+(nu-100)) II;omega
def wstP (p:Pf) (f:Int):Int:=zdo (nuP p f) 1 (p.hs.length-3)
theorem wstP_bd {p:Pf} (f:Int) (h:3≤p.hs.length):1≤wstP p f∧wstP p f≤p.n-1:=by
 have:=zek (nuP p f) 1 (p.hs.length-3);unfold wstP Pf.n;omega
def sglP (p:Pf) (f:Int):Int:=edgI (nuP p f (wstP p f))
theorem sglP_bd (p:Pf) (f:Int):0≤sglP p f∧sglP p f≤400000:=edgI_bd (nuP_bd _ _ _).2
def zc3 (p:Pf) (i k:Int):Pf:=⟨offP p.d p.n k-offP p.d p.n i,if i=0 then p.f else gi p.hs i.toNat,if k=p.n then p.l else gi p.hs k.toNat,(p.hs.drop i.toNat).take (k+1-i).toNat⟩
def sidP (p:Pf) (f i k:Int):Int:=if pfB (zc3 p i k)=true then (if (zc3 p i k).hs.length=2 then 0 else sglP (zc3 p i k) f) else 0
theorem sidP_bd (p:Pf) (f i k:Int):0≤sidP p f i k∧sidP p f i k≤400000:=by
 have:=sglP_bd (zc3 p i k) f;unfold sidP
 split
 ·split<;>omega
 ·omega
def deyP (p:Pf) (f:Int):Int:=if p.hs.length=2 then 0 else if sglP p f=0 then 0 else sglP p f+sidP p f 0 (wstP p f)+sidP p f (wstP p f) p.n
theorem deyP_bd (p:Pf) (f:Int):0≤deyP p f∧deyP p f≤1200000:=by
 have:=sglP_bd p f;have:=sidP_bd p f 0 (wstP p f);have:=sidP_bd p f (wstP p f) p.n;unfold deyP
 split
 ·omega
 ·split<;>omega
def freeI (f d:Int):Int:=max (2*lgI d+2*lgI f-87552) 0
theorem freeI_bd {f d:Int} (f1:f≤100000000) (d1:d≤283000):0≤freeI f d∧freeI f d≤800000:=by
 have:=lgI_bd (n:=f) II;have:=lgI_bd (n:=d) II;unfold freeI;omega
def gP:List Int:=[1000,10000,20000,22000,30000,50000,60000,70000,100000]
def gV:List Int:=[5,14,110,190,90,500,15000,450,480]
def gasK (x:Int):Nat:=if x≤10000 then 1 else if x≤20000 then 2 else if x≤22000 then 3 else if x≤30000 then 4 else if x≤50000 then 5 else if x≤60000 then 6 else if x≤70000 then 7 else 8
theorem gasK_uniq {x:Int} {k:Nat} (k0:1≤k) (k1:k≤8) (h0:∀ j,1≤j→j<k→gi gP j<x) (h1:k=8∨x≤gi gP k):k=gasK x:=by
 have e1:gi gP 1=10000:=rfl;have e2:gi gP 2=20000:=rfl;have e3:gi gP 3=22000:=rfl;have e4:gi gP 4=30000:=rfl;have e5:gi gP 5=50000:=rfl;have e6:gi gP 6=60000:=rfl;have e7:gi gP 7=70000:=rfl;have a1:=h0 1;have a2:=h0 2;have a3:=h0 3;have a4:=h0 4;have a5:=h0 5;have a6:=h0 6;have a7:=h0 7;clear h0;rw[e1] at a1;rw[e2] at a2;rw[e3] at a3;rw[e4] at a4;rw[e5] at a5;rw[e6] at a6;rw[e7] at a7;unfold gasK;have hk:k=1∨k=2∨k=3∨k=4∨k=5∨k=6∨k=7∨k=8:=II
 rcases hk with rfl|rfl|rfl|rfl|rfl|rfl|rfl|rfl
 ·rw[e1] at h1;repeat' split
  all_goals omega
 ·rw[e2] at h1;repeat' split
  all_goals omega
 ·rw[e3] at h1;repeat' split
  all_goals omega
 ·rw[e4] at h1;repeat' split
  all_goals omega
 ·rw[e5] at h1;repeat' split
  all_goals omega
 ·rw[e6] at h1;repeat' split
  all_goals omega
 ·rw[e7] at h1;repeat' split
  all_goals omega
 ·repeat' split
  all_goals omega
def gasX (x:Int):Int:=lineR (gi gP (gasK x-1)) (gi gV (gasK x-1)) (gi gP (gasK x)) (gi gV (gasK x)) x
theorem gP_bd (k:Nat):0≤gi gP k∧gi gP k≤100000:=by
 have:=gi_all (l:=gP) (p:=fun n=>decide (0≤n∧n≤100000)) Q47 Q47 k;exact of_decide_eq_true this
theorem gV_bd (k:Nat):0≤gi gV k∧gi gV k≤15000:=by
 have:=gi_all (l:=gV) (p:=fun n=>decide (0≤n∧n≤15000)) Q47 Q47 k;exact of_decide_eq_true this
theorem lineR_in {x0 y0 x1 y1 x:Int} (a:0≤x0∧x0≤100000) (b:0≤y0∧y0≤15000) (c:0≤x1∧x1≤100000) (d:0≤y1∧y1≤15000) (h0:x0≤x) (h1:x≤x1):-1500000000≤(y1-y0)*(x-x0)∧(y1-y0)*(x-x0)≤1500000000:=by
 have:=ze1 (a:=y1-y0) (b:=x-x0) 15000 100000 II II II II II II;omega
theorem lineR_bd {x0 y0 x1 y1 x:Int} (a:0≤x0∧x0≤100000) (b:0≤y0∧y0≤15000) (c:0≤x1∧x1≤100000) (d:0≤y1∧y1≤15000):-2000000000≤lineR x0 y0 x1 y1 x∧lineR x0 y0 x1 y1 x≤2000000000:=by
 unfold lineR
 split
 ·omega
 ·split
  ·omega
  ·have e:=lineR_in a b c d (x:=x) II II
   have:=rdiv_bd (a:=(y1-y0)*(x-x0)) (b:=x1-x0) II 1500000000 e.1 e.2;omega
theorem gasX_bd (x:Int):-2000000000≤gasX x∧gasX x≤2000000000:=lineR_bd (gP_bd _) (gV_bd _) (gP_bd _) (gV_bd _)
def gasI (f d:Int):Int:=rdiv (gasX (f / 1000)*d) 1000
theorem gas_in {f d:Int} (d0:0≤d) (d1:d≤283000):-566000000000000≤gasX (f / 1000)*d∧gasX (f / 1000)*d≤566000000000000:=by
 have a:=gasX_bd (f / 1000);have:=ze1 (a:=gasX (f / 1000)) (b:=d) 2000000000 283000 II II a.1 a.2 II d1;omega
theorem gasI_bd {f d:Int} (d0:0≤d) (d1:d≤283000):-566000000000001≤gasI f d∧gasI f d≤566000000000001:=by
 have a:=gas_in (f:=f) d0 d1;exact rdiv_bd II 566000000000000 a.1 a.2
def clH:List Int:=[0,20,10,120,70,90,160,240]
def clL:List Int:=[0,1000,500,12000,8000,10000,16000,20000]
def clF (f:Int):Int:=if f≤300000 then 50 else if f≤1000000 then 75 else if f≤3000000 then 100 else if f≤10000000 then 125 else 150
def cluI (c f above:Int):Int:=if gi clH c.toNat≤above then 0 else rdiv (clF f*gi clL c.toNat*(gi clH c.toNat-above)) (100*gi clH c.toNat)
theorem clH_bd (k:Nat):0≤gi clH k∧gi clH k≤240:=by
 have:=gi_all (l:=clH) (p:=fun n=>decide (0≤n∧n≤240)) Q47 Q47 k;exact of_decide_eq_true this
theorem clL_bd (k:Nat):0≤gi clL k∧gi clL k≤20000:=by
 have:=gi_all (l:=clL) (p:=fun n=>decide (0≤n∧n≤20000)) Q47 Q47 k;exact of_decide_eq_true this
theorem clF_bd (f:Int):50≤clF f∧clF f≤150:=by
 unfold clF
 repeat' split
 all_goals omega
theorem clu_in {c f above:Int} (a0:0≤above) (h:¬ gi clH c.toNat≤above):(0≤clF f*gi clL c.toNat∧clF f*gi clL c.toNat≤3000000)∧0≤clF f*gi clL c.toNat*(gi clH c.toNat-above)∧clF f*gi clL c.toNat*(gi clH c.toNat-above)≤720000000:=by
 have a:=clF_bd f;have b:=clL_bd c.toNat;have e:=clH_bd c.toNat;have c1:=mulP (a:=clF f) (b:=gi clL c.toNat) 150 20000 II a.2 b.1 b.2;have c2:=mulP (a:=clF f*gi clL c.toNat) (b:=gi clH c.toNat-above) 3000000 240 c1.1 II II II;omega
theorem cluI_bd {c f above:Int} (a0:0≤above):0≤cluI c f above∧cluI c f above≤720000000:=by
 unfold cluI
 split
 ·omega
 ·rename_i h
  have a:=clu_in (f:=f) a0 h;refine rdiv_in II a.2.1 ?_;have:=clH_bd c.toNat;omega
def endP (e:DEnd):Prop:=1≤e.above∧e.above≤3000
def zdy (t:DTerrain) (e:DEnd):Int:=hAt t e.place+e.above
theorem highI_bd {t:DTerrain} (T:TerrOk t) {e:DEnd} (h:inT t e.place) (h2:endP e):0≤zdy t e∧zdy t e≤93000:=by
 have:=hAt_bd T h;unfold endP at h2;unfold zdy;omega
def za4 (t:DTerrain) (a b:DEnd):Pf:=⟨zcr a.place b.place,zdy t a,zdy t b,(zdf a.place b.place).map (hAt t)⟩
theorem zdi (t:DTerrain) (a b:DEnd):(za4 t a b).hs.length=17:=by simp[za4,zdm]
theorem profI_hs {t:DTerrain} {a b:DEnd} (k:Nat) (hk:k<17):gi (za4 t a b).hs k=hAt t ((zdf a.place b.place)[k]'(by rw[zdm];exact hk)):=by
 rw[← gi_getElem (by rw[zdi];exact hk)];simp[za4]
theorem profI_ok {t:DTerrain} (T:TerrOk t) {a b:DEnd} (ha:inT t a.place) (hb:inT t b.place) (ha2:endP a) (hb2:endP b) (hd:¬ (a.place.x=b.place.x∧a.place.y=b.place.y)):PfOk (za4 t a b):=by
 have pa:=ze8 T ha;have pb:=ze8 T hb;have h1:=highI_bd T ha ha2;have h2:=highI_bd T hb hb2;have h3:=distI_bd pa pb;have h4:=distI_pos pa pb hd;refine⟨h4,h3.2,h1.1,by show zdy t a≤180000;omega,h2.1,by show zdy t b≤180000;omega,by rw[zdi];omega,by rw[zdi];omega,fun k=>?_,?_,?_⟩
 ·by_cases hk:k<17
  ·rw[profI_hs k hk]
   exact hAt_bd T (placesB_in ha hb _ (List.getElem_mem _))
  ·have:gi (za4 t a b).hs k=0:=by
    unfold gi;rw[List.getD_eq_getElem?_getD,List.getElem?_eq_none (by rw[zdi];omega)];rfl
   omega
 ·rw[profI_hs 0 II,placesB_0]
  unfold endP at ha2;show hAt t a.place≤hAt t a.place+a.above
  omega
 ·rw[zdi,profI_hs 16 II,placesB_16]
  unfold endP at hb2;show hAt t b.place≤hAt t b.place+b.above
  omega
def turnP (p:Pf):Pf:=⟨p.d,p.l,p.f,p.hs.reverse⟩
theorem turnP_prof {t:DTerrain} {a b:DEnd} (h:befB a.place b.place=false):turnP (za4 t a b)=za4 t b a:=by
 have h2:=befB_other h;unfold turnP za4 zdf;rw[distI_symm b.place a.place,h,h2];simp
def zeh (t:DTerrain) (a b:DEnd):Pf:=if befB a.place b.place=true then za4 t a b else za4 t b a
theorem profO_ok {t:DTerrain} (T:TerrOk t) {a b:DEnd} (ha:inT t a.place) (hb:inT t b.place) (ha2:endP a) (hb2:endP b) (hd:¬ (a.place.x=b.place.x∧a.place.y=b.place.y)):PfOk (zeh t a b):=by
 unfold zeh
 split
 ·exact profI_ok T ha hb ha2 hb2 hd
 ·exact profI_ok T hb ha hb2 ha2 (fun h=>hd ⟨h.1.symm,h.2.symm⟩)
def pathE (t:DTerrain) (a b:DEnd):Int:=elevI (zcr a.place b.place) (zdy t b-zdy t a)
def pathT (t:DTerrain) (a b:DEnd) (f:Int):Int:=freeI f (zcr a.place b.place)+gasI f (zcr a.place b.place)+deyP (zeh t a b) f+(cluI (cAt t a.place) f a.above+cluI (cAt t b.place) f b.above)
theorem pathT_bd {t:DTerrain} (T:TerrOk t) {a b:DEnd} {f:Int} (ha:inT t a.place) (hb:inT t b.place) (ha2:endP a) (hb2:endP b) (f1:f≤100000000):-600000000000000≤pathT t a b f∧pathT t a b f≤600000000000000:=by
 have h3:=distI_bd (ze8 T ha) (ze8 T hb);have h4:=freeI_bd (f:=f) f1 h3.2;have h5:=gasI_bd (f:=f) h3.1 h3.2;have h6:=deyP_bd (zeh t a b) f;unfold endP at ha2 hb2;have h7:=cluI_bd (c:=cAt t a.place) (f:=f) (above:=a.above) II;have h8:=cluI_bd (c:=cAt t b.place) (f:=f) (above:=b.above) II;unfold pathT;omega
end Go.Proofs.YtpakghepnahooaaGreatDoor
namespace Go.Proofs.YtpakghepnahooaaGreatDoor
open Go.RowKit
theorem zbm {P:Program} {f:FuncId} {a:Array Value} {W:World} {v:Value} (h:Calls P f a W fun e w'=>e=.returned v∧W=w'):Calls P f a W fun e w'=>e=.returned v∧OI W W w' :=
 h.mono fun _ _ ⟨he,hw⟩=>⟨he,hw ▸ Below.refl _ _⟩
theorem wp_cut {P:Program} {c:Code} {Q:Exit→Act→World→Prop} {a:Act} {w:World} (S:World→Prop) (hS:S w) (h:∀ W,S W→c.wp P Q a W):c.wp P Q a w:=h w hS
theorem nrm_up {u R k:Nat} (h:u<10 ^ (R+1)) (hk:R+k≤8):u*10 ^ k<1000000000:=by
 have a:=(Nat.mul_lt_mul_right (show 0<10 ^ k from Nat.pow_pos II)).2 h;rw[← Nat.pow_add] at a;have b:=Nat.pow_le_pow_right (show 0<10 by omega) (show R+1+k≤9 by omega);omega
theorem pow_up (u k:Nat):u*10 ^ (k+1)=u*10 ^ k*10:=by rw[Nat.pow_succ,Nat.mul_assoc]
theorem div_up (u k:Nat):u / 10 ^ (k+1)=u / 10 ^ k / 10:=by rw[Nat.pow_succ,Nat.div_div_eq_div_mul]
theorem nrm_eq (u R:Nat):nrm u R=((u*10 ^ (8-R) / 10 ^ (R-8):Nat):Int):=by
 unfold nrm
 split
 ·rename_i h;rw[show R-8=0 by omega,Nat.pow_zero,Nat.div_one]
 ·rename_i h;rw[show 8-R=0 by omega,Nat.pow_zero,Nat.mul_one]
theorem zdr {w W0 W:World} {T:Tr} {v:Value} (r:Rd w w T v) (b0:OI w w W0) (hW:OI W0 W0 W):Rd W W T v :=
 (r.below (b0.trans (hW.mono b0.size))).mono (b0.trans (hW.mono b0.size)).size
theorem bkW {v:Value} {w W:World} {b T:Nat} {cs:Array Value} (k:w.heap[b]? = some (.cells cs T (0,0))) (hW:OI w w W) (j:Nat) (hj:cs[j]? = some v):W.cell? ⟨b,j,none⟩=some v:=bkC (bkB k hW (Array.getElem?_eq_some_iff.1 k).1) j hj
theorem bx1 {w W:World} {b T:Nat} {a0:Value} {R:Prop} (k:w.heap[b]? = some (.cells #[a0] T (0,0))) (hW:OI w w W) (r:R):(W,b,0,a0)∧R:=⟨bkW k hW 0 rfl,r⟩
theorem by1 {w W:World} {b T:Nat} {a0:Value} (k:w.heap[b]? = some (.cells #[a0] T (0,0))) (hW:OI w w W):W.cell? ⟨b,0,none⟩=some a0:=bkW k hW 0 rfl
theorem bz1 {w:World} {b T:Nat} {a0:Value} (k:w.heap[b]? = some (.cells #[a0] T (0,0))):(w,b,0,a0)∧∀ j,w.frozen? ⟨b,j,none⟩=false:=⟨bkC k 0 rfl,bkF k⟩
theorem bx2 {w W:World} {b T:Nat} {a0 a1:Value} {R:Prop} (k:w.heap[b]? = some (.cells #[a0,a1] T (0,0))) (hW:OI w w W) (r:R):(W,b,0,a0)∧(W,b,1,a1)∧R:=⟨bkW k hW 0 rfl,bkW k hW 1 rfl,r⟩
theorem by2 {w W:World} {b T:Nat} {a0 a1:Value} (k:w.heap[b]? = some (.cells #[a0,a1] T (0,0))) (hW:OI w w W):(W,b,0,a0)∧(W,b,1,a1):=⟨bkW k hW 0 rfl,bkW k hW 1 rfl⟩
theorem bz2 {w:World} {b T:Nat} {a0 a1:Value} (k:w.heap[b]? = some (.cells #[a0,a1] T (0,0))):(w,b,0,a0)∧(w,b,1,a1)∧∀ j,w.frozen? ⟨b,j,none⟩=false:=⟨bkC k 0 rfl,bkC k 1 rfl,bkF k⟩
theorem bx3 {w W:World} {b T:Nat} {a0 a1 a2:Value} {R:Prop} (k:w.heap[b]? = some (.cells #[a0,a1,a2] T (0,0))) (hW:OI w w W) (r:R):(W,b,0,a0)∧(W,b,1,a1)∧(W,b,2,a2)∧R:=⟨bkW k hW 0 rfl,bkW k hW 1 rfl,bkW k hW 2 rfl,r⟩
theorem by3 {w W:World} {b T:Nat} {a0 a1 a2:Value} (k:w.heap[b]? = some (.cells #[a0,a1,a2] T (0,0))) (hW:OI w w W):(W,b,0,a0)∧(W,b,1,a1)∧(W,b,2,a2):=⟨bkW k hW 0 rfl,bkW k hW 1 rfl,bkW k hW 2 rfl⟩
theorem bx4 {w W:World} {b T:Nat} {a0 a1 a2 a3:Value} {R:Prop} (k:w.heap[b]? = some (.cells #[a0,a1,a2,a3] T (0,0))) (hW:OI w w W) (r:R):(W,b,0,a0)∧(W,b,1,a1)∧(W,b,2,a2)∧(W,b,3,a3)∧R:=⟨bkW k hW 0 rfl,bkW k hW 1 rfl,bkW k hW 2 rfl,bkW k hW 3 rfl,r⟩
theorem by4 {w W:World} {b T:Nat} {a0 a1 a2 a3:Value} (k:w.heap[b]? = some (.cells #[a0,a1,a2,a3] T (0,0))) (hW:OI w w W):(W,b,0,a0)∧(W,b,1,a1)∧(W,b,2,a2)∧(W,b,3,a3):=⟨bkW k hW 0 rfl,bkW k hW 1 rfl,bkW k hW 2 rfl,bkW k hW 3 rfl⟩
theorem bz4 {w:World} {b T:Nat} {a0 a1 a2 a3:Value} (k:w.heap[b]? = some (.cells #[a0,a1,a2,a3] T (0,0))):(w,b,0,a0)∧(w,b,1,a1)∧(w,b,2,a2)∧(w,b,3,a3)∧∀ j,w.frozen? ⟨b,j,none⟩=false:=⟨bkC k 0 rfl,bkC k 1 rfl,bkC k 2 rfl,bkC k 3 rfl,bkF k⟩
theorem bx5 {w W:World} {b T:Nat} {a0 a1 a2 a3 a4:Value} {R:Prop} (k:w.heap[b]? = some (.cells #[a0,a1,a2,a3,a4] T (0,0))) (hW:OI w w W) (r:R):(W,b,0,a0)∧(W,b,1,a1)∧(W,b,2,a2)∧(W,b,3,a3)∧(W,b,4,a4)∧R:=⟨bkW k hW 0 rfl,bkW k hW 1 rfl,bkW k hW 2 rfl,bkW k hW 3 rfl,bkW k hW 4 rfl,r⟩
theorem by5 {w W:World} {b T:Nat} {a0 a1 a2 a3 a4:Value} (k:w.heap[b]? = some (.cells #[a0,a1,a2,a3,a4] T (0,0))) (hW:OI w w W):(W,b,0,a0)∧(W,b,1,a1)∧(W,b,2,a2)∧(W,b,3,a3)∧(W,b,4,a4):=⟨bkW k hW 0 rfl,bkW k hW 1 rfl,bkW k hW 2 rfl,bkW k hW 3 rfl,bkW k hW 4 rfl⟩
theorem bz5 {w:World} {b T:Nat} {a0 a1 a2 a3 a4:Value} (k:w.heap[b]? = some (.cells #[a0,a1,a2,a3,a4] T (0,0))):(w,b,0,a0)∧(w,b,1,a1)∧(w,b,2,a2)∧(w,b,3,a3)∧(w,b,4,a4)∧∀ j,w.frozen? ⟨b,j,none⟩=false:=⟨bkC k 0 rfl,bkC k 1 rfl,bkC k 2 rfl,bkC k 3 rfl,bkC k 4 rfl,bkF k⟩
theorem bz6 {w:World} {b T:Nat} {a0 a1 a2 a3 a4 a5:Value} (k:w.heap[b]? = some (.cells #[a0,a1,a2,a3,a4,a5] T (0,0))):(w,b,0,a0)∧(w,b,1,a1)∧(w,b,2,a2)∧(w,b,3,a3)∧(w,b,4,a4)∧(w,b,5,a5)∧∀ j,w.frozen? ⟨b,j,none⟩=false:=⟨bkC k 0 rfl,bkC k 1 rfl,bkC k 2 rfl,bkC k 3 rfl,bkC k 4 rfl,bkC k 5 rfl,bkF k⟩
theorem bx9 {w W:World} {b T:Nat} {a0 a1 a2 a3 a4 a5 a6 a7 a8:Value} {R:Prop} (k:w.heap[b]? = some (.cells #[a0,a1,a2,a3,a4,a5,a6,a7,a8] T (0,0))) (hW:OI w w W) (r:R):(W,b,0,a0)∧(W,b,1,a1)∧(W,b,2,a2)∧(W,b,3,a3)∧(W,b,4,a4)∧(W,b,5,a5)∧(W,b,6,a6)∧(W,b,7,a7)∧(W,b,8,a8)∧R:=⟨bkW k hW 0 rfl,bkW k hW 1 rfl,bkW k hW 2 rfl,bkW k hW 3 rfl,bkW k hW 4 rfl,bkW k hW 5 rfl,bkW k hW 6 rfl,bkW k hW 7 rfl,bkW k hW 8 rfl,r⟩
theorem by9 {w W:World} {b T:Nat} {a0 a1 a2 a3 a4 a5 a6 a7 a8:Value} (k:w.heap[b]? = some (.cells #[a0,a1,a2,a3,a4,a5,a6,a7,a8] T (0,0))) (hW:OI w w W):(W,b,0,a0)∧(W,b,1,a1)∧(W,b,2,a2)∧(W,b,3,a3)∧(W,b,4,a4)∧(W,b,5,a5)∧(W,b,6,a6)∧(W,b,7,a7)∧(W,b,8,a8):=⟨bkW k hW 0 rfl,bkW k hW 1 rfl,bkW k hW 2 rfl,bkW k hW 3 rfl,bkW k hW 4 rfl,bkW k hW 5 rfl,bkW k hW 6 rfl,bkW k hW 7 rfl,bkW k hW 8 rfl⟩
theorem bz9 {w:World} {b T:Nat} {a0 a1 a2 a3 a4 a5 a6 a7 a8:Value} (k:w.heap[b]? = some (.cells #[a0,a1,a2,a3,a4,a5,a6,a7,a8] T (0,0))):(w,b,0,a0)∧(w,b,1,a1)∧(w,b,2,a2)∧(w,b,3,a3)∧(w,b,4,a4)∧(w,b,5,a5)∧(w,b,6,a6)∧(w,b,7,a7)∧(w,b,8,a8)∧∀ j,w.frozen? ⟨b,j,none⟩=false:=⟨bkC k 0 rfl,bkC k 1 rfl,bkC k 2 rfl,bkC k 3 rfl,bkC k 4 rfl,bkC k 5 rfl,bkC k 6 rfl,bkC k 7 rfl,bkC k 8 rfl,bkF k⟩
theorem aI {a b:Prop} (x:a) (y:b):a∧b:=⟨x,y⟩
theorem btr {w0 w1 w2:World} (B:Hid (OI w0 w0 w1)) (h:OI w1 w1 w2):Hid (OI w0 w0 w2):=IJ (B.out.trans (h.mono B.out.size))
theorem bkH {w w':World} {b:Nat} {o:Obj} (k:Hid (w.heap[b]? = some o)) (h:OI w w w'):Hid (w'.heap[b]? = some o):=IJ (bkB k.out h (Array.getElem?_eq_some_iff.1 k.out).1)
def zbq (w:World) (b:Nat):Nat→List Value→World
 | _,[]=>w
 | j,v::l=>zbq (w.setCell ⟨b,j,none⟩ v) b (j+1) l
theorem setsC_at {b T:Nat} : ∀ (l:List Value) (w:World) (j:Nat) (cs:Array Value),w.heap[b]? = some (.cells cs T (0,0))→j+l.length=cs.size →
  (zbq w b j l).heap[b]? = some (.cells (cs.toList.take j++l).toArray T (0,0))∧w.heap.size≤(zbq w b j l).heap.size∧(∀ x,x≠b→(zbq w b j l).heap[x]? = w.heap[x]?) ∧
   ∀ w0:World,w0.heap.size≤b→OI w0 w0 w→OI w0 w0 (zbq w b j l)
 | [],w,j,cs,h,hl=>by
  have e:cs.toList.take j=cs.toList:=List.take_of_length_le (by simp at hl ⊢;omega);refine⟨by simp only[zbq];rw[e,List.append_nil,h],Nat.le_refl _,fun _ _=>rfl,fun _ _ h=>h⟩
 | v::l,w,j,cs,h,hl=>by
  rw[List.length_cons] at hl;obtain⟨h1,h2,h3,h4⟩:=setsC_at l (w.setCell ⟨b,j,none⟩ v) (j+1) (cs.setIfInBounds j v) (bkS h j v) (by rw[Array.size_setIfInBounds];omega);have e:(cs.setIfInBounds j v).toList.take (j+1)++l=cs.toList.take j++v::l:=by
   rw[Array.toList_setIfInBounds,List.take_succ_eq_append_getElem Q41,List.getElem_set_self,List.take_set_of_le (Nat.le_refl _),List.append_assoc]
   rfl
  rw[e] at h1;refine⟨h1,by rw[zac] at h2;exact h2,fun x hx=>(h3 x hx).trans (Below.heap_setCell _ _ _ _ hx),fun w0 hw h=>h4 w0 hw (h.setCell (p:=⟨b,j,none⟩) hw v)⟩
theorem zea {w:World} {b T:Nat} {cs:Array Value} (k:Hid (w.heap[b]? = some (.cells cs T (0,0)))) (l:List Value) (hl:l.length=cs.size):∃ w',zbq w b 0 l=w'∧Hid (w'.heap[b]? = some (.cells l.toArray T (0,0))) ∧
  w.heap.size≤w'.heap.size∧Hid (∀ x,x≠b→w'.heap[x]? = w.heap[x]?)∧Hid (∀ w0:World,w0.heap.size≤b→OI w0 w0 w→OI w0 w0 w'):=by
 obtain⟨h1,h2,h3,h4⟩:=setsC_at l w 0 cs k.out II;rw[List.take_zero,List.nil_append] at h1;exact⟨_,rfl,h1,h2,h3,h4⟩
theorem zfd {w:World} {b T:Nat} {cs:Array Value} (k:Hid (w.heap[b]? = some (.cells cs T (0,0)))) (j:Nat) (v:Value):∃ w',w.setCell ⟨b,j,none⟩ v=w'∧Hid (w'.heap[b]? = some (.cells (cs.setIfInBounds j v) T (0,0))) ∧
  w.heap.size≤w'.heap.size∧Hid (∀ x,x≠b→w'.heap[x]? = w.heap[x]?)∧Hid (∀ w0:World,w0.heap.size≤b→OI w0 w0 w→OI w0 w0 w') :=
 ⟨_,rfl,bkS k.out j v,by rw[zac];exact Nat.le_refl _,fun x hx=>Below.heap_setCell _ _ _ _ hx,fun w0 hw h=>h.setCell (p:=⟨b,j,none⟩) hw v⟩
end Go.Proofs.YtpakghepnahooaaGreatDoor
