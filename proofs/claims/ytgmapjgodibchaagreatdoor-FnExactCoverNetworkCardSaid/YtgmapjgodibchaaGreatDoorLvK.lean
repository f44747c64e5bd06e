/- Small words for walks: contracts that change nothing, a cut of the world, products in bounds. Plain lemmas; no program. -/
import Derived.Test.YtgmapjgodibchaaGreatDoorLv0
import Derived.Test.YtgmapjgodibchaaGreatDoorTer
import Derived.Test.YtgmapjgodibchaaGreatDoorTre2
set_option linter.unusedVariables false
set_option linter.unusedSimpArgs false
namespace Go.Proofs.YtgmapjgodibchaaGreatDoor
def sinL:List Int:=[0,17452,34899,52336,69756,87156,104528,121869,139173,156434,173648,190809,207912,224951,241922,258819,275637,292372,309017,325568,342020,358368,374607,390731,406737,422618,438371,453990,469472,484810,500000,515038,529919,544639,559193,573576,587785,601815,615661,629320,642788,656059,669131,681998,694658,707107,719340,731354,743145,754710,766044,777146,788011,798636,809017,819152,829038,838671,848048,857167,866025,874620,882948,891007,898794,906308,913545,920505,927184,933580,939693,945519,951057,956305,961262,965926,970296,974370,978148,981627,984808,987688,990268,992546,994522,996195,997564,998630,999391,999848,1000000]
theorem sinL_len:sinL.length=91:=rfl
theorem gi_all {l:List Int} {p:Int→Bool} (h:l.all p=true) (h0:p 0=true) (k:Nat):p (gi l k)=true:=by
 unfold gi
 by_cases hk:k<l.length
 ·rw[List.getD_eq_getElem?_getD,List.getElem?_eq_getElem hk]
  exact List.all_eq_true.1 h _ (List.getElem_mem hk)
 ·rw[List.getD_eq_getElem?_getD,List.getElem?_eq_none O];exact h0
def sinT (k:Nat):Int:=gi sinL k
theorem zcu (k:Nat):0≤sinT k∧sinT k≤1000000:=by
 have:=gi_all (l:=sinL) (p:=fun n=>decide (0≤n∧n≤1000000)) (by decide) (by decide) k;exact of_decide_eq_true this
def sin2 (d:Int):Int:=if 90<d then sinT (180-d).toNat else sinT d.toNat
def sinD (d:Int):Int:=if 180≤d then -(sin2 (d-180)) else sin2 d
def sinA (d:Int):Int:=sinD (d % 360)
def cosA (d:Int):Int:=sinD ((d+90) % 360)
theorem sin2_bd (d:Int):0≤sin2 d∧sin2 d≤1000000:=by
 unfold sin2;split<;>exact zcu _
theorem sinD_bd (d:Int):-1000000≤sinD d∧sinD d≤1000000:=by
 unfold sinD;have h1:=sin2_bd d;have h2:=sin2_bd (d-180)
 split<;>omega
theorem sinA_bd (d:Int):-1000000≤sinA d∧sinA d≤1000000:=sinD_bd _
theorem cosA_bd (d:Int):-1000000≤cosA d∧cosA d≤1000000:=sinD_bd _
theorem zdl {a b:Int} (A B:Int) (hA:0≤A) (hB:0≤B) (h1:-A≤a) (h2:a≤A) (h3:-B≤b) (h4:b≤B):-(A*B)≤a*b∧a*b≤A*B:=by
 have key:∀ x y:Int,0≤x→x≤A→0≤y→y≤B→0≤x*y∧x*y≤A*B:=fun x y h1 h2 h3 h4 =>
  ⟨Int.mul_nonneg h1 h3,Int.mul_le_mul h2 h4 h3 hA⟩
 have hP:0≤A*B:=Int.mul_nonneg hA hB
 rcases Int.le_total 0 a with ha|ha<;>rcases Int.le_total 0 b with hb|hb
 ·have:=key a b ha h2 hb h4;omega
 ·have:=key a (-b) ha h2 O O;rw[Int.mul_neg] at this;omega
 ·have:=key (-a) b O O hb h4;rw[Int.neg_mul] at this;omega
 ·have:=key (-a) (-b) O O O O;rw[Int.neg_mul_neg] at this;omega
def zaz (g:Int→Int) (s:Int):Nat→Int
 | 0=>s
 | k+1=>if g (zaz g s k)<g (s+((k+1:Nat):Int)) then s+((k+1:Nat):Int) else zaz g s k
theorem zdb (g:Int→Int) (s:Int):∀ k,s≤zaz g s k∧zaz g s k≤s+(k:Int)
 | 0=>by simp[zaz]
 | k+1=>by
  have:=zdb g s k;unfold zaz
  split<;>omega
def ptB (p:DPoint):Prop:=(0≤p.x∧p.x≤200000)∧(0≤p.y∧p.y≤200000)
def dotP (x y d:Int):Int:=x*sinA d+y*cosA d
theorem dotP_bd {x y:Int} (d:Int) (h1:-200000≤x) (h2:x≤200000) (h3:-200000≤y) (h4:y≤200000):(-200000000000≤x*sinA d∧x*sinA d≤200000000000)∧(-200000000000≤y*cosA d∧y*cosA d≤200000000000):=by
 have a:=zdl (a:=x) (b:=sinA d) 200000 1000000 O O O h2 (by have:=sinA_bd d;omega) (sinA_bd d).2;have b:=zdl (a:=y) (b:=cosA d) 200000 1000000 O O O h4 (by have:=cosA_bd d;omega) (cosA_bd d).2;omega
def zdh (a b:DPoint):Int:=zaz (dotP (b.x-a.x) (b.y-a.y)) 0 359
def dotE (d h e:Int):Int:=10*d*cosA e+h*sinA e
theorem dotE_bd {d h:Int} (e:Int) (h1:0≤d) (h2:d≤283000) (h3:-200000≤h) (h4:h≤200000):(-2830000000000≤10*d*cosA e∧10*d*cosA e≤2830000000000)∧(-200000000000≤h*sinA e∧h*sinA e≤200000000000):=by
 have a:=zdl (a:=10*d) (b:=cosA e) 2830000 1000000 O O O O (by have:=cosA_bd e;omega) (cosA_bd e).2;have b:=zdl (a:=h) (b:=sinA e) 200000 1000000 O O O h4 (by have:=sinA_bd e;omega) (sinA_bd e).2;omega
def elevI (d h:Int):Int:=zaz (dotE d h) (-90) 180
theorem bearI_bd (a b:DPoint):0≤zdh a b∧zdh a b≤359:=by have:=zdb (dotP (b.x-a.x) (b.y-a.y)) 0 359;unfold zdh;omega
theorem elevI_bd (d h:Int):-90≤elevI d h∧elevI d h≤90:=by have:=zdb (dotE d h) (-90) 180;unfold elevI;omega
def dist2 (a b:DPoint):Int:=(b.x-a.x)*(b.x-a.x)+(b.y-a.y)*(b.y-a.y)
def zbp (a b:DPoint):Int:=isq (dist2 a b)
theorem sq_bd {x:Int} (h1:-200000≤x) (h2:x≤200000):0≤x*x∧x*x≤40000000000:=by
 have a:=zdl (a:=x) (b:=x) 200000 200000 O O O h2 O h2;refine⟨?_,O⟩
 rcases Int.le_total 0 x with h|h
 ·exact Int.mul_nonneg h h
 ·exact Int.mul_nonneg_of_nonpos_of_nonpos h h
theorem dist2_bd {a b:DPoint} (ha:ptB a) (hb:ptB b):0≤dist2 a b∧dist2 a b≤80000000000:=by
 unfold ptB at ha hb;have h1:=sq_bd (x:=b.x-a.x) O O;have h2:=sq_bd (x:=b.y-a.y) O O;unfold dist2;omega
theorem distI_bd {a b:DPoint} (ha:ptB a) (hb:ptB b):0≤zbp a b∧zbp a b≤283000:=by
 have h:=dist2_bd ha hb;exact⟨zef _,isq_le O O⟩
theorem dist2_symm (a b:DPoint):dist2 a b=dist2 b a:=by
 unfold dist2;rw[show b.x-a.x = -(a.x-b.x) by omega,show b.y-a.y = -(a.y-b.y) by omega,Int.neg_mul_neg,Int.neg_mul_neg]
theorem distI_symm (a b:DPoint):zbp a b=zbp b a:=by unfold zbp;rw[dist2_symm]
theorem sq_pos {x:Int} (h:x≠0):1≤x*x:=by
 rcases Int.lt_or_gt_of_ne h with h|h
 ·have:=Int.mul_pos_of_neg_of_neg h h;omega
 ·have:=Int.mul_pos h h;omega
theorem distI_pos {a b:DPoint} (ha:ptB a) (hb:ptB b) (h:¬ (a.x=b.x∧a.y=b.y)):1≤zbp a b:=by
 unfold ptB at ha hb;have h1:=sq_bd (x:=b.x-a.x) O O;have h2:=sq_bd (x:=b.y-a.y) O O;refine isq_ge ?_ O;unfold dist2
 by_cases hx:b.x-a.x=0
 ·have:=sq_pos (x:=b.y-a.y) O;omega
 ·have:=sq_pos hx;omega
structure TerrOk (t:DTerrain):Prop where
 s0:1≤t.step
 s1:t.step≤10000
 w0:2≤t.width
 w1:t.width≤24
 h0:2≤t.height
 h1:t.height≤24
 mw:0≤(t.width-1)*t.step∧(t.width-1)*t.step≤200000
 mh:0≤(t.height-1)*t.step∧(t.height-1)*t.step≤200000
 lh:(t.heights.length:Int)=t.width*t.height
 lc:(t.clutter.length:Int)=t.width*t.height
 hs:∀ k,0≤gi t.heights k∧gi t.heights k≤90000
 cs:∀ k,0≤gi t.clutter k∧gi t.clutter k≤7
def inT (t:DTerrain) (p:DPoint):Prop:=(0≤p.x∧p.x≤(t.width-1)*t.step)∧(0≤p.y∧p.y≤(t.height-1)*t.step)
theorem zc3 {t:DTerrain} (T:TerrOk t) {p:DPoint} (h:inT t p):ptB p:=by
 have:=T.mw;have:=T.mh;unfold inT at h;unfold ptB;omega
def colT (s w x:Int):Int:=min (x / s) (w-2)
theorem colT_bd {s w x:Int} (s0:1≤s) (w0:2≤w) (x0:0≤x) (x1:x≤(w-1)*s):(0≤colT s w x∧colT s w x≤w-2)∧0≤x-colT s w x*s∧x-colT s w x*s≤s:=by
 have h1:=Int.mul_ediv_add_emod x s;have h2:=Int.emod_nonneg x (show s≠0 by omega);have h3:=Int.emod_lt_of_pos x (show 0<s by omega);have h4:0≤x / s:=Int.ediv_nonneg x0 O;unfold colT;rw[Int.mul_comm] at h1
 by_cases hc:x / s≤w-2
 ·rw[show min (x / s) (w-2)=x / s by omega]
  generalize x / s*s=q at *;omega
 ·rw[show min (x / s) (w-2)=w-2 by omega]
  have h5:(w-1)*s≤x / s*s:=Int.mul_le_mul_of_nonneg_right O O;have h6:(w-1)*s=(w-2)*s+s:=by rw[show w-1=(w-2)+1 by omega,Int.add_mul,Int.one_mul]
  generalize x / s*s=q at *;generalize (w-2)*s=r at *;generalize (w-1)*s=r' at *;omega
theorem ze4 {i k w h:Int} (i0:0≤i) (i1:i≤w-1) (k0:0≤k) (k1:k≤h-1) (w1:w≤24) (h1:h≤24):0≤k*w∧k*w≤552∧0≤k*w+i∧k*w+i<w*h:=by
 have a:0≤k*w:=Int.mul_nonneg k0 O;have b:k*w≤23*24:=Int.mul_le_mul O w1 O O;have c:k*w≤(h-1)*w:=Int.mul_le_mul_of_nonneg_right k1 O;have d:w*h=(h-1)*w+w:=by rw[Int.mul_comm w h,show h=(h-1)+1 by omega,Int.add_mul,Int.one_mul,show h-1+1-1=h-1 by omega]
 omega
def hIx (t:DTerrain) (i k:Int):Int:=gi t.heights (k*t.width+i).toNat
def hSum (t:DTerrain) (i k u v:Int):Int:=hIx t i k*(t.step-u)*(t.step-v)+hIx t (i+1) k*u*(t.step-v)+hIx t i (k+1)*(t.step-u)*v+hIx t (i+1) (k+1)*u*v
def hAt (t:DTerrain) (p:DPoint):Int :=
 rdiv (hSum t (colT t.step t.width p.x) (colT t.step t.height p.y) (p.x-colT t.step t.width p.x*t.step) (p.y-colT t.step t.height p.y*t.step)) (t.step*t.step)
theorem zeu {h a b:Int} (h0:0≤h) (h1:h≤90000) (a0:0≤a) (a1:a≤10000) (b0:0≤b) (b1:b≤10000):(0≤h*a∧h*a≤900000000)∧(0≤h*a*b∧h*a*b≤9000000000000)∧h*a*b≤90000*(a*b):=by
 have c1:0≤h*a:=Int.mul_nonneg h0 a0;have c2:h*a≤90000*10000:=Int.mul_le_mul h1 a1 a0 O;have c3:0≤h*a*b:=Int.mul_nonneg c1 b0;have c4:h*a*b≤900000000*10000:=Int.mul_le_mul O b1 b0 O;have c5:0≤a*b:=Int.mul_nonneg a0 b0;have c6:h*(a*b)≤90000*(a*b):=Int.mul_le_mul_of_nonneg_right h1 c5;rw[← Int.mul_assoc] at c6;omega
theorem ze2 {a b m:Int} (hb:1≤b) (h0:0≤a) (h1:a≤m*b):0≤rdiv a b∧rdiv a b≤m:=by
 unfold rdiv;rw[if_neg O];refine⟨Int.ediv_nonneg O O,?_⟩;have:(2*a+b) / (2*b)<m+1:=by
  refine Int.ediv_lt_of_lt_mul O ?_;rw[Int.add_mul,Int.one_mul,← Int.mul_assoc,Int.mul_comm m 2,Int.mul_assoc];omega
 omega
theorem hSum_bd {t:DTerrain} (T:TerrOk t) {i k u v:Int} (u0:0≤u) (u1:u≤t.step) (v0:0≤v) (v1:v≤t.step):0≤hSum t i k u v∧hSum t i k u v≤90000*(t.step*t.step):=by
 have s1:=T.s1;have p1:=zeu (T.hs (k*t.width+i).toNat).1 (T.hs (k*t.width+i).toNat).2 (show 0≤t.step-u by omega) O (show 0≤t.step-v by omega) O;have p2:=zeu (T.hs (k*t.width+(i+1)).toNat).1 (T.hs (k*t.width+(i+1)).toNat).2 u0 O (show 0≤t.step-v by omega) O;have p3:=zeu (T.hs ((k+1)*t.width+i).toNat).1 (T.hs ((k+1)*t.width+i).toNat).2 (show 0≤t.step-u by omega) O v0 O;have p4:=zeu (T.hs ((k+1)*t.width+(i+1)).toNat).1 (T.hs ((k+1)*t.width+(i+1)).toNat).2 u0 O v0 O;have e:(t.step-u)*(t.step-v)+u*(t.step-v)+(t.step-u)*v+u*v=t.step*t.step:=by
  rw[← Int.add_mul,show t.step-u+u=t.step by omega,Int.add_assoc,← Int.add_mul,show t.step-u+u=t.step by omega,← Int.mul_add,show t.step-v+v=t.step by omega]
 unfold hSum hIx;omega
theorem step_sq {s:Int} (h0:1≤s) (h1:s≤10000):1≤s*s∧s*s≤100000000:=by
 have a:1*1≤s*s:=Int.mul_le_mul h0 h0 O O;have b:s*s≤10000*10000:=Int.mul_le_mul h1 h1 O O;omega
theorem hAt_bd {t:DTerrain} (T:TerrOk t) {p:DPoint} (h:inT t p):0≤hAt t p∧hAt t p≤90000:=by
 have a:=colT_bd T.s0 T.w0 h.1.1 h.1.2;have b:=colT_bd T.s0 T.h0 h.2.1 h.2.2;have c:=hSum_bd T (i:=colT t.step t.width p.x) (k:=colT t.step t.height p.y) a.2.1 a.2.2 b.2.1 b.2.2;have d:=step_sq T.s0 T.s1;exact ze2 O c.1 c.2
def zdt (s x:Int):Int:=(2*x+s) / (2*s)
theorem cNear_bd {s w x:Int} (s0:1≤s) (x0:0≤x) (x1:x≤(w-1)*s):0≤zdt s x∧zdt s x≤w-1:=by
 unfold zdt;refine⟨Int.ediv_nonneg O O,?_⟩;have:(2*x+s) / (2*s)<w:=by
  refine Int.ediv_lt_of_lt_mul O ?_;have e:w*(2*s)=2*((w-1)*s)+2*s:=by
   rw[show w*(2*s)=2*(w*s) by rw[← Int.mul_assoc,Int.mul_comm w 2,Int.mul_assoc],Int.sub_mul,Int.one_mul];omega
  generalize (w-1)*s=q at *;omega
 omega
def cAt (t:DTerrain) (p:DPoint):Int:=gi t.clutter (zdt t.step p.y*t.width+zdt t.step p.x).toNat
def zcn (a b:DPoint) (k:Nat):DPoint:=⟨a.x+rdiv ((k:Int)*(b.x-a.x)) 16,a.y+rdiv ((k:Int)*(b.y-a.y)) 16⟩
def befB (a b:DPoint):Bool:=decide (a.x<b.x) || (decide (a.x=b.x)&&decide (a.y≤b.y))
def zej (a b:DPoint):List DPoint:=(List.range 17).map (zcn a b)
def zc4 (a b:DPoint):List DPoint:=if befB a b=true then zej a b else (zej b a).reverse
theorem part16 {k:Nat} {c:Int} (hk:k≤16):(0≤c→0≤rdiv ((k:Int)*c) 16∧rdiv ((k:Int)*c) 16≤c)∧(c≤0→c≤rdiv ((k:Int)*c) 16∧rdiv ((k:Int)*c) 16≤0):=by
 have key:∀ c:Int,0≤c→0≤rdiv ((k:Int)*c) 16∧rdiv ((k:Int)*c) 16≤c:=fun c hc=>by
  refine ze2 O (Int.mul_nonneg O hc) ?_;rw[Int.mul_comm c 16];exact Int.mul_le_mul_of_nonneg_right O hc
 refine⟨key c,fun hc=>?_⟩;have:=key (-c) O;rw[Int.mul_neg,rdiv_neg O] at this;omega
theorem placeK_mid {a b:DPoint} {k:Nat} (hk:k≤16) (X Y:Int) (hax:0≤a.x∧a.x≤X) (hbx:0≤b.x∧b.x≤X) (hay:0≤a.y∧a.y≤Y) (hby:0≤b.y∧b.y≤Y):(0≤(zcn a b k).x∧(zcn a b k).x≤X)∧(0≤(zcn a b k).y∧(zcn a b k).y≤Y):=by
 have h1:=part16 (c:=b.x-a.x) hk;have h2:=part16 (c:=b.y-a.y) hk;show (0≤a.x+rdiv ((k:Int)*(b.x-a.x)) 16∧a.x+rdiv ((k:Int)*(b.x-a.x)) 16≤X)∧(0≤a.y+rdiv ((k:Int)*(b.y-a.y)) 16∧a.y+rdiv ((k:Int)*(b.y-a.y)) 16≤Y)
 constructor
 ·rcases Int.le_total 0 (b.x-a.x) with h|h
  ·have:=h1.1 h;omega
  ·have:=h1.2 h;omega
 ·rcases Int.le_total 0 (b.y-a.y) with h|h
  ·have:=h2.1 h;omega
  ·have:=h2.2 h;omega
theorem placeK_in {t:DTerrain} {a b:DPoint} {k:Nat} (hk:k≤16) (ha:inT t a) (hb:inT t b):inT t (zcn a b k) :=
 placeK_mid hk _ _ ha.1 hb.1 ha.2 hb.2
theorem rdiv16 (c:Int):rdiv (16*c) 16=c:=by
 unfold rdiv;split<;>omega
theorem placeK_last (a b:DPoint):zcn a b 16=b:=by
 unfold zcn;show DPoint.mk (a.x+rdiv (16*(b.x-a.x)) 16) (a.y+rdiv (16*(b.y-a.y)) 16)=b
 rw[rdiv16,rdiv16]
 cases b;simp<;>omega
theorem placeK_first (a b:DPoint):zcn a b 0=a:=by
 unfold zcn;show DPoint.mk (a.x+rdiv (0*(b.x-a.x)) 16) (a.y+rdiv (0*(b.y-a.y)) 16)=a
 rw[Int.zero_mul,Int.zero_mul,show rdiv 0 16=0 from by decide]
 cases a;simp
theorem placesF_in {t:DTerrain} {a b:DPoint} (ha:inT t a) (hb:inT t b):∀ p ∈ zej a b,inT t p:=by
 intro p hp;obtain⟨k,hk,rfl⟩:=List.mem_map.1 hp;exact placeK_in (by have:=List.mem_range.1 hk;omega) ha hb
theorem placesB_in {t:DTerrain} {a b:DPoint} (ha:inT t a) (hb:inT t b):∀ p ∈ zc4 a b,inT t p:=by
 unfold zc4
 split
 ·exact placesF_in ha hb
 ·intro p hp;exact placesF_in hb ha p (List.mem_reverse.1 hp)
theorem zdc (a b:DPoint):(zej a b).length=17:=by simp[zej]
theorem zdd (a b:DPoint):(zc4 a b).length=17:=by unfold zc4;split<;>simp[zdc]
theorem placesF_0 (a b:DPoint):(zej a b)[0]'(by rw[zdc];omega)=a:=by
 simp only[zej,List.getElem_map,List.getElem_range];exact placeK_first a b
theorem placesF_16 (a b:DPoint):(zej a b)[16]'(by rw[zdc];omega)=b:=by
 simp only[zej,List.getElem_map,List.getElem_range];exact placeK_last a b
theorem placesB_0 (a b:DPoint):(zc4 a b)[0]'(by rw[zdd];omega)=a:=by
 unfold zc4
 split
 ·exact placesF_0 a b
 ·rw[List.getElem_reverse];simp only[zdc];exact placesF_16 b a
theorem placesB_16 (a b:DPoint):(zc4 a b)[16]'(by rw[zdd];omega)=b:=by
 unfold zc4
 split
 ·exact placesF_16 a b
 ·rw[List.getElem_reverse];simp only[zdc];exact placesF_0 b a
theorem befB_other {a b:DPoint} (h:befB a b=false):befB b a=true:=by
 unfold befB at *;simp at *;omega
theorem mulP {a b:Int} (A B:Int) (a0:0≤a) (a1:a≤A) (b0:0≤b) (b1:b≤B):0≤a*b∧a*b≤A*B :=
 ⟨Int.mul_nonneg a0 b0,Int.mul_le_mul a1 b1 b0 O⟩
structure Pf where
 d:Int
 f:Int
 l:Int
 hs:List Int
def Pf.n (p:Pf):Int:=(p.hs.length:Int)-1
def pfB (p:Pf):Bool:=inB p.d 1 283000&&(inB p.f 0 180000&&(inB p.l 0 180000&&(decide (2≤(p.hs.length:Int))&&(decide ((p.hs.length:Int)≤65)&&((p.hs.all fun n=>inB n 0 90000)&&(decide (gi p.hs 0≤p.f)&&decide (gi p.hs (p.hs.length-1)≤p.l)))))))
structure PfOk (p:Pf):Prop where
 d0:1≤p.d
 d1:p.d≤283000
 f0:0≤p.f
 f1:p.f≤180000
 l0:0≤p.l
 l1:p.l≤180000
 n0:2≤p.hs.length
 n1:p.hs.length≤65
 hs:∀ k,0≤gi p.hs k∧gi p.hs k≤90000
 c0:gi p.hs 0≤p.f
 c1:gi p.hs (p.hs.length-1)≤p.l
theorem all_gi {l:List Int} {a b:Int} (h:(l.all fun n=>inB n a b)=true) (h0:a≤0∧0≤b) (k:Nat):a≤gi l k∧gi l k≤b:=by
 have:=gi_all (p:=fun n=>inB n a b) h (zat.2 h0) k;exact zat.1 this
theorem ze9 {l:List Int} {k:Nat} (hk:k<l.length):l[k]=gi l k:=by
 unfold gi;rw[List.getD_eq_getElem?_getD,List.getElem?_eq_getElem hk];rfl
theorem gi_allB {l:List Int} {a b:Int} (h:∀ k,k<l.length→a≤gi l k∧gi l k≤b):(l.all fun n=>inB n a b)=true:=by
 rw[List.all_eq_true];intro x hx;obtain⟨k,hk,rfl⟩:=List.mem_iff_getElem.1 hx;rw[ze9 hk];exact zat.2 (h k hk)
theorem pfB_ok {p:Pf} (h:pfB p=true):PfOk p:=by
 unfold pfB at h;simp only[Bool.and_eq_true,decide_eq_true_eq] at h;obtain⟨h1,h2,h3,h4,h5,h6,h7,h8⟩:=h;have h1:=zat.1 h1;have h2:=zat.1 h2;have h3:=zat.1 h3;exact⟨h1.1,h1.2,h2.1,h2.2,h3.1,h3.2,O,O,fun k=>all_gi h6 O k,h7,h8⟩
theorem ok_pfB {p:Pf} (h:PfOk p):pfB p=true:=by
 unfold pfB;simp only[Bool.and_eq_true,decide_eq_true_eq];exact⟨zat.2 ⟨h.d0,h.d1⟩,zat.2 ⟨h.f0,h.f1⟩,zat.2 ⟨h.l0,h.l1⟩,by have:=h.n0;omega,by have:=h.n1;omega,gi_allB (fun k _=>h.hs k),h.c0,h.c1⟩
def offP (d n i:Int):Int:=if 2*i≤n then rdiv (d*i) n else d-rdiv (d*(n-i)) n
theorem offP_bd {d n i:Int} (d0:0≤d) (n0:1≤n) (i0:0≤i) (i1:i≤n):0≤offP d n i∧offP d n i≤d:=by
 have key:∀ j:Int,0≤j→j≤n→0≤rdiv (d*j) n∧rdiv (d*j) n≤d:=fun j h0 h1 =>
  ze2 n0 (Int.mul_nonneg d0 h0) (Int.mul_le_mul_of_nonneg_left h1 d0)
 unfold offP
 split
 ·exact key i i0 i1
 ·have:=key (n-i) O O;omega
def lineP (f l n i:Int):Int:=rdiv (f*(n-i)+l*i) n
theorem lineP_bd {f l n i:Int} (f0:0≤f) (f1:f≤180000) (l0:0≤l) (l1:l≤180000) (n0:1≤n) (i0:0≤i) (i1:i≤n):0≤lineP f l n i∧lineP f l n i≤180000:=by
 have a:0≤f*(n-i):=Int.mul_nonneg f0 O;have b:0≤l*i:=Int.mul_nonneg l0 i0;have c:f*(n-i)≤180000*(n-i):=Int.mul_le_mul_of_nonneg_right f1 O;have d:l*i≤180000*i:=Int.mul_le_mul_of_nonneg_right l1 i0;exact ze2 n0 O O
def bulI (a b:Int):Int:=rdiv (10*a*b) 16989334
theorem bulI_bd {a b:Int} (a0:0≤a) (a1:a≤283000) (b0:0≤b) (b1:b≤283000):(0≤10*a*b∧10*a*b≤800890000000)∧0≤bulI a b∧bulI a b≤47141:=by
 have c:=mulP (a:=10*a) (b:=b) 2830000 283000 O O b0 b1;exact⟨O,ze2 O O O⟩
def freI (f a b:Int):Int:=if a+b=0 then 0 else isq (29979246*a*b / (f*(a+b)))
theorem freI_in {f a b:Int} (f0:1≤f) (f1:f≤100000000) (a0:0≤a) (a1:a≤283000) (b0:0≤b) (b1:b≤283000) :
  (0≤29979246*a∧29979246*a≤8484126618000)∧(0≤29979246*a*b∧29979246*a*b≤2401007832894000000)∧(0≤f*(a+b)∧f*(a+b)≤56600000000000)∧(a+b≠0→1≤f*(a+b)):=by
 have c:=mulP (a:=29979246*a) (b:=b) 8484126618000 283000 O O b0 b1;have d:=mulP (a:=f) (b:=a+b) 100000000 566000 O f1 O O;refine⟨O,O,O,fun h=>?_⟩;have:=Int.mul_le_mul (a:=1) (b:=1) (c:=f) (d:=a+b) f0 O O O;omega
theorem freI_bd {f a b:Int} (f0:1≤f) (f1:f≤100000000) (a0:0≤a) (a1:a≤283000) (b0:0≤b) (b1:b≤283000):0≤freI f a b∧freI f a b≤2000000000:=by
 obtain⟨_,h1,h2,h3⟩:=freI_in f0 f1 a0 a1 b0 b1;unfold freI
 split
 ·omega
 ·have:=Int.ediv_le_self (f*(a+b)) h1.1
  exact⟨zef _,isq_le O O⟩
def clrP (p:Pf) (i:Int):Int:=lineP p.f p.l p.n i-(gi p.hs i.toNat+bulI (offP p.d p.n i) (p.d-offP p.d p.n i))
def radP (p:Pf) (f i:Int):Int:=freI f (offP p.d p.n i) (p.d-offP p.d p.n i)
theorem off_ok {p:Pf} (h:PfOk p) {i:Int} (i0:0≤i) (i1:i≤p.n):0≤offP p.d p.n i∧offP p.d p.n i≤p.d∧offP p.d p.n i≤283000:=by
 have:=h.n0;have:=h.d0;have:=h.d1;have:=offP_bd (d:=p.d) (n:=p.n) (i:=i) O (by unfold Pf.n;omega) i0 i1;omega
theorem clrP_bd {p:Pf} (h:PfOk p) {i:Int} (i0:0≤i) (i1:i≤p.n):-200000≤clrP p i∧clrP p i≤200000:=by
 have a:=off_ok h i0 i1;have:=h.n0;have:=h.d0;have:=h.d1;have b:=lineP_bd (f:=p.f) (l:=p.l) (n:=p.n) (i:=i) h.f0 h.f1 h.l0 h.l1 (by unfold Pf.n;omega) i0 i1;have c:=(bulI_bd (a:=offP p.d p.n i) (b:=p.d-offP p.d p.n i) O O O O).2;have d:=h.hs i.toNat;unfold clrP;omega
theorem radP_bd {p:Pf} (h:PfOk p) {f i:Int} (f0:1≤f) (f1:f≤100000000) (i0:0≤i) (i1:i≤p.n):0≤radP p f i∧radP p f i≤2000000000:=by
 have a:=off_ok h i0 i1;have:=h.d1;exact freI_bd f0 f1 O O O O
def nuI (h r:Int):Int:=min (max (rdiv (1414*h) (max r 1)) (-1000000)) 1000000
theorem nuI_bd (h r:Int):-1000000≤nuI h r∧nuI h r≤1000000:=by unfold nuI;omega
def nuP (p:Pf) (f i:Int):Int:=nuI (-(clrP p i)) (radP p f i)
theorem nuP_bd (p:Pf) (f i:Int):-1000000≤nuP p f i∧nuP p f i≤1000000:=nuI_bd _ _
def edgI (nu:Int):Int:=if nu≤-780 then 0 else max (6900+2*(lgI (isq ((nu-100)*(nu-100)+1000000)+(nu-100))-30000)) 0
theorem edg_in {nu:Int} (h0:-780<nu) (h1:nu≤1000000):(0≤(nu-100)*(nu-100)∧(nu-100)*(nu-100)≤1000000000000)∧1≤isq ((nu-100)*(nu-100)+1000000)+(nu-100)∧isq ((nu-100)*(nu-100)+1000000)≤1100000:=by
 have a:-(1000000*1000000)≤(nu-100)*(nu-100)∧(nu-100)*(nu-100)≤1000000*1000000:=zdl 1000000 1000000 O O O O O O;have b:0≤(nu-100)*(nu-100):=by
  rcases Int.le_total 0 (nu-100) with h|h
  ·exact Int.mul_nonneg h h
  ·exact Int.mul_nonneg_of_nonpos_of_nonpos h h
 have c:1000≤isq ((nu-100)*(nu-100)+1000000):=isq_ge O O;have d:isq ((nu-100)*(nu-100)+1000000)≤1100000:=isq_le O O;omega
theorem edgI_bd {nu:Int} (h1:nu≤1000000):0≤edgI nu∧edgI nu≤400000:=by
 unfold edgI
 split
 ·omega
 ·have e:=edg_in (nu:=nu) O h1
  have:=lgI_bd (n:=isq ((nu-100)*(nu-100)+1000000)+(nu-100)) O;omega
def wstP (p:Pf) (f:Int):Int:=zaz (nuP p f) 1 (p.hs.length-3)
theorem wstP_bd {p:Pf} (f:Int) (h:3≤p.hs.length):1≤wstP p f∧wstP p f≤p.n-1:=by
 have:=zdb (nuP p f) 1 (p.hs.length-3);unfold wstP Pf.n;omega
def sglP (p:Pf) (f:Int):Int:=edgI (nuP p f (wstP p f))
theorem sglP_bd (p:Pf) (f:Int):0≤sglP p f∧sglP p f≤400000:=edgI_bd (nuP_bd _ _ _).2
def zbq (p:Pf) (i k:Int):Pf:=⟨offP p.d p.n k-offP p.d p.n i,if i=0 then p.f else gi p.hs i.toNat,if k=p.n then p.l else gi p.hs k.toNat,(p.hs.drop i.toNat).take (k+1-i).toNat⟩
def sidP (p:Pf) (f i k:Int):Int:=if pfB (zbq p i k)=true then (if (zbq p i k).hs.length=2 then 0 else sglP (zbq p i k) f) else 0
theorem sidP_bd (p:Pf) (f i k:Int):0≤sidP p f i k∧sidP p f i k≤400000:=by
 have:=sglP_bd (zbq p i k) f;unfold sidP
 split
 ·split<;>omega
 ·omega
def deyP (p:Pf) (f:Int):Int:=if p.hs.length=2 then 0 else if sglP p f=0 then 0 else sglP p f+sidP p f 0 (wstP p f)+sidP p f (wstP p f) p.n
theorem deyP_bd (p:Pf) (f:Int):0≤deyP p f∧deyP p f≤1200000:=by
 have:=sglP_bd p f;have:=sidP_bd p f 0 (wstP p f);have:=sidP_bd p f (wstP p f) p.n;unfold deyP
 split
 ·omega
 ·split<;>omega
def zer (f d:Int):Int:=max (2*lgI d+2*lgI f-87552) 0
theorem freeI_bd {f d:Int} (f1:f≤100000000) (d1:d≤283000):0≤zer f d∧zer f d≤800000:=by
 have:=lgI_bd (n:=f) O;have:=lgI_bd (n:=d) O;unfold zer;omega
def gP:List Int:=[1000,10000,20000,22000,30000,50000,60000,70000,100000]
def gV:List Int:=[5,14,110,190,90,500,15000,450,480]
def gasK (x:Int):Nat:=if x≤10000 then 1 else if x≤20000 then 2 else if x≤22000 then 3 else if x≤30000 then 4 else if x≤50000 then 5 else if x≤60000 then 6 else if x≤70000 then 7 else 8
theorem gasK_uniq {x:Int} {k:Nat} (k0:1≤k) (k1:k≤8) (h0:∀ j,1≤j→j<k→gi gP j<x) (h1:k=8∨x≤gi gP k):k=gasK x:=by
 have e1:gi gP 1=10000:=rfl;have e2:gi gP 2=20000:=rfl;have e3:gi gP 3=22000:=rfl;have e4:gi gP 4=30000:=rfl;have e5:gi gP 5=50000:=rfl;have e6:gi gP 6=60000:=rfl;have e7:gi gP 7=70000:=rfl;have a1:=h0 1;have a2:=h0 2;have a3:=h0 3;have a4:=h0 4;have a5:=h0 5;have a6:=h0 6;have a7:=h0 7;clear h0;rw[e1] at a1;rw[e2] at a2;rw[e3] at a3;rw[e4] at a4;rw[e5] at a5;rw[e6] at a6;rw[e7] at a7;unfold gasK;have hk:k=1∨k=2∨k=3∨k=4∨k=5∨k=6∨k=7∨k=8:=O
 rcases hk with rfl|rfl|rfl|rfl|rfl|rfl|rfl|rfl
 ·rw[e1] at h1;repeat' split
  all_goals omega
 ·rw[e2] at h1;repeat' split
  all_goals omega
 ·rw[e3] at h1;repeat' split
  all_goals omega
 ·rw[e4] at h1;repeat' split
  all_goals omega
 ·rw[e5] at h1;repeat' split
  all_goals omega
 ·rw[e6] at h1;repeat' split
  all_goals omega
 ·rw[e7] at h1;repeat' split
  all_goals omega
 ·repeat' split
  all_goals omega
def gasX (x:Int):Int:=lineR (gi gP (gasK x-1)) (gi gV (gasK x-1)) (gi gP (gasK x)) (gi gV (gasK x)) x
theorem gP_bd (k:Nat):0≤gi gP k∧gi gP k≤100000:=by
 have:=gi_all (l:=gP) (p:=fun n=>decide (0≤n∧n≤100000)) (by decide) (by decide) k;exact of_decide_eq_true this
theorem gV_bd (k:Nat):0≤gi gV k∧gi gV k≤15000:=by
 have:=gi_all (l:=gV) (p:=fun n=>decide (0≤n∧n≤15000)) (by decide) (by decide) k;exact of_decide_eq_true this
theorem lineR_in {x0 y0 x1 y1 x:Int} (a:0≤x0∧x0≤100000) (b:0≤y0∧y0≤15000) (c:0≤x1∧x1≤100000) (d:0≤y1∧y1≤15000) (h0:x0≤x) (h1:x≤x1):-1500000000≤(y1-y0)*(x-x0)∧(y1-y0)*(x-x0)≤1500000000:=by
 have:=zdl (a:=y1-y0) (b:=x-x0) 15000 100000 O O O O O O;omega
theorem lineR_bd {x0 y0 x1 y1 x:Int} (a:0≤x0∧x0≤100000) (b:0≤y0∧y0≤15000) (c:0≤x1∧x1≤100000) (d:0≤y1∧y1≤15000):-2000000000≤lineR x0 y0 x1 y1 x∧lineR x0 y0 x1 y1 x≤2000000000:=by
 unfold lineR
 split
 ·omega
 ·split
  ·omega
  ·have e:=lineR_in a b c d (x:=x) O O
   have:=zd6 (a:=(y1-y0)*(x-x0)) (b:=x1-x0) O 1500000000 e.1 e.2;omega
theorem gasX_bd (x:Int):-2000000000≤gasX x∧gasX x≤2000000000:=lineR_bd (gP_bd _) (gV_bd _) (gP_bd _) (gV_bd _)
def gasI (f d:Int):Int:=rdiv (gasX (f / 1000)*d) 1000
theorem gas_in {f d:Int} (d0:0≤d) (d1:d≤283000):-566000000000000≤gasX (f / 1000)*d∧gasX (f / 1000)*d≤566000000000000:=by
 have a:=gasX_bd (f / 1000);have:=zdl (a:=gasX (f / 1000)) (b:=d) 2000000000 283000 O O a.1 a.2 O d1;omega
theorem gasI_bd {f d:Int} (d0:0≤d) (d1:d≤283000):-566000000000001≤gasI f d∧gasI f d≤566000000000001:=by
 have a:=gas_in (f:=f) d0 d1;exact zd6 O 566000000000000 a.1 a.2
def clH:List Int:=[0,20,10,120,70,90,160,240]
def clL:List Int:=[0,1000,500,12000,8000,10000,16000,20000]
def clF (f:Int):Int:=if f≤300000 then 50 else if f≤1000000 then 75 else if f≤3000000 then 100 else if f≤10000000 then 125 else 150
def cluI (c f above:Int):Int:=if gi clH c.toNat≤above then 0 else rdiv (clF f*gi clL c.toNat*(gi clH c.toNat-above)) (100*gi clH c.toNat)
theorem clH_bd (k:Nat):0≤gi clH k∧gi clH k≤240:=by
 have:=gi_all (l:=clH) (p:=fun n=>decide (0≤n∧n≤240)) (by decide) (by decide) k;exact of_decide_eq_true this
theorem clL_bd (k:Nat):0≤gi clL k∧gi clL k≤20000:=by
 have:=gi_all (l:=clL) (p:=fun n=>decide (0≤n∧n≤20000)) (by decide) (by decide) k;exact of_decide_eq_true this
theorem clF_bd (f:Int):50≤clF f∧clF f≤150:=by
 unfold clF
 repeat' split
 all_goals omega
theorem clu_in {c f above:Int} (a0:0≤above) (h:¬ gi clH c.toNat≤above):(0≤clF f*gi clL c.toNat∧clF f*gi clL c.toNat≤3000000)∧0≤clF f*gi clL c.toNat*(gi clH c.toNat-above)∧clF f*gi clL c.toNat*(gi clH c.toNat-above)≤720000000:=by
 have a:=clF_bd f;have b:=clL_bd c.toNat;have e:=clH_bd c.toNat;have c1:=mulP (a:=clF f) (b:=gi clL c.toNat) 150 20000 O a.2 b.1 b.2;have c2:=mulP (a:=clF f*gi clL c.toNat) (b:=gi clH c.toNat-above) 3000000 240 c1.1 O O O;omega
theorem cluI_bd {c f above:Int} (a0:0≤above):0≤cluI c f above∧cluI c f above≤720000000:=by
 unfold cluI
 split
 ·omega
 ·rename_i h
  have a:=clu_in (f:=f) a0 h;refine ze2 O a.2.1 ?_;have:=clH_bd c.toNat;omega
def endP (e:DEnd):Prop:=1≤e.above∧e.above≤3000
def zcr (t:DTerrain) (e:DEnd):Int:=hAt t e.place+e.above
theorem highI_bd {t:DTerrain} (T:TerrOk t) {e:DEnd} (h:inT t e.place) (h2:endP e):0≤zcr t e∧zcr t e≤93000:=by
 have:=hAt_bd T h;unfold endP at h2;unfold zcr;omega
def za1 (t:DTerrain) (a b:DEnd):Pf:=⟨zbp a.place b.place,zcr t a,zcr t b,(zc4 a.place b.place).map (hAt t)⟩
theorem zcv (t:DTerrain) (a b:DEnd):(za1 t a b).hs.length=17:=by simp[za1,zdd]
theorem profI_hs {t:DTerrain} {a b:DEnd} (k:Nat) (hk:k<17):gi (za1 t a b).hs k=hAt t ((zc4 a.place b.place)[k]'(by rw[zdd];exact hk)):=by
 rw[← ze9 (by rw[zcv];exact hk)];simp[za1]
theorem profI_ok {t:DTerrain} (T:TerrOk t) {a b:DEnd} (ha:inT t a.place) (hb:inT t b.place) (ha2:endP a) (hb2:endP b) (hd:¬ (a.place.x=b.place.x∧a.place.y=b.place.y)):PfOk (za1 t a b):=by
 have pa:=zc3 T ha;have pb:=zc3 T hb;have h1:=highI_bd T ha ha2;have h2:=highI_bd T hb hb2;have h3:=distI_bd pa pb;have h4:=distI_pos pa pb hd;refine⟨h4,h3.2,h1.1,by show zcr t a≤180000;omega,h2.1,by show zcr t b≤180000;omega,by rw[zcv];omega,by rw[zcv];omega,fun k=>?_,?_,?_⟩
 ·by_cases hk:k<17
  ·rw[profI_hs k hk]
   exact hAt_bd T (placesB_in ha hb _ (List.getElem_mem _))
  ·have:gi (za1 t a b).hs k=0:=by
    unfold gi;rw[List.getD_eq_getElem?_getD,List.getElem?_eq_none (by rw[zcv];omega)];rfl
   omega
 ·rw[profI_hs 0 O,placesB_0]
  unfold endP at ha2;show hAt t a.place≤hAt t a.place+a.above
  omega
 ·rw[zcv,profI_hs 16 O,placesB_16]
  unfold endP at hb2;show hAt t b.place≤hAt t b.place+b.above
  omega
def turnP (p:Pf):Pf:=⟨p.d,p.l,p.f,p.hs.reverse⟩
theorem turnP_prof {t:DTerrain} {a b:DEnd} (h:befB a.place b.place=false):turnP (za1 t a b)=za1 t b a:=by
 have h2:=befB_other h;unfold turnP za1 zc4;rw[distI_symm b.place a.place,h,h2];simp
def zb3 (t:DTerrain) (a b:DEnd):Pf:=if befB a.place b.place=true then za1 t a b else za1 t b a
theorem profO_ok {t:DTerrain} (T:TerrOk t) {a b:DEnd} (ha:inT t a.place) (hb:inT t b.place) (ha2:endP a) (hb2:endP b) (hd:¬ (a.place.x=b.place.x∧a.place.y=b.place.y)):PfOk (zb3 t a b):=by
 unfold zb3
 split
 ·exact profI_ok T ha hb ha2 hb2 hd
 ·exact profI_ok T hb ha hb2 ha2 (fun h=>hd ⟨h.1.symm,h.2.symm⟩)
def zdz (t:DTerrain) (a b:DEnd):Int:=elevI (zbp a.place b.place) (zcr t b-zcr t a)
def pathT (t:DTerrain) (a b:DEnd) (f:Int):Int:=zer f (zbp a.place b.place)+gasI f (zbp a.place b.place)+deyP (zb3 t a b) f+(cluI (cAt t a.place) f a.above+cluI (cAt t b.place) f b.above)
theorem pathT_bd {t:DTerrain} (T:TerrOk t) {a b:DEnd} {f:Int} (ha:inT t a.place) (hb:inT t b.place) (ha2:endP a) (hb2:endP b) (f1:f≤100000000):-600000000000000≤pathT t a b f∧pathT t a b f≤600000000000000:=by
 have h3:=distI_bd (zc3 T ha) (zc3 T hb);have h4:=freeI_bd (f:=f) f1 h3.2;have h5:=gasI_bd (f:=f) h3.1 h3.2;have h6:=deyP_bd (zb3 t a b) f;unfold endP at ha2 hb2;have h7:=cluI_bd (c:=cAt t a.place) (f:=f) (above:=a.above) O;have h8:=cluI_bd (c:=cAt t b.place) (f:=f) (above:=b.above) O;unfold pathT;omega
end Go.Proofs.YtgmapjgodibchaaGreatDoor
namespace Go.Proofs.YtgmapjgodibchaaGreatDoor
open Go.RowKit
set_option maxHeartbeats 8000000
set_option maxRecDepth 100000
def rvI (n i q:Nat):Nat:=if q<i∨n-1-i<q then n-1-q else q
theorem rvI_0 {n q:Nat} (h:q<n):rvI n 0 q=q:=by unfold rvI;rw[if_neg O]
theorem rvI_end {n i q:Nat} (hi:n≤2*i+1) (h:q<n):rvI n i q=n-1-q:=by
 unfold rvI;split
 ·rfl
 ·omega
theorem rvI_i {n i:Nat} (h:2*i+1<n):rvI n i i=i:=by unfold rvI;rw[if_neg O]
theorem rvI_j {n i j:Nat} (h:i+j+1=n) (hij:i<j):rvI n i j=j:=by unfold rvI;rw[if_neg O]
theorem rvI_i1 {n i j:Nat} (h:i+j+1=n):rvI n (i+1) i=j:=by unfold rvI;rw[if_pos O];omega
theorem rvI_j1 {n i j:Nat} (h:i+j+1=n) (hij:i<j):rvI n (i+1) j=i:=by unfold rvI;rw[if_pos O];omega
theorem rvI_else {n i j q:Nat} (h:i+j+1=n) (hi:q≠i) (hj:q≠j):rvI n (i+1) q=rvI n i q:=by
 unfold rvI
 by_cases hc:q<i∨n-1-i<q
 ·rw[if_pos hc,if_pos O]
 ·rw[if_neg hc,if_neg O]
theorem adNe {b x y:Nat} (h:x≠y):(⟨b,x,none⟩:Addr)≠⟨b,y,none⟩:=fun e=>h (by injection e)
theorem cO {w:World} {b x y:Nat} {v:Value} (h:x≠y):(w.setCell ⟨b,x,none⟩ v).cell? ⟨b,y,none⟩=w.cell? ⟨b,y,none⟩:=World.cell?_setCell_other _ _ _ _ (adNe h)
theorem cS {w:World} {b x:Nat} {v u:Value} (h:w.cell? ⟨b,x,none⟩=some u):(w.setCell ⟨b,x,none⟩ v).cell? ⟨b,x,none⟩=some v:=World.cell?_setCell_same _ _ _ h
theorem rev_step {w:World} {b o n i j:Nat} {V:Nat→Value} (hij:i<j) (hs:i+j+1=n) (h:∀ q,q<n→w.cell? ⟨b,o+q,none⟩=some (V (rvI n i q))) :
  ∀ q,q<n→((w.setCell ⟨b,o+i,none⟩ (V j)).setCell ⟨b,o+j,none⟩ (V i)).cell? ⟨b,o+q,none⟩=some (V (rvI n (i+1) q)):=by
 intro q hq
 by_cases ej:q=j
 ·subst ej
  rw[rvI_j1 hs hij];exact cS (u:=V (rvI n i q)) (by rw[cO O];exact h q hq)
 ·rw[cO O]
  by_cases ei:q=i
  ·subst ei
   rw[rvI_i1 hs];exact cS (h q hq)
  ·rw[cO O,h q hq,rvI_else hs ei ej]
theorem rev_step2 {w:World} {b o n i j:Nat} {V U:Nat→Value} (hij:i<j) (hs:i+j+1=n) (h:∀ q,q<n→w.cell? ⟨b,o+q*2,none⟩=some (V (rvI n i q))∧w.cell? ⟨b,o+q*2+1,none⟩=some (U (rvI n i q))) :
  ∀ q,q<n→((((w.setCell ⟨b,o+i*2,none⟩ (V j)).setCell ⟨b,o+i*2+1,none⟩ (U j)).setCell ⟨b,o+j*2,none⟩ (V i)).setCell ⟨b,o+j*2+1,none⟩ (U i)).cell? ⟨b,o+q*2,none⟩=some (V (rvI n (i+1) q)) ∧
   ((((w.setCell ⟨b,o+i*2,none⟩ (V j)).setCell ⟨b,o+i*2+1,none⟩ (U j)).setCell ⟨b,o+j*2,none⟩ (V i)).setCell ⟨b,o+j*2+1,none⟩ (U i)).cell? ⟨b,o+q*2+1,none⟩=some (U (rvI n (i+1) q)):=by
 intro q hq;obtain⟨h0,h1⟩:=h q hq
 by_cases ej:q=j
 ·subst ej
  rw[rvI_j1 hs hij]
  constructor
  ·rw[cO O]
   exact cS (u:=V (rvI n i q)) (by rw[cO O,cO O];exact h0)
  ·exact cS (u:=U (rvI n i q)) (by rw[cO O,cO O,cO O];exact h1)
 ·by_cases ei:q=i
  ·subst ei
   rw[rvI_i1 hs]
   constructor
   ·rw[cO O,cO O,cO O]
    exact cS h0
   ·rw[cO O,cO O]
    exact cS (u:=U (rvI n q q)) (by rw[cO O];exact h1)
  ·rw[rvI_else hs ei ej]
   constructor
   ·rw[cO O,cO O,cO O,cO O];exact h0
   ·rw[cO O,cO O,cO O,cO O];exact h1
theorem revI_any (n b o c:Nat) (v:Nat→Int) (w:World) (n0:2≤n) (n1:n≤65) (hnc:n≤c) (hcm:c≤maxLen) (hc:∀ q,q<n→w.cell? ⟨b,o+q,none⟩=some (I (v q))) (hf:∀ j,w.frozen? ⟨b,j,none⟩=false) :
  Calls Tryz.prog 206 #[II (some ⟨b,o,none⟩) n c] w fun e w'=>e=.returned (.tuple #[])∧Chg [b] w w'∧(∀ q,q<n→w'.cell? ⟨b,o+q,none⟩=some (I (v (n-1-q))))∧∀ j,w'.frozen? ⟨b,j,none⟩=false:=by
 have HC:Hid (∀ q,q<n→w.cell? ⟨b,o+q,none⟩=some ((fun q=>Value.int .i64 (v q)) (rvI n 0 q))):=fun q hq=>by rw[rvI_0 hq];exact hc q hq
 have HF:=J hf;have hni:(n:Int)≤65:=O
 have hni0:2≤(n:Int):=O
 have hsz:(n:Int)-1=((n-1:Nat):Int):=O
 have HSZ:=J hsz;clear hc hf hsz;go_enter Tryz.func206,Tryz.ntmps206;go_wp2;rw[HSZ.out];go_loopw [2,3] (fun ii jj wr=>∃ i j:Nat,i+j+1=n∧i≤j+1∧ii=I (i:Int)∧jj=I (j:Int)∧Hid (∀ q,q<n→wr.cell? ⟨b,o+q,none⟩=some ((fun q=>Value.int .i64 (v q)) (rvI n i q)))∧Hid (∀ j,wr.frozen? ⟨b,j,none⟩=false)∧Chg [b] w wr) (fun ii jj wr=>(intOf jj).toNat)
 case atStart=>exact⟨0,n-1,O,O,rfl,rfl,HC,HF,Chg.refl _ _⟩
 case round =>
  obtain⟨i,j,hij,hle,rfl,rfl,hcr,hfr,hch⟩:=hrel;have HCH:=J hch;clear hch HC HF;have i0:(0:Int)≤(i:Int):=O
  have j0:(0:Int)≤(j:Int):=O
  have i1:(i:Int)<(n:Int):=O
  have j1:(j:Int)<(n:Int):=O
  by_cases hlt:i<j
  ·have hlti:(i:Int)<(j:Int):=O
   have ci:=hcr.out i O;have cj:=hcr.out j O;rw[rvI_i O] at ci;rw[rvI_j hij hlt] at cj;have fz:=hfr.out;have HSTEP:=J (rev_step (V:=fun q=>Value.int .i64 (v q)) hlt hij hcr.out);have HIJ:=J hij;clear hij HSZ;simp only at ci cj;generalize v i=vi at *;go_wp2
   go_region
   all_goals
    go_wp2;go_roundw
    case rel=>exact⟨i+1,j-1,by have:=HIJ.out;omega,O,by go_num,by rw[show ((j-1:Nat):Int)=(j:Int)-1 by omega],HSTEP,fun q=>by have:=fz q;simpa using this,((HCH.out.setCell (p:=⟨b,o+i,none⟩) (by simp) _).setCell (p:=⟨b,o+j,none⟩) (by simp) _).drew⟩
    case measure=>simp[intOf];omega
  ·go_wp2
   go_end0
   exact⟨rfl,HCH.out,fun q hq=>by rw[← rvI_end (n:=n) (i:=i) O hq];exact hcr.out q hq,hfr.out⟩
theorem revP_any (n b o c:Nat) (v u:Nat→Int) (w:World) (n0:2≤n) (n1:n≤65) (hnc:n≤c) (hcm:c≤maxLen) (hc:∀ q,q<n→w.cell? ⟨b,o+q*2,none⟩=some (I (v q))∧w.cell? ⟨b,o+q*2+1,none⟩=some (I (u q))) (hf:∀ j,w.frozen? ⟨b,j,none⟩=false) :
  Calls Tryz.prog 235 #[II (some ⟨b,o,none⟩) n c] w fun e w'=>e=.returned (.tuple #[])∧Chg [b] w w'∧(∀ q,q<n→w'.cell? ⟨b,o+q*2,none⟩=some (I (v (n-1-q)))∧w'.cell? ⟨b,o+q*2+1,none⟩=some (I (u (n-1-q))))∧∀ j,w'.frozen? ⟨b,j,none⟩=false:=by
 have HC:Hid (∀ q,q<n→w.cell? ⟨b,o+q*2,none⟩=some ((fun q=>Value.int .i64 (v q)) (rvI n 0 q))∧w.cell? ⟨b,o+q*2+1,none⟩=some ((fun q=>Value.int .i64 (u q)) (rvI n 0 q))):=fun q hq=>by rw[rvI_0 hq];exact hc q hq
 have HF:=J hf;have hni:(n:Int)≤65:=O
 have hni0:2≤(n:Int):=O
 have hsz:(n:Int)-1=((n-1:Nat):Int):=O
 have HSZ:=J hsz;clear hc hf hsz;go_enter Tryz.func235,Tryz.ntmps235;go_wp2;rw[HSZ.out];go_loopw [2,3] (fun ii jj wr=>∃ i j:Nat,i+j+1=n∧i≤j+1∧ii=I (i:Int)∧jj=I (j:Int)∧Hid (∀ q,q<n→wr.cell? ⟨b,o+q*2,none⟩=some ((fun q=>Value.int .i64 (v q)) (rvI n i q))∧wr.cell? ⟨b,o+q*2+1,none⟩=some ((fun q=>Value.int .i64 (u q)) (rvI n i q)))∧Hid (∀ j,wr.frozen? ⟨b,j,none⟩=false)∧Chg [b] w wr) (fun ii jj wr=>(intOf jj).toNat)
 case atStart=>exact⟨0,n-1,O,O,rfl,rfl,HC,HF,Chg.refl _ _⟩
 case round =>
  obtain⟨i,j,hij,hle,rfl,rfl,hcr,hfr,hch⟩:=hrel;have HCH:=J hch;clear hch HC HF;have i0:(0:Int)≤(i:Int):=O
  have j0:(0:Int)≤(j:Int):=O
  have i1:(i:Int)<(n:Int):=O
  have j1:(j:Int)<(n:Int):=O
  by_cases hlt:i<j
  ·have hlti:(i:Int)<(j:Int):=O
   obtain⟨ci,di⟩:=hcr.out i O;obtain⟨cj,dj⟩:=hcr.out j O;rw[rvI_i O] at ci di;rw[rvI_j hij hlt] at cj dj;have fz:=hfr.out;have HSTEP:=J (rev_step2 (V:=fun q=>Value.int .i64 (v q)) (U:=fun q=>Value.int .i64 (u q)) hlt hij hcr.out);have HIJ:=J hij;clear hij HSZ;simp only at ci cj di dj;generalize v i=vi at *;generalize u i=ui at *;go_wp2
   go_region
   all_goals
    go_wp2;go_roundw
    case rel=>exact⟨i+1,j-1,by have:=HIJ.out;omega,O,by go_num,by rw[show ((j-1:Nat):Int)=(j:Int)-1 by omega],HSTEP,fun q=>by have:=fz q;simpa using this,((((HCH.out.setCell (p:=⟨b,o+i*2,none⟩) (by simp) _).setCell (p:=⟨b,o+i*2+1,none⟩) (by simp) _).setCell (p:=⟨b,o+j*2,none⟩) (by simp) _).setCell (p:=⟨b,o+j*2+1,none⟩) (by simp) _).drew⟩
    case measure=>simp[intOf];omega
  ·go_wp2
   go_end0
   exact⟨rfl,HCH.out,fun q hq=>by rw[← rvI_end (n:=n) (i:=i) O hq];exact hcr.out q hq,hfr.out⟩
theorem rowV_rev {w:World} {b off:Nat} {l:List Int} (hc:∀ q,q<l.length→w.cell? ⟨b,off+q,none⟩=some (I (gi l (l.length-1-q)))) (hf:∀ j,w.frozen? ⟨b,j,none⟩=false):RowV w b off (l.reverse.map (Value.int .i64)):=by
 refine⟨fun j u hu=>?_,hf⟩;rw[List.getElem?_map] at hu;obtain⟨x,hx,rfl⟩:=Option.map_eq_some_iff.1 hu;obtain⟨hj,rfl⟩:=List.getElem?_eq_some_iff.1 hx;rw[List.length_reverse] at hj;rw[hc j hj,List.getElem_reverse,ze9]
theorem rd_row {B:Nat} {w:World} {b off c:Nat} {l:List Int} (h:RowV w b off (l.map (Value.int .i64))) (hc:l.length≤c) (hm:c≤maxLen) (hb:b<B):Rd B w (zai l) (II (some ⟨b,off,none⟩) l.length c):=by
 obtain⟨fp,ho,hfp⟩:=h.own (k:=1) (n:=l.length) (c:=c) (by simp) hc hm;have e:zai l=.sl 1 ((l.map (Value.int .i64)).map .lit):=by rw[zai,List.map_map];rfl
 rw[e];exact⟨fp,ho.rep,fun y hy=>by rw[hfp y hy];exact hb⟩
theorem own_row {w:World} {l:List Int} {a:Option Addr} {c:Nat} {fp:List Nat} (h:Own w (zai l) (II a l.length c) fp) (h0:0<l.length):l.length≤c∧c≤maxLen∧∃ b off,a=some ⟨b,off,none⟩∧fp = [b]∧RowV w b off (l.map (Value.int .i64)):=by
 have e:zai l=.sl 1 ((l.map (Value.int .i64)).map .lit):=by rw[zai,List.map_map];rfl
 rw[e] at h;obtain⟨_,h1,h2,h3⟩:=h.rowV
 exact⟨h1,h2,h3 (fun e=>by
  have h_:=congrArg List.length e;rw[List.length_map] at h_;rw[h_] at h0
  exact absurd h0 (by simp))⟩
theorem RowV.gi {w:World} {b off:Nat} {l:List Int} (h:RowV w b off (l.map (Value.int .i64))) (q:Nat) (hq:q<l.length):w.cell? ⟨b,off+q,none⟩=some (I (Go.Proofs.YtgmapjgodibchaaGreatDoor.gi l q)):=by
 have:=h.at_ q (by simpa using hq);rw[this,List.getElem_map,ze9]
theorem zam {P:Program} {f:FuncId} {a:Array Value} {W:World} {v:Value} (h:Calls P f a W fun e w'=>e=.returned v∧W=w'):Calls P f a W fun e w'=>e=.returned v∧IJ W W w' :=
 h.mono fun _ _ ⟨he,hw⟩=>⟨he,hw ▸ Below.refl _ _⟩
theorem wp_cut {P:Program} {c:Code} {Q:Exit→Act→World→Prop} {a:Act} {w:World} (S:World→Prop) (hS:S w) (h:∀ W,S W→c.wp P Q a W):c.wp P Q a w:=h w hS
theorem nrm_up {u R k:Nat} (h:u<10 ^ (R+1)) (hk:R+k≤8):u*10 ^ k<1000000000:=by
 have a:=(Nat.mul_lt_mul_right (show 0<10 ^ k from Nat.pow_pos O)).2 h;rw[← Nat.pow_add] at a;have b:=Nat.pow_le_pow_right (show 0<10 by omega) (show R+1+k≤9 by omega);omega
theorem pow_up (u k:Nat):u*10 ^ (k+1)=u*10 ^ k*10:=by rw[Nat.pow_succ,Nat.mul_assoc]
theorem div_up (u k:Nat):u / 10 ^ (k+1)=u / 10 ^ k / 10:=by rw[Nat.pow_succ,Nat.div_div_eq_div_mul]
theorem div_ge {u R k:Nat} (h:10 ^ R≤u) (hk:k<R):10≤u / 10 ^ k:=by
 have b:=Nat.pow_le_pow_right (show 0<10 by omega) (show k+1≤R by omega);rw[Nat.pow_succ] at b;exact (Nat.le_div_iff_mul_le (Nat.pow_pos O)).2 (by rw[Nat.mul_comm];omega)
theorem div_lt10 {u R:Nat} (h:u<10 ^ (R+1)):u / 10 ^ R<10:=by
 rw[Nat.pow_succ] at h;exact Nat.div_lt_of_lt_mul h
theorem nrm_eq (u R:Nat):nrm u R=((u*10 ^ (8-R) / 10 ^ (R-8):Nat):Int):=by
 unfold nrm
 split
 ·rename_i h;rw[show R-8=0 by omega,Nat.pow_zero,Nat.div_one]
 ·rename_i h;rw[show 8-R=0 by omega,Nat.pow_zero,Nat.mul_one]
theorem zb4 {w W0 W:World} {T:Tr} {v:Value} (r:Rd w w T v) (b0:IJ w w W0) (hW:IJ W0 W0 W):Rd W W T v :=
 (r.below (b0.trans (hW.mono b0.size))).mono (b0.trans (hW.mono b0.size)).size
theorem bkW {v:Value} {w W:World} {b T:Nat} {cs:Array Value} (k:w.heap[b]? = some (.cells cs T (0,0))) (hW:IJ w w W) (j:Nat) (hj:cs[j]? = some v):W.cell? ⟨b,j,none⟩=some v:=bkC (bkB k hW (Array.getElem?_eq_some_iff.1 k).1) j hj
theorem bx1 {w W:World} {b T:Nat} {a0:Value} {R:Prop} (k:w.heap[b]? = some (.cells #[a0] T (0,0))) (hW:IJ w w W) (r:R):W.cell? ⟨b,0,none⟩=some a0∧R:=⟨bkW k hW 0 rfl,r⟩
theorem by1 {w W:World} {b T:Nat} {a0:Value} (k:w.heap[b]? = some (.cells #[a0] T (0,0))) (hW:IJ w w W):W.cell? ⟨b,0,none⟩=some a0:=bkW k hW 0 rfl
theorem bz1 {w:World} {b T:Nat} {a0:Value} (k:w.heap[b]? = some (.cells #[a0] T (0,0))):w.cell? ⟨b,0,none⟩=some a0∧∀ j,w.frozen? ⟨b,j,none⟩=false:=⟨bkC k 0 rfl,bkF k⟩
theorem bx2 {w W:World} {b T:Nat} {a0 a1:Value} {R:Prop} (k:w.heap[b]? = some (.cells #[a0,a1] T (0,0))) (hW:IJ w w W) (r:R):W.cell? ⟨b,0,none⟩=some a0∧W.cell? ⟨b,1,none⟩=some a1∧R:=⟨bkW k hW 0 rfl,bkW k hW 1 rfl,r⟩
theorem by2 {w W:World} {b T:Nat} {a0 a1:Value} (k:w.heap[b]? = some (.cells #[a0,a1] T (0,0))) (hW:IJ w w W):W.cell? ⟨b,0,none⟩=some a0∧W.cell? ⟨b,1,none⟩=some a1:=⟨bkW k hW 0 rfl,bkW k hW 1 rfl⟩
theorem bz2 {w:World} {b T:Nat} {a0 a1:Value} (k:w.heap[b]? = some (.cells #[a0,a1] T (0,0))):w.cell? ⟨b,0,none⟩=some a0∧w.cell? ⟨b,1,none⟩=some a1∧∀ j,w.frozen? ⟨b,j,none⟩=false:=⟨bkC k 0 rfl,bkC k 1 rfl,bkF k⟩
theorem bx3 {w W:World} {b T:Nat} {a0 a1 a2:Value} {R:Prop} (k:w.heap[b]? = some (.cells #[a0,a1,a2] T (0,0))) (hW:IJ w w W) (r:R):W.cell? ⟨b,0,none⟩=some a0∧W.cell? ⟨b,1,none⟩=some a1∧W.cell? ⟨b,2,none⟩=some a2∧R:=⟨bkW k hW 0 rfl,bkW k hW 1 rfl,bkW k hW 2 rfl,r⟩
theorem by3 {w W:World} {b T:Nat} {a0 a1 a2:Value} (k:w.heap[b]? = some (.cells #[a0,a1,a2] T (0,0))) (hW:IJ w w W):W.cell? ⟨b,0,none⟩=some a0∧W.cell? ⟨b,1,none⟩=some a1∧W.cell? ⟨b,2,none⟩=some a2:=⟨bkW k hW 0 rfl,bkW k hW 1 rfl,bkW k hW 2 rfl⟩
theorem bz3 {w:World} {b T:Nat} {a0 a1 a2:Value} (k:w.heap[b]? = some (.cells #[a0,a1,a2] T (0,0))):w.cell? ⟨b,0,none⟩=some a0∧w.cell? ⟨b,1,none⟩=some a1∧w.cell? ⟨b,2,none⟩=some a2∧∀ j,w.frozen? ⟨b,j,none⟩=false:=⟨bkC k 0 rfl,bkC k 1 rfl,bkC k 2 rfl,bkF k⟩
theorem bx4 {w W:World} {b T:Nat} {a0 a1 a2 a3:Value} {R:Prop} (k:w.heap[b]? = some (.cells #[a0,a1,a2,a3] T (0,0))) (hW:IJ w w W) (r:R):W.cell? ⟨b,0,none⟩=some a0∧W.cell? ⟨b,1,none⟩=some a1∧W.cell? ⟨b,2,none⟩=some a2∧W.cell? ⟨b,3,none⟩=some a3∧R:=⟨bkW k hW 0 rfl,bkW k hW 1 rfl,bkW k hW 2 rfl,bkW k hW 3 rfl,r⟩
theorem by4 {w W:World} {b T:Nat} {a0 a1 a2 a3:Value} (k:w.heap[b]? = some (.cells #[a0,a1,a2,a3] T (0,0))) (hW:IJ w w W):W.cell? ⟨b,0,none⟩=some a0∧W.cell? ⟨b,1,none⟩=some a1∧W.cell? ⟨b,2,none⟩=some a2∧W.cell? ⟨b,3,none⟩=some a3:=⟨bkW k hW 0 rfl,bkW k hW 1 rfl,bkW k hW 2 rfl,bkW k hW 3 rfl⟩
theorem bz4 {w:World} {b T:Nat} {a0 a1 a2 a3:Value} (k:w.heap[b]? = some (.cells #[a0,a1,a2,a3] T (0,0))):w.cell? ⟨b,0,none⟩=some a0∧w.cell? ⟨b,1,none⟩=some a1∧w.cell? ⟨b,2,none⟩=some a2∧w.cell? ⟨b,3,none⟩=some a3∧∀ j,w.frozen? ⟨b,j,none⟩=false:=⟨bkC k 0 rfl,bkC k 1 rfl,bkC k 2 rfl,bkC k 3 rfl,bkF k⟩
theorem bx5 {w W:World} {b T:Nat} {a0 a1 a2 a3 a4:Value} {R:Prop} (k:w.heap[b]? = some (.cells #[a0,a1,a2,a3,a4] T (0,0))) (hW:IJ w w W) (r:R):W.cell? ⟨b,0,none⟩=some a0∧W.cell? ⟨b,1,none⟩=some a1∧W.cell? ⟨b,2,none⟩=some a2∧W.cell? ⟨b,3,none⟩=some a3∧W.cell? ⟨b,4,none⟩=some a4∧R:=⟨bkW k hW 0 rfl,bkW k hW 1 rfl,bkW k hW 2 rfl,bkW k hW 3 rfl,bkW k hW 4 rfl,r⟩
theorem by5 {w W:World} {b T:Nat} {a0 a1 a2 a3 a4:Value} (k:w.heap[b]? = some (.cells #[a0,a1,a2,a3,a4] T (0,0))) (hW:IJ w w W):W.cell? ⟨b,0,none⟩=some a0∧W.cell? ⟨b,1,none⟩=some a1∧W.cell? ⟨b,2,none⟩=some a2∧W.cell? ⟨b,3,none⟩=some a3∧W.cell? ⟨b,4,none⟩=some a4:=⟨bkW k hW 0 rfl,bkW k hW 1 rfl,bkW k hW 2 rfl,bkW k hW 3 rfl,bkW k hW 4 rfl⟩
theorem bz5 {w:World} {b T:Nat} {a0 a1 a2 a3 a4:Value} (k:w.heap[b]? = some (.cells #[a0,a1,a2,a3,a4] T (0,0))):w.cell? ⟨b,0,none⟩=some a0∧w.cell? ⟨b,1,none⟩=some a1∧w.cell? ⟨b,2,none⟩=some a2∧w.cell? ⟨b,3,none⟩=some a3∧w.cell? ⟨b,4,none⟩=some a4∧∀ j,w.frozen? ⟨b,j,none⟩=false:=⟨bkC k 0 rfl,bkC k 1 rfl,bkC k 2 rfl,bkC k 3 rfl,bkC k 4 rfl,bkF k⟩
theorem bx9 {w W:World} {b T:Nat} {a0 a1 a2 a3 a4 a5 a6 a7 a8:Value} {R:Prop} (k:w.heap[b]? = some (.cells #[a0,a1,a2,a3,a4,a5,a6,a7,a8] T (0,0))) (hW:IJ w w W) (r:R):W.cell? ⟨b,0,none⟩=some a0∧W.cell? ⟨b,1,none⟩=some a1∧W.cell? ⟨b,2,none⟩=some a2∧W.cell? ⟨b,3,none⟩=some a3∧W.cell? ⟨b,4,none⟩=some a4∧W.cell? ⟨b,5,none⟩=some a5∧W.cell? ⟨b,6,none⟩=some a6∧W.cell? ⟨b,7,none⟩=some a7∧W.cell? ⟨b,8,none⟩=some a8∧R:=⟨bkW k hW 0 rfl,bkW k hW 1 rfl,bkW k hW 2 rfl,bkW k hW 3 rfl,bkW k hW 4 rfl,bkW k hW 5 rfl,bkW k hW 6 rfl,bkW k hW 7 rfl,bkW k hW 8 rfl,r⟩
theorem by9 {w W:World} {b T:Nat} {a0 a1 a2 a3 a4 a5 a6 a7 a8:Value} (k:w.heap[b]? = some (.cells #[a0,a1,a2,a3,a4,a5,a6,a7,a8] T (0,0))) (hW:IJ w w W):W.cell? ⟨b,0,none⟩=some a0∧W.cell? ⟨b,1,none⟩=some a1∧W.cell? ⟨b,2,none⟩=some a2∧W.cell? ⟨b,3,none⟩=some a3∧W.cell? ⟨b,4,none⟩=some a4∧W.cell? ⟨b,5,none⟩=some a5∧W.cell? ⟨b,6,none⟩=some a6∧W.cell? ⟨b,7,none⟩=some a7∧W.cell? ⟨b,8,none⟩=some a8:=⟨bkW k hW 0 rfl,bkW k hW 1 rfl,bkW k hW 2 rfl,bkW k hW 3 rfl,bkW k hW 4 rfl,bkW k hW 5 rfl,bkW k hW 6 rfl,bkW k hW 7 rfl,bkW k hW 8 rfl⟩
theorem bz9 {w:World} {b T:Nat} {a0 a1 a2 a3 a4 a5 a6 a7 a8:Value} (k:w.heap[b]? = some (.cells #[a0,a1,a2,a3,a4,a5,a6,a7,a8] T (0,0))):w.cell? ⟨b,0,none⟩=some a0∧w.cell? ⟨b,1,none⟩=some a1∧w.cell? ⟨b,2,none⟩=some a2∧w.cell? ⟨b,3,none⟩=some a3∧w.cell? ⟨b,4,none⟩=some a4∧w.cell? ⟨b,5,none⟩=some a5∧w.cell? ⟨b,6,none⟩=some a6∧w.cell? ⟨b,7,none⟩=some a7∧w.cell? ⟨b,8,none⟩=some a8∧∀ j,w.frozen? ⟨b,j,none⟩=false:=⟨bkC k 0 rfl,bkC k 1 rfl,bkC k 2 rfl,bkC k 3 rfl,bkC k 4 rfl,bkC k 5 rfl,bkC k 6 rfl,bkC k 7 rfl,bkC k 8 rfl,bkF k⟩
theorem aI {a b:Prop} (x:a) (y:b):a∧b:=⟨x,y⟩
theorem btr {w0 w1 w2:World} (B:Hid (IJ w0 w0 w1)) (h:IJ w1 w1 w2):Hid (IJ w0 w0 w2):=J (B.out.trans (h.mono B.out.size))
theorem bkH {w w':World} {b:Nat} {o:Obj} (k:Hid (w.heap[b]? = some o)) (h:IJ w w w'):Hid (w'.heap[b]? = some o):=J (bkB k.out h (Array.getElem?_eq_some_iff.1 k.out).1)
def zb1 (w:World) (b:Nat):Nat→List Value→World
 | _,[]=>w
 | j,v::l=>zb1 (w.setCell ⟨b,j,none⟩ v) b (j+1) l
theorem setsC_at {b T:Nat} : ∀ (l:List Value) (w:World) (j:Nat) (cs:Array Value),w.heap[b]? = some (.cells cs T (0,0))→j+l.length=cs.size →
  (zb1 w b j l).heap[b]? = some (.cells (cs.toList.take j++l).toArray T (0,0))∧w.heap.size≤(zb1 w b j l).heap.size∧(∀ x,x≠b→(zb1 w b j l).heap[x]? = w.heap[x]?) ∧
   ∀ w0:World,w0.heap.size≤b→IJ w0 w0 w→IJ w0 w0 (zb1 w b j l)
 | [],w,j,cs,h,hl=>by
  have e:cs.toList.take j=cs.toList:=List.take_of_length_le (by simp at hl ⊢;omega);refine⟨by simp only[zb1];rw[e,List.append_nil,h],Nat.le_refl _,fun _ _=>rfl,fun _ _ h=>h⟩
 | v::l,w,j,cs,h,hl=>by
  rw[List.length_cons] at hl;obtain⟨h1,h2,h3,h4⟩:=setsC_at l (w.setCell ⟨b,j,none⟩ v) (j+1) (cs.setIfInBounds j v) (bkS h j v) (by rw[Array.size_setIfInBounds];omega);have e:(cs.setIfInBounds j v).toList.take (j+1)++l=cs.toList.take j++v::l:=by
   rw[Array.toList_setIfInBounds,List.take_succ_eq_append_getElem (by simp<;>omega),List.getElem_set_self,List.take_set_of_le (Nat.le_refl _),List.append_assoc]
   rfl
  rw[e] at h1;refine⟨h1,by rw[zac] at h2;exact h2,fun x hx=>(h3 x hx).trans (Below.heap_setCell _ _ _ _ hx),fun w0 hw h=>h4 w0 hw (h.setCell (p:=⟨b,j,none⟩) hw v)⟩
theorem zca {w:World} {b T:Nat} {cs:Array Value} (k:Hid (w.heap[b]? = some (.cells cs T (0,0)))) (l:List Value) (hl:l.length=cs.size):∃ w',zb1 w b 0 l=w'∧Hid (w'.heap[b]? = some (.cells l.toArray T (0,0))) ∧
  w.heap.size≤w'.heap.size∧Hid (∀ x,x≠b→w'.heap[x]? = w.heap[x]?)∧Hid (∀ w0:World,w0.heap.size≤b→IJ w0 w0 w→IJ w0 w0 w'):=by
 obtain⟨h1,h2,h3,h4⟩:=setsC_at l w 0 cs k.out O;rw[List.take_zero,List.nil_append] at h1;exact⟨_,rfl,h1,h2,h3,h4⟩
theorem zds {w:World} {b T:Nat} {cs:Array Value} (k:Hid (w.heap[b]? = some (.cells cs T (0,0)))) (j:Nat) (v:Value):∃ w',w.setCell ⟨b,j,none⟩ v=w'∧Hid (w'.heap[b]? = some (.cells (cs.setIfInBounds j v) T (0,0))) ∧
  w.heap.size≤w'.heap.size∧Hid (∀ x,x≠b→w'.heap[x]? = w.heap[x]?)∧Hid (∀ w0:World,w0.heap.size≤b→IJ w0 w0 w→IJ w0 w0 w') :=
 ⟨_,rfl,bkS k.out j v,by rw[zac];exact Nat.le_refl _,fun x hx=>Below.heap_setCell _ _ _ _ hx,fun w0 hw h=>h.setCell (p:=⟨b,j,none⟩) hw v⟩
end Go.Proofs.YtgmapjgodibchaaGreatDoor
