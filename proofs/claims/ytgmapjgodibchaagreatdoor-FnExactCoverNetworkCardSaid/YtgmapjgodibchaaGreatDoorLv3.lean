/- Contracts: sines, directions, distances, for the program and for the reference. Conditions: bounded places; the tables hold what they hold at the start. -/
import Derived.Test.YtgmapjgodibchaaGreatDoorLv2
import Derived.Test.YtgmapjgodibchaaGreatDoorEirp3
set_option linter.unusedVariables false
set_option linter.unusedSimpArgs false
namespace Go.Proofs.YtgmapjgodibchaaGreatDoor
open Go.RowKit
set_option maxHeartbeats 40000000
set_option maxRecDepth 100000
theorem emod_deg (d:Int):(Int.tmod d 360+360) % 360=d % 360:=by
 rcases Int.le_total 0 d with h|h
 ·rw[Int.tmod_eq_emod_of_nonneg h];omega
 ·obtain⟨c,rfl⟩:∃ c,d = -c:=⟨-d,O⟩
  rw[Int.neg_tmod,Int.tmod_eq_emod_of_nonneg (show 0≤c by omega)];omega
theorem tmod_mod (d:Int):(Int.tmod d 360+90) % 360=(d+90) % 360:=by
 rcases Int.le_total 0 d with h|h
 ·rw[Int.tmod_eq_emod_of_nonneg h];omega
 ·obtain⟨c,rfl⟩:∃ c,d = -c:=⟨-d,O⟩
  rw[Int.neg_tmod,Int.tmod_eq_emod_of_nonneg (show 0≤c by omega)];omega
theorem degN_eq (d:Int):degN d=d % 360:=by unfold degN;exact emod_deg d
theorem sinA_deg (d:Int):sinA d=sinD (degN d):=by unfold sinA;rw[degN_eq]
theorem cosA_sin (d:Int):sinA (Int.tmod d 360+90)=cosA d:=by unfold sinA cosA;rw[tmod_mod]
theorem cosA_deg (d:Int):sinD ((degN d+90) % 360)=cosA d:=by unfold cosA;rw[degN_eq];congr 1;omega
theorem tab_at (l:List Int) (k:Nat) (h:k<l.length):((l.map fun n=>Value.int .i64 n).toArray)[k]? = some (I (gi l k)):=by
 simp[ze9 h,h]
theorem zfm {g:Int→Int} {s:Int} {k:Nat} (h:g (zaz g s k)<g (s+((k+1:Nat):Int))):zaz g s (k+1)=s+((k+1:Nat):Int):=by
 show (if g (zaz g s k)<g (s+((k+1:Nat):Int)) then s+((k+1:Nat):Int) else zaz g s k)=_
 rw[if_pos h]
theorem zfn {g:Int→Int} {s:Int} {k:Nat} (h:¬ g (zaz g s k)<g (s+((k+1:Nat):Int))):zaz g s (k+1)=zaz g s k:=by
 show (if g (zaz g s k)<g (s+((k+1:Nat):Int)) then s+((k+1:Nat):Int) else zaz g s k)=_
 rw[if_neg h]
theorem zd3 {g:Int→Int} {s:Int} {j:Nat} (hj:1≤j) (h:g (zaz g s (j-1))<g (s+(j:Int))):zaz g s j=s+(j:Int):=by
 obtain⟨k,rfl⟩:∃ k,j=k+1:=⟨j-1,O⟩
 exact zfm h
theorem zd4 {g:Int→Int} {s:Int} {j:Nat} (hj:1≤j) (h:¬ g (zaz g s (j-1))<g (s+(j:Int))):zaz g s j=zaz g s (j-1):=by
 obtain⟨k,rfl⟩:∃ k,j=k+1:=⟨j-1,O⟩
 exact zfn h
theorem iSineD_any (d D:Int) (hD:d % 360=D) (h1:D<180) (w:World) (L:TabW w):Calls Tryz.prog 197 #[I d] w fun e w'=>e=.returned (I (sin2 D))∧IJ w w w':=by
 have ed:=emod_deg d;rw[hD] at ed;obtain⟨ht0,ht1⟩:=tmod_bd d;generalize htm:Int.tmod d 360=t at *;have ed2:t % 360=D:=O
 have hD0:0≤D:=O
 clear hD;have c:¬ 180≤D:=O
 by_cases c2:90<D
 ·obtain⟨k,ek⟩:=Int.eq_ofNat_of_zero_le (show 0≤180-D by omega)
  have hk:k<91:=O
  have HE:Hid (sin2 D=gi sinL k):=by show _=_;unfold sin2 sinT;rw[if_pos c2,ek];rfl
  have cl:=L.sin k hk;have k0:(0:Int)≤(k:Int):=O
  have k1:(k:Int)<91:=O
  clear L;go_enter Tryz.func197,Tryz.ntmps197;go_wp2;go_ret;exact⟨by rw[HE.out];rfl,Below.refl _ _⟩
 ·obtain⟨k,rfl⟩:=Int.eq_ofNat_of_zero_le hD0
  have hk:k<91:=O
  have HE:Hid (sin2 (k:Int)=gi sinL k):=by show _=_;unfold sin2 sinT;rw[if_neg c2];rfl
  have cl:=L.sin k hk;have k0:(0:Int)≤(k:Int):=O
  have k1:(k:Int)<91:=O
  clear L;go_enter Tryz.func197,Tryz.ntmps197;go_wp2;go_ret;exact⟨by rw[HE.out];rfl,Below.refl _ _⟩
theorem iSine_any (d:Int) (w:World) (L:TabW w):Calls Tryz.prog 197 #[I d] w fun e w'=>e=.returned (I (sinA d))∧IJ w w w':=by
 by_cases c:180≤d % 360
 ·have HE0:Hid (sinA d=sinD (d % 360)):=rfl
  have ed:=emod_deg d;obtain⟨ht0,ht1⟩:=tmod_bd d;generalize htm:Int.tmod d 360=t at *;have ed2:t % 360=d % 360:=O
  have hD1:d % 360<360:=O
  generalize d % 360=D at *;generalize sinA d=SA at *;have HE:Hid (SA = -(sin2 (D-180))):=by show _=_;rw[HE0.out];unfold sinD;rw[if_pos c]
  have CS:=J (iSineD_any (D-180) (D-180) O O w L);obtain⟨s0,s1⟩:=sin2_bd (D-180);generalize sin2 (D-180)=sv at *;clear L HE0;go_enter Tryz.func197,Tryz.ntmps197;go_wp2_with (go_at_call 197;with_reducible refine CS.out.mono ?_;rintro e w1 ⟨rfl,hb1⟩);go_ret;exact⟨by rw[HE.out];rfl,hb1⟩
 ·have HE:sinA d=sin2 (d % 360):=by unfold sinA sinD;rw[if_neg c]
  rw[HE];exact iSineD_any d _ rfl O w L
theorem iCosine_any (d:Int) (w:World) (L:TabW w):Calls Tryz.prog 198 #[I d] w fun e w'=>e=.returned (I (cosA d))∧IJ w w w':=by
 have HE:=J (cosA_sin d);obtain⟨ht0,ht1⟩:=tmod_bd d;generalize htm:Int.tmod d 360=t at *;have CS:=J (iSine_any (t+90) w L);clear L;go_enter Tryz.func198,Tryz.ntmps198;go_wp2_with (go_at_call 197;with_reducible refine CS.out.mono ?_;rintro e w1 ⟨rfl,hb1⟩);go_ret;exact⟨by rw[HE.out];rfl,hb1⟩
theorem l03Table_any (w:World):Calls Tryz.prog 216 #[] w fun e w'=>∃ b,e=.returned (II (some ⟨b,0,none⟩) 91 91)∧IJ w w w'∧w.heap.size≤b∧b<w'.heap.size∧∀ k:Nat,k<91→w'.cell? ⟨b,k,none⟩=some (I (gi sinL k)):=by
 go_enter Tryz.func216,Tryz.ntmps216;go_wp2;go_ret;refine⟨_,rfl,za2 _ _,Nat.le_refl _,by simp,fun k hk=>bkC (bkN w _ _) k ?_⟩;exact tab_at sinL k (by rw[sinL_len];exact hk)
theorem l03Sine2_any (d:Int) (h0:0≤d) (h1:d≤180) (w:World):Calls Tryz.prog 265 #[I d] w fun e w'=>e=.returned (I (sin2 d))∧IJ w w w':=by
 by_cases c:90<d
 ·obtain⟨k,ek⟩:=Int.eq_ofNat_of_zero_le (show 0≤180-d by omega)
  have hk:k<91:=O
  have HE:Hid (sin2 d=gi sinL k):=by show _=_;unfold sin2 sinT;rw[if_pos c,ek];rfl
  have k0:(0:Int)≤(k:Int):=O
  have k1:(k:Int)<91:=O
  go_enter Tryz.func265,Tryz.ntmps265;go_upto_region 3 with (fail)
  (try rw[ek])
  go_wp2_with (go_at_call 216;with_reducible refine (l03Table_any _).mono ?_;rintro e w1 ⟨b,rfl,hb1,hlo,hhi,hcl⟩;have cl:=hcl k hk;clear hcl);go_ret;exact⟨by rw[HE.out];rfl,hb1⟩
 ·obtain⟨k,rfl⟩:=Int.eq_ofNat_of_zero_le h0
  have hk:k<91:=O
  have HE:Hid (sin2 (k:Int)=gi sinL k):=by show _=_;unfold sin2 sinT;rw[if_neg c];rfl
  have k0:(0:Int)≤(k:Int):=O
  have k1:(k:Int)<91:=O
  go_enter Tryz.func265,Tryz.ntmps265;go_wp2_with (go_at_call 216;with_reducible refine (l03Table_any _).mono ?_;rintro e w1 ⟨b,rfl,hb1,hlo,hhi,hcl⟩;have cl:=hcl k hk;clear hcl);go_ret;exact⟨by rw[HE.out];rfl,hb1⟩
theorem l03Sine_any (d:Int) (h0:0≤d) (h1:d<360) (w:World):Calls Tryz.prog 249 #[I d] w fun e w'=>e=.returned (I (sinD d))∧IJ w w w':=by
 by_cases c:180≤d
 ·have HE:Hid (sinD d = -(sin2 (d-180))):=by show _=_;unfold sinD;rw[if_pos c]
  have CS:=J (l03Sine2_any (d-180) O O w);obtain⟨s0,s1⟩:=sin2_bd (d-180);generalize sin2 (d-180)=sv at *;go_enter Tryz.func249,Tryz.ntmps249;go_wp2_with (go_at_call 265;with_reducible refine CS.out.mono ?_;rintro e w1 ⟨rfl,hb1⟩);go_ret;exact⟨by rw[HE.out];rfl,hb1⟩
 ·have HE:Hid (sinD d=sin2 d):=by show _=_;unfold sinD;rw[if_neg c]
  have CS:=J (l03Sine2_any d O O w);generalize sin2 d=sv at *;go_enter Tryz.func249,Tryz.ntmps249;go_wp2_with (go_at_call 265;with_reducible refine CS.out.mono ?_;rintro e w1 ⟨rfl,hb1⟩);go_ret;exact⟨by rw[HE.out];rfl,hb1⟩
theorem sSine_any (d:Int) (w:World):Calls Tryz.prog 219 #[I d] w fun e w'=>e=.returned (I (sinA d))∧IJ w w w':=by
 have HE:=J (sinA_deg d);have CD:=J (fun W=>ze3 d W);have hd:=deg_bd d;generalize degN d=D at *;have CS:=J (fun W=>l03Sine_any D O O W);go_enter Tryz.func219,Tryz.ntmps219;go_wp2_with (first|(go_at_call 250;with_reducible refine (CD.out _).mono ?_;rintro e w1 ⟨rfl,rfl⟩)|(go_at_call 249;with_reducible refine (CS.out _).mono ?_;rintro e w1 ⟨rfl,hb1⟩));go_ret;exact⟨by rw[HE.out];rfl,hb1⟩
theorem sCosine_any (d:Int) (w:World):Calls Tryz.prog 218 #[I d] w fun e w'=>e=.returned (I (cosA d))∧IJ w w w':=by
 have HE:=J (cosA_deg d);have CD:=J (fun W=>ze3 d W);obtain⟨hd0,hd1⟩:=deg_bd d;generalize degN d=D at *;have CS:=J (fun W=>l03Sine_any ((D+90) % 360) O O W);go_enter Tryz.func218,Tryz.ntmps218;go_wp2_with (first|(go_at_call 250;with_reducible refine (CD.out _).mono ?_;rintro e w1 ⟨rfl,rfl⟩)|(go_at_call 249;with_reducible refine (CS.out _).mono ?_;rintro e w1 ⟨rfl,hb1⟩));go_ret;exact⟨by rw[HE.out];rfl,hb1⟩
theorem bearingC_any (a b:DPoint) (ha:ptB a) (hb:ptB b) (d:Int) (pb pa:Nat) (w:World) (L:TabW w) (c0:w.cell? ⟨pb,0,none⟩=some (I b.x)) (c1:w.cell? ⟨pb,1,none⟩=some (I b.y)) (c2:w.cell? ⟨pa,0,none⟩=some (I a.x)) (c3:w.cell? ⟨pa,1,none⟩=some (I a.y)) :
  Calls Tryz.prog 196 #[I d,.pointer (some ⟨pb,0,none⟩),.pointer (some ⟨pa,0,none⟩)] w fun e w'=>e=.returned (I (dotP (b.x-a.x) (b.y-a.y) d))∧IJ w w w':=by
 have z_pb:pb<w.heap.size:=zbh c0;have z_pa:pa<w.heap.size:=zbh c2;unfold ptB at ha hb;obtain⟨⟨x0,x1⟩,y0,y1⟩:=ha;obtain⟨⟨u0,u1⟩,v0,v1⟩:=hb;obtain⟨⟨m0,m1⟩,n0,n1⟩:=dotP_bd (x:=b.x-a.x) (y:=b.y-a.y) d O O O O;have HE:Hid (dotP (b.x-a.x) (b.y-a.y) d=(b.x-a.x)*sinA d+(b.y-a.y)*cosA d):=rfl;have B0:Hid (IJ w w w):=Below.refl _ _;have HD:Hid (∀ W:World,IJ w w W→(W.cell? ⟨pb,0,none⟩=some (I b.x)∧W.cell? ⟨pb,1,none⟩=some (I b.y)∧W.cell? ⟨pa,0,none⟩=some (I a.x)∧W.cell? ⟨pa,1,none⟩=some (I a.y))):=fun W hW=>⟨(bat hW pb _ O).trans c0,(bat hW pb _ O).trans c1,(bat hW pa _ O).trans c2,(bat hW pa _ O).trans c3⟩
 have HB:Hid (IJ w w w):=Below.refl _ _;have CSI:Hid (∀ (dd:Int) (W:World),IJ w w W→Calls Tryz.prog 197 #[I dd] W fun e w'=>e=.returned (I (sinA dd))∧IJ W W w'):=fun dd W hW=>iSine_any dd W (L.mono (B0.out.trans hW))
 have CCO:Hid (∀ (dd:Int) (W:World),IJ w w W→Calls Tryz.prog 198 #[I dd] W fun e w'=>e=.returned (I (cosA dd))∧IJ W W w'):=fun dd W hW=>iCosine_any dd W (L.mono (B0.out.trans hW))
 clear L c0 c1 c2 c3;go_enter Tryz.func196,Tryz.ntmps196;obtain⟨t0,t1,t2,t3⟩:=HD.out _ HB.out;go_upto_region 1 with (fail);have o0:=zal (w0:=w) (show pb<w.heap.size by have:=HB.out.size;omega);have o1:=zal (w0:=w) (show pa<w.heap.size by have:=HB.out.size;omega);refine zad w.heap.size w (Below.refl _ _) OJ OJ ?_
 repeat (go_big_quiet_step (first|(go_at_call 197;with_reducible exact zaj (Nat.le_refl _) (CSI.out _ _ (HB.out.trans ((zaa _ _ _).mono HB.out.size))))|(go_at_call 198;with_reducible exact zaj (Nat.le_refl _) (CCO.out _ _ (HB.out.trans ((zaa _ _ _).mono HB.out.size))))))
 refine wpQuiet_nil ?_;rintro _ ⟨X,rfl⟩;replace HB:=btr HB (zaa w.heap.size w X);clear o0 o1
 (try clear t0 t1 t2 t3)
 generalize over w.heap.size w X=u2 at *;obtain⟨t0,t1,t2,t3⟩:=HD.out _ HB.out;go_wp2;go_ret;exact⟨by rw[HE.out];rfl,B0.out.trans (HB.out.mono B0.out.size)⟩
theorem elevationC_any (d h:Int) (d0:0≤d) (d1:d≤283000) (h0:-200000≤h) (h1:h≤200000) (e0:Int) (pd ph:Nat) (w:World) (L:TabW w) (c0:w.cell? ⟨pd,0,none⟩=some (I d)) (c1:w.cell? ⟨ph,0,none⟩=some (I h)) :
  Calls Tryz.prog 199 #[I e0,.pointer (some ⟨pd,0,none⟩),.pointer (some ⟨ph,0,none⟩)] w fun e w'=>e=.returned (I (dotE d h e0))∧IJ w w w':=by
 have z_pd:pd<w.heap.size:=zbh c0;have z_ph:ph<w.heap.size:=zbh c1;obtain⟨⟨m0,m1⟩,n0,n1⟩:=dotE_bd e0 d0 d1 h0 h1;have HE:Hid (dotE d h e0=10*d*cosA e0+h*sinA e0):=rfl;have B0:Hid (IJ w w w):=Below.refl _ _;have HD:Hid (∀ W:World,IJ w w W→(W.cell? ⟨pd,0,none⟩=some (I d)∧W.cell? ⟨ph,0,none⟩=some (I h))):=fun W hW=>⟨(bat hW pd _ O).trans c0,(bat hW ph _ O).trans c1⟩
 have HB:Hid (IJ w w w):=Below.refl _ _;have CSI:Hid (∀ (dd:Int) (W:World),IJ w w W→Calls Tryz.prog 197 #[I dd] W fun e w'=>e=.returned (I (sinA dd))∧IJ W W w'):=fun dd W hW=>iSine_any dd W (L.mono (B0.out.trans hW))
 have CCO:Hid (∀ (dd:Int) (W:World),IJ w w W→Calls Tryz.prog 198 #[I dd] W fun e w'=>e=.returned (I (cosA dd))∧IJ W W w'):=fun dd W hW=>iCosine_any dd W (L.mono (B0.out.trans hW))
 clear L c0 c1;go_enter Tryz.func199,Tryz.ntmps199;obtain⟨t0,t1⟩:=HD.out _ HB.out;go_upto_region 1 with (fail);have o0:=zal (w0:=w) (show pd<w.heap.size by have:=HB.out.size;omega);have o1:=zal (w0:=w) (show ph<w.heap.size by have:=HB.out.size;omega);refine zad w.heap.size w (Below.refl _ _) OJ OJ ?_
 repeat (go_big_quiet_step (first|(go_at_call 197;with_reducible exact zaj (Nat.le_refl _) (CSI.out _ _ (HB.out.trans ((zaa _ _ _).mono HB.out.size))))|(go_at_call 198;with_reducible exact zaj (Nat.le_refl _) (CCO.out _ _ (HB.out.trans ((zaa _ _ _).mono HB.out.size))))))
 refine wpQuiet_nil ?_;rintro _ ⟨X,rfl⟩;replace HB:=btr HB (zaa w.heap.size w X);clear o0 o1
 (try clear t0 t1)
 generalize over w.heap.size w X=u2 at *;obtain⟨t0,t1⟩:=HD.out _ HB.out;go_wp2;go_ret;exact⟨by rw[HE.out];rfl,B0.out.trans (HB.out.mono B0.out.size)⟩
theorem iDist_any (a b:DPoint) (ha:ptB a) (hb:ptB b) (w:World) :
  Calls Tryz.prog 192 #[.agg #[I a.x,I a.y],.agg #[I b.x,I b.y]] w fun e w'=>e=.returned (I (zbp a b))∧IJ w w w':=by
 have HE:Hid (zbp a b=isq (dist2 b a)):=by show _=_;rw[distI_symm];rfl
 unfold ptB at ha hb;obtain⟨⟨x0,x1⟩,y0,y1⟩:=ha;obtain⟨⟨u0,u1⟩,v0,v1⟩:=hb;have sx:=sq_bd (x:=a.x-b.x) O O;have sy:=sq_bd (x:=a.y-b.y) O O;have hd:dist2 b a=(a.x-b.x)*(a.x-b.x)+(a.y-b.y)*(a.y-b.y):=rfl;obtain⟨sx0,sx1⟩:=sx;obtain⟨sy0,sy1⟩:=sy;obtain⟨W0,hW0,b0_,z0,k0,k1⟩:=zeb w #[I a.x,I a.y] 66 #[I b.x,I b.y] 66;have HW0:=J hW0;have B0:=J b0_;have HD:=J (fun (W:World) (hW:IJ W0 W0 W)=>bx2 k0 hW <| by2 k1 hW);have HB:Hid (IJ W0 W0 W0):=Below.refl _ _;clear k0 k1 hW0 b0_;have CR:Hid (∀ W:World,IJ W0 W0 W→Calls Tryz.prog 234 #[I ((a.x-b.x)*(a.x-b.x)+(a.y-b.y)*(a.y-b.y))] W fun e w'=>e=.returned (I (isq (dist2 b a)))∧IJ W W w'):=fun  W hW=>by rw[hd];exact rootOf_any _ O O W
 clear hd;go_enter Tryz.func192,Tryz.ntmps192;go_upto_region 1 with (fail);rw[HW0.out];obtain⟨t0,t1,t2,t3⟩:=HD.out _ HB.out;go_wp2_with (first|(go_at_call 234;with_reducible refine (CR.out _ HB.out).mono ?_;rintro e v1 ⟨rfl,hb_⟩;(try clear t0 t1 t2 t3);replace HB:=btr HB hb_;clear hb_;obtain⟨t0,t1,t2,t3⟩:=HD.out _ HB.out));go_ret;exact⟨by rw[HE.out];rfl,B0.out.trans (HB.out.mono B0.out.size)⟩
theorem l03Apart_any (a b:DPoint) (ha:ptB a) (hb:ptB b) (w:World) :
  Calls Tryz.prog 214 #[.agg #[I a.x,I a.y],.agg #[I b.x,I b.y]] w fun e w'=>e=.returned (I (zbp a b))∧IJ w w w':=by
 have HE:Hid (zbp a b=isq (dist2 a b)):=by show _=_;rfl
 unfold ptB at ha hb;obtain⟨⟨x0,x1⟩,y0,y1⟩:=ha;obtain⟨⟨u0,u1⟩,v0,v1⟩:=hb;have sx:=sq_bd (x:=b.x-a.x) O O;have sy:=sq_bd (x:=b.y-a.y) O O;have hd:dist2 a b=(b.x-a.x)*(b.x-a.x)+(b.y-a.y)*(b.y-a.y):=rfl;obtain⟨sx0,sx1⟩:=sx;obtain⟨sy0,sy1⟩:=sy;obtain⟨W0,hW0,b0_,z0,k0,k1⟩:=zeb w #[I a.x,I a.y] 66 #[I b.x,I b.y] 66;have HW0:=J hW0;have B0:=J b0_;have HD:=J (fun (W:World) (hW:IJ W0 W0 W)=>bx2 k0 hW <| by2 k1 hW);have HB:Hid (IJ W0 W0 W0):=Below.refl _ _;clear k0 k1 hW0 b0_;have CR:Hid (∀ W:World,IJ W0 W0 W→Calls Tryz.prog 246 #[I ((b.x-a.x)*(b.x-a.x)+(b.y-a.y)*(b.y-a.y))] W fun e w'=>e=.returned (I (isq (dist2 a b)))∧IJ W W w'):=fun  W hW=>by rw[hd];exact zam (l01Root_any _ O W)
 clear hd;go_enter Tryz.func214,Tryz.ntmps214;go_upto_region 1 with (fail);rw[HW0.out];obtain⟨t0,t1,t2,t3⟩:=HD.out _ HB.out;go_wp2_with (first|(go_at_call 246;with_reducible refine (CR.out _ HB.out).mono ?_;rintro e v1 ⟨rfl,hb_⟩;(try clear t0 t1 t2 t3);replace HB:=btr HB hb_;clear hb_;obtain⟨t0,t1,t2,t3⟩:=HD.out _ HB.out));go_ret;exact⟨by rw[HE.out];rfl,B0.out.trans (HB.out.mono B0.out.size)⟩
theorem iBearing_any (a b:DPoint) (ha:ptB a) (hb:ptB b) (w:World) (L:TabW w) :
  Calls Tryz.prog 157 #[.agg #[I a.x,I a.y],.agg #[I b.x,I b.y]] w fun e w'=>e=.returned (I (zdh a b))∧IJ w w w':=by
 obtain⟨W0,hW0,b0_,z0,k0,k1⟩:=zeb w #[I a.x,I a.y] 66 #[I b.x,I b.y] 66;have HW0:=J hW0;have B0:=J b0_;have HD:=J (fun (W:World) (hW:IJ W0 W0 W)=>bx2 k0 hW <| by2 k1 hW);have HB:Hid (IJ W0 W0 W0):=Below.refl _ _;clear k0 k1 hW0 b0_;have CB:Hid (∀ (dd:Int) (W:World),IJ W0 W0 W→Calls Tryz.prog 196 #[I dd,.pointer (some ⟨w.heap.size+1,0,none⟩),.pointer (some ⟨w,0,none⟩)] W fun e w'=>e=.returned (I (dotP (b.x-a.x) (b.y-a.y) dd))∧IJ W W w'):=fun dd W hW=>by
   obtain⟨t0,t1,t2,t3⟩:=HD.out W hW;exact bearingC_any a b ha hb dd _ _ W (L.mono (B0.out.trans (hW.mono B0.out.size))) t2 t3 t0 t1
 have HE:Hid (zdh a b=zaz (dotP (b.x-a.x) (b.y-a.y)) 0 359):=rfl;generalize zdh a b=BI at *;generalize dotP (b.x-a.x) (b.y-a.y)=g at *;clear L ha hb;go_enter Tryz.func157,Tryz.ntmps157;go_upto_region 1 with (fail);rw[HW0.out];go_wp2;go_loopw [6,7] (fun bs dd wr=>∃ j:Nat,j≤359∧bs=I (zaz g 0 j)∧dd=I (1+(j:Int))∧IJ W0 W0 wr) (fun bs dd wr=>(360-(intOf dd)).toNat)
 case atStart=>exact⟨0,Nat.zero_le _,rfl,by simp,Below.refl _ _⟩
 case round =>
  obtain⟨j,hj,rfl,rfl,hbw⟩:=hrel;have HB:=J hbw;clear hbw;have bb:=zdb g 0 j;have es:(0:Int)+((j+1:Nat):Int)=1+(j:Int):=O
  have hji:(j:Int)≤359:=O
  by_cases hlt:j<359
  ·have hp:=zfm (g:=g) (s:=0) (k:=j)
   have hn:=zfn (g:=g) (s:=0) (k:=j);rw[es] at hp hn;have HP:=J hp;have HN:=J hn;clear hp hn es;generalize zaz g 0 j=ob at *;obtain⟨bb0,bb1⟩:=bb
   by_cases hc:g ob<g (1+(j:Int))
   ·have HE2:=J (HP.out hc)
    go_wp2_with (go_at_call 196;with_reducible refine (CB.out _ _ HB.out).mono ?_;rintro e v ⟨rfl,hb_⟩;replace HB:=btr HB hb_;clear hb_);go_roundw
    case rel=>exact⟨j+1,O,by rw[HE2.out],by go_num,HB.out⟩
    case measure=>simp[intOf];omega
   ·have HE2:=J (HN.out hc)
    go_wp2_with (go_at_call 196;with_reducible refine (CB.out _ _ HB.out).mono ?_;rintro e v ⟨rfl,hb_⟩;replace HB:=btr HB hb_;clear hb_);go_roundw
    case rel=>exact⟨j+1,O,by rw[HE2.out],by go_num,HB.out⟩
    case measure=>simp[intOf];omega
  ·obtain rfl:j=359:=O
   go_wp2;go_ret;exact⟨by rw[HE.out];rfl,B0.out.trans (HB.out.mono B0.out.size)⟩
theorem l12Elev_any (d h:Int) (d0:0≤d) (d1:d≤283000) (h0:-200000≤h) (h1:h≤200000) (w:World) :
  Calls Tryz.prog 176 #[I d,I h] w fun e w'=>e=.returned (I (elevI d h))∧IJ w w w':=by
 have B0:Hid (IJ w w w):=Below.refl _ _;have HB:Hid (IJ w w w):=Below.refl _ _;have CSI:Hid (∀ (dd:Int) (W:World),IJ w w W→Calls Tryz.prog 219 #[I dd] W fun e w'=>e=.returned (I (sinA dd))∧IJ W W w'):=fun dd W hW=>sSine_any dd W
 have CCO:Hid (∀ (dd:Int) (W:World),IJ w w W→Calls Tryz.prog 218 #[I dd] W fun e w'=>e=.returned (I (cosA dd))∧IJ W W w'):=fun dd W hW=>sCosine_any dd W
 have HE:Hid (elevI d h=zaz (dotE d h) (-90) 180):=rfl;generalize elevI d h=EI at *;go_enter Tryz.func176,Tryz.ntmps176;skip;have HG:Hid (∀ x,dotE d h x=10*d*cosA x+h*sinA x):=fun _=>rfl
 have GB:Hid (∀ x,(-2830000000000≤10*d*cosA x∧10*d*cosA x≤2830000000000)∧(-200000000000≤h*sinA x∧h*sinA x≤200000000000)):=fun x=>dotE_bd x d0 d1 h0 h1
 have hd10:10*d≤2830000:=O
 go_wp2;go_loopw [5,6,7] (fun bs ms dd wr=>∃ j:Nat,j≤181∧dd=I (-90+(j:Int))∧((j=0∧bs=I (-90)∧ms=I (-4611686018427387904))∨(1≤j∧bs=I (zaz (dotE d h) (-90) (j-1))∧ms=I (dotE d h (zaz (dotE d h) (-90) (j-1)))))∧IJ w w wr) (fun bs ms dd wr=>(91-(intOf dd)).toNat)
 case atStart=>exact⟨0,Nat.zero_le _,by simp,Or.inl ⟨rfl,rfl,rfl⟩,Below.refl _ _⟩
 case round =>
  obtain⟨j,hj,rfl,hcase,hbw⟩:=hrel;have HB:=J hbw;clear hbw;have hji:(j:Int)≤181:=O
  by_cases hlt:j<181
  ·have hjl:(j:Int)<181:=O
   have hg:=HG.out (-90+(j:Int));obtain⟨⟨m0,m1⟩,n0,n1⟩:=GB.out (-90+(j:Int))
   rcases hcase with ⟨rfl,rfl,rfl⟩|⟨hj1,rfl,rfl⟩
   ·have HE3:Hid (zaz (dotE d h) (-90) (0+1-1) = -90):=rfl
    have HG2:=J (HG.out (-90));obtain⟨⟨m0,m1⟩,n0,n1⟩:=GB.out (-90);clear hg HE;go_wp2_with (first|(go_at_call 219;with_reducible refine (CSI.out _ _ HB.out).mono ?_;rintro e v ⟨rfl,hb_⟩;replace HB:=btr HB hb_;clear hb_)|(go_at_call 218;with_reducible refine (CCO.out _ _ HB.out).mono ?_;rintro e v ⟨rfl,hb_⟩;replace HB:=btr HB hb_;clear hb_));go_roundw
    case rel=>exact⟨0+1,O,by go_num,Or.inr ⟨O,by rw[HE3.out],by rw[HE3.out,HG2.out]⟩,HB.out⟩
    case measure=>simp[intOf]
   ·have HP:=J (zd3 (g:=dotE d h) (s:=-90) hj1)
    have HN:=J (zd4 (g:=dotE d h) (s:=-90) hj1);have ek:(j+1-1:Nat)=j:=O
    have HG2:=J hg;generalize hgo2:dotE d h (zaz (dotE d h) (-90) (j-1))=go at *;have HGE:=J hgo2;clear hgo2
    by_cases hc:go<10*d*cosA (-90+(j:Int))+h*sinA (-90+(j:Int))
    ·have HE3:Hid (zaz (dotE d h) (-90) j = -90+(j:Int)):=HP.out (by rw[hg];exact hc)
     clear hg HE HP HN;go_wp2_with (first|(go_at_call 219;with_reducible refine (CSI.out _ _ HB.out).mono ?_;rintro e v ⟨rfl,hb_⟩;replace HB:=btr HB hb_;clear hb_)|(go_at_call 218;with_reducible refine (CCO.out _ _ HB.out).mono ?_;rintro e v ⟨rfl,hb_⟩;replace HB:=btr HB hb_;clear hb_));go_roundw
     case rel=>exact⟨j+1,O,by go_num,Or.inr ⟨O,by rw[ek,HE3.out],by rw[ek,HE3.out,HG2.out]⟩,HB.out⟩
     case measure=>simp[intOf];omega
    ·have HE3:Hid (zaz (dotE d h) (-90) j=zaz (dotE d h) (-90) (j-1)):=HN.out (by rw[hg];exact hc)
     clear hg HE HP HN;go_wp2_with (first|(go_at_call 219;with_reducible refine (CSI.out _ _ HB.out).mono ?_;rintro e v ⟨rfl,hb_⟩;replace HB:=btr HB hb_;clear hb_)|(go_at_call 218;with_reducible refine (CCO.out _ _ HB.out).mono ?_;rintro e v ⟨rfl,hb_⟩;replace HB:=btr HB hb_;clear hb_));go_roundw
     case rel=>exact⟨j+1,O,by go_num,Or.inr ⟨O,by rw[ek,HE3.out],by rw[ek,HE3.out,HGE.out]⟩,HB.out⟩
     case measure=>simp[intOf];omega
  ·obtain rfl:j=181:=O
   rcases hcase with ⟨h0_,_,_⟩|⟨hj1,rfl,rfl⟩
   ·exfalso;omega
   ·go_wp2
    go_ret;exact⟨by rw[HE.out];rfl,HB.out⟩
theorem sinD_fold {e:Int} (h0:0≤e) (h1:e<360) (k:Nat) (hk:(if 90<e % 180 then 180-e % 180 else e % 180)=(k:Int)):sinD e=if 180≤e then -(gi sinL k) else gi sinL k:=by
 unfold sinD sin2 sinT
 by_cases c:180≤e
 ·have em:e % 180=e-180:=O
  rw[em] at hk;rw[if_pos c,if_pos c]
  by_cases c2:90<e-180
  ·rw[if_pos c2] at hk ⊢;rw[hk];rfl
  ·rw[if_neg c2] at hk ⊢;rw[hk];rfl
 ·have em:e % 180=e:=O
  rw[em] at hk;rw[if_neg c,if_neg c]
  by_cases c2:90<e
  ·rw[if_pos c2] at hk ⊢;rw[hk];rfl
  ·rw[if_neg c2] at hk ⊢;rw[hk];rfl
theorem sinA_nat {j:Int} (h0:0≤j) (h1:j<360):sinA j=sinD j:=by unfold sinA;rw[show j % 360=j by omega]
theorem l03Bearing_any (a b:DPoint) (ha:ptB a) (hb:ptB b) (w:World) :
  Calls Tryz.prog 174 #[.agg #[I a.x,I a.y],.agg #[I b.x,I b.y]] w fun e w'=>e=.returned (I (zdh a b))∧IJ w w w':=by
 have HE:Hid (zdh a b=zaz (dotP (b.x-a.x) (b.y-a.y)) 0 359):=rfl;have HG:Hid (∀ x,dotP (b.x-a.x) (b.y-a.y) x=(b.x-a.x)*sinA x+(b.y-a.y)*cosA x):=fun _=>rfl
 unfold ptB at ha hb;obtain⟨⟨x0,x1⟩,y0,y1⟩:=ha;obtain⟨⟨u0,u1⟩,v0,v1⟩:=hb;have GB:Hid (∀ x,(-200000000000≤(b.x-a.x)*sinA x∧(b.x-a.x)*sinA x≤200000000000)∧(-200000000000≤(b.y-a.y)*cosA x∧(b.y-a.y)*cosA x≤200000000000)):=fun x=>dotP_bd x O O O O
 generalize zdh a b=BI at *;generalize dotP (b.x-a.x) (b.y-a.y)=g at *;obtain⟨W0,hW0,b0_,z0,k0,k1⟩:=zeb w #[I a.x,I a.y] 66 #[I b.x,I b.y] 66;have HW0:=J hW0;have B0:=J b0_;have HD:=J (fun (W:World) (hW:IJ W0 W0 W)=>bx2 k0 hW <| by2 k1 hW);have HB:Hid (IJ W0 W0 W0):=Below.refl _ _;clear k0 k1 hW0 b0_;go_enter Tryz.func174,Tryz.ntmps174;go_upto_region 1 with (fail);rw[HW0.out];obtain⟨t0,t1,t2,t3⟩:=HD.out _ HB.out;go_upto_region 4 with (go_at_call 216;with_reducible refine (l03Table_any _).mono ?_;rintro e w1 ⟨bt,rfl,hb1,hlo,hhi,hcl⟩;(try clear t0 t1 t2 t3);replace HB:=btr HB hb1;clear hb1;obtain⟨t0,t1,t2,t3⟩:=HD.out _ HB.out;have HCL:=J hcl;clear hcl);have hdx0:-200000≤b.x-a.x:=O
 have hdx1:b.x-a.x≤200000:=O
 have hdy0:-200000≤b.y-a.y:=O
 have hdy1:b.y-a.y≤200000:=O
 go_wp2
 go_loop [5,6,8] (fun bs ms dd=>∃ j:Nat,j≤360∧dd=I (j:Int)∧((j=0∧bs=I 0∧ms=I (-4611686018427387904))∨(1≤j∧bs=I (zaz g 0 (j-1))∧ms=I (g (zaz g 0 (j-1)))))) (fun bs ms dd=>(360-(intOf dd)).toNat)
 case atStart=>exact⟨0,Nat.zero_le _,by simp,Or.inl ⟨rfl,rfl,rfl⟩⟩
 case round =>
  obtain⟨j,hj,rfl,hcase⟩:=hrel;have hji:(j:Int)≤360:=O
  have hj0:(0:Int)≤(j:Int):=O
  by_cases hlt:j<360
  ·have hjl:(j:Int)<360:=O
   have hg:=HG.out (j:Int);have hgb:=GB.out (j:Int);obtain⟨r1,er1⟩:=Int.eq_ofNat_of_zero_le (show 0≤(j:Int) % 180 by omega);obtain⟨ee,eee⟩:=Int.eq_ofNat_of_zero_le (show 0≤((j:Int)+90) % 360 by omega);obtain⟨r2,er2⟩:=Int.eq_ofNat_of_zero_le (show 0≤(ee:Int) % 180 by omega);have er1b:(r1:Int)<180:=O
   have er2b:(r2:Int)<180:=O
   have eeb:(ee:Int)<360:=O
   have ha1:sinA (j:Int)=sinD (j:Int):=sinA_nat hj0 hjl;have ha2:cosA (j:Int)=sinD (ee:Int):=by unfold cosA;rw[eee]
   have hf1:=sinD_fold hj0 hjl;have hf2:=sinD_fold (show 0≤(ee:Int) by omega) eeb;rw[er1] at hf1;rw[er2] at hf2;rw[ha1,ha2] at hg hgb
   by_cases c1:90<(r1:Int)
   ·
    by_cases c2:180≤(j:Int)
    ·
     by_cases c3:90<(r2:Int)
     ·
      exfalso;omega
     ·
      by_cases c4:180≤(ee:Int)
      ·
       exfalso;omega
      ·
       obtain⟨k1,e1⟩:=Int.eq_ofNat_of_zero_le (show 0≤180-(r1:Int) by omega);obtain⟨k2,e2⟩:=Int.eq_ofNat_of_zero_le (show 0≤(r2:Int) by omega);have hk1:k1<91:=O
       have hk2:k2<91:=O
       have g1:=hf1 k1 (by rw[if_pos c1];exact e1);have g2:=hf2 k2 (by rw[if_neg c3];exact e2);rw[if_pos c2] at g1;rw[if_neg c4] at g2;rw[g1,g2] at hg hgb;have cl1:=HCL.out k1 hk1;have cl2:=HCL.out k2 hk2;obtain⟨sb1,sb2⟩:=zcu k1;obtain⟨sb3,sb4⟩:=zcu k2;unfold sinT at sb1 sb2 sb3 sb4;generalize gi sinL k1=s1 at *;generalize gi sinL k2=s2 at *;obtain⟨⟨m0,m1⟩,n0,n1⟩:=hgb;have i1:(0:Int)≤(k1:Int):=O
       have i2:(k1:Int)<91:=O
       have i3:(0:Int)≤(k2:Int):=O
       have i4:(k2:Int)<91:=O
       clear hf1 hf2 g1 g2 ha1 ha2
       rcases hcase with ⟨hz,rfl,rfl⟩|⟨hj1,rfl,rfl⟩
       ·exfalso;omega
       ·have hp:=zd3 (g:=g) (s:=0) hj1
        have hn:=zd4 (g:=g) (s:=0) hj1;rw[Int.zero_add] at hp hn;have HP:=J hp;have HN:=J hn;clear hp hn;have ek:(j+1-1:Nat)=j:=O
        have HG2:=J hg;generalize hgo2:g (zaz g 0 (j-1))=go at *;have HGE:=J hgo2;clear hgo2
        by_cases hc:go<(b.x-a.x) * -s1+(b.y-a.y)*s2
        ·have HE3:Hid (zaz g 0 j=(j:Int)):=HP.out (by rw[hg];exact hc)
         clear hg HE HP HN;go_wp2
         go_round
         case rel=>exact⟨j+1,O,by go_num,Or.inr ⟨O,by rw[ek,HE3.out],by rw[ek,HE3.out,HG2.out]⟩⟩
         case measure=>simp[intOf];omega
        ·have HE3:Hid (zaz g 0 j=zaz g 0 (j-1)):=HN.out (by rw[hg];exact hc)
         clear hg HE HP HN;go_wp2
         go_round
         case rel=>exact⟨j+1,O,by go_num,Or.inr ⟨O,by rw[ek,HE3.out],by rw[ek,HE3.out,HGE.out]⟩⟩
         case measure=>simp[intOf];omega
    ·
     by_cases c3:90<(r2:Int)
     ·
      exfalso;omega
     ·
      by_cases c4:180≤(ee:Int)
      ·
       obtain⟨k1,e1⟩:=Int.eq_ofNat_of_zero_le (show 0≤180-(r1:Int) by omega);obtain⟨k2,e2⟩:=Int.eq_ofNat_of_zero_le (show 0≤(r2:Int) by omega);have hk1:k1<91:=O
       have hk2:k2<91:=O
       have g1:=hf1 k1 (by rw[if_pos c1];exact e1);have g2:=hf2 k2 (by rw[if_neg c3];exact e2);rw[if_neg c2] at g1;rw[if_pos c4] at g2;rw[g1,g2] at hg hgb;have cl1:=HCL.out k1 hk1;have cl2:=HCL.out k2 hk2;obtain⟨sb1,sb2⟩:=zcu k1;obtain⟨sb3,sb4⟩:=zcu k2;unfold sinT at sb1 sb2 sb3 sb4;generalize gi sinL k1=s1 at *;generalize gi sinL k2=s2 at *;obtain⟨⟨m0,m1⟩,n0,n1⟩:=hgb;have i1:(0:Int)≤(k1:Int):=O
       have i2:(k1:Int)<91:=O
       have i3:(0:Int)≤(k2:Int):=O
       have i4:(k2:Int)<91:=O
       clear hf1 hf2 g1 g2 ha1 ha2
       rcases hcase with ⟨hz,rfl,rfl⟩|⟨hj1,rfl,rfl⟩
       ·exfalso;omega
       ·have hp:=zd3 (g:=g) (s:=0) hj1
        have hn:=zd4 (g:=g) (s:=0) hj1;rw[Int.zero_add] at hp hn;have HP:=J hp;have HN:=J hn;clear hp hn;have ek:(j+1-1:Nat)=j:=O
        have HG2:=J hg;generalize hgo2:g (zaz g 0 (j-1))=go at *;have HGE:=J hgo2;clear hgo2
        by_cases hc:go<(b.x-a.x)*s1+(b.y-a.y) * -s2
        ·have HE3:Hid (zaz g 0 j=(j:Int)):=HP.out (by rw[hg];exact hc)
         clear hg HE HP HN;go_wp2
         go_round
         case rel=>exact⟨j+1,O,by go_num,Or.inr ⟨O,by rw[ek,HE3.out],by rw[ek,HE3.out,HG2.out]⟩⟩
         case measure=>simp[intOf];omega
        ·have HE3:Hid (zaz g 0 j=zaz g 0 (j-1)):=HN.out (by rw[hg];exact hc)
         clear hg HE HP HN;go_wp2
         go_round
         case rel=>exact⟨j+1,O,by go_num,Or.inr ⟨O,by rw[ek,HE3.out],by rw[ek,HE3.out,HGE.out]⟩⟩
         case measure=>simp[intOf];omega
      ·
       exfalso;omega
   ·
    by_cases c2:180≤(j:Int)
    ·
     by_cases c3:90<(r2:Int)
     ·
      by_cases c4:180≤(ee:Int)
      ·
       obtain⟨k1,e1⟩:=Int.eq_ofNat_of_zero_le (show 0≤(r1:Int) by omega);obtain⟨k2,e2⟩:=Int.eq_ofNat_of_zero_le (show 0≤180-(r2:Int) by omega);have hk1:k1<91:=O
       have hk2:k2<91:=O
       have g1:=hf1 k1 (by rw[if_neg c1];exact e1);have g2:=hf2 k2 (by rw[if_pos c3];exact e2);rw[if_pos c2] at g1;rw[if_pos c4] at g2;rw[g1,g2] at hg hgb;have cl1:=HCL.out k1 hk1;have cl2:=HCL.out k2 hk2;obtain⟨sb1,sb2⟩:=zcu k1;obtain⟨sb3,sb4⟩:=zcu k2;unfold sinT at sb1 sb2 sb3 sb4;generalize gi sinL k1=s1 at *;generalize gi sinL k2=s2 at *;obtain⟨⟨m0,m1⟩,n0,n1⟩:=hgb;have i1:(0:Int)≤(k1:Int):=O
       have i2:(k1:Int)<91:=O
       have i3:(0:Int)≤(k2:Int):=O
       have i4:(k2:Int)<91:=O
       clear hf1 hf2 g1 g2 ha1 ha2
       rcases hcase with ⟨hz,rfl,rfl⟩|⟨hj1,rfl,rfl⟩
       ·exfalso;omega
       ·have hp:=zd3 (g:=g) (s:=0) hj1
        have hn:=zd4 (g:=g) (s:=0) hj1;rw[Int.zero_add] at hp hn;have HP:=J hp;have HN:=J hn;clear hp hn;have ek:(j+1-1:Nat)=j:=O
        have HG2:=J hg;generalize hgo2:g (zaz g 0 (j-1))=go at *;have HGE:=J hgo2;clear hgo2
        by_cases hc:go<(b.x-a.x) * -s1+(b.y-a.y) * -s2
        ·have HE3:Hid (zaz g 0 j=(j:Int)):=HP.out (by rw[hg];exact hc)
         clear hg HE HP HN;go_wp2
         go_round
         case rel=>exact⟨j+1,O,by go_num,Or.inr ⟨O,by rw[ek,HE3.out],by rw[ek,HE3.out,HG2.out]⟩⟩
         case measure=>simp[intOf];omega
        ·have HE3:Hid (zaz g 0 j=zaz g 0 (j-1)):=HN.out (by rw[hg];exact hc)
         clear hg HE HP HN;go_wp2
         go_round
         case rel=>exact⟨j+1,O,by go_num,Or.inr ⟨O,by rw[ek,HE3.out],by rw[ek,HE3.out,HGE.out]⟩⟩
         case measure=>simp[intOf];omega
      ·
       exfalso;omega
     ·
      by_cases c4:180≤(ee:Int)
      ·
       obtain⟨k1,e1⟩:=Int.eq_ofNat_of_zero_le (show 0≤(r1:Int) by omega);obtain⟨k2,e2⟩:=Int.eq_ofNat_of_zero_le (show 0≤(r2:Int) by omega);have hk1:k1<91:=O
       have hk2:k2<91:=O
       have g1:=hf1 k1 (by rw[if_neg c1];exact e1);have g2:=hf2 k2 (by rw[if_neg c3];exact e2);rw[if_pos c2] at g1;rw[if_pos c4] at g2;rw[g1,g2] at hg hgb;have cl1:=HCL.out k1 hk1;have cl2:=HCL.out k2 hk2;obtain⟨sb1,sb2⟩:=zcu k1;obtain⟨sb3,sb4⟩:=zcu k2;unfold sinT at sb1 sb2 sb3 sb4;generalize gi sinL k1=s1 at *;generalize gi sinL k2=s2 at *;obtain⟨⟨m0,m1⟩,n0,n1⟩:=hgb;have i1:(0:Int)≤(k1:Int):=O
       have i2:(k1:Int)<91:=O
       have i3:(0:Int)≤(k2:Int):=O
       have i4:(k2:Int)<91:=O
       clear hf1 hf2 g1 g2 ha1 ha2
       rcases hcase with ⟨hz,rfl,rfl⟩|⟨hj1,rfl,rfl⟩
       ·exfalso;omega
       ·have hp:=zd3 (g:=g) (s:=0) hj1
        have hn:=zd4 (g:=g) (s:=0) hj1;rw[Int.zero_add] at hp hn;have HP:=J hp;have HN:=J hn;clear hp hn;have ek:(j+1-1:Nat)=j:=O
        have HG2:=J hg;generalize hgo2:g (zaz g 0 (j-1))=go at *;have HGE:=J hgo2;clear hgo2
        by_cases hc:go<(b.x-a.x) * -s1+(b.y-a.y) * -s2
        ·have HE3:Hid (zaz g 0 j=(j:Int)):=HP.out (by rw[hg];exact hc)
         clear hg HE HP HN;go_wp2
         go_round
         case rel=>exact⟨j+1,O,by go_num,Or.inr ⟨O,by rw[ek,HE3.out],by rw[ek,HE3.out,HG2.out]⟩⟩
         case measure=>simp[intOf];omega
        ·have HE3:Hid (zaz g 0 j=zaz g 0 (j-1)):=HN.out (by rw[hg];exact hc)
         clear hg HE HP HN;go_wp2
         go_round
         case rel=>exact⟨j+1,O,by go_num,Or.inr ⟨O,by rw[ek,HE3.out],by rw[ek,HE3.out,HGE.out]⟩⟩
         case measure=>simp[intOf];omega
      ·
       obtain⟨k1,e1⟩:=Int.eq_ofNat_of_zero_le (show 0≤(r1:Int) by omega);obtain⟨k2,e2⟩:=Int.eq_ofNat_of_zero_le (show 0≤(r2:Int) by omega);have hk1:k1<91:=O
       have hk2:k2<91:=O
       have g1:=hf1 k1 (by rw[if_neg c1];exact e1);have g2:=hf2 k2 (by rw[if_neg c3];exact e2);rw[if_pos c2] at g1;rw[if_neg c4] at g2;rw[g1,g2] at hg hgb;have cl1:=HCL.out k1 hk1;have cl2:=HCL.out k2 hk2;obtain⟨sb1,sb2⟩:=zcu k1;obtain⟨sb3,sb4⟩:=zcu k2;unfold sinT at sb1 sb2 sb3 sb4;generalize gi sinL k1=s1 at *;generalize gi sinL k2=s2 at *;obtain⟨⟨m0,m1⟩,n0,n1⟩:=hgb;have i1:(0:Int)≤(k1:Int):=O
       have i2:(k1:Int)<91:=O
       have i3:(0:Int)≤(k2:Int):=O
       have i4:(k2:Int)<91:=O
       clear hf1 hf2 g1 g2 ha1 ha2
       rcases hcase with ⟨hz,rfl,rfl⟩|⟨hj1,rfl,rfl⟩
       ·exfalso;omega
       ·have hp:=zd3 (g:=g) (s:=0) hj1
        have hn:=zd4 (g:=g) (s:=0) hj1;rw[Int.zero_add] at hp hn;have HP:=J hp;have HN:=J hn;clear hp hn;have ek:(j+1-1:Nat)=j:=O
        have HG2:=J hg;generalize hgo2:g (zaz g 0 (j-1))=go at *;have HGE:=J hgo2;clear hgo2
        by_cases hc:go<(b.x-a.x) * -s1+(b.y-a.y)*s2
        ·have HE3:Hid (zaz g 0 j=(j:Int)):=HP.out (by rw[hg];exact hc)
         clear hg HE HP HN;go_wp2
         go_round
         case rel=>exact⟨j+1,O,by go_num,Or.inr ⟨O,by rw[ek,HE3.out],by rw[ek,HE3.out,HG2.out]⟩⟩
         case measure=>simp[intOf];omega
        ·have HE3:Hid (zaz g 0 j=zaz g 0 (j-1)):=HN.out (by rw[hg];exact hc)
         clear hg HE HP HN;go_wp2
         go_round
         case rel=>exact⟨j+1,O,by go_num,Or.inr ⟨O,by rw[ek,HE3.out],by rw[ek,HE3.out,HGE.out]⟩⟩
         case measure=>simp[intOf];omega
    ·
     by_cases c3:90<(r2:Int)
     ·
      by_cases c4:180≤(ee:Int)
      ·
       exfalso;omega
      ·
       obtain⟨k1,e1⟩:=Int.eq_ofNat_of_zero_le (show 0≤(r1:Int) by omega);obtain⟨k2,e2⟩:=Int.eq_ofNat_of_zero_le (show 0≤180-(r2:Int) by omega);have hk1:k1<91:=O
       have hk2:k2<91:=O
       have g1:=hf1 k1 (by rw[if_neg c1];exact e1);have g2:=hf2 k2 (by rw[if_pos c3];exact e2);rw[if_neg c2] at g1;rw[if_neg c4] at g2;rw[g1,g2] at hg hgb;have cl1:=HCL.out k1 hk1;have cl2:=HCL.out k2 hk2;obtain⟨sb1,sb2⟩:=zcu k1;obtain⟨sb3,sb4⟩:=zcu k2;unfold sinT at sb1 sb2 sb3 sb4;generalize gi sinL k1=s1 at *;generalize gi sinL k2=s2 at *;obtain⟨⟨m0,m1⟩,n0,n1⟩:=hgb;have i1:(0:Int)≤(k1:Int):=O
       have i2:(k1:Int)<91:=O
       have i3:(0:Int)≤(k2:Int):=O
       have i4:(k2:Int)<91:=O
       clear hf1 hf2 g1 g2 ha1 ha2
       rcases hcase with ⟨hz,rfl,rfl⟩|⟨hj1,rfl,rfl⟩
       ·exfalso;omega
       ·have hp:=zd3 (g:=g) (s:=0) hj1
        have hn:=zd4 (g:=g) (s:=0) hj1;rw[Int.zero_add] at hp hn;have HP:=J hp;have HN:=J hn;clear hp hn;have ek:(j+1-1:Nat)=j:=O
        have HG2:=J hg;generalize hgo2:g (zaz g 0 (j-1))=go at *;have HGE:=J hgo2;clear hgo2
        by_cases hc:go<(b.x-a.x)*s1+(b.y-a.y)*s2
        ·have HE3:Hid (zaz g 0 j=(j:Int)):=HP.out (by rw[hg];exact hc)
         clear hg HE HP HN;go_wp2
         go_round
         case rel=>exact⟨j+1,O,by go_num,Or.inr ⟨O,by rw[ek,HE3.out],by rw[ek,HE3.out,HG2.out]⟩⟩
         case measure=>simp[intOf];omega
        ·have HE3:Hid (zaz g 0 j=zaz g 0 (j-1)):=HN.out (by rw[hg];exact hc)
         clear hg HE HP HN;go_wp2
         go_round
         case rel=>exact⟨j+1,O,by go_num,Or.inr ⟨O,by rw[ek,HE3.out],by rw[ek,HE3.out,HGE.out]⟩⟩
         case measure=>simp[intOf];omega
     ·
      by_cases c4:180≤(ee:Int)
      ·
       obtain⟨k1,e1⟩:=Int.eq_ofNat_of_zero_le (show 0≤(r1:Int) by omega);obtain⟨k2,e2⟩:=Int.eq_ofNat_of_zero_le (show 0≤(r2:Int) by omega);have hk1:k1<91:=O
       have hk2:k2<91:=O
       have g1:=hf1 k1 (by rw[if_neg c1];exact e1);have g2:=hf2 k2 (by rw[if_neg c3];exact e2);rw[if_neg c2] at g1;rw[if_pos c4] at g2;rw[g1,g2] at hg hgb;have cl1:=HCL.out k1 hk1;have cl2:=HCL.out k2 hk2;obtain⟨sb1,sb2⟩:=zcu k1;obtain⟨sb3,sb4⟩:=zcu k2;unfold sinT at sb1 sb2 sb3 sb4;generalize gi sinL k1=s1 at *;generalize gi sinL k2=s2 at *;obtain⟨⟨m0,m1⟩,n0,n1⟩:=hgb;have i1:(0:Int)≤(k1:Int):=O
       have i2:(k1:Int)<91:=O
       have i3:(0:Int)≤(k2:Int):=O
       have i4:(k2:Int)<91:=O
       clear hf1 hf2 g1 g2 ha1 ha2
       rcases hcase with ⟨hz,rfl,rfl⟩|⟨hj1,rfl,rfl⟩
       ·exfalso;omega
       ·have hp:=zd3 (g:=g) (s:=0) hj1
        have hn:=zd4 (g:=g) (s:=0) hj1;rw[Int.zero_add] at hp hn;have HP:=J hp;have HN:=J hn;clear hp hn;have ek:(j+1-1:Nat)=j:=O
        have HG2:=J hg;generalize hgo2:g (zaz g 0 (j-1))=go at *;have HGE:=J hgo2;clear hgo2
        by_cases hc:go<(b.x-a.x)*s1+(b.y-a.y) * -s2
        ·have HE3:Hid (zaz g 0 j=(j:Int)):=HP.out (by rw[hg];exact hc)
         clear hg HE HP HN;go_wp2
         go_round
         case rel=>exact⟨j+1,O,by go_num,Or.inr ⟨O,by rw[ek,HE3.out],by rw[ek,HE3.out,HG2.out]⟩⟩
         case measure=>simp[intOf];omega
        ·have HE3:Hid (zaz g 0 j=zaz g 0 (j-1)):=HN.out (by rw[hg];exact hc)
         clear hg HE HP HN;go_wp2
         go_round
         case rel=>exact⟨j+1,O,by go_num,Or.inr ⟨O,by rw[ek,HE3.out],by rw[ek,HE3.out,HGE.out]⟩⟩
         case measure=>simp[intOf];omega
      ·
       obtain⟨k1,e1⟩:=Int.eq_ofNat_of_zero_le (show 0≤(r1:Int) by omega);obtain⟨k2,e2⟩:=Int.eq_ofNat_of_zero_le (show 0≤(r2:Int) by omega);have hk1:k1<91:=O
       have hk2:k2<91:=O
       have g1:=hf1 k1 (by rw[if_neg c1];exact e1);have g2:=hf2 k2 (by rw[if_neg c3];exact e2);rw[if_neg c2] at g1;rw[if_neg c4] at g2;rw[g1,g2] at hg hgb;have cl1:=HCL.out k1 hk1;have cl2:=HCL.out k2 hk2;obtain⟨sb1,sb2⟩:=zcu k1;obtain⟨sb3,sb4⟩:=zcu k2;unfold sinT at sb1 sb2 sb3 sb4;generalize gi sinL k1=s1 at *;generalize gi sinL k2=s2 at *;obtain⟨⟨m0,m1⟩,n0,n1⟩:=hgb;have i1:(0:Int)≤(k1:Int):=O
       have i2:(k1:Int)<91:=O
       have i3:(0:Int)≤(k2:Int):=O
       have i4:(k2:Int)<91:=O
       clear hf1 hf2 g1 g2 ha1 ha2
       rcases hcase with ⟨hz,rfl,rfl⟩|⟨hj1,rfl,rfl⟩
       ·have HE3:Hid (zaz g 0 (j+1-1)=(j:Int)):=by show _=_;rw[hz];rfl
        have HG2:=J hg;clear hg HE hz;go_wp2
        go_round
        case rel=>exact⟨j+1,O,by go_num,Or.inr ⟨O,by rw[HE3.out],by rw[HE3.out,HG2.out]⟩⟩
        case measure=>simp[intOf];omega
       ·exfalso;omega
  ·obtain rfl:j=360:=O
   rcases hcase with ⟨h0_,_,_⟩|⟨hj1,rfl,rfl⟩
   ·exfalso;omega
   ·go_wp2
    go_ret;exact⟨by rw[HE.out];rfl,B0.out.trans (HB.out.mono B0.out.size)⟩
end Go.Proofs.YtgmapjgodibchaaGreatDoor
