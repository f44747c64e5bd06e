/- Contracts: terrains that the reference draws (l04Flat, l20Terrain): some small ones. Conditions: sizes as the draws have them; a place in the source that is not too great. -/
import Derived.Test.YtpakghepnahooaaGreatDoorDwC
set_option linter.unusedVariables false
set_option linter.unusedSimpArgs false
namespace Go.Proofs.YtpakghepnahooaaGreatDoor
open Go.RowKit
set_option maxHeartbeats 4000000
set_option maxRecDepth 100000
theorem zd9 (P:Pf) (hn:P.hs.length≤1048576) (vh:Value) (w:World) (r:Rd w w (zat P.hs) vh) :
  Calls Tryz.prog 186 #[.agg #[J P.d,J P.f,J P.l,vh]] w fun e w'=>e=.returned (J P.n)∧OI w w w':=by
 have HE:Hid (P.n=(P.hs.length:Int)-1):=rfl;generalize P.n=n at *;have hni:(P.hs.length:Int)≤1048576:=II
 obtain⟨av,cv,ev,_,_,_⟩:=r.ints;subst ev;obtain⟨W0,hW0,b0_,z0,k0⟩:=zav w #[J P.d,J P.f,J P.l,IZ av P.hs.length cv] 149;have HW0:=IJ hW0;have B0:=IJ b0_;have HD:=IJ (fun (W:World) (hW:OI W0 W0 W)=>by4 k0 hW);have HB:Hid (OI W0 W0 W0):=Below.refl _ _;clear k0 hW0 b0_;go_enter Tryz.func186,Tryz.ntmps186;go_upto_region 1 with (fail);rw[HW0.out];obtain⟨t0,t1,t2,t3⟩:=HD.out _ HB.out;go_wp2;go_ret;exact⟨by rw[HE.out];rfl,B0.out.trans (HB.out.mono B0.out.size)⟩
theorem zfh (P:Pf) (h:PfOk P) (vh:Value) (k:Nat) (hk:k<P.hs.length) (w:World) (r:Rd w w (zat P.hs) vh) :
  Calls Tryz.prog 218 #[.agg #[J P.d,J P.f,J P.l,vh],J (k:Int)] w fun e w'=>e=.returned (J (offP P.d P.n k))∧OI w w w':=by
 have HE0:Hid (offP P.d P.n k=if 2*(k:Int)≤P.n then rdiv (P.d*(k:Int)) P.n else P.d-rdiv (P.d*(P.n-(k:Int))) P.n):=rfl;have CL0:Hid (∀ W:World,Rd W W (zat P.hs) vh→Calls Tryz.prog 186 #[.agg #[J P.d,J P.f,J P.l,vh]] W fun e w'=>e=.returned (J P.n)∧OI W W w'):=fun W hr=>zd9 P (by have:=h.n1;omega) vh W hr
 generalize offP P.d P.n k=OF at *;have n0_:=h.n0;have n1_:=h.n1;have d0_:=h.d0;have d1_:=h.d1;have hn:(P.hs.length:Int)-1=P.n:=rfl;have hli:(P.hs.length:Int)≤65:=II
 generalize P.n=n at *;have ki:(k:Int)≤n:=II
 have ki0:(0:Int)≤(k:Int):=II
 have nb0:1≤n:=II
 have nb1:n≤64:=II
 have mm:=mulP (a:=P.d) (b:=(k:Int)) 283000 64 II II ki0 II;have mn:=mulP (a:=P.d) (b:=n-(k:Int)) 283000 64 II II II II;obtain⟨mm0,mm1⟩:=mm;obtain⟨mn0,mn1⟩:=mn;have rb1:=rdiv_in (a:=P.d*(k:Int)) (b:=n) (m:=P.d) nb0 mm0 (Int.mul_le_mul_of_nonneg_left ki II);have rb2:=rdiv_in (a:=P.d*(n-(k:Int))) (b:=n) (m:=P.d) nb0 mn0 (Int.mul_le_mul_of_nonneg_left II II);obtain⟨rb10,rb11⟩:=rb1;obtain⟨rb20,rb21⟩:=rb2;obtain⟨W0,hW0,b0_,z0,k0⟩:=zav w #[J P.d,J P.f,J P.l,vh] 149;have HW0:=IJ hW0;have B0:=IJ b0_;have HD:=IJ (fun (W:World) (hW:OI W0 W0 W)=>by4 k0 hW);have HB:Hid (OI W0 W0 W0):=Below.refl _ _;clear k0 hW0 b0_;have CL:Hid (∀ W:World,OI W0 W0 W→Calls Tryz.prog 186 #[.agg #[J P.d,J P.f,J P.l,vh]] W fun e w'=>e=.returned (J n)∧OI W W w'):=fun  W hW=>CL0.out W (zdn r B0.out hW)
 have CD1:Hid (∀ W:World,OI W0 W0 W→Calls Tryz.prog 180 #[J (P.d*(k:Int)),J n] W fun e w'=>e=.returned (J (rdiv (P.d*(k:Int)) n))∧OI W W w'):=fun  W hW=>zbx _ _ II II II II W
 have CD2:Hid (∀ W:World,OI W0 W0 W→Calls Tryz.prog 180 #[J (P.d*(n-(k:Int))),J n] W fun e w'=>e=.returned (J (rdiv (P.d*(n-(k:Int))) n))∧OI W W w'):=fun  W hW=>zbx _ _ II II II II W
 generalize rdiv (P.d*(k:Int)) n=q1 at *;generalize rdiv (P.d*(n-(k:Int))) n=q2 at *
 by_cases hc:2*(k:Int)≤n
 ·have HE:Hid (OF=q1):=by show _=_;rw[HE0.out,if_pos hc]
  go_enter Tryz.func218,Tryz.ntmps218;go_upto_region 1 with (fail);rw[HW0.out];obtain⟨t0,t1,t2,t3⟩:=HD.out _ HB.out;go_wp2_with ((first|(go_at_call 186;with_reducible refine (CL.out _ HB.out).mono ?_)|(go_at_call 180;with_reducible refine (CD1.out _ HB.out).mono ?_));rintro e v1 ⟨rfl,hb_⟩;(try clear t0 t1 t2 t3);replace HB:=btr HB hb_;clear hb_;obtain⟨t0,t1,t2,t3⟩:=HD.out _ HB.out);go_ret;exact⟨by rw[HE.out];rfl,B0.out.trans (HB.out.mono B0.out.size)⟩
 ·have HE:Hid (OF=P.d-q2):=by show _=_;rw[HE0.out,if_neg hc]
  go_enter Tryz.func218,Tryz.ntmps218;go_upto_region 1 with (fail);rw[HW0.out];obtain⟨t0,t1,t2,t3⟩:=HD.out _ HB.out;go_upto_region 4 with (first|(go_at_call 186;with_reducible refine (CL.out _ HB.out).mono ?_;rintro e v1 ⟨rfl,hb_⟩;(try clear t0 t1 t2 t3);replace HB:=btr HB hb_;clear hb_;obtain⟨t0,t1,t2,t3⟩:=HD.out _ HB.out));have o0:=zam (w0:=v1) (show w.heap.size<v1.heap.size by have:=HB.out.size;omega);refine zab v1.heap.size v1 (Below.refl _ _) JI JI ?_
  repeat (go_big_quiet_step (first|(go_at_call 180;with_reducible exact zae (Nat.le_refl _) (CD2.out _ (HB.out.trans ((zaa _ _ _).mono HB.out.size))))))
  refine wpQuiet_nil ?_;rintro _ ⟨X,rfl⟩;replace HB:=btr HB (zaa v1.heap.size v1 X);clear o0
  (try clear t0 t1 t2 t3)
  generalize over v1.heap.size v1 X=u2 at *;obtain⟨t0,t1,t2,t3⟩:=HD.out _ HB.out;go_wp2;go_ret;exact⟨by rw[HE.out];rfl,B0.out.trans (HB.out.mono B0.out.size)⟩
theorem iLine_any (P:Pf) (h:PfOk P) (vh:Value) (k:Nat) (hk:k<P.hs.length) (w:World) (r:Rd w w (zat P.hs) vh) :
  Calls Tryz.prog 244 #[.agg #[J P.d,J P.f,J P.l,vh],J (k:Int)] w fun e w'=>e=.returned (J (lineP P.f P.l P.n k))∧OI w w w':=by
 have HE:Hid (lineP P.f P.l P.n k=rdiv (P.f*(P.n-(k:Int))+P.l*(k:Int)) P.n):=rfl;have CL0:Hid (∀ W:World,Rd W W (zat P.hs) vh→Calls Tryz.prog 186 #[.agg #[J P.d,J P.f,J P.l,vh]] W fun e w'=>e=.returned (J P.n)∧OI W W w'):=fun W hr=>zd9 P (by have:=h.n1;omega) vh W hr
 generalize lineP P.f P.l P.n k=LN at *;have n0_:=h.n0;have n1_:=h.n1;have d0_:=h.d0;have d1_:=h.d1;have hn:(P.hs.length:Int)-1=P.n:=rfl;have hli:(P.hs.length:Int)≤65:=II
 generalize P.n=n at *;have ki:(k:Int)≤n:=II
 have ki0:(0:Int)≤(k:Int):=II
 have nb0:1≤n:=II
 have nb1:n≤64:=II
 have f0_:=h.f0;have f1_:=h.f1;have l0_:=h.l0;have l1_:=h.l1;obtain⟨ma0,ma1⟩:=mulP (a:=P.f) (b:=n-(k:Int)) 180000 64 f0_ f1_ II II;obtain⟨mb0,mb1⟩:=mulP (a:=P.l) (b:=(k:Int)) 180000 64 l0_ l1_ II II;obtain⟨W0,hW0,b0_,z0,k0⟩:=zav w #[J P.d,J P.f,J P.l,vh] 149;have HW0:=IJ hW0;have B0:=IJ b0_;have HD:=IJ (fun (W:World) (hW:OI W0 W0 W)=>by4 k0 hW);have HB:Hid (OI W0 W0 W0):=Below.refl _ _;clear k0 hW0 b0_;have CL:Hid (∀ W:World,OI W0 W0 W→Calls Tryz.prog 186 #[.agg #[J P.d,J P.f,J P.l,vh]] W fun e w'=>e=.returned (J n)∧OI W W w'):=fun  W hW=>CL0.out W (zdn r B0.out hW)
 have CD:Hid (∀ W:World,OI W0 W0 W→Calls Tryz.prog 180 #[J (P.f*(n-(k:Int))+P.l*(k:Int)),J n] W fun e w'=>e=.returned (J (rdiv (P.f*(n-(k:Int))+P.l*(k:Int)) n))∧OI W W w'):=fun  W hW=>zbx _ _ II II II II W
 go_enter Tryz.func244,Tryz.ntmps244;go_upto_region 1 with (fail);rw[HW0.out];obtain⟨t0,t1,t2,t3⟩:=HD.out _ HB.out;go_wp2_with ((first|(go_at_call 186;with_reducible refine (CL.out _ HB.out).mono ?_)|(go_at_call 180;with_reducible refine (CD.out _ HB.out).mono ?_));rintro e v1 ⟨rfl,hb_⟩;(try clear t0 t1 t2 t3);replace HB:=btr HB hb_;clear hb_;obtain⟨t0,t1,t2,t3⟩:=HD.out _ HB.out);go_ret;exact⟨by rw[HE.out];rfl,B0.out.trans (HB.out.mono B0.out.size)⟩
theorem iBulge_any (x y:Int) (x0:0≤x) (x1:x≤283000) (y0:0≤y) (y1:y≤283000) (w:World) :
  Calls Tryz.prog 251 #[J x,J y] w fun e w'=>e=.returned (J (bulI x y))∧OI w w w':=by
 have HE:Hid (bulI x y=rdiv (10*x*y) 16989334):=rfl;obtain⟨⟨m0,m1⟩,_⟩:=bulI_bd x0 x1 y0 y1;generalize bulI x y=BV at *;have B0:Hid (OI w w w):=Below.refl _ _;have HB:Hid (OI w w w):=Below.refl _ _;have CX:Hid (∀ W:World,OI w w W→Calls Tryz.prog 34 #[J x,J 0,J 283000] W fun e w'=>e=.returned (.bool true)∧OI W W w'):=fun  W hW=>by
   have hh:=zai x 0 283000 W;rw[zau.2 ⟨x0,x1⟩] at hh;exact zb9 hh
 have CY:Hid (∀ W:World,OI w w W→Calls Tryz.prog 34 #[J y,J 0,J 283000] W fun e w'=>e=.returned (.bool true)∧OI W W w'):=fun  W hW=>by
   have hh:=zai y 0 283000 W;rw[zau.2 ⟨y0,y1⟩] at hh;exact zb9 hh
 have CD:Hid (∀ W:World,OI w w W→Calls Tryz.prog 180 #[J (10*x*y),J 16989334] W fun e w'=>e=.returned (J (rdiv (10*x*y) 16989334))∧OI W W w'):=fun  W hW=>zbx _ _ II II II II W
 go_enter Tryz.func251,Tryz.ntmps251;skip;go_wp2_with ((first|(go_at_call 34;with_reducible refine (CX.out _ HB.out).mono ?_)|(go_at_call 34;with_reducible refine (CY.out _ HB.out).mono ?_)|(go_at_call 180;with_reducible refine (CD.out _ HB.out).mono ?_));rintro e v1 ⟨rfl,hb_⟩;replace HB:=btr HB hb_;clear hb_;skip);go_ret;exact⟨by rw[HE.out];rfl,B0.out.trans (HB.out.mono B0.out.size)⟩
theorem iFresnel_any (f x y:Int) (f0:1≤f) (f1:f≤100000000) (x0:0≤x) (x1:x≤283000) (y0:0≤y) (y1:y≤283000) (w:World) :
  Calls Tryz.prog 246 #[J f,J x,J y] w fun e w'=>e=.returned (J (freI f x y))∧OI w w w':=by
 obtain⟨⟨p0,p1⟩,⟨q0,q1⟩,⟨r0,r1⟩,hpos⟩:=freI_in f0 f1 x0 x1 y0 y1;have HE0:Hid (freI f x y=if x+y=0 then 0 else isq (29979246*x*y / (f*(x+y)))):=rfl;generalize freI f x y=FV at *;have B0:Hid (OI w w w):=Below.refl _ _;have HB:Hid (OI w w w):=Below.refl _ _;have CX:Hid (∀ W:World,OI w w W→Calls Tryz.prog 34 #[J x,J 0,J 283000] W fun e w'=>e=.returned (.bool true)∧OI W W w'):=fun  W hW=>by
   have hh:=zai x 0 283000 W;rw[zau.2 ⟨x0,x1⟩] at hh;exact zb9 hh
 have CY:Hid (∀ W:World,OI w w W→Calls Tryz.prog 34 #[J y,J 0,J 283000] W fun e w'=>e=.returned (.bool true)∧OI W W w'):=fun  W hW=>by
   have hh:=zai y 0 283000 W;rw[zau.2 ⟨y0,y1⟩] at hh;exact zb9 hh
 have CF:Hid (∀ W:World,OI w w W→Calls Tryz.prog 33 #[J f] W fun e w'=>e=.returned (.bool true)∧OI W W w'):=fun  W hW=>by
   have hh:=zbd f W;rw[zau.2 ⟨f0,f1⟩] at hh;exact zb9 hh
 by_cases hz:x+y=0
 ·have HE:Hid (FV=0):=by show _=_;rw[HE0.out,if_pos hz]
  go_enter Tryz.func246,Tryz.ntmps246;skip;go_wp2_with ((first|(go_at_call 34;with_reducible refine (CX.out _ HB.out).mono ?_)|(go_at_call 34;with_reducible refine (CY.out _ HB.out).mono ?_)|(go_at_call 33;with_reducible refine (CF.out _ HB.out).mono ?_));rintro e v1 ⟨rfl,hb_⟩;replace HB:=btr HB hb_;clear hb_;skip);go_ret;exact⟨by rw[HE.out];rfl,B0.out.trans (HB.out.mono B0.out.size)⟩
 have hp:=hpos hz;have HE:Hid (FV=isq (29979246*x*y / (f*(x+y)))):=by show _=_;rw[HE0.out,if_neg hz]
 have dv0:0≤29979246*x*y / (f*(x+y)):=Int.ediv_nonneg q0 II;have dv1:29979246*x*y / (f*(x+y))≤29979246*x*y:=Int.ediv_le_self _ q0;clear hpos HE0;have CR:Hid (∀ W:World,OI w w W→Calls Tryz.prog 208 #[J (29979246*x*y / (f*(x+y)))] W fun e w'=>e=.returned (J (isq (29979246*x*y / (f*(x+y)))))∧OI W W w'):=fun  W hW=>rootOf_any _ II II W
 go_enter Tryz.func246,Tryz.ntmps246;skip;go_wp2_with ((first|(go_at_call 34;with_reducible refine (CX.out _ HB.out).mono ?_)|(go_at_call 34;with_reducible refine (CY.out _ HB.out).mono ?_)|(go_at_call 33;with_reducible refine (CF.out _ HB.out).mono ?_)|(go_at_call 208;with_reducible refine (CR.out _ HB.out).mono ?_));rintro e v1 ⟨rfl,hb_⟩;replace HB:=btr HB hb_;clear hb_;skip);go_ret;exact⟨by rw[HE.out];rfl,B0.out.trans (HB.out.mono B0.out.size)⟩
theorem iGround_any (P:Pf) (h:PfOk P) (vh:Value) (k:Nat) (hk:k<P.hs.length) (w:World) (r:Rd w w (zat P.hs) vh) :
  Calls Tryz.prog 245 #[.agg #[J P.d,J P.f,J P.l,vh],J (k:Int)] w fun e w'=>e=.returned (J (gi P.hs k+bulI (offP P.d P.n k) (P.d-offP P.d P.n k)))∧OI w w w':=by
 obtain⟨of0,of1,of2⟩:=off_ok h (i:=(k:Int)) II (by have:P.n=(P.hs.length:Int)-1:=rfl;omega);have d1_:=h.d1;have d0_:=h.d0;have n1_:=h.n1;obtain⟨av,cv,ev,_,_,_⟩:=r.ints;subst ev;obtain⟨bh,oh,ea,hbl,hat⟩:=r.intAt II;subst ea;have cl:=hat k hk;have hsb:=h.hs k;have i1:(0:Int)≤(k:Int):=II
 have i2:(k:Int)<(P.hs.length:Int):=II
 have hbu:=(bulI_bd (a:=offP P.d P.n k) (b:=P.d-offP P.d P.n k) of0 of2 II II).2;obtain⟨W0,hW0,b0_,z0,k0⟩:=zav w #[J P.d,J P.f,J P.l,IZ (some ⟨bh,oh,none⟩) P.hs.length cv] 149;have HW0:=IJ hW0;have B0:=IJ b0_;have HD:=IJ (fun (W:World) (hW:OI W0 W0 W)=>bx4 k0 hW <| ((bat hW bh _ II).trans ((bat b0_ bh _ II).trans cl)));have HB:Hid (OI W0 W0 W0):=Below.refl _ _;clear k0 hW0 b0_;have CO:Hid (∀ W:World,OI W0 W0 W→Calls Tryz.prog 218 #[.agg #[J P.d,J P.f,J P.l,IZ (some ⟨bh,oh,none⟩) P.hs.length cv],J (k:Int)] W fun e w'=>e=.returned (J (offP P.d P.n k))∧OI W W w'):=fun  W hW=>zfh P h _ k hk W (zdn r B0.out hW)
 have CB:Hid (∀ W:World,OI W0 W0 W→Calls Tryz.prog 251 #[J (offP P.d P.n k),J (P.d-offP P.d P.n k)] W fun e w'=>e=.returned (J (bulI (offP P.d P.n k) (P.d-offP P.d P.n k)))∧OI W W w'):=fun  W hW=>iBulge_any _ _ of0 of2 II II W
 clear hat r cl;generalize bulI (offP P.d P.n k) (P.d-offP P.d P.n k)=BU at *;generalize offP P.d P.n k=OF at *;generalize gi P.hs k=HK at *;obtain⟨hb0,hb1⟩:=hbu;obtain⟨hs0,hs1⟩:=hsb;go_enter Tryz.func245,Tryz.ntmps245;go_upto_region 1 with (fail);rw[HW0.out];obtain⟨t0,t1,t2,t3,t4⟩:=HD.out _ HB.out;go_upto_region 2 with (first|(go_at_call 218;with_reducible refine (CO.out _ HB.out).mono ?_;rintro e v1 ⟨rfl,hb_⟩;(try clear t0 t1 t2 t3 t4);replace HB:=btr HB hb_;clear hb_;obtain⟨t0,t1,t2,t3,t4⟩:=HD.out _ HB.out));have o0:=zam (w0:=v1) (show w.heap.size<v1.heap.size by have:=HB.out.size;omega);have o1:=zam (w0:=v1) (show bh<v1.heap.size by have:=HB.out.size;omega);refine zab v1.heap.size v1 (Below.refl _ _) JI JI ?_
 repeat (go_big_quiet_step (first|(go_at_call 251;with_reducible exact zae (Nat.le_refl _) (CB.out _ (HB.out.trans ((zaa _ _ _).mono HB.out.size))))))
 refine wpQuiet_nil ?_;rintro _ ⟨X,rfl⟩;replace HB:=btr HB (zaa v1.heap.size v1 X);clear o0 o1
 (try clear t0 t1 t2 t3 t4)
 generalize over v1.heap.size v1 X=u2 at *;obtain⟨t0,t1,t2,t3,t4⟩:=HD.out _ HB.out;go_wp2;go_ret;exact⟨rfl,B0.out.trans (HB.out.mono B0.out.size)⟩
theorem iClear_any (P:Pf) (h:PfOk P) (vh:Value) (k:Nat) (hk:k<P.hs.length) (w:World) (r:Rd w w (zat P.hs) vh) :
  Calls Tryz.prog 235 #[.agg #[J P.d,J P.f,J P.l,vh],J (k:Int)] w fun e w'=>e=.returned (J (clrP P k))∧OI w w w':=by
 have HE:Hid (clrP P k=lineP P.f P.l P.n k-(gi P.hs k+bulI (offP P.d P.n k) (P.d-offP P.d P.n k))):=rfl;obtain⟨ln0,ln1⟩:=lineP_bd (f:=P.f) (l:=P.l) (n:=P.n) (i:=(k:Int)) h.f0 h.f1 h.l0 h.l1 (by have:=h.n0;have:P.n=(P.hs.length:Int)-1:=rfl;omega) II (by have:P.n=(P.hs.length:Int)-1:=rfl;omega);obtain⟨of0,of1,of2⟩:=off_ok h (i:=(k:Int)) II (by have:P.n=(P.hs.length:Int)-1:=rfl;omega);have d1_:=h.d1;have d0_:=h.d0;have n1_:=h.n1;obtain⟨bu0,bu1⟩:=(bulI_bd (a:=offP P.d P.n k) (b:=P.d-offP P.d P.n k) of0 of2 II II).2;obtain⟨hs0,hs1⟩:=h.hs k;obtain⟨W0,hW0,b0_,z0,k0⟩:=zav w #[J P.d,J P.f,J P.l,vh] 149;have HW0:=IJ hW0;have B0:=IJ b0_;have HD:=IJ (fun (W:World) (hW:OI W0 W0 W)=>by4 k0 hW);have HB:Hid (OI W0 W0 W0):=Below.refl _ _;clear k0 hW0 b0_;have CN:Hid (∀ W:World,OI W0 W0 W→Calls Tryz.prog 244 #[.agg #[J P.d,J P.f,J P.l,vh],J (k:Int)] W fun e w'=>e=.returned (J (lineP P.f P.l P.n k))∧OI W W w'):=fun  W hW=>iLine_any P h vh k hk W (zdn r B0.out hW)
 have CG:Hid (∀ W:World,OI W0 W0 W→Calls Tryz.prog 245 #[.agg #[J P.d,J P.f,J P.l,vh],J (k:Int)] W fun e w'=>e=.returned (J (gi P.hs k+bulI (offP P.d P.n k) (P.d-offP P.d P.n k)))∧OI W W w'):=fun  W hW=>iGround_any P h vh k hk W (zdn r B0.out hW)
 generalize lineP P.f P.l P.n k=LN at *;generalize bulI (offP P.d P.n k) (P.d-offP P.d P.n k)=BU at *;generalize gi P.hs k=HK at *;generalize clrP P k=CR at *;go_enter Tryz.func235,Tryz.ntmps235;go_upto_region 1 with (fail);rw[HW0.out];obtain⟨t0,t1,t2,t3⟩:=HD.out _ HB.out;go_upto_region 1 with (fail);have o0:=zam (w0:=W0) (show w.heap.size<W0.heap.size by have:=HB.out.size;omega);refine zab W0.heap.size W0 (Below.refl _ _) JI JI ?_
 repeat (go_big_quiet_step (first|(go_at_call 244;with_reducible exact zae (Nat.le_refl _) (CN.out _ (HB.out.trans ((zaa _ _ _).mono HB.out.size))))|(go_at_call 245;with_reducible exact zae (Nat.le_refl _) (CG.out _ (HB.out.trans ((zaa _ _ _).mono HB.out.size))))))
 refine wpQuiet_nil ?_;rintro _ ⟨X,rfl⟩;replace HB:=btr HB (zaa W0.heap.size W0 X);clear o0
 (try clear t0 t1 t2 t3)
 generalize over W0.heap.size W0 X=u2 at *;obtain⟨t0,t1,t2,t3⟩:=HD.out _ HB.out;go_wp2;go_ret;exact⟨by rw[HE.out];rfl,B0.out.trans (HB.out.mono B0.out.size)⟩
theorem iRadius_any (P:Pf) (h:PfOk P) (vh:Value) (f:Int) (f0:1≤f) (f1:f≤100000000) (k:Nat) (hk:k<P.hs.length) (w:World) (r:Rd w w (zat P.hs) vh) :
  Calls Tryz.prog 236 #[.agg #[J P.d,J P.f,J P.l,vh],J f,J (k:Int)] w fun e w'=>e=.returned (J (radP P f k))∧OI w w w':=by
 have HE:Hid (radP P f k=freI f (offP P.d P.n k) (P.d-offP P.d P.n k)):=rfl;obtain⟨of0,of1,of2⟩:=off_ok h (i:=(k:Int)) II (by have:P.n=(P.hs.length:Int)-1:=rfl;omega);have d1_:=h.d1;have d0_:=h.d0;have n1_:=h.n1;obtain⟨W0,hW0,b0_,z0,k0⟩:=zav w #[J P.d,J P.f,J P.l,vh] 149;have HW0:=IJ hW0;have B0:=IJ b0_;have HD:=IJ (fun (W:World) (hW:OI W0 W0 W)=>by4 k0 hW);have HB:Hid (OI W0 W0 W0):=Below.refl _ _;clear k0 hW0 b0_;have CO:Hid (∀ W:World,OI W0 W0 W→Calls Tryz.prog 218 #[.agg #[J P.d,J P.f,J P.l,vh],J (k:Int)] W fun e w'=>e=.returned (J (offP P.d P.n k))∧OI W W w'):=fun  W hW=>zfh P h vh k hk W (zdn r B0.out hW)
 have CF:Hid (∀ W:World,OI W0 W0 W→Calls Tryz.prog 246 #[J f,J (offP P.d P.n k),J (P.d-offP P.d P.n k)] W fun e w'=>e=.returned (J (freI f (offP P.d P.n k) (P.d-offP P.d P.n k)))∧OI W W w'):=fun  W hW=>iFresnel_any _ _ _ f0 f1 of0 of2 II II W
 generalize freI f (offP P.d P.n k) (P.d-offP P.d P.n k)=FR at *;generalize offP P.d P.n k=OF at *;go_enter Tryz.func236,Tryz.ntmps236;go_upto_region 1 with (fail);rw[HW0.out];obtain⟨t0,t1,t2,t3⟩:=HD.out _ HB.out;go_wp2_with ((first|(go_at_call 218;with_reducible refine (CO.out _ HB.out).mono ?_)|(go_at_call 246;with_reducible refine (CF.out _ HB.out).mono ?_));rintro e v1 ⟨rfl,hb_⟩;(try clear t0 t1 t2 t3);replace HB:=btr HB hb_;clear hb_;obtain⟨t0,t1,t2,t3⟩:=HD.out _ HB.out);go_ret;exact⟨by rw[HE.out];rfl,B0.out.trans (HB.out.mono B0.out.size)⟩
end Go.Proofs.YtpakghepnahooaaGreatDoor
namespace Go.Proofs.YtpakghepnahooaaGreatDoor
set_option maxHeartbeats 8000000
set_option maxRecDepth 100000
open Go.RowKit
theorem own_rowC {w:World} {g E:Nat} {cs:Array Value} {l:List Int} (hk:w.heap[g]? = some (.cells cs E (0,0))) (h:cs.toList=l.map fun n=>J n) (h0:1≤l.length) (hm:l.length≤maxLen):Own w (zat l) (IZ (some ⟨g,0,none⟩) l.length l.length) [g]:=by
 refine⟨zb3.2 ⟨_,l.length,l.length,rfl,by simp,Nat.le_refl _,hm,Or.inr ⟨g,0,[],by intro e;rw[List.map_eq_nil_iff] at e;rw[e] at h0;simp at h0,rfl,rfl,?_⟩⟩,by simp,fun y hy i=>?_⟩
 ·have:=Reps.lits (w:=w) (l.map fun n=>J n) g 0 (fun i hi=>by
   rw[Nat.zero_add,za3 hk i,← Array.getElem?_toList,h,List.getElem?_eq_getElem hi])
  rw[List.map_map] at this;exact this
 ·simp at hy;subst hy;exact bkF hk i
theorem zeros_row (n:Nat):(madeCells (Value.int .i64 0).cells (n*1)).toList=(List.replicate n (0:Int)).map fun n=>J n:=by
 rw[Nat.mul_one,show (Value.int .i64 0).cells=#[J 0] from rfl,toList_madeCells_one,List.map_replicate]
def flatL (m k:Nat) (h:Int):List Int:=List.replicate k h++List.replicate (m-k) 0
theorem flatL_len {m k:Nat} (h:Int) (hk:k≤m):(flatL m k h).length=m:=by unfold flatL;simp<;>omega
theorem flatL_set {m k:Nat} (h:Int) (hk:k<m):(flatL m k h).set k h=flatL m (k+1) h:=by
 unfold flatL;rw[List.set_append_right _ _ (by simp),List.length_replicate,Nat.sub_self];obtain⟨d,rfl⟩:∃ d,m=k+1+d:=⟨m-(k+1),II⟩
 rw[show k+1+d-k=d+1 by omega,show k+1+d-(k+1)=d by omega,List.replicate_succ,OJ,List.replicate_succ',List.append_assoc]
 rfl
theorem flatL_end (m:Nat) (h:Int):flatL m m h=List.replicate m h:=by unfold flatL;simp
def FlatQ (st wd ht h:Int) (m:Nat) (w:World) (e:Ending) (w':World):Prop:=∃ g g2:Nat,e=.returned (.agg #[J st,J wd,J ht,IZ (some ⟨g,0,none⟩) m m,IZ (some ⟨g2,0,none⟩) m m])∧OI w w w'∧w.heap.size≤g∧g<w'.heap.size∧w.heap.size≤g2∧g2<w'.heap.size∧g≠g2∧Own w' (zat (List.replicate m h)) (IZ (some ⟨g,0,none⟩) m m) [g]∧Own w' (zat (List.replicate m 0)) (IZ (some ⟨g2,0,none⟩) m m) [g2]
theorem l04Flat_any (st wd ht h:Int) (m:Nat) (w:World) (hm:wd*ht=(m:Int)) (h1:1≤m) (h2:m≤100000):Calls Tryz.prog 95 #[J st,J wd,J ht,J h] w (FlatQ st wd ht h m w):=by
 obtain⟨i0,hi0,hz0,hz1,hz2⟩:=info_parts infoI;obtain⟨mrow,hml,hmk⟩:∃ mrow:Array Value,mrow.toList=((List.replicate m (0:Int)).map fun n=>J n)∧∀ W:World,(Instr.makeSlice 24 (J (m:Int)) (J (m:Int))).run Tryz.prog W=.ok (IZ (some ⟨W,0,none⟩) m m) (W.alloc (.cells mrow 2)):=by
  refine⟨madeCells (Value.int .i64 0).cells (m*1),zeros_row m,fun W=>?_⟩;have:=run_make_rowN (P:=Tryz.prog) 24 2 i0 _ Tryz.underlying24 hi0 hz0 .i64 .i64 m m (Nat.le_refl _) (by rw[hz2];omega) II W;rw[hz1] at this;exact this
 clear hi0 hz0 hz1 hz2;have HML:=IJ hml;clear hml;have hw_:IntKind.i64.wrap (m:Int)=(m:Int):=IntWalk.i64_in _ II;go_enter Tryz.func95,Tryz.ntmps95;go_upto_region 1 with (fail);obtain⟨W0,hW0,b0,z0,k0⟩:=zav w #[J 0,J 0,J 0,IZ none 0 0,IZ none 0 0] 26;rw[hW0];clear hW0;obtain⟨r,hr⟩:∃ r,r=w.heap.size:=⟨_,rfl⟩
 rw[← hr] at k0;rw[← hr];have K0:=IJ k0;have B0:=IJ b0;have rw_:=Nat.le_of_eq hr;have rw2:=Nat.le_of_eq hr.symm;clear b0 k0 hr;go_cut [9] (fun s0 wx=>∃ (tb g g2:Nat),s0=.pointer (some ⟨tb,0,none⟩)∧wx.heap[tb]? = some (.cells #[J st,J wd,J ht,IZ (some ⟨g,0,none⟩) m m,IZ (some ⟨g2,0,none⟩) m m] 26 (0,0))∧W0.heap.size≤tb∧tb<wx.heap.size∧tb≠g∧W0.heap.size≤g∧g<wx.heap.size∧W0.heap.size≤g2∧g2<wx.heap.size∧g≠g2∧tb≠g2∧wx.heap[g]? = some (.cells mrow 2 (0,0))∧wx.heap[g2]? = some (.cells mrow 2 (0,0))∧OI W0 W0 wx)
 case first =>
  refine zaz 13 (.read 0 (.read 1 (.read 2 (.read 3 (.read 4 (.read 5 (.read 7 (.read 8 (.read 9 (.three 6 10 12 (.two 10 12 (.read 11 (.one 12 .nil)) (.one 10 (.read 11 .nil))) (.two 6 12 (.read 11 (.one 12 .nil)) (.one 6 (.read 11 .nil))) (.two 6 10 (.one 10 (.read 11 .nil)) (.one 6 (.read 11 .nil))))))))))))) (fun W=>OI W0 W0 W) JI JI (zbc W0) ?_;have BB0:Hid (OI W0 W0 W0.drew):=zbc W0;have zd:W0.heap.size≤W0.drew.heap.size:=Nat.le_refl _;generalize W0.drew=Y at *
  repeat' (first
   | (refine zap (v:=?_) rfl (fun _ _ _ h=>h) ?_ ?_;rotate_left;focus (intro W hSW;(try dsimp only at hSW);(go_simp<;>with_reducible rfl));(try simp only[Act.put,OO,OJ,OQ]))
   | ((try simp only[hw_]);(first|refine zah ?_|refine zbu ?_ ?_|refine wpTree_three ?_ ?_ ?_)<;>(first|(refine zaf (i:=6) rfl (fun K hK=>?_);go_simp;have b_:OI Y Y (Y.alloc (.cells mrow 2)):=zak _ _;refine hK.out _ _ (BB0.out.trans (b_.mono II)) ?_;clear hK K;(try simp only[Act.put,OO,OJ,OQ]);(try replace E1:=IJ (bkB E1.out b_ II));(try replace KH:=IJ (bkB KH.out b_ II));have E0:=IJ (bkN Y mrow 2);replace BB0:=IJ (BB0.out.trans (b_.mono II));have zz:Y.heap.size+1≤(Y.alloc (.cells mrow 2)).heap.size:=(by simp);clear b_;generalize (Y.alloc (.cells mrow 2))=Z at *;obtain⟨q0,q0_⟩:∃ q0,q0=Y.heap.size:=⟨_,rfl⟩;rw[← q0_] at E0 ⊢;have q0a:=Nat.le_of_eq q0_;have q0b:=Nat.le_of_eq q0_.symm;clear q0_;rename World=>Y)|(refine zaf (i:=10) rfl (fun K hK=>?_);go_simp;have b_:OI Y Y (Y.alloc (.cells mrow 2)):=zak _ _;refine hK.out _ _ (BB0.out.trans (b_.mono II)) ?_;clear hK K;(try simp only[Act.put,OO,OJ,OQ]);(try replace E0:=IJ (bkB E0.out b_ II));(try replace KH:=IJ (bkB KH.out b_ II));have E1:=IJ (bkN Y mrow 2);replace BB0:=IJ (BB0.out.trans (b_.mono II));have zz:Y.heap.size+1≤(Y.alloc (.cells mrow 2)).heap.size:=(by simp);clear b_;generalize (Y.alloc (.cells mrow 2))=Z at *;obtain⟨q1,q1_⟩:∃ q1,q1=Y.heap.size:=⟨_,rfl⟩;rw[← q1_] at E1 ⊢;have q1a:=Nat.le_of_eq q1_;have q1b:=Nat.le_of_eq q1_.symm;clear q1_;rename World=>Y)|(refine zaf (i:=12) rfl (fun K hK=>?_);go_simp;have b_:OI Y Y (Y.alloc (.cells #[J 0,J 0,J 0,IZ none 0 0,IZ none 0 0] 26)):=zak _ _;refine hK.out _ _ (BB0.out.trans (b_.mono II)) ?_;clear hK K;(try simp only[Act.put,OO,OJ,OQ]);(try replace E0:=IJ (bkB E0.out b_ II));(try replace E1:=IJ (bkB E1.out b_ II));have KH:=IJ (bkN Y #[J 0,J 0,J 0,IZ none 0 0,IZ none 0 0] 26);replace BB0:=IJ (BB0.out.trans (b_.mono II));have zz:Y.heap.size+1≤(Y.alloc (.cells #[J 0,J 0,J 0,IZ none 0 0,IZ none 0 0] 26)).heap.size:=(by simp);clear b_;generalize (Y.alloc (.cells #[J 0,J 0,J 0,IZ none 0 0,IZ none 0 0] 26))=Z at *;obtain⟨tb,tb_⟩:∃ tb,tb=Y.heap.size:=⟨_,rfl⟩;rw[← tb_] at KH ⊢;have tba:=Nat.le_of_eq tb_;have tbb:=Nat.le_of_eq tb_.symm;clear tb_;rename World=>Y)))
   | (refine zax ?_;simp only[List.drop_succ_cons,List.drop_zero];obtain⟨g0,g1,g2,g3,g4,_⟩:=bz5 KH.out;have fz:=bkF KH.out;clear hmk;go_wp2_with fail;go_meet;exact⟨tb,q0,q1,rfl,by have:=bkS (bkS (bkS (bkS (bkS (KH.out) 0 (J st)) 1 (J wd)) 2 (J ht)) 3 (IZ (some ⟨q0,0,none⟩) m m)) 4 (IZ (some ⟨q1,0,none⟩) m m);simpa using this,II,by simp only[zac];omega,II,II,by simp only[zac];omega,II,by simp only[zac];omega,II,II,bkO (bkO (bkO (bkO (bkO (E0.out) (p:=⟨tb,0,none⟩) (by show q0≠tb;omega) _) (p:=⟨tb,1,none⟩) (by show q0≠tb;omega) _) (p:=⟨tb,2,none⟩) (by show q0≠tb;omega) _) (p:=⟨tb,3,none⟩) (by show q0≠tb;omega) _) (p:=⟨tb,4,none⟩) (by show q0≠tb;omega) _,bkO (bkO (bkO (bkO (bkO (E1.out) (p:=⟨tb,0,none⟩) (by show q1≠tb;omega) _) (p:=⟨tb,1,none⟩) (by show q1≠tb;omega) _) (p:=⟨tb,2,none⟩) (by show q1≠tb;omega) _) (p:=⟨tb,3,none⟩) (by show q1≠tb;omega) _) (p:=⟨tb,4,none⟩) (by show q1≠tb;omega) _,((((((BB0.out)).setCell (p:=⟨tb,0,none⟩) (by show W0.heap.size≤tb;omega) _).setCell (p:=⟨tb,1,none⟩) (by show W0.heap.size≤tb;omega) _).setCell (p:=⟨tb,2,none⟩) (by show W0.heap.size≤tb;omega) _).setCell (p:=⟨tb,3,none⟩) (by show W0.heap.size≤tb;omega) _).setCell (p:=⟨tb,4,none⟩) (by show W0.heap.size≤tb;omega) _⟩))
 case rest =>
  obtain⟨tb,g,g2,rfl,kt,t0,t1,t2,t3,t4,t5,t6,t7,t8,kg,kg2,hb⟩:=hcut;have KT:=IJ kt;have hl0:(List.replicate m (0:Int)).length=m:=by simp
  have OG:=own_rowC kg HML.out II (by unfold maxLen;omega);have OG2:=own_rowC kg2 HML.out II (by unfold maxLen;omega);rw[hl0] at OG OG2;have HG:Hid (Own wc (zat (flatL m 0 h)) (IZ (some ⟨g,0,none⟩) m m) [g]):=by
   have e:flatL m 0 h=List.replicate m 0:=by unfold flatL;simp
   rw[e];exact OG
  have HG2:=IJ OG2;have HB:=IJ hb;have KR:=IJ (bkB K0.out hb II);clear kt kg kg2 OG OG2 hb hmk HML K0 hw_;generalize wc=W1 at *;go_wp2;go_loopw [10] (fun i wr=>∃ (k:Nat),k≤m∧i=J (k:Int)∧OI W0 W0 wr∧wr.heap.size=W1.heap.size∧wr.heap[tb]? = some (.cells #[J st,J wd,J ht,IZ (some ⟨g,0,none⟩) m m,IZ (some ⟨g2,0,none⟩) m m] 26 (0,0))∧wr.heap[r]? = some (.cells #[J 0,J 0,J 0,IZ none 0 0,IZ none 0 0] 26 (0,0))∧Own wr (zat (flatL m k h)) (IZ (some ⟨g,0,none⟩) m m) [g]∧Own wr (zat (List.replicate m 0)) (IZ (some ⟨g2,0,none⟩) m m) [g2]) (fun i wr=>m-(intOf i).toNat)
  case atStart=>exact⟨0,II,rfl,HB.out,rfl,KT.out,KR.out,HG.out,HG2.out⟩
  case round =>
   obtain⟨k,hk,rfl,hb,hz,kt,kr,og,og2⟩:=hrel;have B1:=IJ hb;have KT1:=IJ kt;have KR1:=IJ kr;have O1:=IJ og;have O2:=IJ og2;have zra:=Nat.le_of_eq hz;have zrb:=Nat.le_of_eq hz.symm;clear hb kt kr og og2 hz KT KR HG HG2 HB
   by_cases hlt:k<m
   ·have hki:(k:Int)<(m:Int):=II
    have hkn:(0:Int)≤(k:Int):=II
    have q3:=bkC KT1.out 3 rfl;obtain⟨s0,f0,o1⟩:=own_setI O1.out (i:=k) (by rw[flatL_len _ hk];exact hlt) h;rw[Nat.zero_add] at s0 f0 o1;rw[flatL_set _ hlt] at o1;have OO1:=IJ o1;have OO2:=IJ (O2.out.setFar (p:=⟨g,k,none⟩) (fun e=>by simp at e;omega) (J h));have KT2:=IJ (bkO KT1.out (p:=⟨g,k,none⟩) (by show tb≠g;omega) (J h));have KR2:=IJ (bkO KR1.out (p:=⟨g,k,none⟩) (by show r≠g;omega) (J h));have BB:=IJ (B1.out.setCell (p:=⟨g,k,none⟩) (by show W0.heap.size≤g;omega) (J h));clear O1 O2 o1 KT1 KR1 B1;go_wp2;go_roundw
    case rel=>exact⟨k+1,II,by go_num,BB.out,by rw[zac];omega,KT2.out,KR2.out,OO1.out,OO2.out⟩
    case measure=>simp only[intOf];omega
   ·have hki:¬ (k:Int)<(m:Int):=II
    have hkm:k=m:=II
    have OE:Hid (Own wr (zat (List.replicate m h)) (IZ (some ⟨g,0,none⟩) m m) [g]):=by
     have:=O1.out;rw[hkm,flatL_end] at this;exact this
    clear hkm O1;obtain⟨c0,c1,c2,c3,c4,_⟩:=bz5 KT1.out;obtain⟨u0,u1,u2,u3,u4,gz⟩:=bz5 KR1.out;go_wp2;refine bodyPost_ret (v:=.agg #[J st,J wd,J ht,IZ (some ⟨g,0,none⟩) m m,IZ (some ⟨g2,0,none⟩) m m]) (by simp[results,Tryz.results95,go_sem, *]) rfl ?_;have hfar:=za7 r [J st,J wd,J ht,IZ (some ⟨g,0,none⟩) m m,IZ (some ⟨g2,0,none⟩) m m] wr 0;have hsz:=zbl r [J st,J wd,J ht,IZ (some ⟨g,0,none⟩) m m,IZ (some ⟨g2,0,none⟩) m m] wr 0;have hlow:=zbn r [J st,J wd,J ht,IZ (some ⟨g,0,none⟩) m m,IZ (some ⟨g2,0,none⟩) m m] wr 0;simp only[zbi] at hfar hsz hlow;refine⟨g,g2,rfl,(B0.out.trans (B1.out.mono II)).trans (hlow.mono rw2),II,by rw[hsz];omega,II,by rw[hsz];omega,II,OE.out.frame (fun x hx=>hfar x (by simp at hx;omega)),O2.out.frame (fun x hx=>hfar x (by simp at hx;omega))⟩
def TerD (t:DTerrain):Prop:=(0≤t.step∧t.step≤1000)∧(0≤t.width∧t.width≤1000)∧(0≤t.height∧t.height≤1000)∧t.heights.length≤1000∧t.clutter.length≤1000∧(∀ x ∈ t.heights,0≤x∧x≤2000)∧∀ x ∈ t.clutter,0≤x∧x≤2000
theorem TerD.small {t:DTerrain} (h:TerD t):t.ok∧sizL t.tr≤1048576:=by
 obtain⟨h1,h2,h3,h4,h5,h6,h7⟩:=h;have I:∀ x:Int,0≤x→x≤2000→I64 x:=fun x a b=>⟨II,II⟩
 refine⟨⟨I _ h1.1 II,I _ h2.1 II,I _ h3.1 II,fun x hx=>I x (h6 x hx).1 (h6 x hx).2,fun x hx=>I x (h7 x hx).1 (h7 x hx).2⟩,?_⟩;simp only[DTerrain.tr,sizL,zc7,intT,siz];omega
def TerP (lo hi:Nat) (w:World) (t:DTerrain) (v3 v4:Value):Prop:=∃ f3 f4,Own w (zat t.heights) v3 f3∧Own w (zat t.clutter) v4 f4∧In lo hi f3∧In lo hi f4
theorem TerP.frame {lo hi:Nat} {w w':World} {t:DTerrain} {v3 v4:Value} (h:TerP lo hi w t v3 v4) (hf:∀ b,lo≤b→b<hi→w'.heap[b]? = w.heap[b]?):TerP lo hi w' t v3 v4:=by
 obtain⟨f3,f4,o3,o4,i3,i4⟩:=h;exact⟨f3,f4,o3.frame (fun b hb=>hf b (i3 b hb).1 (i3 b hb).2),o4.frame (fun b hb=>hf b (i4 b hb).1 (i4 b hb).2),i3,i4⟩
theorem TerP.mono {lo hi lo' hi':Nat} {w:World} {t:DTerrain} {v3 v4:Value} (h:TerP lo hi w t v3 v4) (h1:lo'≤lo) (h2:hi≤hi'):TerP lo' hi' w t v3 v4:=by
 obtain⟨f3,f4,o3,o4,i3,i4⟩:=h;exact⟨f3,f4,o3,o4,i3.mono h1 h2,i4.mono h1 h2⟩
theorem TerP.rd {lo hi:Nat} {w:World} {t:DTerrain} {v3 v4:Value} (h:TerP lo hi w t v3 v4):Rd hi w (zat t.heights) v3∧Rd hi w (zat t.clutter) v4:=by
 obtain⟨f3,f4,o3,o4,i3,i4⟩:=h;exact⟨o3.rd i3,o4.rd i4⟩
theorem TerP.form {lo hi:Nat} {w:World} {t:DTerrain} {v3 v4:Value} (h:TerP lo hi w t v3 v4):∃ A3 C3 A4 C4,v3=IZ A3 t.heights.length C3∧v4=IZ A4 t.clutter.length C4:=by
 obtain⟨A3,C3,e3,_,_,_⟩:=h.rd.1.ints;obtain⟨A4,C4,e4,_,_,_⟩:=h.rd.2.ints;exact⟨A3,C3,A4,C4,e3,e4⟩
def DrTer (b k m:Nat) (w:World) (e:Ending) (w':World):Prop:=∃ (t:DTerrain) (v3 v4:Value),TerD t∧e=.returned (.agg #[J t.step,J t.width,J t.height,v3,v4])∧TerP w.heap.size w'.heap.size w' t v3 v4∧SrcQ b k m w w'
structure TeS (b k c:Nat) (w0 w:World) (r f T g g2 m:Nat) (st wd ht:Int) (hs cl:List Int):Prop where
 d:DrS b k c w0 w r f #[J 0,J 0,J 0,IZ none 0 0,IZ none 0 0] #[J st,J wd,J ht,IZ (some ⟨g,0,none⟩) m m,IZ (some ⟨g2,0,none⟩) m m] T
 o1:Own w (zat hs) (IZ (some ⟨g,0,none⟩) m m) [g]
 o2:Own w (zat cl) (IZ (some ⟨g2,0,none⟩) m m) [g2]
 l1:hs.length=m
 l2:cl.length=m
 p1:w0.heap.size≤g∧g<w.heap.size
 p2:w0.heap.size≤g2∧g2<w.heap.size
 ne:g≠g2∧g≠r∧g≠f∧g2≠r∧g2≠f
 hb:∀ x ∈ hs,0≤x∧x≤2000
 cb:∀ x ∈ cl,0≤x∧x≤2000
section
variable {b k c r f T g g2 m:Nat} {w0 w w':World} {st wd ht:Int} {hs cl:List Int}
theorem DrS.setO {R F:Array Value} (h:DrS b k c w0 w r f R F T) {y:Nat} (h0:w0.heap.size≤y) (h1:y≠r) (h2:y≠f) (j:Nat) (v:Value):DrS b k c w0 (w.setCell ⟨y,j,none⟩ v) r f R F T:=by
 obtain⟨k',a,e,S⟩:=h.src;have:=h.bl;have hbb:OI (b+1) w (w.setCell ⟨y,j,none⟩ v):=(Below.refl (b+1) w).setCell (p:=⟨y,j,none⟩) (by show b+1≤y;omega) v;exact⟨⟨k',a,e,S.below II hbb⟩,⟨h.chg.os,h.chg.tape,h.chg.output,by rw[zac];exact h.chg.size,fun x hx hn=>(bkO rfl (p:=⟨y,j,none⟩) (by show x≠y;omega) v).trans (h.chg.block x hx hn)⟩,bkO h.hr (p:=⟨y,j,none⟩) h1.symm v,bkO h.hf (p:=⟨y,j,none⟩) h2.symm v,h.bl,h.lr,h.lf,h.ne⟩
theorem TeS.below (h:TeS b k c w0 w r f T g g2 m st wd ht hs cl) (hb:OI w w w'):TeS b k c w0 w' r f T g g2 m st wd ht hs cl:=by
 have p1:=h.p1;have p2:=h.p2;have:=hb.size;exact⟨h.d.below hb,h.o1.frame (fun x hx=>hb.block x (by simp at hx;omega)),h.o2.frame (fun x hx=>hb.block x (by simp at hx;omega)),h.l1,h.l2,⟨p1.1,II⟩,⟨p2.1,II⟩,h.ne,h.hb,h.cb⟩
theorem TeS.call {k1 d:Nat} (h:TeS b k c w0 w r f T g g2 m st wd ht hs cl) (h1:k≤k1) (h2:k1≤k+c) (q:SrcQ b k1 d w w'):TeS b k (c+d) w0 w' r f T g g2 m st wd ht hs cl:=by
 have p1:=h.p1;have p2:=h.p2;have hbl:=h.d.bl;have D:=h.d.call h1 h2 q;obtain⟨_,_,_,_,C⟩:=q;have:=C.size;exact⟨D,h.o1.frame (fun x hx=>C.block x (by simp at hx;omega) (by simp at hx ⊢;omega)),h.o2.frame (fun x hx=>C.block x (by simp at hx;omega) (by simp at hx ⊢;omega)),h.l1,h.l2,⟨p1.1,II⟩,⟨p2.1,II⟩,h.ne,h.hb,h.cb⟩
theorem TeS.more {d:Nat} (h:TeS b k c w0 w r f T g g2 m st wd ht hs cl) (hd:c≤d):TeS b k d w0 w r f T g g2 m st wd ht hs cl:=by
 obtain⟨k',a,e,S⟩:=h.d.src;exact⟨⟨⟨k',a,II,S⟩,h.d.chg,h.d.hr,h.d.hf,h.d.bl,h.d.lr,h.d.lf,h.d.ne⟩,h.o1,h.o2,h.l1,h.l2,h.p1,h.p2,h.ne,h.hb,h.cb⟩
theorem set_bd {l:List Int} {i:Nat} {x:Int} (h:∀ y ∈ l,0≤y∧y≤2000) (h0:0≤x) (h1:x≤2000):∀ y ∈ l.set i x,0≤y∧y≤2000:=fun y hy=>by
 rcases List.mem_or_eq_of_mem_set hy with e|e
 ·exact h y e
 ·subst e;exact⟨h0,h1⟩
theorem TeS.setH (h:TeS b k c w0 w r f T g g2 m st wd ht hs cl) {i:Nat} (hi:i<m) {x:Int} (h0:0≤x) (h1:x≤2000):TeS b k c w0 (w.setCell ⟨g,i,none⟩ (J x)) r f T g g2 m st wd ht (hs.set i x) cl:=by
 have hne:=h.ne;obtain⟨_,_,o⟩:=own_setI h.o1 (i:=i) (by rw[h.l1];exact hi) x;rw[Nat.zero_add] at o;exact⟨h.d.setO h.p1.1 hne.2.1 hne.2.2.1 _ _,o,h.o2.setFar (p:=⟨g,i,none⟩) (fun e=>hne.1 (by simpa using e)) _,by rw[List.length_set];exact h.l1,h.l2,by rw[zac];exact h.p1,by rw[zac];exact h.p2,hne,set_bd h.hb h0 h1,h.cb⟩
theorem TeS.setC (h:TeS b k c w0 w r f T g g2 m st wd ht hs cl) {i:Nat} (hi:i<m) {x:Int} (h0:0≤x) (h1:x≤2000):TeS b k c w0 (w.setCell ⟨g2,i,none⟩ (J x)) r f T g g2 m st wd ht hs (cl.set i x):=by
 have hne:=h.ne;obtain⟨_,_,o⟩:=own_setI h.o2 (i:=i) (by rw[h.l2];exact hi) x;rw[Nat.zero_add] at o;exact⟨h.d.setO h.p2.1 hne.2.2.2.1 hne.2.2.2.2 _ _,h.o1.setFar (p:=⟨g2,i,none⟩) (fun e=>hne.1 (by simp at e;exact e.symm)) _,o,h.l1,by rw[List.length_set];exact h.l2,by rw[zac];exact h.p1,by rw[zac];exact h.p2,hne,h.hb,set_bd h.cb h0 h1⟩
theorem TeS.at1 (h:TeS b k c w0 w r f T g g2 m st wd ht hs cl) {i:Nat} (hi:i<m):w.cell? ⟨g,i,none⟩=some (J (hs[i]'(by rw[h.l1];exact hi)))∧w.frozen? ⟨g,i,none⟩=false:=by
 obtain⟨a,b,_⟩:=own_setI h.o1 (i:=i) (by rw[h.l1];exact hi) 0;rw[Nat.zero_add] at a b;exact⟨a,b⟩
theorem TeS.at2 (h:TeS b k c w0 w r f T g g2 m st wd ht hs cl) {i:Nat} (hi:i<m):w.cell? ⟨g2,i,none⟩=some (J (cl[i]'(by rw[h.l2];exact hi)))∧w.frozen? ⟨g2,i,none⟩=false:=by
 obtain⟨a,b,_⟩:=own_setI h.o2 (i:=i) (by rw[h.l2];exact hi) 0;rw[Nat.zero_add] at a b;exact⟨a,b⟩
theorem TeS.fin (h:TeS b k c w0 w r f T g g2 m st wd ht hs cl) (hm:m≤1000) (h1:0≤st∧st≤1000) (h2:0≤wd∧wd≤1000) (h3:0≤ht∧ht≤1000):DrTer b k c w0 (.returned (.agg #[J st,J wd,J ht,IZ (some ⟨g,0,none⟩) m m,IZ (some ⟨g2,0,none⟩) m m])) (zbi w r 0 [J st,J wd,J ht,IZ (some ⟨g,0,none⟩) m m,IZ (some ⟨g2,0,none⟩) m m]):=by
 have p1:=h.p1;have p2:=h.p2;have hne:=h.ne;have hfar:=za7 r [J st,J wd,J ht,IZ (some ⟨g,0,none⟩) m m,IZ (some ⟨g2,0,none⟩) m m] w 0;have hsz:=zbl r [J st,J wd,J ht,IZ (some ⟨g,0,none⟩) m m,IZ (some ⟨g2,0,none⟩) m m] w 0;refine⟨⟨st,wd,ht,hs,cl⟩,_,_,⟨h1,h2,h3,by show hs.length≤1000;rw[h.l1];exact hm,by show cl.length≤1000;rw[h.l2];exact hm,h.hb,h.cb⟩,rfl,⟨[g],[g2],h.o1.frame (fun x hx=>hfar x (by simp at hx;omega)),h.o2.frame (fun x hx=>hfar x (by simp at hx;omega)),fun x hx=>?_,fun x hx=>?_⟩,h.d.fin _⟩
 ·simp at hx;rw[hsz];omega
 ·simp at hx;rw[hsz];omega
end
theorem l20Terrain_any (b k:Nat) (w:World) (h:Src w b k) (hk:k≤1099511400000):Calls Tryz.prog 65 #[.pointer (some ⟨b,0,none⟩)] w (DrTer b k 400 w):=by
 have yb:=h.lt;have HS:=IJ h;clear h;go_enter Tryz.func65,Tryz.ntmps65;go_wp2_with (fail);obtain⟨W0,hW0,b0,z0,k0⟩:=zav w #[J 0,J 0,J 0,IZ none 0 0,IZ none 0 0] 26;rw[hW0];clear hW0;obtain⟨r,hr⟩:∃ r,r=w.heap.size:=⟨_,rfl⟩
 rw[← hr] at k0 ⊢;have r1:=Nat.le_of_eq hr;have r2:=Nat.le_of_eq hr.symm;have K0:=IJ k0;have B0:=IJ b0;clear b0 k0 hr
 go_at_call 59
 refine (zbb b k 300 _ (HS.out.below HS.out.lt B0.out) II II II).mono ?_;rintro e w1 ⟨⟨x,hx0,hx1,rfl⟩,kk,ka,kb,SS,cq⟩;have SK:=IJ SS;have CQ:=IJ cq;have zq:=cq.size;have K1:=IJ ((cq.block r II (by simp<;>omega)).trans K0.out);clear SS cq HS K0;go_wp2_with (fail)
 go_at_call 95
 refine (l04Flat_any 100 7 7 x 49 w1 (by decide) II II).mono ?_;rintro e w2 ⟨g,g2,rfl,hb,h1,h2,h3,h4,h5,o1,o2⟩;have SK2:=IJ (SK.out.below SK.out.lt hb);have K2:=IJ (bkB K1.out hb II);have zb:=hb.size;have HB:=IJ hb;have O1:=IJ o1;have O2:=IJ o2;clear hb o1 o2 SK K1;go_upto_region 2 with (fail);obtain⟨w3,hw3,b3,z3,k3⟩:=zav w2 #[J 100,J 7,J 7,IZ (some ⟨g,0,none⟩) 49 49,IZ (some ⟨g2,0,none⟩) 49 49] 26;rw[hw3];clear hw3;obtain⟨f,hf⟩:∃ f,f=w2.heap.size:=⟨_,rfl⟩
 rw[← hf] at k3 ⊢;have TS:Hid (TeS b k 2 w w3 r f 26 g g2 49 100 7 7 (List.replicate 49 x) (List.replicate 49 0)) :=
  ⟨⟨⟨kk,ka,kb,SK2.out.below SK2.out.lt b3⟩,(((Chg.of_below B0.out).trans CQ.out).trans (Chg.of_below HB.out)).trans (Chg.of_below b3),bkB K2.out b3 II,k3,yb,II,II,II⟩,O1.out.frame (fun y hy=>b3.block y (by simp at hy;omega)),O2.out.frame (fun y hy=>b3.block y (by simp at hy;omega)),by simp,by simp,II,II,II,fun y hy=>by have:=List.eq_of_mem_replicate hy;omega,fun y hy=>by have:=List.eq_of_mem_replicate hy;omega⟩
 clear b3 k3 SK2 K2 HB O1 O2 CQ B0 hf h1 h2 h3 h4 h5 z0 zq zb z3;go_wp2;go_loopw [4] (fun i wr=>∃ (j:Nat) (hs cl:List Int),j≤49∧i=J (j:Int)∧(∀ i (hi:i<hs.length),j≤i→hs[i]≤299)∧TeS b k (2+8*j) w wr r f 26 g g2 49 100 7 7 hs cl) (fun i wr=>49-(intOf i).toNat)
 case atStart=>exact⟨0,_,_,II,rfl,fun i hi _=>by rw[List.getElem_replicate];omega,TS.out⟩
 case round =>
  obtain⟨j,hs,cl,hj,rfl,hlo,hR⟩:=hrel;have TA:=IJ hR;have HLO:=IJ hlo;clear hR TS hlo
  by_cases hlt:j<49
  ·have hji:(j:Int)<49:=II
   have hjn:(0:Int)≤(j:Int):=II
   have q3:=bkC TA.out.d.hf 3 rfl;go_wp2_with (fail);clear q3
   go_at_call 68
   obtain⟨kk,ka,kb,SS⟩:=TA.out.d.src;refine (one_any b kk 4 _ SS II ⟨II,II⟩).mono ?_;rintro e w4 ⟨⟨cd,rfl⟩,hq⟩;have TB:Hid (TeS b k (2+8*j+2) w w4 r f 26 g g2 49 100 7 7 hs cl):=TA.out.call ka kb hq;clear TA SS ka kb hq;go_upto_if 16 with (fail);go_cut [4] (fun s4 wx=>s4=J (j:Int)∧∃ (hs cl:List Int),(∀ i (hi:i<hs.length),j+1≤i→hs[i]≤299)∧TeS b k (2+8*j+4) w wx r f 26 g g2 49 100 7 7 hs cl)
   case first =>
    cases cd with
    | false =>
     go_wp2;go_meet;exact⟨rfl,hs,cl,fun i hi h=>HLO.out i hi II,TB.out.more II⟩
    | true =>
     go_upto_region 6 with (fail);have TC:=IJ (TB.out.below (zbc w4));clear TB;have hjl:j<hs.length:=by rw[TC.out.l1];exact hlt
     refine za1 7 [(0,true),(1,true),(2,true),(3,true),(4,true),(5,true),(6,false)] (fun W=>W.cell? ⟨f,3,none⟩=some (IZ (some ⟨g,0,none⟩) 49 49)∧W.cell? ⟨g,j,none⟩=some (J hs[j])) JI JI ⟨bkC TC.out.d.hf 3 rfl,(TC.out.at1 hlt).1⟩ (fun hHeld=>?_);generalize w4.drew=Y0 at *;clear hHeld
     iterate 6 (refine zaj (v:=?_) rfl (fun _ _ _ h=>h) ?_ ?_;rotate_left;focus (intro W hSW;(try dsimp only at hSW);(go_simp<;>with_reducible rfl));(try simp only[Act.put,OO,OJ,OQ]))
     refine za5 rfl (fun K hK=>?_);go_simp;obtain⟨kk,ka,kb,SS⟩:=TC.out.d.src;refine (zbb b kk 900 _ SS II II II).mono ?_;rintro e Y1 ⟨⟨y,hy0,hy1,rfl⟩,hq⟩;have TD:Hid (TeS b k (2+8*j+2+2) w Y1 r f 26 g g2 49 100 7 7 hs cl):=TC.out.call ka kb hq;refine hK.out _ _ ⟨bkC TD.out.d.hf 3 rfl,(TD.out.at1 hlt).1⟩ ?_;clear hK K TC SS ka kb hq
     (try simp only[Act.put,OO,OJ,OQ])
     refine zb1 ?_;simp only[List.drop_succ_cons,List.drop_zero];have hb0:=(TD.out.hb _ (List.getElem_mem hjl)).1;have hb1:=HLO.out j hjl (Nat.le_refl _);have hw_:IntKind.i64.wrap (hs[j]+y)=hs[j]+y:=IntWalk.i64_in _ II;obtain⟨s0,f0⟩:=TD.out.at1 hlt;go_wp2_with (fail);go_meet;refine⟨rfl,_,_,fun i hi h=>?_,(TD.out.setH hlt (x:=hs[j]+y) II II).more II⟩;have hi2:i<hs.length:=by simpa using hi
     rw[List.getElem_set_ne II];exact HLO.out i hi2 II
   case rest =>
    clear HLO TB;obtain⟨rfl,hs,cl,hlo2,hT⟩:=hcut;have HLO:=IJ hlo2;have TB:=IJ hT;clear hlo2 hT;generalize wc=w5 at *;go_wp2_with (fail)
    go_at_call 68
    obtain⟨kk,ka,kb,SS⟩:=TB.out.d.src;refine (one_any b kk 4 _ SS II ⟨II,II⟩).mono ?_;rintro e w6 ⟨⟨cd2,rfl⟩,hq⟩;have TE:Hid (TeS b k (2+8*j+4+2) w w6 r f 26 g g2 49 100 7 7 hs cl):=TB.out.call ka kb hq;clear TB SS ka kb hq;go_upto_if 27 with (fail)
    cases cd2 with
    | false =>
     go_wp2;go_roundw
     case rel=>exact⟨j+1,hs,cl,II,by go_num,HLO.out,TE.out.more II⟩
     case measure=>simp only[intOf];omega
    | true =>
     go_upto_region 8 with (fail);have TC:=IJ (TE.out.below (zbc w6));clear TE;refine za1 5 [(0,true),(1,true),(2,true),(3,true),(4,false)] (fun W=>W.cell? ⟨f,4,none⟩=some (IZ (some ⟨g2,0,none⟩) 49 49)) JI JI (bkC TC.out.d.hf 4 rfl) (fun hHeld=>?_);generalize w6.drew=Y0 at *;clear hHeld
     iterate 4 (refine zaj (v:=?_) rfl (fun _ _ _ h=>h) ?_ ?_;rotate_left;focus (intro W hSW;(try dsimp only at hSW);(go_simp<;>with_reducible rfl));(try simp only[Act.put,OO,OJ,OQ]))
     refine za5 rfl (fun K hK=>?_);go_simp;obtain⟨kk,ka,kb,SS⟩:=TC.out.d.src;refine (zbb b kk 8 _ SS II II II).mono ?_;rintro e Y1 ⟨⟨y,hy0,hy1,rfl⟩,hq⟩;have TD:Hid (TeS b k (2+8*j+4+2+2) w Y1 r f 26 g g2 49 100 7 7 hs cl):=TC.out.call ka kb hq;refine hK.out _ _ (bkC TD.out.d.hf 4 rfl) ?_;clear hK K TC SS ka kb hq
     (try simp only[Act.put,OO,OJ,OQ])
     refine zb1 ?_;simp only[List.drop_succ_cons,List.drop_zero];obtain⟨s0,f0⟩:=TD.out.at2 hlt;go_wp2;go_roundw
     case rel=>exact⟨j+1,hs,_,II,by go_num,HLO.out,(TD.out.setC hlt (x:=y) II II).more II⟩
     case measure=>simp only[intOf];omega
  ·have hji:¬ (j:Int)<49:=II
   have hjm:j=49:=II
   have TG:Hid (TeS b k 400 w wr r f 26 g g2 49 100 7 7 hs cl):=TA.out.more II;clear TA HLO hjm;obtain⟨c0,c1,c2,c3,c4,_⟩:=bz5 TG.out.d.hf;obtain⟨u0,u1,u2,u3,u4,gz⟩:=bz5 TG.out.d.hr;go_wp2;exact bodyPost_ret (v:=.agg #[J 100,J 7,J 7,IZ (some ⟨g,0,none⟩) 49 49,IZ (some ⟨g2,0,none⟩) 49 49]) (by simp[results,Tryz.results65,go_sem, *]) rfl (TG.out.fin II II II II)
end Go.Proofs.YtpakghepnahooaaGreatDoor
