/- Contracts: places of a profile, heights over it, for the program and for the reference. Conditions: valid profiles. -/
import Derived.Test.YtgmapjgodibchaaGreatDoorLvK
import Derived.Test.YtgmapjgodibchaaGreatDoorLvM
import Derived.Test.YtgmapjgodibchaaGreatDoorEirp3
set_option linter.unusedVariables false
set_option linter.unusedSimpArgs false
namespace Go.Proofs.YtgmapjgodibchaaGreatDoor
open Go.RowKit
set_option maxHeartbeats 16000000
set_option maxRecDepth 100000
theorem rdiv_dd {a s:Int} (h:0≤a):rdiv a (s*s)=(2*a+s*s) / (2*s*s):=by
 unfold rdiv;rw[if_neg O,Int.mul_assoc]
structure Sq (t:DTerrain) (p:DPoint) (i k u v:Int):Prop where
 i0:0≤i
 i1:i≤t.width-2
 k0:0≤k
 k1:k≤t.height-2
 u0:0≤u
 u1:u≤t.step
 v0:0≤v
 v1:v≤t.step
 eu:p.x-i*t.step=u
 ev:p.y-k*t.step=v
 bi:0≤i*t.step∧i*t.step≤200000
 bk:0≤k*t.step∧k*t.step≤200000
theorem sq_of {t:DTerrain} (T:TerrOk t) {p:DPoint} (h:inT t p):Sq t p (colT t.step t.width p.x) (colT t.step t.height p.y) (p.x-colT t.step t.width p.x*t.step) (p.y-colT t.step t.height p.y*t.step):=by
 obtain⟨⟨a0,a1⟩,a2,a3⟩:=colT_bd T.s0 T.w0 h.1.1 h.1.2;obtain⟨⟨b0,b1⟩,b2,b3⟩:=colT_bd T.s0 T.h0 h.2.1 h.2.2;have hp:=zc3 T h;unfold ptB at hp;have c0:=Int.mul_nonneg a0 (show 0≤t.step by have:=T.s0;omega);have c1:=Int.mul_nonneg b0 (show 0≤t.step by have:=T.s0;omega);exact⟨a0,a1,b0,b1,a2,a3,b2,b3,rfl,rfl,⟨c0,O⟩,⟨c1,O⟩⟩
structure Prods (a1 a2 a3 a4 s u v:Int):Prop where
 b1:0≤a1*(s-u)∧a1*(s-u)≤900000000
 c1:0≤a1*(s-u)*(s-v)∧a1*(s-u)*(s-v)≤9000000000000
 b2:0≤a2*u∧a2*u≤900000000
 c2:0≤a2*u*(s-v)∧a2*u*(s-v)≤9000000000000
 b3:0≤a3*(s-u)∧a3*(s-u)≤900000000
 c3:0≤a3*(s-u)*v∧a3*(s-u)*v≤9000000000000
 b4:0≤a4*u∧a4*u≤900000000
 c4:0≤a4*u*v∧a4*u*v≤9000000000000
theorem prods_of {a1 a2 a3 a4 s u v:Int} (s1:s≤10000) (u0:0≤u) (u1:u≤s) (v0:0≤v) (v1:v≤s) (h1:0≤a1∧a1≤90000) (h2:0≤a2∧a2≤90000) (h3:0≤a3∧a3≤90000) (h4:0≤a4∧a4≤90000):Prods a1 a2 a3 a4 s u v:=by
 have p1:=zeu h1.1 h1.2 (show 0≤s-u by omega) O (show 0≤s-v by omega) O;have p2:=zeu h2.1 h2.2 u0 O (show 0≤s-v by omega) O;have p3:=zeu h3.1 h3.2 (show 0≤s-u by omega) O v0 O;have p4:=zeu h4.1 h4.2 u0 O v0 O;exact⟨p1.1,p1.2.1,p2.1,p2.2.1,p3.1,p3.2.1,p4.1,p4.2.1⟩
theorem zfi (t:DTerrain) (x y:Int) (n:Nat) (en:y*t.width+x=(n:Int)) (hn:n<t.heights.length) (y0:0≤y*t.width) (y1:y*t.width≤552) (x1:x≤24) (pt bh oh ch:Nat) (w:World) (c1:w.cell? ⟨pt,1,none⟩=some (I t.width)) (c3:w.cell? ⟨pt,3,none⟩=some (II (some ⟨bh,oh,none⟩) t.heights.length ch)) (ch0:w.cell? ⟨bh,oh+n,none⟩=some (I (gi t.heights n))) :
  Calls Tryz.prog 236 #[I x,I y,.pointer (some ⟨pt,0,none⟩)] w fun e w'=>e=.returned (I (gi t.heights n))∧IJ w w w':=by
 have i1:(0:Int)≤(n:Int):=O
 have i2:(n:Int)<(t.heights.length:Int):=O
 have i3:(n:Int)≤576:=O
 go_enter Tryz.func236,Tryz.ntmps236;go_wp2;go_ret;exact⟨rfl,Below.refl _ _⟩
theorem iHeight_any (t:DTerrain) (p:DPoint) (T:TerrOk t) (hp:inT t p) (v3 v4:Value) (w:World) (r3:Rd w w (zai t.heights) v3) :
  Calls Tryz.prog 195 #[.agg #[I t.step,I t.width,I t.height,v3,v4],.agg #[I p.x,I p.y]] w fun e w'=>e=.returned (I (hAt t p))∧IJ w w w':=by
 obtain⟨a3,c3_,e3,_,_,_⟩:=r3.ints;subst e3;have hlh:=T.lh;have w0_:=T.w0;have w1_:=T.w1;have h0_:=T.h0;have h1_:=T.h1;have s0_:=T.s0;have s1_:=T.s1;have hsq:=step_sq T.s0 T.s1;obtain⟨bh,oh,ea,hbl,hat⟩:=r3.intAt (by have:=ze4 (i:=0) (k:=0) (w:=t.width) (h:=t.height) O O O O w1_ h1_;omega);subst ea;have hpt:=zc3 T hp;unfold ptB at hpt;obtain⟨⟨px0,px1⟩,py0,py1⟩:=hpt;have S:=sq_of T hp;have HS:Hid (hAt t p=rdiv (hSum t (colT t.step t.width p.x) (colT t.step t.height p.y) (p.x-colT t.step t.width p.x*t.step) (p.y-colT t.step t.height p.y*t.step)) (t.step*t.step)):=rfl;have HCI:Hid (colT t.step t.width p.x=min (p.x / t.step) (t.width-2)):=rfl;have HCK:Hid (colT t.step t.height p.y=min (p.y / t.step) (t.height-2)):=rfl;have hss:=hSum_bd T (i:=colT t.step t.width p.x) (k:=colT t.step t.height p.y) S.u0 S.u1 S.v0 S.v1;generalize p.x-colT t.step t.width p.x*t.step=cu at *;generalize p.y-colT t.step t.height p.y*t.step=cv at *;generalize colT t.step t.width p.x=ci at *;generalize colT t.step t.height p.y=ck at *;have g1:=ze4 (i:=ci) (k:=ck) (w:=t.width) (h:=t.height) S.i0 (by have:=S.i1;omega) S.k0 (by have:=S.k1;omega) w1_ h1_;have g2:=ze4 (i:=ci+1) (k:=ck) (w:=t.width) (h:=t.height) (by have:=S.i0;omega) (by have:=S.i1;omega) S.k0 (by have:=S.k1;omega) w1_ h1_;have g3:=ze4 (i:=ci) (k:=ck+1) (w:=t.width) (h:=t.height) S.i0 (by have:=S.i1;omega) (by have:=S.k0;omega) (by have:=S.k1;omega) w1_ h1_;have g4:=ze4 (i:=ci+1) (k:=ck+1) (w:=t.width) (h:=t.height) (by have:=S.i0;omega) (by have:=S.i1;omega) (by have:=S.k0;omega) (by have:=S.k1;omega) w1_ h1_;obtain⟨n1,en1⟩:=Int.eq_ofNat_of_zero_le g1.2.2.1;obtain⟨n2,en2⟩:=Int.eq_ofNat_of_zero_le g2.2.2.1;obtain⟨n3,en3⟩:=Int.eq_ofNat_of_zero_le g3.2.2.1;obtain⟨n4,en4⟩:=Int.eq_ofNat_of_zero_le g4.2.2.1;have m1:n1<t.heights.length:=O
 have m2:n2<t.heights.length:=O
 have m3:n3<t.heights.length:=O
 have m4:n4<t.heights.length:=O
 have HSUM:Hid (hSum t ci ck cu cv=gi t.heights n1*(t.step-cu)*(t.step-cv)+gi t.heights n2*cu*(t.step-cv)+gi t.heights n3*(t.step-cu)*cv+gi t.heights n4*cu*cv):=by
  show _=_
  unfold hSum hIx;rw[en1,en2,en3,en4];simp only[Int.toNat_natCast]
 have PR:=prods_of s1_ S.u0 S.u1 S.v0 S.v1 (T.hs n1) (T.hs n2) (T.hs n3) (T.hs n4);rw[HSUM.out] at hss;have a1:=hat n1 m1;have a2:=hat n2 m2;have a3:=hat n3 m3;have a4:=hat n4 m4;obtain⟨W0,hW0,b0_,z0,k0,k1⟩:=zeb w #[I t.step,I t.width,I t.height,II (some ⟨bh,oh,none⟩) t.heights.length c3_,v4] 37 #[I p.x,I p.y] 66;have HW0:=J hW0;have B0:=J b0_;have HD:=J (fun (W:World) (hW:IJ W0 W0 W)=>bx5 k0 hW <| bx2 k1 hW <| aI ((bat hW bh _ O).trans ((bat b0_ bh _ O).trans a1)) <| aI ((bat hW bh _ O).trans ((bat b0_ bh _ O).trans a2)) <| aI ((bat hW bh _ O).trans ((bat b0_ bh _ O).trans a3)) <| ((bat hW bh _ O).trans ((bat b0_ bh _ O).trans a4)));have HB:Hid (IJ W0 W0 W0):=Below.refl _ _;clear k0 k1 hW0 b0_;have CH1:Hid (∀ W:World,IJ W0 W0 W→Calls Tryz.prog 236 #[I ci,I ck,.pointer (some ⟨w,0,none⟩)] W fun e w'=>e=.returned (I (gi t.heights n1))∧IJ W W w'):=fun  W hW=>by
   obtain⟨t0,t1,t2,t3,t4,t5,t6,t7,t8,t9,t10⟩:=HD.out W hW;exact zfi t _ _ n1 en1 m1 g1.1 g1.2.1 (by have:=S.i1;omega) _ _ _ _ W t1 t3 t7
 have CH2:Hid (∀ W:World,IJ W0 W0 W→Calls Tryz.prog 236 #[I (ci+1),I ck,.pointer (some ⟨w,0,none⟩)] W fun e w'=>e=.returned (I (gi t.heights n2))∧IJ W W w'):=fun  W hW=>by
   obtain⟨t0,t1,t2,t3,t4,t5,t6,t7,t8,t9,t10⟩:=HD.out W hW;exact zfi t _ _ n2 en2 m2 g2.1 g2.2.1 (by have:=S.i1;omega) _ _ _ _ W t1 t3 t8
 have CH3:Hid (∀ W:World,IJ W0 W0 W→Calls Tryz.prog 236 #[I ci,I (ck+1),.pointer (some ⟨w,0,none⟩)] W fun e w'=>e=.returned (I (gi t.heights n3))∧IJ W W w'):=fun  W hW=>by
   obtain⟨t0,t1,t2,t3,t4,t5,t6,t7,t8,t9,t10⟩:=HD.out W hW;exact zfi t _ _ n3 en3 m3 g3.1 g3.2.1 (by have:=S.i1;omega) _ _ _ _ W t1 t3 t9
 have CH4:Hid (∀ W:World,IJ W0 W0 W→Calls Tryz.prog 236 #[I (ci+1),I (ck+1),.pointer (some ⟨w,0,none⟩)] W fun e w'=>e=.returned (I (gi t.heights n4))∧IJ W W w'):=fun  W hW=>by
   obtain⟨t0,t1,t2,t3,t4,t5,t6,t7,t8,t9,t10⟩:=HD.out W hW;exact zfi t _ _ n4 en4 m4 g4.1 g4.2.1 (by have:=S.i1;omega) _ _ _ _ W t1 t3 t10
 generalize gi t.heights n1=z1 at *;generalize gi t.heights n2=z2 at *;generalize gi t.heights n3=z3 at *;generalize gi t.heights n4=z4 at *;have CD:Hid (∀ W:World,Calls Tryz.prog 201 #[I (z1*(t.step-cu)*(t.step-cv)+z2*cu*(t.step-cv)+z3*(t.step-cu)*cv+z4*cu*cv),I (t.step*t.step)] W fun e w'=>e=.returned (I (hAt t p))∧IJ W W w'):=fun W=>by
  rw[HS.out,HSUM.out];exact zbu _ _ O O O O W
 clear hat r3 hss HS HSUM a1 a2 a3 a4;obtain⟨hs0,hs1⟩:=hsq;obtain⟨pb1,pc1,pb2,pc2,pb3,pc3,pb4,pc4⟩:=PR;obtain⟨si0,si1,sk0,sk1,su0,su1,sv0,sv1,seu,sev,⟨sbi0,sbi1⟩,sbk0,sbk1⟩:=S;go_enter Tryz.func195,Tryz.ntmps195;go_upto_region 1 with (fail);rw[HW0.out];obtain⟨t0,t1,t2,t3,t4,t5,t6,t7,t8,t9,t10⟩:=HD.out _ HB.out;go_upto_region 1 with (fail);have o0:=zal (w0:=W0) (show w.heap.size<W0.heap.size by have:=HB.out.size;omega);have o1:=zal (w0:=W0) (show w.heap.size+1<W0.heap.size by have:=HB.out.size;omega);refine zad W0.heap.size W0 (Below.refl _ _) OJ OJ ?_
 repeat (go_big_quiet_step (first|fail))
 refine wpQuiet_nil ?_;rintro _ ⟨X,rfl⟩;replace HB:=btr HB (zaa W0.heap.size W0 X);clear o0 o1
 (try clear t0 t1 t2 t3 t4 t5 t6 t7 t8 t9 t10)
 generalize over W0.heap.size W0 X=u2 at *;obtain⟨t0,t1,t2,t3,t4,t5,t6,t7,t8,t9,t10⟩:=HD.out _ HB.out;rw[← HCI.out,← HCK.out];go_upto_region 2 with (fail);have o0:=zal (w0:=u2) (show w.heap.size<u2.heap.size by have:=HB.out.size;omega);have o1:=zal (w0:=u2) (show w.heap.size+1<u2.heap.size by have:=HB.out.size;omega);refine zad u2.heap.size u2 (Below.refl _ _) OJ OJ ?_
 repeat (go_big_quiet_step (first|fail))
 refine wpQuiet_nil ?_;rintro _ ⟨X,rfl⟩;replace HB:=btr HB (zaa u2.heap.size u2 X);clear o0 o1
 (try clear t0 t1 t2 t3 t4 t5 t6 t7 t8 t9 t10)
 generalize over u2.heap.size u2 X=u4 at *;obtain⟨t0,t1,t2,t3,t4,t5,t6,t7,t8,t9,t10⟩:=HD.out _ HB.out
 (try rw[seu,sev])
 go_upto_region 4 with (fail);have o0:=zal (w0:=u4) (show w.heap.size<u4.heap.size by have:=HB.out.size;omega);have o1:=zal (w0:=u4) (show bh<u4.heap.size by have:=HB.out.size;omega);refine zad u4.heap.size u4 (Below.refl _ _) OJ OJ ?_
 repeat (go_big_quiet_step (first|(go_at_call 236;with_reducible exact zaj (Nat.le_refl _) (CH1.out _ (HB.out.trans ((zaa _ _ _).mono HB.out.size))))|(go_at_call 236;with_reducible exact zaj (Nat.le_refl _) (CH2.out _ (HB.out.trans ((zaa _ _ _).mono HB.out.size))))|(go_at_call 236;with_reducible exact zaj (Nat.le_refl _) (CH3.out _ (HB.out.trans ((zaa _ _ _).mono HB.out.size))))|(go_at_call 236;with_reducible exact zaj (Nat.le_refl _) (CH4.out _ (HB.out.trans ((zaa _ _ _).mono HB.out.size))))))
 refine wpQuiet_nil ?_;rintro _ ⟨X,rfl⟩;replace HB:=btr HB (zaa u4.heap.size u4 X);clear o0 o1
 (try clear t0 t1 t2 t3 t4 t5 t6 t7 t8 t9 t10)
 generalize over u4.heap.size u4 X=u6 at *;obtain⟨t0,t1,t2,t3,t4,t5,t6,t7,t8,t9,t10⟩:=HD.out _ HB.out;have HE:=J (rfl:hAt t p=hAt t p);go_wp2_with (go_at_call 201;with_reducible refine (CD.out _).mono ?_;rintro e v9 ⟨rfl,hb_⟩;replace HB:=btr HB hb_;clear hb_);go_ret;exact⟨rfl,B0.out.trans (HB.out.mono B0.out.size)⟩
theorem iClutter_any (t:DTerrain) (p:DPoint) (T:TerrOk t) (hp:inT t p) (v3 v4:Value) (w:World) (r4:Rd w w (zai t.clutter) v4) :
  Calls Tryz.prog 165 #[.agg #[I t.step,I t.width,I t.height,v3,v4],.agg #[I p.x,I p.y]] w fun e w'=>e=.returned (I (cAt t p))∧IJ w w w':=by
 have s0_:=T.s0;have s1_:=T.s1;have w0_:=T.w0;have w1_:=T.w1;have h0_:=T.h0;have h1_:=T.h1;have hlc:=T.lc;have hpt:=zc3 T hp;unfold ptB at hpt;obtain⟨⟨px0,px1⟩,py0,py1⟩:=hpt;have cx:=cNear_bd T.s0 hp.1.1 hp.1.2;have cy:=cNear_bd T.s0 hp.2.1 hp.2.2;have g1:=ze4 (i:=zdt t.step p.x) (k:=zdt t.step p.y) (w:=t.width) (h:=t.height) cx.1 O cy.1 O w1_ h1_;have EX:Hid (zdt t.step p.x=(2*p.x+t.step) / (2*t.step)):=rfl;have EY:Hid (zdt t.step p.y=(2*p.y+t.step) / (2*t.step)):=rfl;have HE0:Hid (cAt t p=gi t.clutter (zdt t.step p.y*t.width+zdt t.step p.x).toNat):=rfl;generalize zdt t.step p.x=cx_ at *;generalize zdt t.step p.y=cy_ at *;obtain⟨n,en⟩:=Int.eq_ofNat_of_zero_le g1.2.2.1;have HE:Hid (cAt t p=gi t.clutter n):=by show _=_;rw[HE0.out,en];rfl
 have hn:n<t.clutter.length:=O
 obtain⟨a4,c4,e4,_,_,_⟩:=r4.ints;subst e4;obtain⟨bh,oh,ea,hbl,hat⟩:=r4.intAt O;subst ea;have cl:=hat n hn;have i1:(0:Int)≤(n:Int):=O
 have i2:(n:Int)<(t.clutter.length:Int):=O
 obtain⟨gy0,gy1,gn0,gn1⟩:=g1;generalize hgv:gi t.clutter n=gv at *;clear hat HE0 r4;obtain⟨W0,hW0,b0_,z0,k0,k1⟩:=zeb w #[I t.step,I t.width,I t.height,v3,II (some ⟨bh,oh,none⟩) t.clutter.length c4] 37 #[I p.x,I p.y] 66;have HW0:=J hW0;have B0:=J b0_;have HD:=J (fun (W:World) (hW:IJ W0 W0 W)=>bx5 k0 hW <| bx2 k1 hW <| ((bat hW bh _ O).trans ((bat b0_ bh _ O).trans cl)));have HB:Hid (IJ W0 W0 W0):=Below.refl _ _;clear k0 k1 hW0 b0_;go_enter Tryz.func165,Tryz.ntmps165;go_upto_region 1 with (fail);rw[HW0.out];obtain⟨t0,t1,t2,t3,t4,t5,t6,t7⟩:=HD.out _ HB.out;go_upto_region 1 with (fail);have o0:=zal (w0:=W0) (show w.heap.size<W0.heap.size by have:=HB.out.size;omega);have o1:=zal (w0:=W0) (show w.heap.size+1<W0.heap.size by have:=HB.out.size;omega);refine zad W0.heap.size W0 (Below.refl _ _) OJ OJ ?_
 repeat (go_big_quiet_step (first|fail))
 refine wpQuiet_nil ?_;rintro _ ⟨X,rfl⟩;replace HB:=btr HB (zaa W0.heap.size W0 X);clear o0 o1
 (try clear t0 t1 t2 t3 t4 t5 t6 t7)
 generalize over W0.heap.size W0 X=u2 at *;obtain⟨t0,t1,t2,t3,t4,t5,t6,t7⟩:=HD.out _ HB.out
 (try rw[← EX.out,← EY.out])
 go_wp2;go_ret;exact⟨by rw[HE.out];rfl,B0.out.trans (HB.out.mono B0.out.size)⟩
theorem zey (t:DTerrain) (q:DEnd) (T:TerrOk t) (hp:inT t q.place) (hq:endP q) (v3 v4:Value) (w:World) (r3:Rd w w (zai t.heights) v3) :
  Calls Tryz.prog 193 #[.agg #[I t.step,I t.width,I t.height,v3,v4],.agg #[I q.place.x,I q.place.y,I q.above]] w fun e w'=>e=.returned (I (zcr t q))∧IJ w w w':=by
 have HE:Hid (zcr t q=hAt t q.place+q.above):=rfl;have hb:=hAt_bd T hp;unfold endP at hq;obtain⟨W0,hW0,b0_,z0,k0,k1⟩:=zeb w #[I t.step,I t.width,I t.height,v3,v4] 37 #[I q.place.x,I q.place.y,I q.above] 68;have HW0:=J hW0;have B0:=J b0_;have HD:=J (fun (W:World) (hW:IJ W0 W0 W)=>bx5 k0 hW <| by3 k1 hW);have HB:Hid (IJ W0 W0 W0):=Below.refl _ _;clear k0 k1 hW0 b0_;have CH:Hid (∀ W:World,IJ W0 W0 W→Calls Tryz.prog 195 #[.agg #[I t.step,I t.width,I t.height,v3,v4],.agg #[I q.place.x,I q.place.y]] W fun e w'=>e=.returned (I (hAt t q.place))∧IJ W W w'):=fun  W hW=>iHeight_any t q.place T hp v3 v4 W ((r3.below (B0.out.trans (hW.mono B0.out.size))).mono (B0.out.trans (hW.mono B0.out.size)).size)
 generalize hAt t q.place=ha at *;generalize zcr t q=hi at *;obtain⟨hb0,hb1⟩:=hb;obtain⟨hq0,hq1⟩:=hq;go_enter Tryz.func193,Tryz.ntmps193;go_upto_region 1 with (fail);rw[HW0.out];obtain⟨t0,t1,t2,t3,t4,t5,t6,t7⟩:=HD.out _ HB.out;go_upto_region 1 with (fail);have o0:=zal (w0:=W0) (show w.heap.size<W0.heap.size by have:=HB.out.size;omega);have o1:=zal (w0:=W0) (show w.heap.size+1<W0.heap.size by have:=HB.out.size;omega);refine zad W0.heap.size W0 (Below.refl _ _) OJ OJ ?_
 repeat (go_big_quiet_step (first|(go_at_call 195;with_reducible exact zaj (Nat.le_refl _) (CH.out _ (HB.out.trans ((zaa _ _ _).mono HB.out.size))))))
 refine wpQuiet_nil ?_;rintro _ ⟨X,rfl⟩;replace HB:=btr HB (zaa W0.heap.size W0 X);clear o0 o1
 (try clear t0 t1 t2 t3 t4 t5 t6 t7)
 generalize over W0.heap.size W0 X=u2 at *;obtain⟨t0,t1,t2,t3,t4,t5,t6,t7⟩:=HD.out _ HB.out;go_wp2;go_ret;exact⟨by rw[HE.out];rfl,B0.out.trans (HB.out.mono B0.out.size)⟩
theorem l04High_any (t:DTerrain) (p:DPoint) (T:TerrOk t) (hp:inT t p) (v3 v4:Value) (b off:Nat) (w:World) (r3:Rd w w (zai t.heights) v3) (c0:w.cell? ⟨b,off,none⟩=some (I t.step)) (c1:w.cell? ⟨b,off+1,none⟩=some (I t.width)) (c2:w.cell? ⟨b,off+2,none⟩=some (I t.height)) (c3:w.cell? ⟨b,off+3,none⟩=some (v3)) (c4:w.cell? ⟨b,off+4,none⟩=some (v4)) :
  Calls Tryz.prog 220 #[.pointer (some ⟨b,off,none⟩),.agg #[I p.x,I p.y]] w fun e w'=>e=.returned (I (hAt t p))∧IJ w w w':=by
 obtain⟨a3,c3_,e3,_,_,_⟩:=r3.ints;subst e3;have hlh:=T.lh;have w0_:=T.w0;have w1_:=T.w1;have h0_:=T.h0;have h1_:=T.h1;have s0_:=T.s0;have s1_:=T.s1;have hsq:=step_sq T.s0 T.s1;obtain⟨bh,oh,ea,hbl,hat⟩:=r3.intAt (by have:=ze4 (i:=0) (k:=0) (w:=t.width) (h:=t.height) O O O O w1_ h1_;omega);subst ea;have hpt:=zc3 T hp;unfold ptB at hpt;obtain⟨⟨px0,px1⟩,py0,py1⟩:=hpt;have S:=sq_of T hp;have HS:Hid (hAt t p=rdiv (hSum t (colT t.step t.width p.x) (colT t.step t.height p.y) (p.x-colT t.step t.width p.x*t.step) (p.y-colT t.step t.height p.y*t.step)) (t.step*t.step)):=rfl;have HCI:Hid (colT t.step t.width p.x=min (p.x / t.step) (t.width-2)):=rfl;have HCK:Hid (colT t.step t.height p.y=min (p.y / t.step) (t.height-2)):=rfl;have hss:=hSum_bd T (i:=colT t.step t.width p.x) (k:=colT t.step t.height p.y) S.u0 S.u1 S.v0 S.v1;generalize p.x-colT t.step t.width p.x*t.step=cu at *;generalize p.y-colT t.step t.height p.y*t.step=cv at *;generalize colT t.step t.width p.x=ci at *;generalize colT t.step t.height p.y=ck at *;obtain⟨si0,si1,sk0,sk1,su0,su1,sv0,sv1,seu,sev,⟨sbi0,sbi1⟩,sbk0,sbk1⟩:=S;have g1:=ze4 (i:=ci) (k:=ck) (w:=t.width) (h:=t.height) si0 O sk0 O w1_ h1_;have g4:=ze4 (i:=ci+1) (k:=ck+1) (w:=t.width) (h:=t.height) O O O O w1_ h1_;have ek:(ck+1)*t.width=ck*t.width+t.width:=by rw[Int.add_mul,Int.one_mul]
 rw[ek] at g4;obtain⟨n,en⟩:=Int.eq_ofNat_of_zero_le g1.2.2.1;obtain⟨m,em⟩:=Int.eq_ofNat_of_zero_le (show 0≤t.width by omega);obtain⟨n2,hn2⟩:∃ q:Nat,q=n+1:=⟨_,rfl⟩
 obtain⟨n3,hn3⟩:∃ q:Nat,q=n+m:=⟨_,rfl⟩
 obtain⟨n4,hn4⟩:∃ q:Nat,q=n+m+1:=⟨_,rfl⟩
 have m1:n<t.heights.length:=O
 have m2:n2<t.heights.length:=O
 have m3:n3<t.heights.length:=O
 have m4:n4<t.heights.length:=O
 have x2:(n:Int)+t.width=(n3:Int):=O
 have x3:(n3:Int)+1=(n4:Int):=O
 have x4:(n:Int)+1=(n2:Int):=O
 have x5:(n4:Int)≤600:=O
 have x7:(n3:Int)≤600:=O
 have x8:(n:Int)≤600:=O
 have x9:(n2:Int)≤600:=O
 have y1_:(0:Int)≤(n:Int):=O
 have y2_:(0:Int)≤(n2:Int):=O
 have y3_:(0:Int)≤(n3:Int):=O
 have y4_:(0:Int)≤(n4:Int):=O
 have z1_:(n:Int)<(t.heights.length:Int):=O
 have z2_:(n2:Int)<(t.heights.length:Int):=O
 have z3_:(n3:Int)<(t.heights.length:Int):=O
 have z4_:(n4:Int)<(t.heights.length:Int):=O
 have HSUM:Hid (hSum t ci ck cu cv=gi t.heights n*(t.step-cu)*(t.step-cv)+gi t.heights n2*cu*(t.step-cv)+gi t.heights n3*(t.step-cu)*cv+gi t.heights n4*cu*cv):=by
  show _=_
  unfold hSum hIx;rw[ek,show ck*t.width+ci=(n:Int) from en,show ck*t.width+(ci+1)=(n2:Int) by omega,show ck*t.width+t.width+ci=(n3:Int) by omega,show ck*t.width+t.width+(ci+1)=(n4:Int) by omega];simp only[Int.toNat_natCast]
 clear em hn2 hn3 hn4;have PR:=prods_of s1_ su0 su1 sv0 sv1 (T.hs n) (T.hs n2) (T.hs n3) (T.hs n4);rw[HSUM.out] at hss;have a1:=hat n m1;have a2:=hat n2 m2;have a3:=hat n3 m3;have a4:=hat n4 m4;have hbp:b<w.heap.size:=zbh c0;obtain⟨W0,hW0,b0_,z0,k0⟩:=zax w #[I p.x,I p.y] 66;have HW0:=J hW0;have B0:=J b0_;have HD:=J (fun (W:World) (hW:IJ W0 W0 W)=>bx2 k0 hW <| aI ((bat hW b _ O).trans ((bat b0_ b _ O).trans c0)) <| aI ((bat hW b _ O).trans ((bat b0_ b _ O).trans c1)) <| aI ((bat hW b _ O).trans ((bat b0_ b _ O).trans c2)) <| aI ((bat hW b _ O).trans ((bat b0_ b _ O).trans c3)) <| aI ((bat hW b _ O).trans ((bat b0_ b _ O).trans c4)) <| aI ((bat hW bh _ O).trans ((bat b0_ bh _ O).trans a1)) <| aI ((bat hW bh _ O).trans ((bat b0_ bh _ O).trans a2)) <| aI ((bat hW bh _ O).trans ((bat b0_ bh _ O).trans a3)) <| ((bat hW bh _ O).trans ((bat b0_ bh _ O).trans a4)));have HB:Hid (IJ W0 W0 W0):=Below.refl _ _;clear k0 hW0 b0_;have CI:Hid (∀ W:World,IJ W0 W0 W→Calls Tryz.prog 231 #[I (p.x / t.step),I (t.width-2)] W fun e w'=>e=.returned (I ci)∧IJ W W w'):=fun  W hW=>by rw[HCI.out];exact zam (ze6 _ _ W)
 have CK:Hid (∀ W:World,IJ W0 W0 W→Calls Tryz.prog 231 #[I (p.y / t.step),I (t.height-2)] W fun e w'=>e=.returned (I ck)∧IJ W W w'):=fun  W hW=>by rw[HCK.out];exact zam (ze6 _ _ W)
 have HE:Hid (hAt t p=(2*(gi t.heights n*(t.step-cu)*(t.step-cv)+gi t.heights n2*cu*(t.step-cv)+gi t.heights n3*(t.step-cu)*cv+gi t.heights n4*cu*cv)+t.step*t.step) / (2*t.step*t.step)):=by
  show _=_
  rw[HS.out,HSUM.out];exact rdiv_dd hss.1
 generalize gi t.heights n=z1 at *;generalize gi t.heights n2=z2 at *;generalize gi t.heights n3=z3 at *;generalize gi t.heights n4=z4 at *;have dx0:0≤p.x / t.step:=Int.ediv_nonneg px0 O;have dx1:p.x / t.step≤p.x:=Int.ediv_le_self _ px0;have dy0:0≤p.y / t.step:=Int.ediv_nonneg py0 O;have dy1:p.y / t.step≤p.y:=Int.ediv_le_self _ py0;have hs2:2*t.step*t.step=2*(t.step*t.step):=Int.mul_assoc _ _ _;have hs3:2≤2*t.step*t.step:=by rw[hs2];omega
 have hs4:2*t.step*t.step≤200000000:=by rw[hs2];omega
 clear hs2;clear hat r3 HS HSUM a1 a2 a3 a4 c0 c1 c2 c3 c4;obtain⟨hs0,hs1⟩:=hsq;obtain⟨hss0,hss1⟩:=hss;obtain⟨⟨pb1,pb1_⟩,⟨pc1,pc1_⟩,⟨pb2,pb2_⟩,⟨pc2,pc2_⟩,⟨pb3,pb3_⟩,⟨pc3,pc3_⟩,⟨pb4,pb4_⟩,⟨pc4,pc4_⟩⟩:=PR;obtain⟨gk0,gk1,gn0,gn1⟩:=g1;go_enter Tryz.func220,Tryz.ntmps220;go_upto_region 1 with (fail);rw[HW0.out];obtain⟨t0,t1,t2,t3,t4,t5,t6,t7,t8,t9,t10⟩:=HD.out _ HB.out;go_upto_region 1 with (fail);have o0:=zal (w0:=W0) (show b<W0.heap.size by have:=HB.out.size;omega);have o1:=zal (w0:=W0) (show w.heap.size<W0.heap.size by have:=HB.out.size;omega);refine zad W0.heap.size W0 (Below.refl _ _) OJ OJ ?_
 repeat (go_big_quiet_step (first|(go_at_call 231;with_reducible exact zaj (Nat.le_refl _) (CI.out _ (HB.out.trans ((zaa _ _ _).mono HB.out.size))))))
 refine wpQuiet_nil ?_;rintro _ ⟨X,rfl⟩;replace HB:=btr HB (zaa W0.heap.size W0 X);clear o0 o1
 (try clear t0 t1 t2 t3 t4 t5 t6 t7 t8 t9 t10)
 generalize over W0.heap.size W0 X=u2 at *;obtain⟨t0,t1,t2,t3,t4,t5,t6,t7,t8,t9,t10⟩:=HD.out _ HB.out;go_upto_region 2 with (fail);have o0:=zal (w0:=u2) (show b<u2.heap.size by have:=HB.out.size;omega);have o1:=zal (w0:=u2) (show w.heap.size<u2.heap.size by have:=HB.out.size;omega);refine zad u2.heap.size u2 (Below.refl _ _) OJ OJ ?_
 repeat (go_big_quiet_step (first|(go_at_call 231;with_reducible exact zaj (Nat.le_refl _) (CK.out _ (HB.out.trans ((zaa _ _ _).mono HB.out.size))))))
 refine wpQuiet_nil ?_;rintro _ ⟨X,rfl⟩;replace HB:=btr HB (zaa u2.heap.size u2 X);clear o0 o1
 (try clear t0 t1 t2 t3 t4 t5 t6 t7 t8 t9 t10)
 generalize over u2.heap.size u2 X=u4 at *;obtain⟨t0,t1,t2,t3,t4,t5,t6,t7,t8,t9,t10⟩:=HD.out _ HB.out;go_upto_region 3 with (fail);have o0:=zal (w0:=u4) (show b<u4.heap.size by have:=HB.out.size;omega);have o1:=zal (w0:=u4) (show w.heap.size<u4.heap.size by have:=HB.out.size;omega);refine zad u4.heap.size u4 (Below.refl _ _) OJ OJ ?_
 repeat (go_big_quiet_step (first|fail))
 refine wpQuiet_nil ?_;rintro _ ⟨X,rfl⟩;replace HB:=btr HB (zaa u4.heap.size u4 X);clear o0 o1
 (try clear t0 t1 t2 t3 t4 t5 t6 t7 t8 t9 t10)
 generalize over u4.heap.size u4 X=u6 at *;obtain⟨t0,t1,t2,t3,t4,t5,t6,t7,t8,t9,t10⟩:=HD.out _ HB.out
 (try rw[seu])
 go_upto_region 4 with (fail);have o0:=zal (w0:=u6) (show b<u6.heap.size by have:=HB.out.size;omega);have o1:=zal (w0:=u6) (show w.heap.size<u6.heap.size by have:=HB.out.size;omega);refine zad u6.heap.size u6 (Below.refl _ _) OJ OJ ?_
 repeat (go_big_quiet_step (first|fail))
 refine wpQuiet_nil ?_;rintro _ ⟨X,rfl⟩;replace HB:=btr HB (zaa u6.heap.size u6 X);clear o0 o1
 (try clear t0 t1 t2 t3 t4 t5 t6 t7 t8 t9 t10)
 generalize over u6.heap.size u6 X=u8 at *;obtain⟨t0,t1,t2,t3,t4,t5,t6,t7,t8,t9,t10⟩:=HD.out _ HB.out
 (try rw[sev])
 go_upto_region 6 with (fail);go_upto_region 7 with (fail);have o0:=zal (w0:=u8) (show b<u8.heap.size by have:=HB.out.size;omega);have o1:=zal (w0:=u8) (show bh<u8.heap.size by have:=HB.out.size;omega);refine zad u8.heap.size u8 (Below.refl _ _) OJ OJ ?_;simp only[List.append_eq,List.cons_append,List.nil_append]
 repeat (go_big_quiet_step (first|fail))
 refine wpQuiet_nil ?_;rintro _ ⟨X,rfl⟩;replace HB:=btr HB (zaa u8.heap.size u8 X);clear o0 o1
 (try clear t0 t1 t2 t3 t4 t5 t6 t7 t8 t9 t10)
 generalize over u8.heap.size u8 X=u11 at *;obtain⟨t0,t1,t2,t3,t4,t5,t6,t7,t8,t9,t10⟩:=HD.out _ HB.out;go_wp2;go_ret;exact⟨by rw[HE.out];rfl,B0.out.trans (HB.out.mono B0.out.size)⟩
theorem l04Clut_any (t:DTerrain) (p:DPoint) (T:TerrOk t) (hp:inT t p) (v3 v4:Value) (b off:Nat) (w:World) (r4:Rd w w (zai t.clutter) v4) (c0:w.cell? ⟨b,off,none⟩=some (I t.step)) (c1:w.cell? ⟨b,off+1,none⟩=some (I t.width)) (c2:w.cell? ⟨b,off+2,none⟩=some (I t.height)) (c3:w.cell? ⟨b,off+3,none⟩=some (v3)) (c4:w.cell? ⟨b,off+4,none⟩=some (v4)) :
  Calls Tryz.prog 181 #[.pointer (some ⟨b,off,none⟩),.agg #[I p.x,I p.y]] w fun e w'=>e=.returned (I (cAt t p))∧IJ w w w':=by
 have hbp:b<w.heap.size:=zbh c0;have s0_:=T.s0;have s1_:=T.s1;have w0_:=T.w0;have w1_:=T.w1;have h0_:=T.h0;have h1_:=T.h1;have hlc:=T.lc;have hpt:=zc3 T hp;unfold ptB at hpt;obtain⟨⟨px0,px1⟩,py0,py1⟩:=hpt;have cx:=cNear_bd T.s0 hp.1.1 hp.1.2;have cy:=cNear_bd T.s0 hp.2.1 hp.2.2;have g1:=ze4 (i:=zdt t.step p.x) (k:=zdt t.step p.y) (w:=t.width) (h:=t.height) cx.1 O cy.1 O w1_ h1_;have EX:Hid (zdt t.step p.x=(2*p.x+t.step) / (2*t.step)):=rfl;have EY:Hid (zdt t.step p.y=(2*p.y+t.step) / (2*t.step)):=rfl;have HE0:Hid (cAt t p=gi t.clutter (zdt t.step p.y*t.width+zdt t.step p.x).toNat):=rfl;generalize zdt t.step p.x=cx_ at *;generalize zdt t.step p.y=cy_ at *;obtain⟨n,en⟩:=Int.eq_ofNat_of_zero_le g1.2.2.1;have HE:Hid (cAt t p=gi t.clutter n):=by show _=_;rw[HE0.out,en];rfl
 have hn:n<t.clutter.length:=O
 obtain⟨a4,cc4,e4,_,_,_⟩:=r4.ints;subst e4;obtain⟨bh,oh,ea,hbl,hat⟩:=r4.intAt O;subst ea;have cl:=hat n hn;have i1:(0:Int)≤(n:Int):=O
 have i2:(n:Int)<(t.clutter.length:Int):=O
 obtain⟨gy0,gy1,gn0,gn1⟩:=g1;generalize hgv:gi t.clutter n=gv at *;clear hat HE0 r4;obtain⟨W0,hW0,b0_,z0,k0⟩:=zax w #[I p.x,I p.y] 66;have HW0:=J hW0;have B0:=J b0_;have HD:=J (fun (W:World) (hW:IJ W0 W0 W)=>bx2 k0 hW <| aI ((bat hW b _ O).trans ((bat b0_ b _ O).trans c0)) <| aI ((bat hW b _ O).trans ((bat b0_ b _ O).trans c1)) <| aI ((bat hW b _ O).trans ((bat b0_ b _ O).trans c2)) <| aI ((bat hW b _ O).trans ((bat b0_ b _ O).trans c3)) <| aI ((bat hW b _ O).trans ((bat b0_ b _ O).trans c4)) <| ((bat hW bh _ O).trans ((bat b0_ bh _ O).trans cl)));have HB:Hid (IJ W0 W0 W0):=Below.refl _ _;clear k0 hW0 b0_;clear c0 c1 c2 c3 c4;go_enter Tryz.func181,Tryz.ntmps181;go_upto_region 1 with (fail);rw[HW0.out];obtain⟨t0,t1,t2,t3,t4,t5,t6,t7⟩:=HD.out _ HB.out;go_upto_region 1 with (fail);have o0:=zal (w0:=W0) (show b<W0.heap.size by have:=HB.out.size;omega);have o1:=zal (w0:=W0) (show w.heap.size<W0.heap.size by have:=HB.out.size;omega);refine zad W0.heap.size W0 (Below.refl _ _) OJ OJ ?_
 repeat (go_big_quiet_step (first|fail))
 refine wpQuiet_nil ?_;rintro _ ⟨X,rfl⟩;replace HB:=btr HB (zaa W0.heap.size W0 X);clear o0 o1
 (try clear t0 t1 t2 t3 t4 t5 t6 t7)
 generalize over W0.heap.size W0 X=u2 at *;obtain⟨t0,t1,t2,t3,t4,t5,t6,t7⟩:=HD.out _ HB.out
 (try rw[← EX.out])
 go_upto_region 2 with (fail);have o0:=zal (w0:=u2) (show b<u2.heap.size by have:=HB.out.size;omega);have o1:=zal (w0:=u2) (show w.heap.size<u2.heap.size by have:=HB.out.size;omega);refine zad u2.heap.size u2 (Below.refl _ _) OJ OJ ?_
 repeat (go_big_quiet_step (first|fail))
 refine wpQuiet_nil ?_;rintro _ ⟨X,rfl⟩;replace HB:=btr HB (zaa u2.heap.size u2 X);clear o0 o1
 (try clear t0 t1 t2 t3 t4 t5 t6 t7)
 generalize over u2.heap.size u2 X=u4 at *;obtain⟨t0,t1,t2,t3,t4,t5,t6,t7⟩:=HD.out _ HB.out
 (try rw[← EY.out])
 go_upto_region 3 with (fail);have o0:=zal (w0:=u4) (show b<u4.heap.size by have:=HB.out.size;omega);have o1:=zal (w0:=u4) (show bh<u4.heap.size by have:=HB.out.size;omega);refine zad u4.heap.size u4 (Below.refl _ _) OJ OJ ?_
 repeat (go_big_quiet_step (first|fail))
 refine wpQuiet_nil ?_;rintro _ ⟨X,rfl⟩;replace HB:=btr HB (zaa u4.heap.size u4 X);clear o0 o1
 (try clear t0 t1 t2 t3 t4 t5 t6 t7)
 generalize over u4.heap.size u4 X=u6 at *;obtain⟨t0,t1,t2,t3,t4,t5,t6,t7⟩:=HD.out _ HB.out;go_wp2;go_ret;exact⟨by rw[HE.out];rfl,B0.out.trans (HB.out.mono B0.out.size)⟩
theorem zfg (t:DTerrain) (q:DEnd) (T:TerrOk t) (hp:inT t q.place) (hq:endP q) (v3 v4:Value) (b off:Nat) (w:World) (r3:Rd w w (zai t.heights) v3) (c0:w.cell? ⟨b,off,none⟩=some (I t.step)) (c1:w.cell? ⟨b,off+1,none⟩=some (I t.width)) (c2:w.cell? ⟨b,off+2,none⟩=some (I t.height)) (c3:w.cell? ⟨b,off+3,none⟩=some (v3)) (c4:w.cell? ⟨b,off+4,none⟩=some (v4)) :
  Calls Tryz.prog 177 #[.pointer (some ⟨b,off,none⟩),.agg #[I q.place.x,I q.place.y,I q.above]] w fun e w'=>e=.returned (I (zcr t q))∧IJ w w w':=by
 have HE:Hid (zcr t q=hAt t q.place+q.above):=rfl;have hb:=hAt_bd T hp;unfold endP at hq;have hbp:b<w.heap.size:=zbh c0;obtain⟨W0,hW0,b0_,z0,k0⟩:=zax w #[I q.place.x,I q.place.y,I q.above] 68;have HW0:=J hW0;have B0:=J b0_;have HD:=J (fun (W:World) (hW:IJ W0 W0 W)=>bx3 k0 hW <| aI ((bat hW b _ O).trans ((bat b0_ b _ O).trans c0)) <| aI ((bat hW b _ O).trans ((bat b0_ b _ O).trans c1)) <| aI ((bat hW b _ O).trans ((bat b0_ b _ O).trans c2)) <| aI ((bat hW b _ O).trans ((bat b0_ b _ O).trans c3)) <| ((bat hW b _ O).trans ((bat b0_ b _ O).trans c4)));have HB:Hid (IJ W0 W0 W0):=Below.refl _ _;clear k0 hW0 b0_;have CH:Hid (∀ W:World,IJ W0 W0 W→Calls Tryz.prog 220 #[.pointer (some ⟨b,off,none⟩),.agg #[I q.place.x,I q.place.y]] W fun e w'=>e=.returned (I (hAt t q.place))∧IJ W W w'):=fun  W hW=>by
   obtain⟨t0,t1,t2,t3,t4,t5,t6,t7⟩:=HD.out W hW;exact l04High_any t q.place T hp v3 v4 b off W ((r3.below (B0.out.trans (hW.mono B0.out.size))).mono (B0.out.trans (hW.mono B0.out.size)).size) t3 t4 t5 t6 t7
 clear c0 c1 c2 c3 c4;generalize hAt t q.place=ha at *;generalize zcr t q=hi at *;obtain⟨hb0,hb1⟩:=hb;obtain⟨hq0,hq1⟩:=hq;go_enter Tryz.func177,Tryz.ntmps177;go_upto_region 1 with (fail);rw[HW0.out];obtain⟨t0,t1,t2,t3,t4,t5,t6,t7⟩:=HD.out _ HB.out;go_upto_region 1 with (fail);have o0:=zal (w0:=W0) (show w.heap.size<W0.heap.size by have:=HB.out.size;omega);refine zad W0.heap.size W0 (Below.refl _ _) OJ OJ ?_
 repeat (go_big_quiet_step (first|(go_at_call 220;with_reducible exact zaj (Nat.le_refl _) (CH.out _ (HB.out.trans ((zaa _ _ _).mono HB.out.size))))))
 refine wpQuiet_nil ?_;rintro _ ⟨X,rfl⟩;replace HB:=btr HB (zaa W0.heap.size W0 X);clear o0
 (try clear t0 t1 t2 t3 t4 t5 t6 t7)
 generalize over W0.heap.size W0 X=u2 at *;obtain⟨t0,t1,t2,t3,t4,t5,t6,t7⟩:=HD.out _ HB.out;go_wp2;go_ret;exact⟨by rw[HE.out];rfl,B0.out.trans (HB.out.mono B0.out.size)⟩
set_option maxHeartbeats 4000000
set_option maxRecDepth 100000
theorem zd1 (P:Pf) (hn:P.hs.length≤1048576) (vh:Value) (w:World) (r:Rd w w (zai P.hs) vh) :
  Calls Tryz.prog 207 #[.agg #[I P.d,I P.f,I P.l,vh]] w fun e w'=>e=.returned (I P.n)∧IJ w w w':=by
 have HE:Hid (P.n=(P.hs.length:Int)-1):=rfl;generalize P.n=n at *;have hni:(P.hs.length:Int)≤1048576:=O
 obtain⟨av,cv,ev,_,_,_⟩:=r.ints;subst ev;obtain⟨W0,hW0,b0_,z0,k0⟩:=zax w #[I P.d,I P.f,I P.l,II av P.hs.length cv] 211;have HW0:=J hW0;have B0:=J b0_;have HD:=J (fun (W:World) (hW:IJ W0 W0 W)=>by4 k0 hW);have HB:Hid (IJ W0 W0 W0):=Below.refl _ _;clear k0 hW0 b0_;go_enter Tryz.func207,Tryz.ntmps207;go_upto_region 1 with (fail);rw[HW0.out];obtain⟨t0,t1,t2,t3⟩:=HD.out _ HB.out;go_wp2;go_ret;exact⟨by rw[HE.out];rfl,B0.out.trans (HB.out.mono B0.out.size)⟩
theorem zfh (P:Pf) (h:PfOk P) (vh:Value) (k:Nat) (hk:k<P.hs.length) (w:World) (r:Rd w w (zai P.hs) vh) :
  Calls Tryz.prog 244 #[.agg #[I P.d,I P.f,I P.l,vh],I (k:Int)] w fun e w'=>e=.returned (I (offP P.d P.n k))∧IJ w w w':=by
 have HE0:Hid (offP P.d P.n k=if 2*(k:Int)≤P.n then rdiv (P.d*(k:Int)) P.n else P.d-rdiv (P.d*(P.n-(k:Int))) P.n):=rfl;have CL0:Hid (∀ W:World,Rd W W (zai P.hs) vh→Calls Tryz.prog 207 #[.agg #[I P.d,I P.f,I P.l,vh]] W fun e w'=>e=.returned (I P.n)∧IJ W W w'):=fun W hr=>zd1 P (by have:=h.n1;omega) vh W hr
 generalize offP P.d P.n k=OF at *;have n0_:=h.n0;have n1_:=h.n1;have d0_:=h.d0;have d1_:=h.d1;have hn:(P.hs.length:Int)-1=P.n:=rfl;have hli:(P.hs.length:Int)≤65:=O
 generalize P.n=n at *;have ki:(k:Int)≤n:=O
 have ki0:(0:Int)≤(k:Int):=O
 have nb0:1≤n:=O
 have nb1:n≤64:=O
 have mm:=mulP (a:=P.d) (b:=(k:Int)) 283000 64 O O ki0 O;have mn:=mulP (a:=P.d) (b:=n-(k:Int)) 283000 64 O O O O;obtain⟨mm0,mm1⟩:=mm;obtain⟨mn0,mn1⟩:=mn;have rb1:=ze2 (a:=P.d*(k:Int)) (b:=n) (m:=P.d) nb0 mm0 (Int.mul_le_mul_of_nonneg_left ki O);have rb2:=ze2 (a:=P.d*(n-(k:Int))) (b:=n) (m:=P.d) nb0 mn0 (Int.mul_le_mul_of_nonneg_left O O);obtain⟨rb10,rb11⟩:=rb1;obtain⟨rb20,rb21⟩:=rb2;obtain⟨W0,hW0,b0_,z0,k0⟩:=zax w #[I P.d,I P.f,I P.l,vh] 211;have HW0:=J hW0;have B0:=J b0_;have HD:=J (fun (W:World) (hW:IJ W0 W0 W)=>by4 k0 hW);have HB:Hid (IJ W0 W0 W0):=Below.refl _ _;clear k0 hW0 b0_;have CL:Hid (∀ W:World,IJ W0 W0 W→Calls Tryz.prog 207 #[.agg #[I P.d,I P.f,I P.l,vh]] W fun e w'=>e=.returned (I n)∧IJ W W w'):=fun  W hW=>CL0.out W (zb4 r B0.out hW)
 have CD1:Hid (∀ W:World,IJ W0 W0 W→Calls Tryz.prog 201 #[I (P.d*(k:Int)),I n] W fun e w'=>e=.returned (I (rdiv (P.d*(k:Int)) n))∧IJ W W w'):=fun  W hW=>zbu _ _ O O O O W
 have CD2:Hid (∀ W:World,IJ W0 W0 W→Calls Tryz.prog 201 #[I (P.d*(n-(k:Int))),I n] W fun e w'=>e=.returned (I (rdiv (P.d*(n-(k:Int))) n))∧IJ W W w'):=fun  W hW=>zbu _ _ O O O O W
 generalize rdiv (P.d*(k:Int)) n=q1 at *;generalize rdiv (P.d*(n-(k:Int))) n=q2 at *
 by_cases hc:2*(k:Int)≤n
 ·have HE:Hid (OF=q1):=by show _=_;rw[HE0.out,if_pos hc]
  go_enter Tryz.func244,Tryz.ntmps244;go_upto_region 1 with (fail);rw[HW0.out];obtain⟨t0,t1,t2,t3⟩:=HD.out _ HB.out;go_wp2_with ((first|(go_at_call 207;with_reducible refine (CL.out _ HB.out).mono ?_)|(go_at_call 201;with_reducible refine (CD1.out _ HB.out).mono ?_));rintro e v1 ⟨rfl,hb_⟩;(try clear t0 t1 t2 t3);replace HB:=btr HB hb_;clear hb_;obtain⟨t0,t1,t2,t3⟩:=HD.out _ HB.out);go_ret;exact⟨by rw[HE.out];rfl,B0.out.trans (HB.out.mono B0.out.size)⟩
 ·have HE:Hid (OF=P.d-q2):=by show _=_;rw[HE0.out,if_neg hc]
  go_enter Tryz.func244,Tryz.ntmps244;go_upto_region 1 with (fail);rw[HW0.out];obtain⟨t0,t1,t2,t3⟩:=HD.out _ HB.out;go_upto_region 4 with (first|(go_at_call 207;with_reducible refine (CL.out _ HB.out).mono ?_;rintro e v1 ⟨rfl,hb_⟩;(try clear t0 t1 t2 t3);replace HB:=btr HB hb_;clear hb_;obtain⟨t0,t1,t2,t3⟩:=HD.out _ HB.out));have o0:=zal (w0:=v1) (show w.heap.size<v1.heap.size by have:=HB.out.size;omega);refine zad v1.heap.size v1 (Below.refl _ _) OJ OJ ?_
  repeat (go_big_quiet_step (first|(go_at_call 201;with_reducible exact zaj (Nat.le_refl _) (CD2.out _ (HB.out.trans ((zaa _ _ _).mono HB.out.size))))))
  refine wpQuiet_nil ?_;rintro _ ⟨X,rfl⟩;replace HB:=btr HB (zaa v1.heap.size v1 X);clear o0
  (try clear t0 t1 t2 t3)
  generalize over v1.heap.size v1 X=u2 at *;obtain⟨t0,t1,t2,t3⟩:=HD.out _ HB.out;go_wp2;go_ret;exact⟨by rw[HE.out];rfl,B0.out.trans (HB.out.mono B0.out.size)⟩
theorem zdm (P:Pf) (h:PfOk P) (vh:Value) (b off:Nat) (k:Nat) (hk:k<P.hs.length) (w:World) (r:Rd w w (zai P.hs) vh) (c0:w.cell? ⟨b,off,none⟩=some (I P.d)) (c1:w.cell? ⟨b,off+1,none⟩=some (I P.f)) (c2:w.cell? ⟨b,off+2,none⟩=some (I P.l)) (c3:w.cell? ⟨b,off+3,none⟩=some (vh)) :
  Calls Tryz.prog 267 #[.pointer (some ⟨b,off,none⟩),I (k:Int)] w fun e w'=>e=.returned (I (offP P.d P.n k))∧IJ w w w':=by
 have hbp:b<w.heap.size:=zbh c0;have HE0:Hid (offP P.d P.n k=if 2*(k:Int)≤P.n then rdiv (P.d*(k:Int)) P.n else P.d-rdiv (P.d*(P.n-(k:Int))) P.n):=rfl;generalize offP P.d P.n k=OF at *;have n0_:=h.n0;have n1_:=h.n1;have d0_:=h.d0;have d1_:=h.d1;have hn:(P.hs.length:Int)-1=P.n:=rfl;have hli:(P.hs.length:Int)≤65:=O
 generalize P.n=n at *;have ki:(k:Int)≤n:=O
 have ki0:(0:Int)≤(k:Int):=O
 have nb0:1≤n:=O
 have nb1:n≤64:=O
 have mm:=mulP (a:=P.d) (b:=(k:Int)) 283000 64 O O ki0 O;have mn:=mulP (a:=P.d) (b:=n-(k:Int)) 283000 64 O O O O;obtain⟨mm0,mm1⟩:=mm;obtain⟨mn0,mn1⟩:=mn;have rb1:=ze2 (a:=P.d*(k:Int)) (b:=n) (m:=P.d) nb0 mm0 (Int.mul_le_mul_of_nonneg_left ki O);have rb2:=ze2 (a:=P.d*(n-(k:Int))) (b:=n) (m:=P.d) nb0 mn0 (Int.mul_le_mul_of_nonneg_left O O);obtain⟨rb10,rb11⟩:=rb1;obtain⟨rb20,rb21⟩:=rb2;obtain⟨av,cv,ev,_,_,_⟩:=r.ints;subst ev;have B0:Hid (IJ w w w):=Below.refl _ _;have HD:Hid (∀ W:World,IJ w w W→(W.cell? ⟨b,off,none⟩=some (I P.d)∧W.cell? ⟨b,off+1,none⟩=some (I P.f)∧W.cell? ⟨b,off+2,none⟩=some (I P.l)∧W.cell? ⟨b,off+3,none⟩=some (II av P.hs.length cv))):=fun W hW=>⟨(bat hW b _ O).trans c0,(bat hW b _ O).trans c1,(bat hW b _ O).trans c2,(bat hW b _ O).trans c3⟩
 have HB:Hid (IJ w w w):=Below.refl _ _;have CD1:Hid (∀ W:World,IJ w w W→Calls Tryz.prog 222 #[I (P.d*(k:Int)),I n] W fun e w'=>e=.returned (I (rdiv (P.d*(k:Int)) n))∧IJ W W w'):=fun  W hW=>zam (zbn _ _ O O O O W)
 have CD2:Hid (∀ W:World,IJ w w W→Calls Tryz.prog 222 #[I (P.d*(n-(k:Int))),I n] W fun e w'=>e=.returned (I (rdiv (P.d*(n-(k:Int))) n))∧IJ W W w'):=fun  W hW=>zam (zbn _ _ O O O O W)
 clear c0 c1 c2 c3;generalize rdiv (P.d*(k:Int)) n=q1 at *;generalize rdiv (P.d*(n-(k:Int))) n=q2 at *
 by_cases hc:2*(k:Int)≤n
 ·have HE:Hid (OF=q1):=by show _=_;rw[HE0.out,if_pos hc]
  go_enter Tryz.func267,Tryz.ntmps267;obtain⟨t0,t1,t2,t3⟩:=HD.out _ HB.out;go_wp2_with (first|(go_at_call 222;with_reducible refine (CD1.out _ HB.out).mono ?_;rintro e v1 ⟨rfl,hb_⟩;(try clear t0 t1 t2 t3);replace HB:=btr HB hb_;clear hb_;obtain⟨t0,t1,t2,t3⟩:=HD.out _ HB.out));go_ret;exact⟨by rw[HE.out];rfl,B0.out.trans (HB.out.mono B0.out.size)⟩
 ·have HE:Hid (OF=P.d-q2):=by show _=_;rw[HE0.out,if_neg hc]
  go_enter Tryz.func267,Tryz.ntmps267;obtain⟨t0,t1,t2,t3⟩:=HD.out _ HB.out;go_upto_region 3 with (fail);have o0:=zal (w0:=w) (show b<w.heap.size by have:=HB.out.size;omega);refine zad w.heap.size w (Below.refl _ _) OJ OJ ?_
  repeat (go_big_quiet_step (first|(go_at_call 222;with_reducible exact zaj (Nat.le_refl _) (CD2.out _ (HB.out.trans ((zaa _ _ _).mono HB.out.size))))))
  refine wpQuiet_nil ?_;rintro _ ⟨X,rfl⟩;replace HB:=btr HB (zaa w.heap.size w X);clear o0
  (try clear t0 t1 t2 t3)
  generalize over w.heap.size w X=u2 at *;obtain⟨t0,t1,t2,t3⟩:=HD.out _ HB.out;go_wp2;go_ret;exact⟨by rw[HE.out];rfl,B0.out.trans (HB.out.mono B0.out.size)⟩
theorem iLine_any (P:Pf) (h:PfOk P) (vh:Value) (k:Nat) (hk:k<P.hs.length) (w:World) (r:Rd w w (zai P.hs) vh) :
  Calls Tryz.prog 272 #[.agg #[I P.d,I P.f,I P.l,vh],I (k:Int)] w fun e w'=>e=.returned (I (lineP P.f P.l P.n k))∧IJ w w w':=by
 have HE:Hid (lineP P.f P.l P.n k=rdiv (P.f*(P.n-(k:Int))+P.l*(k:Int)) P.n):=rfl;have CL0:Hid (∀ W:World,Rd W W (zai P.hs) vh→Calls Tryz.prog 207 #[.agg #[I P.d,I P.f,I P.l,vh]] W fun e w'=>e=.returned (I P.n)∧IJ W W w'):=fun W hr=>zd1 P (by have:=h.n1;omega) vh W hr
 generalize lineP P.f P.l P.n k=LN at *;have n0_:=h.n0;have n1_:=h.n1;have d0_:=h.d0;have d1_:=h.d1;have hn:(P.hs.length:Int)-1=P.n:=rfl;have hli:(P.hs.length:Int)≤65:=O
 generalize P.n=n at *;have ki:(k:Int)≤n:=O
 have ki0:(0:Int)≤(k:Int):=O
 have nb0:1≤n:=O
 have nb1:n≤64:=O
 have f0_:=h.f0;have f1_:=h.f1;have l0_:=h.l0;have l1_:=h.l1;obtain⟨ma0,ma1⟩:=mulP (a:=P.f) (b:=n-(k:Int)) 180000 64 f0_ f1_ O O;obtain⟨mb0,mb1⟩:=mulP (a:=P.l) (b:=(k:Int)) 180000 64 l0_ l1_ O O;obtain⟨W0,hW0,b0_,z0,k0⟩:=zax w #[I P.d,I P.f,I P.l,vh] 211;have HW0:=J hW0;have B0:=J b0_;have HD:=J (fun (W:World) (hW:IJ W0 W0 W)=>by4 k0 hW);have HB:Hid (IJ W0 W0 W0):=Below.refl _ _;clear k0 hW0 b0_;have CL:Hid (∀ W:World,IJ W0 W0 W→Calls Tryz.prog 207 #[.agg #[I P.d,I P.f,I P.l,vh]] W fun e w'=>e=.returned (I n)∧IJ W W w'):=fun  W hW=>CL0.out W (zb4 r B0.out hW)
 have CD:Hid (∀ W:World,IJ W0 W0 W→Calls Tryz.prog 201 #[I (P.f*(n-(k:Int))+P.l*(k:Int)),I n] W fun e w'=>e=.returned (I (rdiv (P.f*(n-(k:Int))+P.l*(k:Int)) n))∧IJ W W w'):=fun  W hW=>zbu _ _ O O O O W
 go_enter Tryz.func272,Tryz.ntmps272;go_upto_region 1 with (fail);rw[HW0.out];obtain⟨t0,t1,t2,t3⟩:=HD.out _ HB.out;go_wp2_with ((first|(go_at_call 207;with_reducible refine (CL.out _ HB.out).mono ?_)|(go_at_call 201;with_reducible refine (CD.out _ HB.out).mono ?_));rintro e v1 ⟨rfl,hb_⟩;(try clear t0 t1 t2 t3);replace HB:=btr HB hb_;clear hb_;obtain⟨t0,t1,t2,t3⟩:=HD.out _ HB.out);go_ret;exact⟨by rw[HE.out];rfl,B0.out.trans (HB.out.mono B0.out.size)⟩
theorem l05Line_any (P:Pf) (h:PfOk P) (vh:Value) (b off:Nat) (k:Nat) (hk:k<P.hs.length) (w:World) (r:Rd w w (zai P.hs) vh) (c0:w.cell? ⟨b,off,none⟩=some (I P.d)) (c1:w.cell? ⟨b,off+1,none⟩=some (I P.f)) (c2:w.cell? ⟨b,off+2,none⟩=some (I P.l)) (c3:w.cell? ⟨b,off+3,none⟩=some (vh)) :
  Calls Tryz.prog 276 #[.pointer (some ⟨b,off,none⟩),I (k:Int)] w fun e w'=>e=.returned (I (lineP P.f P.l P.n k))∧IJ w w w':=by
 have hbp:b<w.heap.size:=zbh c0;have HE:Hid (lineP P.f P.l P.n k=rdiv (P.f*(P.n-(k:Int))+P.l*(k:Int)) P.n):=rfl;generalize lineP P.f P.l P.n k=LN at *;have n0_:=h.n0;have n1_:=h.n1;have d0_:=h.d0;have d1_:=h.d1;have hn:(P.hs.length:Int)-1=P.n:=rfl;have hli:(P.hs.length:Int)≤65:=O
 generalize P.n=n at *;have ki:(k:Int)≤n:=O
 have ki0:(0:Int)≤(k:Int):=O
 have nb0:1≤n:=O
 have nb1:n≤64:=O
 have f0_:=h.f0;have f1_:=h.f1;have l0_:=h.l0;have l1_:=h.l1;obtain⟨ma0,ma1⟩:=mulP (a:=P.f) (b:=n-(k:Int)) 180000 64 f0_ f1_ O O;obtain⟨mb0,mb1⟩:=mulP (a:=P.l) (b:=(k:Int)) 180000 64 l0_ l1_ O O;obtain⟨av,cv,ev,_,_,_⟩:=r.ints;subst ev;have B0:Hid (IJ w w w):=Below.refl _ _;have HD:Hid (∀ W:World,IJ w w W→(W.cell? ⟨b,off,none⟩=some (I P.d)∧W.cell? ⟨b,off+1,none⟩=some (I P.f)∧W.cell? ⟨b,off+2,none⟩=some (I P.l)∧W.cell? ⟨b,off+3,none⟩=some (II av P.hs.length cv))):=fun W hW=>⟨(bat hW b _ O).trans c0,(bat hW b _ O).trans c1,(bat hW b _ O).trans c2,(bat hW b _ O).trans c3⟩
 have HB:Hid (IJ w w w):=Below.refl _ _;have CD:Hid (∀ W:World,IJ w w W→Calls Tryz.prog 222 #[I (P.f*(n-(k:Int))+P.l*(k:Int)),I n] W fun e w'=>e=.returned (I (rdiv (P.f*(n-(k:Int))+P.l*(k:Int)) n))∧IJ W W w'):=fun  W hW=>zam (zbn _ _ O O O O W)
 clear c0 c1 c2 c3;go_enter Tryz.func276,Tryz.ntmps276;obtain⟨t0,t1,t2,t3⟩:=HD.out _ HB.out;go_upto_region 2 with (fail);have o0:=zal (w0:=w) (show b<w.heap.size by have:=HB.out.size;omega);refine zad w.heap.size w (Below.refl _ _) OJ OJ ?_
 repeat (go_big_quiet_step (first|(go_at_call 222;with_reducible exact zaj (Nat.le_refl _) (CD.out _ (HB.out.trans ((zaa _ _ _).mono HB.out.size))))))
 refine wpQuiet_nil ?_;rintro _ ⟨X,rfl⟩;replace HB:=btr HB (zaa w.heap.size w X);clear o0
 (try clear t0 t1 t2 t3)
 generalize over w.heap.size w X=u2 at *;obtain⟨t0,t1,t2,t3⟩:=HD.out _ HB.out;go_wp2;go_ret;exact⟨by rw[HE.out];rfl,B0.out.trans (HB.out.mono B0.out.size)⟩
theorem iBulge_any (x y:Int) (x0:0≤x) (x1:x≤283000) (y0:0≤y) (y1:y≤283000) (w:World) :
  Calls Tryz.prog 282 #[I x,I y] w fun e w'=>e=.returned (I (bulI x y))∧IJ w w w':=by
 have HE:Hid (bulI x y=rdiv (10*x*y) 16989334):=rfl;obtain⟨⟨m0,m1⟩,_⟩:=bulI_bd x0 x1 y0 y1;generalize bulI x y=BV at *;have B0:Hid (IJ w w w):=Below.refl _ _;have HB:Hid (IJ w w w):=Below.refl _ _;have CX:Hid (∀ W:World,IJ w w W→Calls Tryz.prog 54 #[I x,I 0,I 283000] W fun e w'=>e=.returned (.bool true)∧IJ W W w'):=fun  W hW=>by
   have hh:=zao x 0 283000 W;rw[zat.2 ⟨x0,x1⟩] at hh;exact zam hh
 have CY:Hid (∀ W:World,IJ w w W→Calls Tryz.prog 54 #[I y,I 0,I 283000] W fun e w'=>e=.returned (.bool true)∧IJ W W w'):=fun  W hW=>by
   have hh:=zao y 0 283000 W;rw[zat.2 ⟨y0,y1⟩] at hh;exact zam hh
 have CD:Hid (∀ W:World,IJ w w W→Calls Tryz.prog 201 #[I (10*x*y),I 16989334] W fun e w'=>e=.returned (I (rdiv (10*x*y) 16989334))∧IJ W W w'):=fun  W hW=>zbu _ _ O O O O W
 go_enter Tryz.func282,Tryz.ntmps282;skip;go_wp2_with ((first|(go_at_call 54;with_reducible refine (CX.out _ HB.out).mono ?_)|(go_at_call 54;with_reducible refine (CY.out _ HB.out).mono ?_)|(go_at_call 201;with_reducible refine (CD.out _ HB.out).mono ?_));rintro e v1 ⟨rfl,hb_⟩;replace HB:=btr HB hb_;clear hb_;skip);go_ret;exact⟨by rw[HE.out];rfl,B0.out.trans (HB.out.mono B0.out.size)⟩
theorem l05Bulge_any (x y:Int) (x0:0≤x) (x1:x≤283000) (y0:0≤y) (y1:y≤283000) (w:World) :
  Calls Tryz.prog 277 #[I x,I y] w fun e w'=>e=.returned (I (bulI x y))∧IJ w w w':=by
 have HE:Hid (bulI x y=rdiv (10*x*y) 16989334):=rfl;obtain⟨⟨m0,m1⟩,_⟩:=bulI_bd x0 x1 y0 y1;generalize bulI x y=BV at *;have B0:Hid (IJ w w w):=Below.refl _ _;have HB:Hid (IJ w w w):=Below.refl _ _;have CD:Hid (∀ W:World,IJ w w W→Calls Tryz.prog 222 #[I (10*x*y),I 16989334] W fun e w'=>e=.returned (I (rdiv (10*x*y) 16989334))∧IJ W W w'):=fun  W hW=>zam (zbn _ _ O O O O W)
 go_enter Tryz.func277,Tryz.ntmps277;skip;go_wp2_with (first|(go_at_call 222;with_reducible refine (CD.out _ HB.out).mono ?_;rintro e v1 ⟨rfl,hb_⟩;replace HB:=btr HB hb_;clear hb_;skip));go_ret;exact⟨by rw[HE.out];rfl,B0.out.trans (HB.out.mono B0.out.size)⟩
theorem iFresnel_any (f x y:Int) (f0:1≤f) (f1:f≤100000000) (x0:0≤x) (x1:x≤283000) (y0:0≤y) (y1:y≤283000) (w:World) :
  Calls Tryz.prog 274 #[I f,I x,I y] w fun e w'=>e=.returned (I (freI f x y))∧IJ w w w':=by
 obtain⟨⟨p0,p1⟩,⟨q0,q1⟩,⟨r0,r1⟩,hpos⟩:=freI_in f0 f1 x0 x1 y0 y1;have HE0:Hid (freI f x y=if x+y=0 then 0 else isq (29979246*x*y / (f*(x+y)))):=rfl;generalize freI f x y=FV at *;have B0:Hid (IJ w w w):=Below.refl _ _;have HB:Hid (IJ w w w):=Below.refl _ _;have CX:Hid (∀ W:World,IJ w w W→Calls Tryz.prog 54 #[I x,I 0,I 283000] W fun e w'=>e=.returned (.bool true)∧IJ W W w'):=fun  W hW=>by
   have hh:=zao x 0 283000 W;rw[zat.2 ⟨x0,x1⟩] at hh;exact zam hh
 have CY:Hid (∀ W:World,IJ w w W→Calls Tryz.prog 54 #[I y,I 0,I 283000] W fun e w'=>e=.returned (.bool true)∧IJ W W w'):=fun  W hW=>by
   have hh:=zao y 0 283000 W;rw[zat.2 ⟨y0,y1⟩] at hh;exact zam hh
 have CF:Hid (∀ W:World,IJ w w W→Calls Tryz.prog 53 #[I f] W fun e w'=>e=.returned (.bool true)∧IJ W W w'):=fun  W hW=>by
   have hh:=zcl f W;rw[zat.2 ⟨f0,f1⟩] at hh;exact zam hh
 by_cases hz:x+y=0
 ·have HE:Hid (FV=0):=by show _=_;rw[HE0.out,if_pos hz]
  go_enter Tryz.func274,Tryz.ntmps274;skip;go_wp2_with ((first|(go_at_call 54;with_reducible refine (CX.out _ HB.out).mono ?_)|(go_at_call 54;with_reducible refine (CY.out _ HB.out).mono ?_)|(go_at_call 53;with_reducible refine (CF.out _ HB.out).mono ?_));rintro e v1 ⟨rfl,hb_⟩;replace HB:=btr HB hb_;clear hb_;skip);go_ret;exact⟨by rw[HE.out];rfl,B0.out.trans (HB.out.mono B0.out.size)⟩
 have hp:=hpos hz;have HE:Hid (FV=isq (29979246*x*y / (f*(x+y)))):=by show _=_;rw[HE0.out,if_neg hz]
 have dv0:0≤29979246*x*y / (f*(x+y)):=Int.ediv_nonneg q0 O;have dv1:29979246*x*y / (f*(x+y))≤29979246*x*y:=Int.ediv_le_self _ q0;clear hpos HE0;have CR:Hid (∀ W:World,IJ w w W→Calls Tryz.prog 234 #[I (29979246*x*y / (f*(x+y)))] W fun e w'=>e=.returned (I (isq (29979246*x*y / (f*(x+y)))))∧IJ W W w'):=fun  W hW=>rootOf_any _ O O W
 go_enter Tryz.func274,Tryz.ntmps274;skip;go_wp2_with ((first|(go_at_call 54;with_reducible refine (CX.out _ HB.out).mono ?_)|(go_at_call 54;with_reducible refine (CY.out _ HB.out).mono ?_)|(go_at_call 53;with_reducible refine (CF.out _ HB.out).mono ?_)|(go_at_call 234;with_reducible refine (CR.out _ HB.out).mono ?_));rintro e v1 ⟨rfl,hb_⟩;replace HB:=btr HB hb_;clear hb_;skip);go_ret;exact⟨by rw[HE.out];rfl,B0.out.trans (HB.out.mono B0.out.size)⟩
theorem l05Fresnel_any (f x y:Int) (f0:1≤f) (f1:f≤100000000) (x0:0≤x) (x1:x≤283000) (y0:0≤y) (y1:y≤283000) (w:World) :
  Calls Tryz.prog 270 #[I f,I x,I y] w fun e w'=>e=.returned (I (freI f x y))∧IJ w w w':=by
 obtain⟨⟨p0,p1⟩,⟨q0,q1⟩,⟨r0,r1⟩,hpos⟩:=freI_in f0 f1 x0 x1 y0 y1;have HE0:Hid (freI f x y=if x+y=0 then 0 else isq (29979246*x*y / (f*(x+y)))):=rfl;generalize freI f x y=FV at *;have B0:Hid (IJ w w w):=Below.refl _ _;have HB:Hid (IJ w w w):=Below.refl _ _
 by_cases hz:x+y=0
 ·have HE:Hid (FV=0):=by show _=_;rw[HE0.out,if_pos hz]
  go_enter Tryz.func270,Tryz.ntmps270;skip;go_wp2;go_ret;exact⟨by rw[HE.out];rfl,B0.out.trans (HB.out.mono B0.out.size)⟩
 have hp:=hpos hz;have HE:Hid (FV=isq (29979246*x*y / (f*(x+y)))):=by show _=_;rw[HE0.out,if_neg hz]
 have dv0:0≤29979246*x*y / (f*(x+y)):=Int.ediv_nonneg q0 O;have dv1:29979246*x*y / (f*(x+y))≤29979246*x*y:=Int.ediv_le_self _ q0;clear hpos HE0;have CR:Hid (∀ W:World,IJ w w W→Calls Tryz.prog 246 #[I (29979246*x*y / (f*(x+y)))] W fun e w'=>e=.returned (I (isq (29979246*x*y / (f*(x+y)))))∧IJ W W w'):=fun  W hW=>zam (l01Root_any _ O W)
 go_enter Tryz.func270,Tryz.ntmps270;skip;go_wp2_with (first|(go_at_call 246;with_reducible refine (CR.out _ HB.out).mono ?_;rintro e v1 ⟨rfl,hb_⟩;replace HB:=btr HB hb_;clear hb_;skip));go_ret;exact⟨by rw[HE.out];rfl,B0.out.trans (HB.out.mono B0.out.size)⟩
theorem iGround_any (P:Pf) (h:PfOk P) (vh:Value) (k:Nat) (hk:k<P.hs.length) (w:World) (r:Rd w w (zai P.hs) vh) :
  Calls Tryz.prog 273 #[.agg #[I P.d,I P.f,I P.l,vh],I (k:Int)] w fun e w'=>e=.returned (I (gi P.hs k+bulI (offP P.d P.n k) (P.d-offP P.d P.n k)))∧IJ w w w':=by
 obtain⟨of0,of1,of2⟩:=off_ok h (i:=(k:Int)) O (by have:P.n=(P.hs.length:Int)-1:=rfl;omega);have d1_:=h.d1;have d0_:=h.d0;have n1_:=h.n1;obtain⟨av,cv,ev,_,_,_⟩:=r.ints;subst ev;obtain⟨bh,oh,ea,hbl,hat⟩:=r.intAt O;subst ea;have cl:=hat k hk;have hsb:=h.hs k;have i1:(0:Int)≤(k:Int):=O
 have i2:(k:Int)<(P.hs.length:Int):=O
 have hbu:=(bulI_bd (a:=offP P.d P.n k) (b:=P.d-offP P.d P.n k) of0 of2 O O).2;obtain⟨W0,hW0,b0_,z0,k0⟩:=zax w #[I P.d,I P.f,I P.l,II (some ⟨bh,oh,none⟩) P.hs.length cv] 211;have HW0:=J hW0;have B0:=J b0_;have HD:=J (fun (W:World) (hW:IJ W0 W0 W)=>bx4 k0 hW <| ((bat hW bh _ O).trans ((bat b0_ bh _ O).trans cl)));have HB:Hid (IJ W0 W0 W0):=Below.refl _ _;clear k0 hW0 b0_;have CO:Hid (∀ W:World,IJ W0 W0 W→Calls Tryz.prog 244 #[.agg #[I P.d,I P.f,I P.l,II (some ⟨bh,oh,none⟩) P.hs.length cv],I (k:Int)] W fun e w'=>e=.returned (I (offP P.d P.n k))∧IJ W W w'):=fun  W hW=>zfh P h _ k hk W (zb4 r B0.out hW)
 have CB:Hid (∀ W:World,IJ W0 W0 W→Calls Tryz.prog 282 #[I (offP P.d P.n k),I (P.d-offP P.d P.n k)] W fun e w'=>e=.returned (I (bulI (offP P.d P.n k) (P.d-offP P.d P.n k)))∧IJ W W w'):=fun  W hW=>iBulge_any _ _ of0 of2 O O W
 clear hat r cl;generalize bulI (offP P.d P.n k) (P.d-offP P.d P.n k)=BU at *;generalize offP P.d P.n k=OF at *;generalize gi P.hs k=HK at *;obtain⟨hb0,hb1⟩:=hbu;obtain⟨hs0,hs1⟩:=hsb;go_enter Tryz.func273,Tryz.ntmps273;go_upto_region 1 with (fail);rw[HW0.out];obtain⟨t0,t1,t2,t3,t4⟩:=HD.out _ HB.out;go_upto_region 2 with (first|(go_at_call 244;with_reducible refine (CO.out _ HB.out).mono ?_;rintro e v1 ⟨rfl,hb_⟩;(try clear t0 t1 t2 t3 t4);replace HB:=btr HB hb_;clear hb_;obtain⟨t0,t1,t2,t3,t4⟩:=HD.out _ HB.out));have o0:=zal (w0:=v1) (show w.heap.size<v1.heap.size by have:=HB.out.size;omega);have o1:=zal (w0:=v1) (show bh<v1.heap.size by have:=HB.out.size;omega);refine zad v1.heap.size v1 (Below.refl _ _) OJ OJ ?_
 repeat (go_big_quiet_step (first|(go_at_call 282;with_reducible exact zaj (Nat.le_refl _) (CB.out _ (HB.out.trans ((zaa _ _ _).mono HB.out.size))))))
 refine wpQuiet_nil ?_;rintro _ ⟨X,rfl⟩;replace HB:=btr HB (zaa v1.heap.size v1 X);clear o0 o1
 (try clear t0 t1 t2 t3 t4)
 generalize over v1.heap.size v1 X=u2 at *;obtain⟨t0,t1,t2,t3,t4⟩:=HD.out _ HB.out;go_wp2;go_ret;exact⟨rfl,B0.out.trans (HB.out.mono B0.out.size)⟩
theorem iClear_any (P:Pf) (h:PfOk P) (vh:Value) (k:Nat) (hk:k<P.hs.length) (w:World) (r:Rd w w (zai P.hs) vh) :
  Calls Tryz.prog 261 #[.agg #[I P.d,I P.f,I P.l,vh],I (k:Int)] w fun e w'=>e=.returned (I (clrP P k))∧IJ w w w':=by
 have HE:Hid (clrP P k=lineP P.f P.l P.n k-(gi P.hs k+bulI (offP P.d P.n k) (P.d-offP P.d P.n k))):=rfl;obtain⟨ln0,ln1⟩:=lineP_bd (f:=P.f) (l:=P.l) (n:=P.n) (i:=(k:Int)) h.f0 h.f1 h.l0 h.l1 (by have:=h.n0;have:P.n=(P.hs.length:Int)-1:=rfl;omega) O (by have:P.n=(P.hs.length:Int)-1:=rfl;omega);obtain⟨of0,of1,of2⟩:=off_ok h (i:=(k:Int)) O (by have:P.n=(P.hs.length:Int)-1:=rfl;omega);have d1_:=h.d1;have d0_:=h.d0;have n1_:=h.n1;obtain⟨bu0,bu1⟩:=(bulI_bd (a:=offP P.d P.n k) (b:=P.d-offP P.d P.n k) of0 of2 O O).2;obtain⟨hs0,hs1⟩:=h.hs k;obtain⟨W0,hW0,b0_,z0,k0⟩:=zax w #[I P.d,I P.f,I P.l,vh] 211;have HW0:=J hW0;have B0:=J b0_;have HD:=J (fun (W:World) (hW:IJ W0 W0 W)=>by4 k0 hW);have HB:Hid (IJ W0 W0 W0):=Below.refl _ _;clear k0 hW0 b0_;have CN:Hid (∀ W:World,IJ W0 W0 W→Calls Tryz.prog 272 #[.agg #[I P.d,I P.f,I P.l,vh],I (k:Int)] W fun e w'=>e=.returned (I (lineP P.f P.l P.n k))∧IJ W W w'):=fun  W hW=>iLine_any P h vh k hk W (zb4 r B0.out hW)
 have CG:Hid (∀ W:World,IJ W0 W0 W→Calls Tryz.prog 273 #[.agg #[I P.d,I P.f,I P.l,vh],I (k:Int)] W fun e w'=>e=.returned (I (gi P.hs k+bulI (offP P.d P.n k) (P.d-offP P.d P.n k)))∧IJ W W w'):=fun  W hW=>iGround_any P h vh k hk W (zb4 r B0.out hW)
 generalize lineP P.f P.l P.n k=LN at *;generalize bulI (offP P.d P.n k) (P.d-offP P.d P.n k)=BU at *;generalize gi P.hs k=HK at *;generalize clrP P k=CR at *;go_enter Tryz.func261,Tryz.ntmps261;go_upto_region 1 with (fail);rw[HW0.out];obtain⟨t0,t1,t2,t3⟩:=HD.out _ HB.out;go_upto_region 1 with (fail);have o0:=zal (w0:=W0) (show w.heap.size<W0.heap.size by have:=HB.out.size;omega);refine zad W0.heap.size W0 (Below.refl _ _) OJ OJ ?_
 repeat (go_big_quiet_step (first|(go_at_call 272;with_reducible exact zaj (Nat.le_refl _) (CN.out _ (HB.out.trans ((zaa _ _ _).mono HB.out.size))))|(go_at_call 273;with_reducible exact zaj (Nat.le_refl _) (CG.out _ (HB.out.trans ((zaa _ _ _).mono HB.out.size))))))
 refine wpQuiet_nil ?_;rintro _ ⟨X,rfl⟩;replace HB:=btr HB (zaa W0.heap.size W0 X);clear o0
 (try clear t0 t1 t2 t3)
 generalize over W0.heap.size W0 X=u2 at *;obtain⟨t0,t1,t2,t3⟩:=HD.out _ HB.out;go_wp2;go_ret;exact⟨by rw[HE.out];rfl,B0.out.trans (HB.out.mono B0.out.size)⟩
theorem iRadius_any (P:Pf) (h:PfOk P) (vh:Value) (f:Int) (f0:1≤f) (f1:f≤100000000) (k:Nat) (hk:k<P.hs.length) (w:World) (r:Rd w w (zai P.hs) vh) :
  Calls Tryz.prog 262 #[.agg #[I P.d,I P.f,I P.l,vh],I f,I (k:Int)] w fun e w'=>e=.returned (I (radP P f k))∧IJ w w w':=by
 have HE:Hid (radP P f k=freI f (offP P.d P.n k) (P.d-offP P.d P.n k)):=rfl;obtain⟨of0,of1,of2⟩:=off_ok h (i:=(k:Int)) O (by have:P.n=(P.hs.length:Int)-1:=rfl;omega);have d1_:=h.d1;have d0_:=h.d0;have n1_:=h.n1;obtain⟨W0,hW0,b0_,z0,k0⟩:=zax w #[I P.d,I P.f,I P.l,vh] 211;have HW0:=J hW0;have B0:=J b0_;have HD:=J (fun (W:World) (hW:IJ W0 W0 W)=>by4 k0 hW);have HB:Hid (IJ W0 W0 W0):=Below.refl _ _;clear k0 hW0 b0_;have CO:Hid (∀ W:World,IJ W0 W0 W→Calls Tryz.prog 244 #[.agg #[I P.d,I P.f,I P.l,vh],I (k:Int)] W fun e w'=>e=.returned (I (offP P.d P.n k))∧IJ W W w'):=fun  W hW=>zfh P h vh k hk W (zb4 r B0.out hW)
 have CF:Hid (∀ W:World,IJ W0 W0 W→Calls Tryz.prog 274 #[I f,I (offP P.d P.n k),I (P.d-offP P.d P.n k)] W fun e w'=>e=.returned (I (freI f (offP P.d P.n k) (P.d-offP P.d P.n k)))∧IJ W W w'):=fun  W hW=>iFresnel_any _ _ _ f0 f1 of0 of2 O O W
 generalize freI f (offP P.d P.n k) (P.d-offP P.d P.n k)=FR at *;generalize offP P.d P.n k=OF at *;go_enter Tryz.func262,Tryz.ntmps262;go_upto_region 1 with (fail);rw[HW0.out];obtain⟨t0,t1,t2,t3⟩:=HD.out _ HB.out;go_wp2_with ((first|(go_at_call 244;with_reducible refine (CO.out _ HB.out).mono ?_)|(go_at_call 274;with_reducible refine (CF.out _ HB.out).mono ?_));rintro e v1 ⟨rfl,hb_⟩;(try clear t0 t1 t2 t3);replace HB:=btr HB hb_;clear hb_;obtain⟨t0,t1,t2,t3⟩:=HD.out _ HB.out);go_ret;exact⟨by rw[HE.out];rfl,B0.out.trans (HB.out.mono B0.out.size)⟩
theorem l05Clear_any (P:Pf) (h:PfOk P) (vh:Value) (b off:Nat) (k:Nat) (hk:k<P.hs.length) (w:World) (r:Rd w w (zai P.hs) vh) (c0:w.cell? ⟨b,off,none⟩=some (I P.d)) (c1:w.cell? ⟨b,off+1,none⟩=some (I P.f)) (c2:w.cell? ⟨b,off+2,none⟩=some (I P.l)) (c3:w.cell? ⟨b,off+3,none⟩=some (vh)) :
  Calls Tryz.prog 269 #[.pointer (some ⟨b,off,none⟩),I (k:Int)] w fun e w'=>e=.returned (I (clrP P k))∧IJ w w w':=by
 have hbp:b<w.heap.size:=zbh c0;have HE:Hid (clrP P k=lineP P.f P.l P.n k-gi P.hs k-bulI (offP P.d P.n k) (P.d-offP P.d P.n k)):=by show lineP P.f P.l P.n k-(gi P.hs k+bulI (offP P.d P.n k) (P.d-offP P.d P.n k))=_;omega
 obtain⟨ln0,ln1⟩:=lineP_bd (f:=P.f) (l:=P.l) (n:=P.n) (i:=(k:Int)) h.f0 h.f1 h.l0 h.l1 (by have:=h.n0;have:P.n=(P.hs.length:Int)-1:=rfl;omega) O (by have:P.n=(P.hs.length:Int)-1:=rfl;omega);obtain⟨of0,of1,of2⟩:=off_ok h (i:=(k:Int)) O (by have:P.n=(P.hs.length:Int)-1:=rfl;omega);have d1_:=h.d1;have d0_:=h.d0;have n1_:=h.n1;obtain⟨bu0,bu1⟩:=(bulI_bd (a:=offP P.d P.n k) (b:=P.d-offP P.d P.n k) of0 of2 O O).2;obtain⟨hs0,hs1⟩:=h.hs k;obtain⟨av,cv,ev,_,_,_⟩:=r.ints;subst ev;obtain⟨bh,oh,ea,hbl,hat⟩:=r.intAt O;subst ea;have cl:=hat k hk;have i1:(0:Int)≤(k:Int):=O
 have i2:(k:Int)<(P.hs.length:Int):=O
 have B0:Hid (IJ w w w):=Below.refl _ _;have HD:Hid (∀ W:World,IJ w w W→(W.cell? ⟨b,off,none⟩=some (I P.d)∧W.cell? ⟨b,off+1,none⟩=some (I P.f)∧W.cell? ⟨b,off+2,none⟩=some (I P.l)∧W.cell? ⟨b,off+3,none⟩=some (II (some ⟨bh,oh,none⟩) P.hs.length cv)∧W.cell? ⟨bh,oh+k,none⟩=some (I (gi P.hs k)))):=fun W hW=>⟨(bat hW b _ O).trans c0,(bat hW b _ O).trans c1,(bat hW b _ O).trans c2,(bat hW b _ O).trans c3,(bat hW bh _ O).trans cl⟩
 have HB:Hid (IJ w w w):=Below.refl _ _;have CO:Hid (∀ W:World,IJ w w W→Calls Tryz.prog 267 #[.pointer (some ⟨b,off,none⟩),I (k:Int)] W fun e w'=>e=.returned (I (offP P.d P.n k))∧IJ W W w'):=fun  W hW=>by
   obtain⟨t0,t1,t2,t3,t4⟩:=HD.out W hW;exact zdm P h _ b off k hk W (zb4 r B0.out hW) t0 t1 t2 t3
 have CN:Hid (∀ W:World,IJ w w W→Calls Tryz.prog 276 #[.pointer (some ⟨b,off,none⟩),I (k:Int)] W fun e w'=>e=.returned (I (lineP P.f P.l P.n k))∧IJ W W w'):=fun  W hW=>by
   obtain⟨t0,t1,t2,t3,t4⟩:=HD.out W hW;exact l05Line_any P h _ b off k hk W (zb4 r B0.out hW) t0 t1 t2 t3
 have CB:Hid (∀ W:World,IJ w w W→Calls Tryz.prog 277 #[I (offP P.d P.n k),I (P.d-offP P.d P.n k)] W fun e w'=>e=.returned (I (bulI (offP P.d P.n k) (P.d-offP P.d P.n k)))∧IJ W W w'):=fun  W hW=>l05Bulge_any _ _ of0 of2 O O W
 clear hat r cl c0 c1 c2 c3;generalize lineP P.f P.l P.n k=LN at *;generalize bulI (offP P.d P.n k) (P.d-offP P.d P.n k)=BU at *;generalize offP P.d P.n k=OF at *;generalize gi P.hs k=HK at *;generalize clrP P k=CR at *;go_enter Tryz.func269,Tryz.ntmps269;obtain⟨t0,t1,t2,t3,t4⟩:=HD.out _ HB.out;go_upto_region 2 with (first|(go_at_call 267;with_reducible refine (CO.out _ HB.out).mono ?_;rintro e v1 ⟨rfl,hb_⟩;(try clear t0 t1 t2 t3 t4);replace HB:=btr HB hb_;clear hb_;obtain⟨t0,t1,t2,t3,t4⟩:=HD.out _ HB.out));have o0:=zal (w0:=v1) (show b<v1.heap.size by have:=HB.out.size;omega);have o1:=zal (w0:=v1) (show bh<v1.heap.size by have:=HB.out.size;omega);refine zad v1.heap.size v1 (Below.refl _ _) OJ OJ ?_
 repeat (go_big_quiet_step (first|(go_at_call 276;with_reducible exact zaj (Nat.le_refl _) (CN.out _ (HB.out.trans ((zaa _ _ _).mono HB.out.size))))|(go_at_call 277;with_reducible exact zaj (Nat.le_refl _) (CB.out _ (HB.out.trans ((zaa _ _ _).mono HB.out.size))))))
 refine wpQuiet_nil ?_;rintro _ ⟨X,rfl⟩;replace HB:=btr HB (zaa v1.heap.size v1 X);clear o0 o1
 (try clear t0 t1 t2 t3 t4)
 generalize over v1.heap.size v1 X=u2 at *;obtain⟨t0,t1,t2,t3,t4⟩:=HD.out _ HB.out;go_wp2;go_ret;exact⟨by rw[HE.out];rfl,B0.out.trans (HB.out.mono B0.out.size)⟩
end Go.Proofs.YtgmapjgodibchaaGreatDoor
