/- Contracts: terrains that the reference draws (l04Flat, l20Terrain): some small ones. Conditions: sizes as the draws have them; a place in the source that is not too great. -/
import Derived.Test.YtpakghepnahooaaGreatDoorLvM
import Derived.Test.YtpakghepnahooaaGreatDoorEirp3
import Derived.Test.YtpakghepnahooaaGreatDoorSame2
import Derived.Test.YtpakghepnahooaaGreatDoorDw1
set_option linter.unusedVariables false
set_option linter.unusedSimpArgs false
namespace Go.Proofs.YtpakghepnahooaaGreatDoor
open Go.RowKit
theorem Q32 {p:Prop} (h:p:=by have:P.n=(P.hs.length:Int)-1:=rfl;omega):p:=h
theorem Q3n {p:Prop} (h:p:=by show W0.heap.size≤tb;omega):p:=h
theorem Q3y {p:Prop} (h:p:=by have:=S.i1;omega):p:=h
theorem Q3z {p:Prop} (h:p:=by simp at hx;omega):p:=h
theorem Q40 {p:Prop} (h:p:=by show x≠y;omega):p:=h
theorem Q01 {p:Prop} (h:p:=by
 clear hrl
 obtain⟨t0,t1,t2,t3,t4,t5,t6,t7,t8,t9⟩:=HD.out _ HBr.out
 obtain⟨g0,g1,g2,g3⟩:=HC.out _ HBr.out
 go_upto_region 9 with (fail)
 have o0:=zai (w0:=wr) (show x3<wr.heap.size by omega)
 have o1:=zai (w0:=wr) (show x4<wr.heap.size by omega)
 have o2:=zai (w0:=wr) (show y3<wr.heap.size by omega)
 have o3:=zai (w0:=wr) (show y4<wr.heap.size by omega)
 have o4:=zai (w0:=wr) (show w.heap.size<wr.heap.size by omega)
 have o5:=zai (w0:=wr) (show w.heap.size+1<wr.heap.size by omega)
 refine zab wr.heap.size wr (Below.refl _ _) JI JI ?_
 repeat (go_big_quiet_step (fail))
 refine wpQuiet_nil ?_
 rintro _ ⟨X,rfl⟩
 have hx_:=zaa wr.heap.size wr X
 clear o0 o1 o2 o3 o4 o5 t0 t1 t2 t3 t4 t5 t6 t7 t8 t9 g0 g1 g2 g3
 replace HBw:=btr HBw hx_
 replace HBr:=btr HBr hx_
 replace HR:=bkH HR hx_
 have zx:=hx_.size
 clear hx_
 generalize over wr.heap.size wr X=u1 at *
 obtain⟨t0,t1,t2,t3,t4,t5,t6,t7,t8,t9⟩:=HD.out _ HBr.out
 obtain⟨g0,g1,g2,g3⟩:=HC.out _ HBr.out
 go_upto_region 14 with (fail)
 have o0:=zai (w0:=u1) (show x3<u1.heap.size by omega)
 have o1:=zai (w0:=u1) (show x4<u1.heap.size by omega)
 have o2:=zai (w0:=u1) (show y3<u1.heap.size by omega)
 have o3:=zai (w0:=u1) (show y4<u1.heap.size by omega)
 have o4:=zai (w0:=u1) (show w.heap.size<u1.heap.size by omega)
 have o5:=zai (w0:=u1) (show w.heap.size+1<u1.heap.size by omega)
 refine zab u1.heap.size u1 (Below.refl _ _) JI JI ?_
 repeat (go_big_quiet_step (fail))
 refine wpQuiet_nil ?_
 rintro _ ⟨X,rfl⟩
 have hx_:=zaa u1.heap.size u1 X
 clear o0 o1 o2 o3 o4 o5 t0 t1 t2 t3 t4 t5 t6 t7 t8 t9 g0 g1 g2 g3
 replace HBw:=btr HBw hx_
 replace HBr:=btr HBr hx_
 replace HR:=bkH HR hx_
 have zx:=hx_.size
 clear hx_
 generalize over u1.heap.size u1 X=u2 at *
 obtain⟨t0,t1,t2,t3,t4,t5,t6,t7,t8,t9⟩:=HD.out _ HBr.out
 obtain⟨g0,g1,g2,g3⟩:=HC.out _ HBr.out
 go_upto_region 16 with (fail)
 have o0:=zai (w0:=u2) (show x3<u2.heap.size by omega)
 have o1:=zai (w0:=u2) (show x4<u2.heap.size by omega)
 have o2:=zai (w0:=u2) (show y3<u2.heap.size by omega)
 have o3:=zai (w0:=u2) (show y4<u2.heap.size by omega)
 have o4:=zai (w0:=u2) (show w.heap.size<u2.heap.size by omega)
 have o5:=zai (w0:=u2) (show w.heap.size+1<u2.heap.size by omega)
 refine zab u2.heap.size u2 (Below.refl _ _) JI JI ?_
 repeat (go_big_quiet_step (fail))
 refine wpQuiet_nil ?_
 rintro _ ⟨X,rfl⟩
 have hx_:=zaa u2.heap.size u2 X
 clear o0 o1 o2 o3 o4 o5 t0 t1 t2 t3 t4 t5 t6 t7 t8 t9 g0 g1 g2 g3
 replace HBw:=btr HBw hx_
 replace HBr:=btr HBr hx_
 replace HR:=bkH HR hx_
 have zx:=hx_.size
 clear hx_
 generalize over u2.heap.size u2 X=u3 at *
 obtain⟨t0,t1,t2,t3,t4,t5,t6,t7,t8,t9⟩:=HD.out _ HBr.out
 obtain⟨g0,g1,g2,g3⟩:=HC.out _ HBr.out
 go_upto_region 18 with (fail)
 have o0:=zai (w0:=u3) (show x3<u3.heap.size by omega)
 have o1:=zai (w0:=u3) (show x4<u3.heap.size by omega)
 have o2:=zai (w0:=u3) (show y3<u3.heap.size by omega)
 have o3:=zai (w0:=u3) (show y4<u3.heap.size by omega)
 have o4:=zai (w0:=u3) (show w.heap.size<u3.heap.size by omega)
 have o5:=zai (w0:=u3) (show w.heap.size+1<u3.heap.size by omega)
 refine zab u3.heap.size u3 (Below.refl _ _) JI JI ?_
 repeat (go_big_quiet_step (fail))
 refine wpQuiet_nil ?_
 rintro _ ⟨X,rfl⟩
 have hx_:=zaa u3.heap.size u3 X
 clear o0 o1 o2 o3 o4 o5 t0 t1 t2 t3 t4 t5 t6 t7 t8 t9 g0 g1 g2 g3
 replace HBw:=btr HBw hx_
 replace HBr:=btr HBr hx_
 replace HR:=bkH HR hx_
 have zx:=hx_.size
 clear hx_
 generalize over u3.heap.size u3 X=u4 at *
 obtain⟨t0,t1,t2,t3,t4,t5,t6,t7,t8,t9⟩:=HD.out _ HBr.out
 go_wp2_with (fail)
 go_roundw
 case rel=>exact⟨k+1,n,II,by go_num,II,II,HBw.out,HR.out⟩
 case measure=>simp[intOf];omega):p:=h
theorem Q09 {p:Prop} (h:p:=by
 go_ret
 exact⟨by rw[HE.out];rfl,B0.out.trans (HB.out.mono B0.out.size)⟩):p:=h
theorem Q1d {p:Prop} (h:p:=by
 exact⟨rfl,B0.out.trans (HB.out.mono B0.out.size)⟩):p:=h
theorem Q28 {p:Prop} (h:p:=by
 refine wpQuiet_nil ?_
 rintro _ ⟨X,rfl⟩
 replace HB:=btr HB (zaa W0.heap.size W0 X)
 clear o0
 (try clear t0 t1 t2 t3)
 generalize over W0.heap.size W0 X=u2 at *
 obtain⟨t0,t1,t2,t3⟩:=HD.out _ HB.out
 go_wp2
 exact Q09):p:=h
set_option maxHeartbeats 16000000
set_option maxRecDepth 100000
structure Sq (t:DTerrain) (p:DPoint) (i k u v:Int):Prop where
 i0:0≤i
 i1:i≤t.width-2
 k0:0≤k
 k1:k≤t.height-2
 u0:0≤u
 u1:u≤t.step
 v0:0≤v
 v1:v≤t.step
 eu:p.x-i*t.step=u
 ev:p.y-k*t.step=v
 bi:0≤i*t.step∧i*t.step≤200000
 bk:0≤k*t.step∧k*t.step≤200000
theorem sq_of {t:DTerrain} (T:TerrOk t) {p:DPoint} (h:inT t p):Sq t p (colT t.step t.width p.x) (colT t.step t.height p.y) (p.x-colT t.step t.width p.x*t.step) (p.y-colT t.step t.height p.y*t.step):=by
 obtain⟨⟨a0,a1⟩,a2,a3⟩:=colT_bd T.s0 T.w0 h.1.1 h.1.2;obtain⟨⟨b0,b1⟩,b2,b3⟩:=colT_bd T.s0 T.h0 h.2.1 h.2.2;have hp:=ze8 T h;unfold ptB at hp;have c0:=Int.mul_nonneg a0 (show 0≤t.step by have:=T.s0;omega);have c1:=Int.mul_nonneg b0 (show 0≤t.step by have:=T.s0;omega);exact⟨a0,a1,b0,b1,a2,a3,b2,b3,rfl,rfl,⟨c0,II⟩,⟨c1,II⟩⟩
structure Prods (a1 a2 a3 a4 s u v:Int):Prop where
 b1:0≤a1*(s-u)∧a1*(s-u)≤900000000
 c1:0≤a1*(s-u)*(s-v)∧a1*(s-u)*(s-v)≤9000000000000
 b2:0≤a2*u∧a2*u≤900000000
 c2:0≤a2*u*(s-v)∧a2*u*(s-v)≤9000000000000
 b3:0≤a3*(s-u)∧a3*(s-u)≤900000000
 c3:0≤a3*(s-u)*v∧a3*(s-u)*v≤9000000000000
 b4:0≤a4*u∧a4*u≤900000000
 c4:0≤a4*u*v∧a4*u*v≤9000000000000
theorem prods_of {a1 a2 a3 a4 s u v:Int} (s1:s≤10000) (u0:0≤u) (u1:u≤s) (v0:0≤v) (v1:v≤s) (h1:0≤a1∧a1≤90000) (h2:0≤a2∧a2≤90000) (h3:0≤a3∧a3≤90000) (h4:0≤a4∧a4≤90000):Prods a1 a2 a3 a4 s u v:=by
 have p1:=zev h1.1 h1.2 (show 0≤s-u by omega) II (show 0≤s-v by omega) II;have p2:=zev h2.1 h2.2 u0 II (show 0≤s-v by omega) II;have p3:=zev h3.1 h3.2 (show 0≤s-u by omega) II v0 II;have p4:=zev h4.1 h4.2 u0 II v0 II;exact⟨p1.1,p1.2.1,p2.1,p2.2.1,p3.1,p3.2.1,p4.1,p4.2.1⟩
theorem zfg (t:DTerrain) (x y:Int) (n:Nat) (en:y*t.width+x=(n:Int)) (hn:n<t.heights.length) (y0:0≤y*t.width) (y1:y*t.width≤552) (x1:x≤24) (pt bh oh ch:Nat) (w:World) (c1:w.cell? ⟨pt,1,none⟩=some (J t.width)) (c3:w.cell? ⟨pt,3,none⟩=some (IZ (some ⟨bh,oh,none⟩) t.heights.length ch)) (ch0:w.cell? ⟨bh,oh+n,none⟩=some (J (gi t.heights n))) :
  Calls Tryz.prog 210 #[J x,J y,.pointer (some ⟨pt,0,none⟩)] w fun e w'=>e=.returned (J (gi t.heights n))∧OI w w w':=by
 have i1:(0:Int)≤(n:Int):=II
 have i2:(n:Int)<(t.heights.length:Int):=II
 have i3:(n:Int)≤576:=II
 go_enter Tryz.func210,Tryz.ntmps210;go_wp2;go_ret;exact⟨rfl,Below.refl _ _⟩
theorem iHeight_any (t:DTerrain) (p:DPoint) (T:TerrOk t) (hp:inT t p) (v3 v4:Value) (w:World) (r3:Rd w w (zam t.heights) v3) :
  Calls Tryz.prog 174 #[.agg (t,v3,v4),.agg #[J p.x,J p.y]] w fun e w'=>e=.returned (J (hAt t p))∧OI w w w':=by
 obtain⟨a3,c3_,e3,_,_,_⟩:=r3.ints;subst e3;have hlh:=T.lh;have w0_:=T.w0;have w1_:=T.w1;have h0_:=T.h0;have h1_:=T.h1;have s0_:=T.s0;have s1_:=T.s1;have hsq:=step_sq T.s0 T.s1;obtain⟨bh,oh,ea,hbl,hat⟩:=r3.intAt (by have:=grid_bd (i:=0) (k:=0) (w:=t.width) (h:=t.height) II II II II w1_ h1_;omega);subst ea;have hpt:=ze8 T hp;unfold ptB at hpt;obtain⟨⟨px0,px1⟩,py0,py1⟩:=hpt;have S:=sq_of T hp;have HS:Hid (hAt t p=rdiv (hSum t (colT t.step t.width p.x) (colT t.step t.height p.y) (p.x-colT t.step t.width p.x*t.step) (p.y-colT t.step t.height p.y*t.step)) (t.step*t.step)):=rfl;have HCI:Hid (colT t.step t.width p.x=min (p.x / t.step) (t.width-2)):=rfl;have HCK:Hid (colT t.step t.height p.y=min (p.y / t.step) (t.height-2)):=rfl;have hss:=hSum_bd T (i:=colT t.step t.width p.x) (k:=colT t.step t.height p.y) S.u0 S.u1 S.v0 S.v1;generalize p.x-colT t.step t.width p.x*t.step=cu at *;generalize p.y-colT t.step t.height p.y*t.step=cv at *;generalize colT t.step t.width p.x=ci at *;generalize colT t.step t.height p.y=ck at *;have g1:=grid_bd (i:=ci) (k:=ck) (w:=t.width) (h:=t.height) S.i0 Q3y S.k0 (by have:=S.k1;omega) w1_ h1_;have g2:=grid_bd (i:=ci+1) (k:=ck) (w:=t.width) (h:=t.height) (by have:=S.i0;omega) Q3y S.k0 (by have:=S.k1;omega) w1_ h1_;have g3:=grid_bd (i:=ci) (k:=ck+1) (w:=t.width) (h:=t.height) S.i0 Q3y (by have:=S.k0;omega) (by have:=S.k1;omega) w1_ h1_;have g4:=grid_bd (i:=ci+1) (k:=ck+1) (w:=t.width) (h:=t.height) (by have:=S.i0;omega) Q3y (by have:=S.k0;omega) (by have:=S.k1;omega) w1_ h1_;obtain⟨n1,en1⟩:=Int.eq_ofNat_of_zero_le g1.2.2.1;obtain⟨n2,en2⟩:=Int.eq_ofNat_of_zero_le g2.2.2.1;obtain⟨n3,en3⟩:=Int.eq_ofNat_of_zero_le g3.2.2.1;obtain⟨n4,en4⟩:=Int.eq_ofNat_of_zero_le g4.2.2.1;have m1:n1<t.heights.length:=II
 have m2:n2<t.heights.length:=II
 have m3:n3<t.heights.length:=II
 have m4:n4<t.heights.length:=II
 have HSUM:Hid (hSum t ci ck cu cv=gi t.heights n1*(t.step-cu)*(t.step-cv)+gi t.heights n2*cu*(t.step-cv)+gi t.heights n3*(t.step-cu)*cv+gi t.heights n4*cu*cv):=by
  show _=_
  unfold hSum hIx;rw[en1,en2,en3,en4];simp only[Int.toNat_natCast]
 have PR:=prods_of s1_ S.u0 S.u1 S.v0 S.v1 (T.hs n1) (T.hs n2) (T.hs n3) (T.hs n4);rw[HSUM.out] at hss;have a1:=hat n1 m1;have a2:=hat n2 m2;have a3:=hat n3 m3;have a4:=hat n4 m4;obtain⟨W0,hW0,b0_,z0,k0,k1⟩:=zdv w #[J t.step,J t.width,J t.height,IZ (some ⟨bh,oh,none⟩) t.heights.length c3_,v4] 26 #[J p.x,J p.y] 53;have HW0:=IJ hW0;have B0:=IJ b0_;have HD:=IJ (fun (W:World) (hW:OI W0 W0 W)=>bx5 k0 hW <| bx2 k1 hW <| aI ((bat hW bh _ II).trans ((bat b0_ bh _ II).trans a1)) <| aI ((bat hW bh _ II).trans ((bat b0_ bh _ II).trans a2)) <| aI ((bat hW bh _ II).trans ((bat b0_ bh _ II).trans a3)) <| ((bat hW bh _ II).trans ((bat b0_ bh _ II).trans a4)));have HB:Hid (OI W0 W0 W0):=Below.refl _ _;clear k0 k1 hW0 b0_;have CH1:Hid (∀ W:World,OI W0 W0 W→Calls Tryz.prog 210 #[J ci,J ck,.pointer (some ⟨w,0,none⟩)] W fun e w'=>e=.returned (J (gi t.heights n1))∧OI W W w'):=fun  W hW=>by
   obtain⟨t0,t1,t2,t3,t4,t5,t6,t7,t8,t9,t10⟩:=HD.out W hW;exact zfg t _ _ n1 en1 m1 g1.1 g1.2.1 Q3y _ _ _ _ W t1 t3 t7
 have CH2:Hid (∀ W:World,OI W0 W0 W→Calls Tryz.prog 210 #[J (ci+1),J ck,.pointer (some ⟨w,0,none⟩)] W fun e w'=>e=.returned (J (gi t.heights n2))∧OI W W w'):=fun  W hW=>by
   obtain⟨t0,t1,t2,t3,t4,t5,t6,t7,t8,t9,t10⟩:=HD.out W hW;exact zfg t _ _ n2 en2 m2 g2.1 g2.2.1 Q3y _ _ _ _ W t1 t3 t8
 have CH3:Hid (∀ W:World,OI W0 W0 W→Calls Tryz.prog 210 #[J ci,J (ck+1),.pointer (some ⟨w,0,none⟩)] W fun e w'=>e=.returned (J (gi t.heights n3))∧OI W W w'):=fun  W hW=>by
   obtain⟨t0,t1,t2,t3,t4,t5,t6,t7,t8,t9,t10⟩:=HD.out W hW;exact zfg t _ _ n3 en3 m3 g3.1 g3.2.1 Q3y _ _ _ _ W t1 t3 t9
 have CH4:Hid (∀ W:World,OI W0 W0 W→Calls Tryz.prog 210 #[J (ci+1),J (ck+1),.pointer (some ⟨w,0,none⟩)] W fun e w'=>e=.returned (J (gi t.heights n4))∧OI W W w'):=fun  W hW=>by
   obtain⟨t0,t1,t2,t3,t4,t5,t6,t7,t8,t9,t10⟩:=HD.out W hW;exact zfg t _ _ n4 en4 m4 g4.1 g4.2.1 Q3y _ _ _ _ W t1 t3 t10
 generalize gi t.heights n1=z1 at *;generalize gi t.heights n2=z2 at *;generalize gi t.heights n3=z3 at *;generalize gi t.heights n4=z4 at *;have CD:Hid (∀ W:World,Calls Tryz.prog 180 #[J (z1*(t.step-cu)*(t.step-cv)+z2*cu*(t.step-cv)+z3*(t.step-cu)*cv+z4*cu*cv),J (t.step*t.step)] W fun e w'=>e=.returned (J (hAt t p))∧OI W W w'):=fun W=>by
  rw[HS.out,HSUM.out];exact zbx _ _ II II II II W
 clear hat r3 hss HS HSUM a1 a2 a3 a4;obtain⟨hs0,hs1⟩:=hsq;obtain⟨pb1,pc1,pb2,pc2,pb3,pc3,pb4,pc4⟩:=PR;obtain⟨si0,si1,sk0,sk1,su0,su1,sv0,sv1,seu,sev,⟨sbi0,sbi1⟩,sbk0,sbk1⟩:=S;go_enter Tryz.func174,Tryz.ntmps174;go_upto_region 1 with (fail);rw[HW0.out];obtain⟨t0,t1,t2,t3,t4,t5,t6,t7,t8,t9,t10⟩:=HD.out _ HB.out;go_upto_region 1 with (fail);have o0:=zai (w0:=W0) (show w.heap.size<W0.heap.size by have:=HB.out.size;omega);have o1:=zai (w0:=W0) (show w.heap.size+1<W0.heap.size by have:=HB.out.size;omega);refine zab W0.heap.size W0 (Below.refl _ _) JI JI ?_
 repeat (go_big_quiet_step (first|fail))
 refine wpQuiet_nil ?_;rintro _ ⟨X,rfl⟩;replace HB:=btr HB (zaa W0.heap.size W0 X);clear o0 o1
 (try clear t0 t1 t2 t3 t4 t5 t6 t7 t8 t9 t10)
 generalize over W0.heap.size W0 X=u2 at *;obtain⟨t0,t1,t2,t3,t4,t5,t6,t7,t8,t9,t10⟩:=HD.out _ HB.out;rw[← HCI.out,← HCK.out];go_upto_region 2 with (fail);have o0:=zai (w0:=u2) (show w.heap.size<u2.heap.size by have:=HB.out.size;omega);have o1:=zai (w0:=u2) (show w.heap.size+1<u2.heap.size by have:=HB.out.size;omega);refine zab u2.heap.size u2 (Below.refl _ _) JI JI ?_
 repeat (go_big_quiet_step (first|fail))
 refine wpQuiet_nil ?_;rintro _ ⟨X,rfl⟩;replace HB:=btr HB (zaa u2.heap.size u2 X);clear o0 o1
 (try clear t0 t1 t2 t3 t4 t5 t6 t7 t8 t9 t10)
 generalize over u2.heap.size u2 X=u4 at *;obtain⟨t0,t1,t2,t3,t4,t5,t6,t7,t8,t9,t10⟩:=HD.out _ HB.out
 (try rw[seu,sev])
 go_upto_region 4 with (fail);have o0:=zai (w0:=u4) (show w.heap.size<u4.heap.size by have:=HB.out.size;omega);have o1:=zai (w0:=u4) (show bh<u4.heap.size by have:=HB.out.size;omega);refine zab u4.heap.size u4 (Below.refl _ _) JI JI ?_
 repeat (go_big_quiet_step (first|(go_at_call 210;with_reducible exact zah (Nat.le_refl _) (CH1.out _ (HB.out.trans ((zaa _ _ _).mono HB.out.size))))|(go_at_call 210;with_reducible exact zah (Nat.le_refl _) (CH2.out _ (HB.out.trans ((zaa _ _ _).mono HB.out.size))))|(go_at_call 210;with_reducible exact zah (Nat.le_refl _) (CH3.out _ (HB.out.trans ((zaa _ _ _).mono HB.out.size))))|(go_at_call 210;with_reducible exact zah (Nat.le_refl _) (CH4.out _ (HB.out.trans ((zaa _ _ _).mono HB.out.size))))))
 refine wpQuiet_nil ?_;rintro _ ⟨X,rfl⟩;replace HB:=btr HB (zaa u4.heap.size u4 X);clear o0 o1
 (try clear t0 t1 t2 t3 t4 t5 t6 t7 t8 t9 t10)
 generalize over u4.heap.size u4 X=u6 at *;obtain⟨t0,t1,t2,t3,t4,t5,t6,t7,t8,t9,t10⟩:=HD.out _ HB.out;have HE:=IJ (rfl:hAt t p=hAt t p);go_wp2_with (go_at_call 180;with_reducible refine (CD.out _).mono ?_;rintro e v9 ⟨rfl,hb_⟩;replace HB:=btr HB hb_;clear hb_);go_ret;exact Q1d
theorem iClutter_any (t:DTerrain) (p:DPoint) (T:TerrOk t) (hp:inT t p) (v3 v4:Value) (w:World) (r4:Rd w w (zam t.clutter) v4) :
  Calls Tryz.prog 136 #[.agg (t,v3,v4),.agg #[J p.x,J p.y]] w fun e w'=>e=.returned (J (cAt t p))∧OI w w w':=by
 have s0_:=T.s0;have s1_:=T.s1;have w0_:=T.w0;have w1_:=T.w1;have h0_:=T.h0;have h1_:=T.h1;have hlc:=T.lc;have hpt:=ze8 T hp;unfold ptB at hpt;obtain⟨⟨px0,px1⟩,py0,py1⟩:=hpt;have cx:=cNear_bd T.s0 hp.1.1 hp.1.2;have cy:=cNear_bd T.s0 hp.2.1 hp.2.2;have g1:=grid_bd (i:=cNear t.step p.x) (k:=cNear t.step p.y) (w:=t.width) (h:=t.height) cx.1 II cy.1 II w1_ h1_;have EX:Hid (cNear t.step p.x=(2*p.x+t.step) / (2*t.step)):=rfl;have EY:Hid (cNear t.step p.y=(2*p.y+t.step) / (2*t.step)):=rfl;have HE0:Hid (cAt t p=gi t.clutter (cNear t.step p.y*t.width+cNear t.step p.x).toNat):=rfl;generalize cNear t.step p.x=cx_ at *;generalize cNear t.step p.y=cy_ at *;obtain⟨n,en⟩:=Int.eq_ofNat_of_zero_le g1.2.2.1;have HE:Hid (cAt t p=gi t.clutter n):=by show _=_;rw[HE0.out,en];rfl
 have hn:n<t.clutter.length:=II
 obtain⟨a4,c4,e4,_,_,_⟩:=r4.ints;subst e4;obtain⟨bh,oh,ea,hbl,hat⟩:=r4.intAt II;subst ea;have cl:=hat n hn;have i1:(0:Int)≤(n:Int):=II
 have i2:(n:Int)<(t.clutter.length:Int):=II
 obtain⟨gy0,gy1,gn0,gn1⟩:=g1;generalize hgv:gi t.clutter n=gv at *;clear hat HE0 r4;obtain⟨W0,hW0,b0_,z0,k0,k1⟩:=zdv w #[J t.step,J t.width,J t.height,v3,IZ (some ⟨bh,oh,none⟩) t.clutter.length c4] 26 #[J p.x,J p.y] 53;have HW0:=IJ hW0;have B0:=IJ b0_;have HD:=IJ (fun (W:World) (hW:OI W0 W0 W)=>bx5 k0 hW <| bx2 k1 hW <| ((bat hW bh _ II).trans ((bat b0_ bh _ II).trans cl)));have HB:Hid (OI W0 W0 W0):=Below.refl _ _;clear k0 k1 hW0 b0_;go_enter Tryz.func136,Tryz.ntmps136;go_upto_region 1 with (fail);rw[HW0.out];obtain⟨t0,t1,t2,t3,t4,t5,t6,t7⟩:=HD.out _ HB.out;go_upto_region 1 with (fail);have o0:=zai (w0:=W0) (show w.heap.size<W0.heap.size by have:=HB.out.size;omega);have o1:=zai (w0:=W0) (show w.heap.size+1<W0.heap.size by have:=HB.out.size;omega);refine zab W0.heap.size W0 (Below.refl _ _) JI JI ?_
 repeat (go_big_quiet_step (first|fail))
 refine wpQuiet_nil ?_;rintro _ ⟨X,rfl⟩;replace HB:=btr HB (zaa W0.heap.size W0 X);clear o0 o1
 (try clear t0 t1 t2 t3 t4 t5 t6 t7)
 generalize over W0.heap.size W0 X=u2 at *;obtain⟨t0,t1,t2,t3,t4,t5,t6,t7⟩:=HD.out _ HB.out
 (try rw[← EX.out,← EY.out])
 go_wp2;exact Q09
theorem zey (t:DTerrain) (q:DEnd) (T:TerrOk t) (hp:inT t q.place) (hq:endP q) (v3 v4:Value) (w:World) (r3:Rd w w (zam t.heights) v3) :
  Calls Tryz.prog 172 #[.agg (t,v3,v4),.agg q] w fun e w'=>e=.returned (J (zdy t q))∧OI w w w':=by
 have HE:Hid (zdy t q=hAt t q.place+q.above):=rfl;have hb:=hAt_bd T hp;unfold endP at hq;obtain⟨W0,hW0,b0_,z0,k0,k1⟩:=zdv w (t,v3,v4) 26 q 55;have HW0:=IJ hW0;have B0:=IJ b0_;have HD:=IJ (fun (W:World) (hW:OI W0 W0 W)=>bx5 k0 hW <| by3 k1 hW);have HB:Hid (OI W0 W0 W0):=Below.refl _ _;clear k0 k1 hW0 b0_;have CH:Hid (∀ W:World,OI W0 W0 W→Calls Tryz.prog 174 #[.agg (t,v3,v4),.agg #[J q.place.x,J q.place.y]] W fun e w'=>e=.returned (J (hAt t q.place))∧OI W W w'):=fun  W hW=>iHeight_any t q.place T hp v3 v4 W ((r3.below (B0.out.trans (hW.mono B0.out.size))).mono (B0.out.trans (hW.mono B0.out.size)).size)
 generalize hAt t q.place=ha at *;generalize zdy t q=hi at *;obtain⟨hb0,hb1⟩:=hb;obtain⟨hq0,hq1⟩:=hq;go_enter Tryz.func172,Tryz.ntmps172;go_upto_region 1 with (fail);rw[HW0.out];obtain⟨t0,t1,t2,t3,t4,t5,t6,t7⟩:=HD.out _ HB.out;go_upto_region 1 with (fail);have o0:=zai (w0:=W0) (show w.heap.size<W0.heap.size by have:=HB.out.size;omega);have o1:=zai (w0:=W0) (show w.heap.size+1<W0.heap.size by have:=HB.out.size;omega);refine zab W0.heap.size W0 (Below.refl _ _) JI JI ?_
 repeat (go_big_quiet_step (first|(go_at_call 174;with_reducible exact zah (Nat.le_refl _) (CH.out _ (HB.out.trans ((zaa _ _ _).mono HB.out.size))))))
 refine wpQuiet_nil ?_;rintro _ ⟨X,rfl⟩;replace HB:=btr HB (zaa W0.heap.size W0 X);clear o0 o1
 (try clear t0 t1 t2 t3 t4 t5 t6 t7)
 generalize over W0.heap.size W0 X=u2 at *;obtain⟨t0,t1,t2,t3,t4,t5,t6,t7⟩:=HD.out _ HB.out;go_wp2;exact Q09
set_option maxHeartbeats 4000000
set_option maxRecDepth 100000
theorem zd8 (P:Pf) (hn:P.hs.length≤1048576) (vh:Value) (w:World) (r:Rd w w (zam P.hs) vh) :
  Calls Tryz.prog 186 #[.agg #[J P.d,J P.f,J P.l,vh]] w fun e w'=>e=.returned (J P.n)∧OI w w w':=by
 have HE:Hid (P.n=(P.hs.length:Int)-1):=rfl;generalize P.n=n at *;have hni:(P.hs.length:Int)≤1048576:=II
 obtain⟨av,cv,ev,_,_,_⟩:=r.ints;subst ev;obtain⟨W0,hW0,b0_,z0,k0⟩:=zav w #[J P.d,J P.f,J P.l,IZ av P.hs.length cv] 149;have HW0:=IJ hW0;have B0:=IJ b0_;have HD:=IJ (fun (W:World) (hW:OI W0 W0 W)=>by4 k0 hW);have HB:Hid (OI W0 W0 W0):=Below.refl _ _;clear k0 hW0 b0_;go_enter Tryz.func186,Tryz.ntmps186;go_upto_region 1 with (fail);rw[HW0.out];obtain⟨t0,t1,t2,t3⟩:=HD.out _ HB.out;go_wp2;exact Q09
theorem zff (P:Pf) (h:PfOk P) (vh:Value) (k:Nat) (hk:k<P.hs.length) (w:World) (r:Rd w w (zam P.hs) vh) :
  Calls Tryz.prog 218 #[.agg #[J P.d,J P.f,J P.l,vh],J (k:Int)] w fun e w'=>e=.returned (J (offP P.d P.n k))∧OI w w w':=by
 have HE0:Hid (offP P.d P.n k=if 2*(k:Int)≤P.n then rdiv (P.d*(k:Int)) P.n else P.d-rdiv (P.d*(P.n-(k:Int))) P.n):=rfl;have CL0:Hid (∀ W:World,Rd W W (zam P.hs) vh→Calls Tryz.prog 186 #[.agg #[J P.d,J P.f,J P.l,vh]] W fun e w'=>e=.returned (J P.n)∧OI W W w'):=fun W hr=>zd8 P (by have:=h.n1;omega) vh W hr
 generalize offP P.d P.n k=OF at *;have n0_:=h.n0;have n1_:=h.n1;have d0_:=h.d0;have d1_:=h.d1;have hn:(P.hs.length:Int)-1=P.n:=rfl;have hli:(P.hs.length:Int)≤65:=II
 generalize P.n=n at *;have ki:(k:Int)≤n:=II
 have ki0:(0:Int)≤(k:Int):=II
 have nb0:1≤n:=II
 have nb1:n≤64:=II
 have mm:=mulP (a:=P.d) (b:=(k:Int)) 283000 64 II II ki0 II;have mn:=mulP (a:=P.d) (b:=n-(k:Int)) 283000 64 II II II II;obtain⟨mm0,mm1⟩:=mm;obtain⟨mn0,mn1⟩:=mn;have rb1:=rdiv_in (a:=P.d*(k:Int)) (b:=n) (m:=P.d) nb0 mm0 (Int.mul_le_mul_of_nonneg_left ki II);have rb2:=rdiv_in (a:=P.d*(n-(k:Int))) (b:=n) (m:=P.d) nb0 mn0 (Int.mul_le_mul_of_nonneg_left II II);obtain⟨rb10,rb11⟩:=rb1;obtain⟨rb20,rb21⟩:=rb2;obtain⟨W0,hW0,b0_,z0,k0⟩:=zav w #[J P.d,J P.f,J P.l,vh] 149;have HW0:=IJ hW0;have B0:=IJ b0_;have HD:=IJ (fun (W:World) (hW:OI W0 W0 W)=>by4 k0 hW);have HB:Hid (OI W0 W0 W0):=Below.refl _ _;clear k0 hW0 b0_;have CL:Hid (∀ W:World,OI W0 W0 W→Calls Tryz.prog 186 #[.agg #[J P.d,J P.f,J P.l,vh]] W fun e w'=>e=.returned (J n)∧OI W W w'):=fun  W hW=>CL0.out W (zdr r B0.out hW)
 have CD1:Hid (∀ W:World,OI W0 W0 W→Calls Tryz.prog 180 #[J (P.d*(k:Int)),J n] W fun e w'=>e=.returned (J (rdiv (P.d*(k:Int)) n))∧OI W W w'):=fun  W hW=>zbx _ _ II II II II W
 have CD2:Hid (∀ W:World,OI W0 W0 W→Calls Tryz.prog 180 #[J (P.d*(n-(k:Int))),J n] W fun e w'=>e=.returned (J (rdiv (P.d*(n-(k:Int))) n))∧OI W W w'):=fun  W hW=>zbx _ _ II II II II W
 generalize rdiv (P.d*(k:Int)) n=q1 at *;generalize rdiv (P.d*(n-(k:Int))) n=q2 at *
 by_cases hc:2*(k:Int)≤n
 ·have HE:Hid (OF=q1):=by show _=_;rw[HE0.out,if_pos hc]
  go_enter Tryz.func218,Tryz.ntmps218;go_upto_region 1 with (fail);rw[HW0.out];obtain⟨t0,t1,t2,t3⟩:=HD.out _ HB.out;go_wp2_with ((first|(go_at_call 186;with_reducible refine (CL.out _ HB.out).mono ?_)|(go_at_call 180;with_reducible refine (CD1.out _ HB.out).mono ?_));rintro e v1 ⟨rfl,hb_⟩;(try clear t0 t1 t2 t3);replace HB:=btr HB hb_;clear hb_;obtain⟨t0,t1,t2,t3⟩:=HD.out _ HB.out);exact Q09
 ·have HE:Hid (OF=P.d-q2):=by show _=_;rw[HE0.out,if_neg hc]
  go_enter Tryz.func218,Tryz.ntmps218;go_upto_region 1 with (fail);rw[HW0.out];obtain⟨t0,t1,t2,t3⟩:=HD.out _ HB.out;go_upto_region 4 with (first|(go_at_call 186;with_reducible refine (CL.out _ HB.out).mono ?_;rintro e v1 ⟨rfl,hb_⟩;(try clear t0 t1 t2 t3);replace HB:=btr HB hb_;clear hb_;obtain⟨t0,t1,t2,t3⟩:=HD.out _ HB.out));have o0:=zai (w0:=v1) (show w.heap.size<v1.heap.size by have:=HB.out.size;omega);refine zab v1.heap.size v1 (Below.refl _ _) JI JI ?_
  repeat (go_big_quiet_step (first|(go_at_call 180;with_reducible exact zah (Nat.le_refl _) (CD2.out _ (HB.out.trans ((zaa _ _ _).mono HB.out.size))))))
  refine wpQuiet_nil ?_;rintro _ ⟨X,rfl⟩;replace HB:=btr HB (zaa v1.heap.size v1 X);clear o0
  (try clear t0 t1 t2 t3)
  generalize over v1.heap.size v1 X=u2 at *;obtain⟨t0,t1,t2,t3⟩:=HD.out _ HB.out;go_wp2;exact Q09
theorem iLine_any (P:Pf) (h:PfOk P) (vh:Value) (k:Nat) (hk:k<P.hs.length) (w:World) (r:Rd w w (zam P.hs) vh) :
  Calls Tryz.prog 244 #[.agg #[J P.d,J P.f,J P.l,vh],J (k:Int)] w fun e w'=>e=.returned (J (lineP P.f P.l P.n k))∧OI w w w':=by
 have HE:Hid (lineP P.f P.l P.n k=rdiv (P.f*(P.n-(k:Int))+P.l*(k:Int)) P.n):=rfl;have CL0:Hid (∀ W:World,Rd W W (zam P.hs) vh→Calls Tryz.prog 186 #[.agg #[J P.d,J P.f,J P.l,vh]] W fun e w'=>e=.returned (J P.n)∧OI W W w'):=fun W hr=>zd8 P (by have:=h.n1;omega) vh W hr
 generalize lineP P.f P.l P.n k=LN at *;have n0_:=h.n0;have n1_:=h.n1;have d0_:=h.d0;have d1_:=h.d1;have hn:(P.hs.length:Int)-1=P.n:=rfl;have hli:(P.hs.length:Int)≤65:=II
 generalize P.n=n at *;have ki:(k:Int)≤n:=II
 have ki0:(0:Int)≤(k:Int):=II
 have nb0:1≤n:=II
 have nb1:n≤64:=II
 have f0_:=h.f0;have f1_:=h.f1;have l0_:=h.l0;have l1_:=h.l1;obtain⟨ma0,ma1⟩:=mulP (a:=P.f) (b:=n-(k:Int)) 180000 64 f0_ f1_ II II;obtain⟨mb0,mb1⟩:=mulP (a:=P.l) (b:=(k:Int)) 180000 64 l0_ l1_ II II;obtain⟨W0,hW0,b0_,z0,k0⟩:=zav w #[J P.d,J P.f,J P.l,vh] 149;have HW0:=IJ hW0;have B0:=IJ b0_;have HD:=IJ (fun (W:World) (hW:OI W0 W0 W)=>by4 k0 hW);have HB:Hid (OI W0 W0 W0):=Below.refl _ _;clear k0 hW0 b0_;have CL:Hid (∀ W:World,OI W0 W0 W→Calls Tryz.prog 186 #[.agg #[J P.d,J P.f,J P.l,vh]] W fun e w'=>e=.returned (J n)∧OI W W w'):=fun  W hW=>CL0.out W (zdr r B0.out hW)
 have CD:Hid (∀ W:World,OI W0 W0 W→Calls Tryz.prog 180 #[J (P.f*(n-(k:Int))+P.l*(k:Int)),J n] W fun e w'=>e=.returned (J (rdiv (P.f*(n-(k:Int))+P.l*(k:Int)) n))∧OI W W w'):=fun  W hW=>zbx _ _ II II II II W
 go_enter Tryz.func244,Tryz.ntmps244;go_upto_region 1 with (fail);rw[HW0.out];obtain⟨t0,t1,t2,t3⟩:=HD.out _ HB.out;go_wp2_with ((first|(go_at_call 186;with_reducible refine (CL.out _ HB.out).mono ?_)|(go_at_call 180;with_reducible refine (CD.out _ HB.out).mono ?_));rintro e v1 ⟨rfl,hb_⟩;(try clear t0 t1 t2 t3);replace HB:=btr HB hb_;clear hb_;obtain⟨t0,t1,t2,t3⟩:=HD.out _ HB.out);exact Q09
theorem iBulge_any (x y:Int) (x0:0≤x) (x1:x≤283000) (y0:0≤y) (y1:y≤283000) (w:World) :
  Calls Tryz.prog 251 #[J x,J y] w fun e w'=>e=.returned (J (bulI x y))∧OI w w w':=by
 have HE:Hid (bulI x y=rdiv (10*x*y) 16989334):=rfl;obtain⟨⟨m0,m1⟩,_⟩:=bulI_bd x0 x1 y0 y1;generalize bulI x y=BV at *;have B0:Hid (OI w w w):=Below.refl _ _;have HB:Hid (OI w w w):=Below.refl _ _;have CX:Hid (∀ W:World,OI w w W→Calls Tryz.prog 34 #[J x,J 0,J 283000] W fun e w'=>e=.returned (.bool true)∧OI W W w'):=fun  W hW=>by
   have hh:=zal x 0 283000 W;rw[zaq.2 ⟨x0,x1⟩] at hh;exact zbm hh
 have CY:Hid (∀ W:World,OI w w W→Calls Tryz.prog 34 #[J y,J 0,J 283000] W fun e w'=>e=.returned (.bool true)∧OI W W w'):=fun  W hW=>by
   have hh:=zal y 0 283000 W;rw[zaq.2 ⟨y0,y1⟩] at hh;exact zbm hh
 have CD:Hid (∀ W:World,OI w w W→Calls Tryz.prog 180 #[J (10*x*y),J 16989334] W fun e w'=>e=.returned (J (rdiv (10*x*y) 16989334))∧OI W W w'):=fun  W hW=>zbx _ _ II II II II W
 go_enter Tryz.func251,Tryz.ntmps251;skip;go_wp2_with ((first|(go_at_call 34;with_reducible refine (CX.out _ HB.out).mono ?_)|(go_at_call 34;with_reducible refine (CY.out _ HB.out).mono ?_)|(go_at_call 180;with_reducible refine (CD.out _ HB.out).mono ?_));rintro e v1 ⟨rfl,hb_⟩;replace HB:=btr HB hb_;clear hb_;skip);exact Q09
theorem iFresnel_any (f x y:Int) (f0:1≤f) (f1:f≤100000000) (x0:0≤x) (x1:x≤283000) (y0:0≤y) (y1:y≤283000) (w:World) :
  Calls Tryz.prog 246 #[J f,J x,J y] w fun e w'=>e=.returned (J (freI f x y))∧OI w w w':=by
 obtain⟨⟨p0,p1⟩,⟨q0,q1⟩,⟨r0,r1⟩,hpos⟩:=freI_in f0 f1 x0 x1 y0 y1;have HE0:Hid (freI f x y=if x+y=0 then 0 else isq (29979246*x*y / (f*(x+y)))):=rfl;generalize freI f x y=FV at *;have B0:Hid (OI w w w):=Below.refl _ _;have HB:Hid (OI w w w):=Below.refl _ _;have CX:Hid (∀ W:World,OI w w W→Calls Tryz.prog 34 #[J x,J 0,J 283000] W fun e w'=>e=.returned (.bool true)∧OI W W w'):=fun  W hW=>by
   have hh:=zal x 0 283000 W;rw[zaq.2 ⟨x0,x1⟩] at hh;exact zbm hh
 have CY:Hid (∀ W:World,OI w w W→Calls Tryz.prog 34 #[J y,J 0,J 283000] W fun e w'=>e=.returned (.bool true)∧OI W W w'):=fun  W hW=>by
   have hh:=zal y 0 283000 W;rw[zaq.2 ⟨y0,y1⟩] at hh;exact zbm hh
 have CF:Hid (∀ W:World,OI w w W→Calls Tryz.prog 33 #[J f] W fun e w'=>e=.returned (.bool true)∧OI W W w'):=fun  W hW=>by
   have hh:=zcg f W;rw[zaq.2 ⟨f0,f1⟩] at hh;exact zbm hh
 by_cases hz:x+y=0
 ·have HE:Hid (FV=0):=by show _=_;rw[HE0.out,if_pos hz]
  go_enter Tryz.func246,Tryz.ntmps246;skip;go_wp2_with ((first|(go_at_call 34;with_reducible refine (CX.out _ HB.out).mono ?_)|(go_at_call 34;with_reducible refine (CY.out _ HB.out).mono ?_)|(go_at_call 33;with_reducible refine (CF.out _ HB.out).mono ?_));rintro e v1 ⟨rfl,hb_⟩;replace HB:=btr HB hb_;clear hb_;skip);exact Q09
 have hp:=hpos hz;have HE:Hid (FV=isq (29979246*x*y / (f*(x+y)))):=by show _=_;rw[HE0.out,if_neg hz]
 have dv0:0≤29979246*x*y / (f*(x+y)):=Int.ediv_nonneg q0 II;have dv1:29979246*x*y / (f*(x+y))≤29979246*x*y:=Int.ediv_le_self _ q0;clear hpos HE0;have CR:Hid (∀ W:World,OI w w W→Calls Tryz.prog 208 #[J (29979246*x*y / (f*(x+y)))] W fun e w'=>e=.returned (J (isq (29979246*x*y / (f*(x+y)))))∧OI W W w'):=fun  W hW=>rootOf_any _ II II W
 go_enter Tryz.func246,Tryz.ntmps246;skip;go_wp2_with ((first|(go_at_call 34;with_reducible refine (CX.out _ HB.out).mono ?_)|(go_at_call 34;with_reducible refine (CY.out _ HB.out).mono ?_)|(go_at_call 33;with_reducible refine (CF.out _ HB.out).mono ?_)|(go_at_call 208;with_reducible refine (CR.out _ HB.out).mono ?_));rintro e v1 ⟨rfl,hb_⟩;replace HB:=btr HB hb_;clear hb_;skip);exact Q09
theorem iGround_any (P:Pf) (h:PfOk P) (vh:Value) (k:Nat) (hk:k<P.hs.length) (w:World) (r:Rd w w (zam P.hs) vh) :
  Calls Tryz.prog 245 #[.agg #[J P.d,J P.f,J P.l,vh],J (k:Int)] w fun e w'=>e=.returned (J (gi P.hs k+bulI (offP P.d P.n k) (P.d-offP P.d P.n k)))∧OI w w w':=by
 obtain⟨of0,of1,of2⟩:=off_ok h (i:=(k:Int)) II Q32;have d1_:=h.d1;have d0_:=h.d0;have n1_:=h.n1;obtain⟨av,cv,ev,_,_,_⟩:=r.ints;subst ev;obtain⟨bh,oh,ea,hbl,hat⟩:=r.intAt II;subst ea;have cl:=hat k hk;have hsb:=h.hs k;have i1:(0:Int)≤(k:Int):=II
 have i2:(k:Int)<(P.hs.length:Int):=II
 have hbu:=(bulI_bd (a:=offP P.d P.n k) (b:=P.d-offP P.d P.n k) of0 of2 II II).2;obtain⟨W0,hW0,b0_,z0,k0⟩:=zav w #[J P.d,J P.f,J P.l,IZ (some ⟨bh,oh,none⟩) P.hs.length cv] 149;have HW0:=IJ hW0;have B0:=IJ b0_;have HD:=IJ (fun (W:World) (hW:OI W0 W0 W)=>bx4 k0 hW <| ((bat hW bh _ II).trans ((bat b0_ bh _ II).trans cl)));have HB:Hid (OI W0 W0 W0):=Below.refl _ _;clear k0 hW0 b0_;have CO:Hid (∀ W:World,OI W0 W0 W→Calls Tryz.prog 218 #[.agg #[J P.d,J P.f,J P.l,IZ (some ⟨bh,oh,none⟩) P.hs.length cv],J (k:Int)] W fun e w'=>e=.returned (J (offP P.d P.n k))∧OI W W w'):=fun  W hW=>zff P h _ k hk W (zdr r B0.out hW)
 have CB:Hid (∀ W:World,OI W0 W0 W→Calls Tryz.prog 251 #[J (offP P.d P.n k),J (P.d-offP P.d P.n k)] W fun e w'=>e=.returned (J (bulI (offP P.d P.n k) (P.d-offP P.d P.n k)))∧OI W W w'):=fun  W hW=>iBulge_any _ _ of0 of2 II II W
 clear hat r cl;generalize bulI (offP P.d P.n k) (P.d-offP P.d P.n k)=BU at *;generalize offP P.d P.n k=OF at *;generalize gi P.hs k=HK at *;obtain⟨hb0,hb1⟩:=hbu;obtain⟨hs0,hs1⟩:=hsb;go_enter Tryz.func245,Tryz.ntmps245;go_upto_region 1 with (fail);rw[HW0.out];obtain⟨t0,t1,t2,t3,t4⟩:=HD.out _ HB.out;go_upto_region 2 with (first|(go_at_call 218;with_reducible refine (CO.out _ HB.out).mono ?_;rintro e v1 ⟨rfl,hb_⟩;(try clear t0 t1 t2 t3 t4);replace HB:=btr HB hb_;clear hb_;obtain⟨t0,t1,t2,t3,t4⟩:=HD.out _ HB.out));have o0:=zai (w0:=v1) (show w.heap.size<v1.heap.size by have:=HB.out.size;omega);have o1:=zai (w0:=v1) (show bh<v1.heap.size by have:=HB.out.size;omega);refine zab v1.heap.size v1 (Below.refl _ _) JI JI ?_
 repeat (go_big_quiet_step (first|(go_at_call 251;with_reducible exact zah (Nat.le_refl _) (CB.out _ (HB.out.trans ((zaa _ _ _).mono HB.out.size))))))
 refine wpQuiet_nil ?_;rintro _ ⟨X,rfl⟩;replace HB:=btr HB (zaa v1.heap.size v1 X);clear o0 o1
 (try clear t0 t1 t2 t3 t4)
 generalize over v1.heap.size v1 X=u2 at *;obtain⟨t0,t1,t2,t3,t4⟩:=HD.out _ HB.out;go_wp2;go_ret;exact Q1d
theorem iClear_any (P:Pf) (h:PfOk P) (vh:Value) (k:Nat) (hk:k<P.hs.length) (w:World) (r:Rd w w (zam P.hs) vh) :
  Calls Tryz.prog 235 #[.agg #[J P.d,J P.f,J P.l,vh],J (k:Int)] w fun e w'=>e=.returned (J (clrP P k))∧OI w w w':=by
 have HE:Hid (clrP P k=lineP P.f P.l P.n k-(gi P.hs k+bulI (offP P.d P.n k) (P.d-offP P.d P.n k))):=rfl;obtain⟨ln0,ln1⟩:=lineP_bd (f:=P.f) (l:=P.l) (n:=P.n) (i:=(k:Int)) h.f0 h.f1 h.l0 h.l1 (by have:=h.n0;have:P.n=(P.hs.length:Int)-1:=rfl;omega) II Q32;obtain⟨of0,of1,of2⟩:=off_ok h (i:=(k:Int)) II Q32;have d1_:=h.d1;have d0_:=h.d0;have n1_:=h.n1;obtain⟨bu0,bu1⟩:=(bulI_bd (a:=offP P.d P.n k) (b:=P.d-offP P.d P.n k) of0 of2 II II).2;obtain⟨hs0,hs1⟩:=h.hs k;obtain⟨W0,hW0,b0_,z0,k0⟩:=zav w #[J P.d,J P.f,J P.l,vh] 149;have HW0:=IJ hW0;have B0:=IJ b0_;have HD:=IJ (fun (W:World) (hW:OI W0 W0 W)=>by4 k0 hW);have HB:Hid (OI W0 W0 W0):=Below.refl _ _;clear k0 hW0 b0_;have CN:Hid (∀ W:World,OI W0 W0 W→Calls Tryz.prog 244 #[.agg #[J P.d,J P.f,J P.l,vh],J (k:Int)] W fun e w'=>e=.returned (J (lineP P.f P.l P.n k))∧OI W W w'):=fun  W hW=>iLine_any P h vh k hk W (zdr r B0.out hW)
 have CG:Hid (∀ W:World,OI W0 W0 W→Calls Tryz.prog 245 #[.agg #[J P.d,J P.f,J P.l,vh],J (k:Int)] W fun e w'=>e=.returned (J (gi P.hs k+bulI (offP P.d P.n k) (P.d-offP P.d P.n k)))∧OI W W w'):=fun  W hW=>iGround_any P h vh k hk W (zdr r B0.out hW)
 generalize lineP P.f P.l P.n k=LN at *;generalize bulI (offP P.d P.n k) (P.d-offP P.d P.n k)=BU at *;generalize gi P.hs k=HK at *;generalize clrP P k=CR at *;go_enter Tryz.func235,Tryz.ntmps235;go_upto_region 1 with (fail);rw[HW0.out];obtain⟨t0,t1,t2,t3⟩:=HD.out _ HB.out;go_upto_region 1 with (fail);have o0:=zai (w0:=W0) (show w.heap.size<W0.heap.size by have:=HB.out.size;omega);refine zab W0.heap.size W0 (Below.refl _ _) JI JI ?_
 repeat (go_big_quiet_step (first|(go_at_call 244;with_reducible exact zah (Nat.le_refl _) (CN.out _ (HB.out.trans ((zaa _ _ _).mono HB.out.size))))|(go_at_call 245;with_reducible exact zah (Nat.le_refl _) (CG.out _ (HB.out.trans ((zaa _ _ _).mono HB.out.size))))))
 exact Q28
theorem iRadius_any (P:Pf) (h:PfOk P) (vh:Value) (f:Int) (f0:1≤f) (f1:f≤100000000) (k:Nat) (hk:k<P.hs.length) (w:World) (r:Rd w w (zam P.hs) vh) :
  Calls Tryz.prog 236 #[.agg #[J P.d,J P.f,J P.l,vh],J f,J (k:Int)] w fun e w'=>e=.returned (J (radP P f k))∧OI w w w':=by
 have HE:Hid (radP P f k=freI f (offP P.d P.n k) (P.d-offP P.d P.n k)):=rfl;obtain⟨of0,of1,of2⟩:=off_ok h (i:=(k:Int)) II Q32;have d1_:=h.d1;have d0_:=h.d0;have n1_:=h.n1;obtain⟨W0,hW0,b0_,z0,k0⟩:=zav w #[J P.d,J P.f,J P.l,vh] 149;have HW0:=IJ hW0;have B0:=IJ b0_;have HD:=IJ (fun (W:World) (hW:OI W0 W0 W)=>by4 k0 hW);have HB:Hid (OI W0 W0 W0):=Below.refl _ _;clear k0 hW0 b0_;have CO:Hid (∀ W:World,OI W0 W0 W→Calls Tryz.prog 218 #[.agg #[J P.d,J P.f,J P.l,vh],J (k:Int)] W fun e w'=>e=.returned (J (offP P.d P.n k))∧OI W W w'):=fun  W hW=>zff P h vh k hk W (zdr r B0.out hW)
 have CF:Hid (∀ W:World,OI W0 W0 W→Calls Tryz.prog 246 #[J f,J (offP P.d P.n k),J (P.d-offP P.d P.n k)] W fun e w'=>e=.returned (J (freI f (offP P.d P.n k) (P.d-offP P.d P.n k)))∧OI W W w'):=fun  W hW=>iFresnel_any _ _ _ f0 f1 of0 of2 II II W
 generalize freI f (offP P.d P.n k) (P.d-offP P.d P.n k)=FR at *;generalize offP P.d P.n k=OF at *;go_enter Tryz.func236,Tryz.ntmps236;go_upto_region 1 with (fail);rw[HW0.out];obtain⟨t0,t1,t2,t3⟩:=HD.out _ HB.out;go_wp2_with ((first|(go_at_call 218;with_reducible refine (CO.out _ HB.out).mono ?_)|(go_at_call 246;with_reducible refine (CF.out _ HB.out).mono ?_));rintro e v1 ⟨rfl,hb_⟩;(try clear t0 t1 t2 t3);replace HB:=btr HB hb_;clear hb_;obtain⟨t0,t1,t2,t3⟩:=HD.out _ HB.out);exact Q09
set_option maxHeartbeats 4000000
theorem sameI_self (l:List Int):sameI l l=true:=by
 unfold sameI;rw[decide_eq_true rfl,Bool.true_and,List.all_eq_true];intro i hi;have h:i<l.length:=List.mem_range.1 hi;rw[List.getElem?_eq_getElem h];simp
theorem sameSize_true (st wd ht:Int) (v3 v4 u3 u4:Value) (f3:∃ a n c,v3=IZ a n c) (f4:∃ a n c,v4=IZ a n c) (g3:∃ a n c,u3=IZ a n c) (g4:∃ a n c,u4=IZ a n c) (w:World):Calls Tryz.prog 45 #[.agg #[J st,J wd,J ht,v3,v4],.agg #[J st,J wd,J ht,u3,u4]] w fun e w'=>e=.returned (.bool true)∧OI w w w':=by
 obtain⟨a3,n3,m3,rfl⟩:=f3;obtain⟨a4,n4,m4,rfl⟩:=f4;obtain⟨e3,l3,o3,rfl⟩:=g3;obtain⟨e4,l4,o4,rfl⟩:=g4;obtain⟨W0,hW0,b0,z0,k0,k1⟩:=zdv w #[J st,J wd,J ht,IZ a3 n3 m3,IZ a4 n4 m4] 36 #[J st,J wd,J ht,IZ e3 l3 o3,IZ e4 l4 o4] 36;obtain⟨c0,c1,c2,_,_,_⟩:=bz5 k0;obtain⟨d0,d1,d2,_,_,_⟩:=bz5 k1;have B0:=IJ b0;clear k0 k1 b0;go_enter Tryz.func45,Tryz.ntmps45;go_upto_region 1 with (fail);clear hW0;go_wp2;go_ret;exact⟨rfl,B0.out⟩
theorem sameRaster_true (st wd ht:Int) (sv lv:List Int) (v3 v4 u3 u4:Value) (w:World) (r3:Rd w w (zam sv) v3) (r4:Rd w w (zam lv) v4) (q3:Rd w w (zam sv) u3) (q4:Rd w w (zam lv) u4) (hs:sv.length≤1048576) (hl:lv.length≤1048576):Calls Tryz.prog 11 #[.agg #[J st,J wd,J ht,v3,v4],.agg #[J st,J wd,J ht,u3,u4]] w fun e w'=>e=.returned (.bool true)∧OI w w w':=by
 obtain⟨a3,m3,e3,_,_,_⟩:=r3.ints;obtain⟨a4,m4,e4,_,_,_⟩:=r4.ints;obtain⟨x3,y3,e5,_,_,_⟩:=q3.ints;obtain⟨x4,y4,e6,_,_,_⟩:=q4.ints;subst e3 e4 e5 e6;obtain⟨W0,hW0,b0,z0,k0,k1⟩:=zdv w #[J st,J wd,J ht,IZ a3 sv.length m3,IZ a4 lv.length m4] 36 #[J st,J wd,J ht,IZ x3 sv.length y3,IZ x4 lv.length y4] 36;have B0:=IJ b0;have HD:=IJ (fun (W:World) (hW:OI W0 W0 W)=>bx5 k0 hW <| by5 k1 hW);have CS:=IJ (sameSize_true st wd ht (IZ a3 sv.length m3) (IZ a4 lv.length m4) (IZ x3 sv.length y3) (IZ x4 lv.length y4) ⟨_,_,_,rfl⟩ ⟨_,_,_,rfl⟩ ⟨_,_,_,rfl⟩ ⟨_,_,_,rfl⟩);have CE:Hid (∀ W:World,OI W0 W0 W→Calls Tryz.prog 46 #[IZ a3 sv.length m3,IZ x3 sv.length y3] W fun e w'=>e=.returned (.bool true)∧OI W W w'):=fun W hW=>by
  have hb:=b0.trans (hW.mono b0.size);have h:=equalI_any sv sv (IZ a3 sv.length m3) (IZ x3 sv.length y3) W.heap.size W ((r3.below hb).mono hb.size) ((q3.below hb).mono hb.size) (Nat.le_refl _) II II;rw[sameI_self] at h;exact h
 have CF:Hid (∀ W:World,OI W0 W0 W→Calls Tryz.prog 46 #[IZ a4 lv.length m4,IZ x4 lv.length y4] W fun e w'=>e=.returned (.bool true)∧OI W W w'):=fun W hW=>by
  have hb:=b0.trans (hW.mono b0.size);have h:=equalI_any lv lv (IZ a4 lv.length m4) (IZ x4 lv.length y4) W.heap.size W ((r4.below hb).mono hb.size) ((q4.below hb).mono hb.size) (Nat.le_refl _) II II;rw[sameI_self] at h;exact h
 have HB:Hid (OI W0 W0 W0):=Below.refl _ _;clear k0 k1 b0 r3 r4 q3 q4;go_enter Tryz.func11,Tryz.ntmps11;go_upto_region 1 with (fail);clear hW0;obtain⟨t0,t1,t2,t3,t4,t5,t6,t7,t8,t9⟩:=HD.out _ HB.out;go_wp2_with (go_at_call 45;refine (CS.out _).mono ?_;rintro e w2 ⟨rfl,hb⟩;replace HB:=btr HB hb;clear hb t0 t1 t2 t3 t4 t5 t6 t7 t8 t9;obtain⟨t0,t1,t2,t3,t4,t5,t6,t7,t8,t9⟩:=HD.out _ HB.out)
 go_at_call 46
 refine (CE.out _ HB.out).mono ?_;rintro e w3 ⟨rfl,hb⟩;replace HB:=btr HB hb;clear hb t0 t1 t2 t3 t4 t5 t6 t7 t8 t9;obtain⟨t0,t1,t2,t3,t4,t5,t6,t7,t8,t9⟩:=HD.out _ HB.out;go_wp2_with (fail)
 go_at_call 46
 refine (CF.out _ HB.out).mono ?_;rintro e w4 ⟨rfl,hb⟩;replace HB:=btr HB hb;clear hb t0 t1 t2 t3 t4 t5 t6 t7 t8 t9;go_wp2;go_ret;exact Q1d
set_option maxHeartbeats 8000000
set_option maxRecDepth 100000
structure RasOk (st wd ht:Int) (sv lv:List Int):Prop where
 size:ze0 st wd ht=true
 len:wd*ht=(sv.length:Int)
 same:lv.length=sv.length
 srv:(sv.all fun n=>inB n (-1) 23)=true
 lev:(lv.all fun n=>inB n (-300000) 300000)=true
 low:∀ (i:Nat) (h:i<sv.length),sv[i]<0→lv[i]'II = -300000
theorem zd9 (st wd ht:Int) (sv lv:List Int) (v3 v4:Value) (w:World) (r3:Rd w w (zam sv) v3) (r4:Rd w w (zam lv) v4) (R:RasOk st wd ht sv lv) (hs:sv.length≤1048576):Calls Tryz.prog 12 #[.agg #[J st,J wd,J ht,v3,v4]] w fun e w'=>e=.returned (.bool true)∧OI w w w':=by
 obtain⟨a3,m3,e3,_,_,hc3⟩:=r3.ints;obtain⟨a4,m4,e4,_,_,hc4⟩:=r4.ints;rw[R.same] at e4;subst e3 e4;obtain⟨W0,hW0,b0,z0,k0⟩:=zav w #[J st,J wd,J ht,IZ a3 sv.length m3,IZ a4 sv.length m4] 36;have B0:=IJ b0;have HD:=IJ (fun (W:World) (hW:OI W0 W0 W)=>by5 k0 hW);have CZ:Hid (∀ W:World,Calls Tryz.prog 41 #[J st,J wd,J ht] W fun e w'=>e=.returned (.bool true)∧W=w'):=fun W=>by
  have h:=zdp st wd ht W;rw[R.size] at h;exact h
 have CA:Hid (∀ W:World,OI W0 W0 W→Calls Tryz.prog 43 #[IZ a3 sv.length m3,J (-1),J 23] W fun e w'=>e=.returned (.bool true)∧OI W W w'):=fun W hW=>by
  have hb:=b0.trans (hW.mono b0.size);have h:=zck sv (-1) 23 (IZ a3 sv.length m3) W.heap.size W ((r3.below hb).mono hb.size) (Nat.le_refl _) II;rw[R.srv] at h;exact h
 have CB:Hid (∀ W:World,OI W0 W0 W→Calls Tryz.prog 43 #[IZ a4 sv.length m4,J (-300000),J 300000] W fun e w'=>e=.returned (.bool true)∧OI W W w'):=fun W hW=>by
  have hb:=b0.trans (hW.mono b0.size);have h:=zck lv (-300000) 300000 (IZ a4 sv.length m4) W.heap.size W ((r4.below hb).mono hb.size) (Nat.le_refl _) (by have:=R.same;omega);rw[R.lev] at h;exact h
 have HB:Hid (OI W0 W0 W0):=Below.refl _ _;have H3:=IJ hc3;have H4:=IJ hc4;have HR:=IJ R;have HSL:=IJ R.same;have hlen:=R.len;have hw_:IntKind.i64.wrap (sv.length:Int)=(sv.length:Int):=IntWalk.i64_in _ II;have B01:=IJ b0;clear k0 b0 r3 r4 R hc3 hc4;go_enter Tryz.func12,Tryz.ntmps12;go_upto_region 1 with (fail);clear hW0;obtain⟨t0,t1,t2,t3,t4⟩:=HD.out _ HB.out;go_wp2_with (fail)
 go_at_call 41
 refine (CZ.out _).mono ?_;rintro e w2 ⟨rfl,rfl⟩;go_wp2_with (fail)
 go_at_call 43
 refine (CA.out _ HB.out).mono ?_;rintro e w3 ⟨rfl,hb⟩;replace HB:=btr HB hb;clear hb t0 t1 t2 t3 t4;obtain⟨t0,t1,t2,t3,t4⟩:=HD.out _ HB.out;go_wp2_with (fail)
 go_at_call 43
 refine (CB.out _ HB.out).mono ?_;rintro e w4 ⟨rfl,hb⟩;replace HB:=btr HB hb;clear hb t0 t1 t2 t3 t4;obtain⟨t0,t1,t2,t3,t4⟩:=HD.out _ HB.out;go_wp2;clear t0 t1 t2 t3 t4;go_loopw [48] (fun i wr=>∃ k:Nat,k≤sv.length∧i=J (k:Int)∧OI w4 w4 wr) (fun i wr=>sv.length-(intOf i).toNat)
 case atStart=>exact⟨0,Nat.zero_le _,rfl,Below.refl _ _⟩
 case round =>
  obtain⟨k,hk,rfl,hbw⟩:=hrel;have HBw:=IJ hbw;have HBr:=btr HB hbw;clear hbw;have hk0:(0:Int)≤(k:Int):=II
  by_cases hlt:k<sv.length
  ·have hki:(k:Int)<(sv.length:Int):=II
   obtain⟨b3,o3,rfl,l3,h3⟩:=H3.out II;obtain⟨b4,o4,rfl,l4,h4⟩:=H4.out (by have:=HSL.out;omega);have hb:=B01.out.trans (HBr.out.mono B01.out.size);have s3:=(bat hb b3 _ l3).trans (h3 k hlt);have s4:=(bat hb b4 _ l4).trans (h4 k (by have:=HSL.out;omega));have hlow:=HR.out.low k hlt;obtain⟨t0,t1,t2,t3,t4⟩:=HD.out _ HBr.out;clear h3 h4 hb;have hl4:k<lv.length:=by have:=HSL.out;omega
   generalize sv[k]=x at *;generalize lv[k]'hl4=y at *
   by_cases hx:x<0
   ·have hy:=hlow hx
    subst hy;have d1:decide (x<0)=true:=decide_eq_true hx;go_wp2;go_roundw
    case rel=>exact⟨k+1,II,by go_num,HBw.out⟩
    case measure=>simp only[intOf];omega
   ·have d1:decide (x<0)=false:=decide_eq_false hx
    go_wp2;go_roundw
    case rel=>exact⟨k+1,II,by go_num,HBw.out⟩
    case measure=>simp only[intOf];omega
  ·have hki:¬ (k:Int)<(sv.length:Int):=II
   go_wp2;go_ret;exact⟨rfl,B0.out.trans (HBr.out.mono B0.out.size)⟩
theorem own_setI {w:World} {l:List Int} {b off n c:Nat} {fp:List Nat} (h:Own w (zam l) (IZ (some ⟨b,off,none⟩) n c) fp) {i:Nat} (hi:i<l.length) (x:Int) :
  (w,b,off+i,J l[i])∧w.frozen? ⟨b,off+i,none⟩=false∧Own (w.setCell ⟨b,off+i,none⟩ (J x)) (zam (l.set i x)) (IZ (some ⟨b,off,none⟩) n c) fp:=by
 have e:l.map intT=(l.take i).map intT++([intT l[i]]++(l.drop (i+1)).map intT):=by
  have e0:l=l.take i++l[i]::l.drop (i+1):=by rw[← List.drop_eq_getElem_cons hi,List.take_append_drop]
  have h:=congrArg (List.map intT) e0;rw[List.map_append,List.map_cons] at h;exact h
 have hl:((l.take i).map intT).length=i:=by rw[List.length_map,List.length_take];omega
 have h2:Own w (.sl 1 ((l.take i).map intT++([intT l[i]]++(l.drop (i+1)).map intT))) (IZ (some ⟨b,off,none⟩) n c) fp:=by rw[← e];exact h
 obtain⟨c1,c2⟩:=h2.cellChunk 0 (J l[i]) rfl (off+i) II;refine⟨c1,c2 _,?_⟩;have h3:=h2.setChunk 0 (J l[i]) rfl (off+i) II (J x);have e3:(l.set i x).map intT=(l.take i).map intT++([intT l[i]].set 0 (.lit (J x))++(l.drop (i+1)).map intT):=by
  rw[List.set_eq_take_append_cons_drop,if_pos hi];simp[intT]
 show Own _ (.sl 1 ((l.set i x).map intT)) _ _
 rw[e3];exact h3
set_option maxHeartbeats 16000000
set_option maxRecDepth 100000
theorem compare_less (st wd ht:Int) (sa la sb lb:List Int) (va3 va4 vb3 vb4:Value) (w:World) (r3:Rd w w (zam sa) va3) (r4:Rd w w (zam la) va4) (q3:Rd w w (zam sb) vb3) (q4:Rd w w (zam lb) vb4) (RA:RasOk st wd ht sa la) (RB:RasOk st wd ht sb lb) (hs:sa.length≤1048576) (hl:sb.length=sa.length)
  (hrel:∀ (k:Nat) (h:k<sa.length),(sb[k]'II=sa[k]∧lb[k]'(by have:=RB.same;omega)=la[k]'(by have:=RA.same;omega))∨sb[k]'II<0) :
  Calls Tryz.prog 13 #[.agg #[J st,J wd,J ht,va3,va4],.agg #[J st,J wd,J ht,vb3,vb4]] w fun e w'=>∃ n:Int,e=.returned (.tuple #[.agg #[J 0,J n,J 0,J 0,J 0],J 0])∧OI w w w':=by
 obtain⟨a3,m3,e3,_,_,hc3⟩:=r3.ints;obtain⟨a4,m4,e4,_,_,hc4⟩:=r4.ints;obtain⟨b3,n3,f3,_,_,hd3⟩:=q3.ints;obtain⟨b4,n4,f4,_,_,hd4⟩:=q4.ints;rw[RA.same] at e4;rw[hl] at f3;rw[RB.same,hl] at f4;subst e3 e4 f3 f4;obtain⟨N,hN⟩:∃ N,N=sa.length:=⟨_,rfl⟩
 have H:=IJ (fun k (hk:k<N)=>show ∃ (x3 o3 x4 o4 y3 p3 y4 p4:Nat) (s l t m:Int),a3=some ⟨x3,o3,none⟩∧a4=some ⟨x4,o4,none⟩∧b3=some ⟨y3,p3,none⟩∧b4=some ⟨y4,p4,none⟩∧(x3<w.heap.size∧x4<w.heap.size∧y3<w.heap.size∧y4<w.heap.size)∧(w,x3,o3+k,J s)∧(w,x4,o4+k,J l)∧(w,y3,p3+k,J t)∧(w,y4,p4+k,J m)∧((t=s∧m=l)∨t<0) from by
  have h1:=RA.same;have h2:=RB.same;obtain⟨x3,o3,rfl,l3,g3⟩:=hc3 II;obtain⟨x4,o4,rfl,l4,g4⟩:=hc4 II;obtain⟨y3,p3,rfl,l5,g5⟩:=hd3 II;obtain⟨y4,p4,rfl,l6,g6⟩:=hd4 II
  exact⟨x3,o3,x4,o4,y3,p3,y4,p4,_,_,_,_,rfl,rfl,rfl,rfl,⟨l3,l4,l5,l6⟩,g3 k II,g4 k II,g5 k II,g6 k II,hrel k II⟩)
 obtain⟨W0,hW0,b0,z0,k0,k1,k2⟩:=boxes3 w #[J st,J wd,J ht,IZ a3 sa.length m3,IZ a4 sa.length m4] 36 #[J st,J wd,J ht,IZ b3 sa.length n3,IZ b4 sa.length n4] 36 #[J 0,J 0,J 0,J 0,J 0] 48;have B0:=IJ b0;have HD:=IJ (fun (W:World) (hW:OI W0 W0 W)=>bx5 k0 hW <| by5 k1 hW);have CV:Hid (∀ W:World,OI W0 W0 W→Calls Tryz.prog 12 #[.agg #[J st,J wd,J ht,IZ a3 sa.length m3,IZ a4 sa.length m4]] W fun e w'=>e=.returned (.bool true)∧OI W W w'):=fun W hW=>by
  have hb:=b0.trans (hW.mono b0.size);exact zd9 st wd ht sa la _ _ W ((r3.below hb).mono hb.size) ((r4.below hb).mono hb.size) RA hs
 have CU:Hid (∀ W:World,OI W0 W0 W→Calls Tryz.prog 12 #[.agg #[J st,J wd,J ht,IZ b3 sa.length n3,IZ b4 sa.length n4]] W fun e w'=>e=.returned (.bool true)∧OI W W w'):=fun W hW=>by
  have hb:=b0.trans (hW.mono b0.size);exact zd9 st wd ht sb lb _ _ W ((q3.below hb).mono hb.size) ((q4.below hb).mono hb.size) RB II
 have CS:=IJ (sameSize_true st wd ht (IZ a3 sa.length m3) (IZ a4 sa.length m4) (IZ b3 sa.length n3) (IZ b4 sa.length n4) ⟨_,_,_,rfl⟩ ⟨_,_,_,rfl⟩ ⟨_,_,_,rfl⟩ ⟨_,_,_,rfl⟩);have HB:Hid (OI W0 W0 W0):=Below.refl _ _;have KZ:=IJ k2;have hNb:(N:Int)≤1048576:=II
 clear b0 k0 k1 k2 r3 r4 q3 q4 RA RB hrel hl hs hc3 hc4 hd3 hd4;rw[← hN] at *;clear hN;go_enter Tryz.func13,Tryz.ntmps13;go_upto_region 1 with (fail);clear hW0;obtain⟨t0,t1,t2,t3,t4,t5,t6,t7,t8,t9⟩:=HD.out _ HB.out;go_wp2_with (fail)
 go_at_call 12
 refine (CV.out _ HB.out).mono ?_;rintro e w2 ⟨rfl,hb⟩;replace HB:=btr HB hb;clear hb t0 t1 t2 t3 t4 t5 t6 t7 t8 t9;obtain⟨t0,t1,t2,t3,t4,t5,t6,t7,t8,t9⟩:=HD.out _ HB.out;go_wp2_with (fail)
 go_at_call 12
 refine (CU.out _ HB.out).mono ?_;rintro e w3 ⟨rfl,hb⟩;replace HB:=btr HB hb;clear hb t0 t1 t2 t3 t4 t5 t6 t7 t8 t9;obtain⟨t0,t1,t2,t3,t4,t5,t6,t7,t8,t9⟩:=HD.out _ HB.out;go_wp2_with (fail)
 go_at_call 45
 refine (CS.out _).mono ?_;rintro e w4 ⟨rfl,hb⟩;replace HB:=btr HB hb;clear hb t0 t1 t2 t3 t4 t5 t6 t7 t8 t9 CS CV CU;obtain⟨t0,t1,t2,t3,t4,t5,t6,t7,t8,t9⟩:=HD.out _ HB.out;go_upto_region 6 with (fail);have H4:=IJ (bkN w4 #[J 0,J 0,J 0,J 0,J 0] 48);have H5:=IJ (zao w4 (.cells #[J 0,J 0,J 0,J 0,J 0] 48));have z4:=HB.out.size;clear t0 t1 t2 t3 t4 t5 t6 t7 t8 t9;generalize hWW:w4.alloc _=W5 at *;clear hWW;have HB5:=btr HB H5.out;obtain⟨t0,t1,t2,t3,t4,t5,t6,t7,t8,t9⟩:=HD.out _ HB5.out;go_wp2_with (fail);clear t0 t1 t2 t3 t4 t5 t6 t7 t8 t9;go_loopw [29] (fun ki wr=>∃ (k:Nat) (n:Int),k≤N∧ki=J (k:Int)∧0≤n∧n≤(k:Int)∧OI w4 w4 wr∧wr.heap[w4.heap.size]? = some (.cells #[J 0,J n,J 0,J 0,J 0] 48 (0,0))) (fun ki wr=>N-(intOf ki).toNat)
 case atStart=>exact⟨0,0,Nat.zero_le _,rfl,II,II,H5.out,H4.out⟩
 case round =>
  obtain⟨k,n,hk,rfl,n0,n1,hbw,hrow⟩:=hrel;have HBw:=IJ hbw;have HR:=IJ hrow;have zr:=hbw.size;have HBr:=btr HB hbw;clear hbw hrow;obtain⟨t0,t1,t2,t3,t4,t5,t6,t7,t8,t9⟩:=HD.out _ HBr.out;have k0:(0:Int)≤(k:Int):=II
  by_cases hlt:k<N
  case neg =>
   obtain rfl:k=N:=II
   clear t0 t1 t2 t3 t4 t5 t6 t7 t8 t9 H;have q0:=bkC HR.out 0 rfl;have q1:=bkC HR.out 1 rfl;have q2:=bkC HR.out 2 rfl;have q3:=bkC HR.out 3 rfl;have q4:=bkC HR.out 4 rfl;have hz:=IJ (bkB KZ.out HBr.out II);have y0:=bkC hz.out 0 rfl;have y1:=bkC hz.out 1 rfl;have y2:=bkC hz.out 2 rfl;have y3:=bkC hz.out 3 rfl;have y4:=bkC hz.out 4 rfl;have f0:∀ i,wr.frozen? ⟨w.heap.size+1+1,i,none⟩=false:=zc5 hz.out;go_wp2_with (fail);refine bodyPost_ret (v:=.tuple #[.agg #[J 0,J n,J 0,J 0,J 0],J 0]) (by simp[results,Tryz.results13,go_sem, *]) rfl ⟨n,rfl,?_⟩;exact bset (bset (bset (bset (bset (B0.out.trans (HBr.out.mono B0.out.size)) II _ _) II _ _) II _ _) II _ _) II _ _
  obtain⟨x3,o3,x4,o4,y3,p3,y4,p4,u,l,t,m,rfl,rfl,rfl,rfl,⟨x3l,x4l,y3l,y4l⟩,g0,g1,g2,g3,hrl⟩:=H.out k hlt;have k1:(k:Int)<(N:Int):=II
  have HC:Hid (∀ W:World,OI W0 W0 W→((W,x3,o3+k,J u)∧(W,x4,o4+k,J l)∧(W,y3,p3+k,J t)∧(W,y4,p4+k,J m))):=fun W hW=>by
   have hb:=B0.out.trans (hW.mono B0.out.size);exact⟨(bat hb x3 _ x3l).trans g0,(bat hb x4 _ x4l).trans g1,(bat hb y3 _ y3l).trans g2,(bat hb y4 _ y4l).trans g3⟩
  clear g0 g1 g2 g3 H t0 t1 t2 t3 t4 t5 t6 t7 t8 t9;have zz:=B0.out.size;have zb:=HB.out.size
  by_cases h1:0≤u
  case neg =>
   have h2:¬ 0≤t:=II
   have d1:decide (0≤u)=false:=decide_eq_false h1;have d2:decide (0≤t)=false:=decide_eq_false h2;exact Q01
  by_cases h2:0≤t
  case neg =>
   have d1:decide (0≤u)=true:=decide_eq_true h1;have d2:decide (0≤t)=false:=decide_eq_false h2;clear hrl;obtain⟨t0,t1,t2,t3,t4,t5,t6,t7,t8,t9⟩:=HD.out _ HBr.out;obtain⟨g0,g1,g2,g3⟩:=HC.out _ HBr.out;go_upto_region 9 with (fail);have o0:=zai (w0:=wr) (show x3<wr.heap.size by omega);have o1:=zai (w0:=wr) (show x4<wr.heap.size by omega);have o2:=zai (w0:=wr) (show y3<wr.heap.size by omega);have o3:=zai (w0:=wr) (show y4<wr.heap.size by omega);have o4:=zai (w0:=wr) (show w.heap.size<wr.heap.size by omega);have o5:=zai (w0:=wr) (show w.heap.size+1<wr.heap.size by omega);refine zab wr.heap.size wr (Below.refl _ _) JI JI ?_
   repeat (go_big_quiet_step (fail))
   refine wpQuiet_nil ?_;rintro _ ⟨X,rfl⟩;have hx_:=zaa wr.heap.size wr X;clear o0 o1 o2 o3 o4 o5 t0 t1 t2 t3 t4 t5 t6 t7 t8 t9 g0 g1 g2 g3;replace HBw:=btr HBw hx_;replace HBr:=btr HBr hx_;replace HR:=bkH HR hx_;have zx:=hx_.size;clear hx_;generalize over wr.heap.size wr X=u1 at *;obtain⟨t0,t1,t2,t3,t4,t5,t6,t7,t8,t9⟩:=HD.out _ HBr.out;have q1:=bkC HR.out 1 rfl;have f1:∀ i,u1.frozen? ⟨w4.heap.size,i,none⟩=false:=zc5 HR.out;go_upto_region 16 with (fail);replace HR:=IJ (bkS HR.out 1 (J (n+1)));replace HBw:=IJ (bset HBw.out (Nat.le_refl _) 1 (J (n+1)));replace HBr:=IJ (bset HBr.out II 1 (J (n+1)));clear t0 t1 t2 t3 t4 t5 t6 t7 t8 t9 q1 f1;generalize hu2:u1.setCell _ _=u2 at *;have zu:u2.heap.size=u1.heap.size:=by rw[← hu2];simp
   clear hu2;obtain⟨t0,t1,t2,t3,t4,t5,t6,t7,t8,t9⟩:=HD.out _ HBr.out;obtain⟨g0,g1,g2,g3⟩:=HC.out _ HBr.out;go_upto_region 16 with (fail);have o0:=zai (w0:=u2) (show x3<u2.heap.size by omega);have o1:=zai (w0:=u2) (show x4<u2.heap.size by omega);have o2:=zai (w0:=u2) (show y3<u2.heap.size by omega);have o3:=zai (w0:=u2) (show y4<u2.heap.size by omega);have o4:=zai (w0:=u2) (show w.heap.size<u2.heap.size by omega);have o5:=zai (w0:=u2) (show w.heap.size+1<u2.heap.size by omega);refine zab u2.heap.size u2 (Below.refl _ _) JI JI ?_
   repeat (go_big_quiet_step (fail))
   refine wpQuiet_nil ?_;rintro _ ⟨X,rfl⟩;have hx_:=zaa u2.heap.size u2 X;clear o0 o1 o2 o3 o4 o5 t0 t1 t2 t3 t4 t5 t6 t7 t8 t9 g0 g1 g2 g3;replace HBw:=btr HBw hx_;replace HBr:=btr HBr hx_;replace HR:=bkH HR hx_;have zx:=hx_.size;clear hx_;generalize over u2.heap.size u2 X=u3 at *;obtain⟨t0,t1,t2,t3,t4,t5,t6,t7,t8,t9⟩:=HD.out _ HBr.out;obtain⟨g0,g1,g2,g3⟩:=HC.out _ HBr.out;go_upto_region 18 with (fail);have o0:=zai (w0:=u3) (show x3<u3.heap.size by omega);have o1:=zai (w0:=u3) (show x4<u3.heap.size by omega);have o2:=zai (w0:=u3) (show y3<u3.heap.size by omega);have o3:=zai (w0:=u3) (show y4<u3.heap.size by omega);have o4:=zai (w0:=u3) (show w.heap.size<u3.heap.size by omega);have o5:=zai (w0:=u3) (show w.heap.size+1<u3.heap.size by omega);refine zab u3.heap.size u3 (Below.refl _ _) JI JI ?_
   repeat (go_big_quiet_step (fail))
   refine wpQuiet_nil ?_;rintro _ ⟨X,rfl⟩;have hx_:=zaa u3.heap.size u3 X;clear o0 o1 o2 o3 o4 o5 t0 t1 t2 t3 t4 t5 t6 t7 t8 t9 g0 g1 g2 g3;replace HBw:=btr HBw hx_;replace HBr:=btr HBr hx_;replace HR:=bkH HR hx_;have zx:=hx_.size;clear hx_;generalize over u3.heap.size u3 X=u4 at *;obtain⟨t0,t1,t2,t3,t4,t5,t6,t7,t8,t9⟩:=HD.out _ HBr.out;go_wp2_with (fail);go_roundw
   case rel=>exact⟨k+1,n+1,II,by go_num,II,II,HBw.out,HR.out⟩
   case measure=>simp[intOf];omega
  obtain⟨rfl,rfl⟩:t=u∧m=l:=II
  have d1:decide (0≤t)=true:=decide_eq_true h2;have d3:decide (m<m)=false:=decide_eq_false II;exact Q01
end Go.Proofs.YtpakghepnahooaaGreatDoor
namespace Go.Proofs.YtpakghepnahooaaGreatDoor
set_option maxHeartbeats 8000000
set_option maxRecDepth 100000
open Go.RowKit
theorem own_rowC {w:World} {g E:Nat} {cs:Array Value} {l:List Int} (hk:w.heap[g]? = some (.cells cs E (0,0))) (h:cs.toList=l.map fun n=>J n) (h0:1≤l.length) (hm:l.length≤maxLen):Own w (zam l) (IZ (some ⟨g,0,none⟩) l.length l.length) [g]:=by
 refine⟨zb7.2 ⟨_,l.length,l.length,rfl,by simp,Nat.le_refl _,hm,Or.inr ⟨g,0,[],by intro e;rw[List.map_eq_nil_iff] at e;rw[e] at h0;simp at h0,rfl,rfl,?_⟩⟩,by simp,fun y hy i=>?_⟩
 ·have:=Reps.lits (w:=w) (l.map fun n=>J n) g 0 (fun i hi=>by
   rw[Nat.zero_add,za9 hk i,← Array.getElem?_toList,h,List.getElem?_eq_getElem hi])
  rw[List.map_map] at this;exact this
 ·simp at hy;subst hy;exact bkF hk i
theorem zeros_row (n:Nat):(madeCells (Value.int .i64 0).cells (n*1)).toList=(List.replicate n (0:Int)).map fun n=>J n:=by
 rw[Nat.mul_one,show (Value.int .i64 0).cells=#[J 0] from rfl,toList_madeCells_one,List.map_replicate]
def flatL (m k:Nat) (h:Int):List Int:=List.replicate k h++List.replicate (m-k) 0
theorem flatL_len {m k:Nat} (h:Int) (hk:k≤m):(flatL m k h).length=m:=by unfold flatL;simp<;>omega
theorem flatL_set {m k:Nat} (h:Int) (hk:k<m):(flatL m k h).set k h=flatL m (k+1) h:=by
 unfold flatL;rw[List.set_append_right _ _ Q4a,List.length_replicate,Nat.sub_self];obtain⟨d,rfl⟩:∃ d,m=k+1+d:=⟨m-(k+1),II⟩
 rw[show k+1+d-k=d+1 by omega,show k+1+d-(k+1)=d by omega,List.replicate_succ,OJ,List.replicate_succ',List.append_assoc]
 rfl
theorem flatL_end (m:Nat) (h:Int):flatL m m h=List.replicate m h:=by unfold flatL;simp
def FlatQ (st wd ht h:Int) (m:Nat) (w:World) (e:Ending) (w':World):Prop:=∃ g g2:Nat,e=.returned (.agg #[J st,J wd,J ht,IZ (some ⟨g,0,none⟩) m m,IZ (some ⟨g2,0,none⟩) m m])∧OI w w w'∧w.heap.size≤g∧g<w'.heap.size∧w.heap.size≤g2∧g2<w'.heap.size∧g≠g2∧Own w' (zam (List.replicate m h)) (IZ (some ⟨g,0,none⟩) m m) [g]∧Own w' (zam (List.replicate m 0)) (IZ (some ⟨g2,0,none⟩) m m) [g2]
theorem l04Flat_any (st wd ht h:Int) (m:Nat) (w:World) (hm:wd*ht=(m:Int)) (h1:1≤m) (h2:m≤100000):Calls Tryz.prog 95 #[J st,J wd,J ht,J h] w (FlatQ st wd ht h m w):=by
 obtain⟨i0,hi0,hz0,hz1,hz2⟩:=info_parts infoI;obtain⟨mrow,hml,hmk⟩:∃ mrow:Array Value,mrow.toList=((List.replicate m (0:Int)).map fun n=>J n)∧∀ W:World,(Instr.makeSlice 24 (J (m:Int)) (J (m:Int))).run Tryz.prog W=.ok (IZ (some ⟨W,0,none⟩) m m) (W.alloc (.cells mrow 2)):=by
  refine⟨madeCells (Value.int .i64 0).cells (m*1),zeros_row m,fun W=>?_⟩;have:=run_make_rowN (P:=Tryz.prog) 24 2 i0 _ Tryz.underlying24 hi0 hz0 .i64 .i64 m m (Nat.le_refl _) (by rw[hz2];omega) II W;rw[hz1] at this;exact this
 clear hi0 hz0 hz1 hz2;have HML:=IJ hml;clear hml;have hw_:IntKind.i64.wrap (m:Int)=(m:Int):=IntWalk.i64_in _ II;go_enter Tryz.func95,Tryz.ntmps95;go_upto_region 1 with (fail);obtain⟨W0,hW0,b0,z0,k0⟩:=zav w #[J 0,J 0,J 0,IZ none 0 0,IZ none 0 0] 26;rw[hW0];clear hW0;obtain⟨r,hr⟩:∃ r,r=w.heap.size:=⟨_,rfl⟩
 rw[← hr] at k0;rw[← hr];have K0:=IJ k0;have B0:=IJ b0;have rw_:=Nat.le_of_eq hr;have rw2:=Nat.le_of_eq hr.symm;clear b0 k0 hr;go_cut [9] (fun s0 wx=>∃ (tb g g2:Nat),s0=.pointer (some ⟨tb,0,none⟩)∧wx.heap[tb]? = some (.cells #[J st,J wd,J ht,IZ (some ⟨g,0,none⟩) m m,IZ (some ⟨g2,0,none⟩) m m] 26 (0,0))∧W0.heap.size≤tb∧tb<wx.heap.size∧tb≠g∧W0.heap.size≤g∧g<wx.heap.size∧W0.heap.size≤g2∧g2<wx.heap.size∧g≠g2∧tb≠g2∧wx.heap[g]? = some (.cells mrow 2 (0,0))∧wx.heap[g2]? = some (.cells mrow 2 (0,0))∧OI W0 W0 wx)
 case first =>
  refine zas 13 (.read 0 (.read 1 (.read 2 (.read 3 (.read 4 (.read 5 (.read 7 (.read 8 (.read 9 (.three 6 10 12 (.two 10 12 (.read 11 (.one 12 .nil)) (.one 10 (.read 11 .nil))) (.two 6 12 (.read 11 (.one 12 .nil)) (.one 6 (.read 11 .nil))) (.two 6 10 (.one 10 (.read 11 .nil)) (.one 6 (.read 11 .nil))))))))))))) (fun W=>OI W0 W0 W) JI JI (zbl W0) ?_;have BB0:Hid (OI W0 W0 W0.drew):=zbl W0;have zd:W0.heap.size≤W0.drew.heap.size:=Nat.le_refl _;generalize W0.drew=Y at *
  repeat' (first
   | (refine zak (v:=?_) rfl (fun _ _ _ h=>h) ?_ ?_;rotate_left;focus (intro W hSW;(try dsimp only at hSW);(go_simp<;>with_reducible rfl));(try simp only[Act.put,OO,OJ,OQ]))
   | ((try simp only[hw_]);(first|refine zaf ?_|refine zbv ?_ ?_|refine wpTree_three ?_ ?_ ?_)<;>(first|(refine zae (i:=6) rfl (fun K hK=>?_);go_simp;have b_:OI Y Y (Y.alloc (.cells mrow 2)):=zao _ _;refine hK.out _ _ (BB0.out.trans (b_.mono II)) ?_;clear hK K;(try simp only[Act.put,OO,OJ,OQ]);(try replace E1:=IJ (bkB E1.out b_ II));(try replace KH:=IJ (bkB KH.out b_ II));have E0:=IJ (bkN Y mrow 2);replace BB0:=IJ (BB0.out.trans (b_.mono II));have zz:Y.heap.size+1≤(Y.alloc (.cells mrow 2)).heap.size:=Q4a;clear b_;generalize (Y.alloc (.cells mrow 2))=Z at *;obtain⟨q0,q0_⟩:∃ q0,q0=Y.heap.size:=⟨_,rfl⟩;rw[← q0_] at E0 ⊢;have q0a:=Nat.le_of_eq q0_;have q0b:=Nat.le_of_eq q0_.symm;clear q0_;rename World=>Y)|(refine zae (i:=10) rfl (fun K hK=>?_);go_simp;have b_:OI Y Y (Y.alloc (.cells mrow 2)):=zao _ _;refine hK.out _ _ (BB0.out.trans (b_.mono II)) ?_;clear hK K;(try simp only[Act.put,OO,OJ,OQ]);(try replace E0:=IJ (bkB E0.out b_ II));(try replace KH:=IJ (bkB KH.out b_ II));have E1:=IJ (bkN Y mrow 2);replace BB0:=IJ (BB0.out.trans (b_.mono II));have zz:Y.heap.size+1≤(Y.alloc (.cells mrow 2)).heap.size:=Q4a;clear b_;generalize (Y.alloc (.cells mrow 2))=Z at *;obtain⟨q1,q1_⟩:∃ q1,q1=Y.heap.size:=⟨_,rfl⟩;rw[← q1_] at E1 ⊢;have q1a:=Nat.le_of_eq q1_;have q1b:=Nat.le_of_eq q1_.symm;clear q1_;rename World=>Y)|(refine zae (i:=12) rfl (fun K hK=>?_);go_simp;have b_:OI Y Y (Y.alloc (.cells #[J 0,J 0,J 0,IZ none 0 0,IZ none 0 0] 26)):=zao _ _;refine hK.out _ _ (BB0.out.trans (b_.mono II)) ?_;clear hK K;(try simp only[Act.put,OO,OJ,OQ]);(try replace E0:=IJ (bkB E0.out b_ II));(try replace E1:=IJ (bkB E1.out b_ II));have KH:=IJ (bkN Y #[J 0,J 0,J 0,IZ none 0 0,IZ none 0 0] 26);replace BB0:=IJ (BB0.out.trans (b_.mono II));have zz:Y.heap.size+1≤(Y.alloc (.cells #[J 0,J 0,J 0,IZ none 0 0,IZ none 0 0] 26)).heap.size:=Q4a;clear b_;generalize (Y.alloc (.cells #[J 0,J 0,J 0,IZ none 0 0,IZ none 0 0] 26))=Z at *;obtain⟨tb,tb_⟩:∃ tb,tb=Y.heap.size:=⟨_,rfl⟩;rw[← tb_] at KH ⊢;have tba:=Nat.le_of_eq tb_;have tbb:=Nat.le_of_eq tb_.symm;clear tb_;rename World=>Y)))
   | (refine zat ?_;simp only[List.drop_succ_cons,List.drop_zero];obtain⟨g0,g1,g2,g3,g4,_⟩:=bz5 KH.out;have fz:=bkF KH.out;clear hmk;go_wp2_with fail;go_meet;exact⟨tb,q0,q1,rfl,by have:=bkS (bkS (bkS (bkS (bkS (KH.out) 0 (J st)) 1 (J wd)) 2 (J ht)) 3 (IZ (some ⟨q0,0,none⟩) m m)) 4 (IZ (some ⟨q1,0,none⟩) m m);simpa using this,II,by simp only[zac];omega,II,II,by simp only[zac];omega,II,by simp only[zac];omega,II,II,bkO (bkO (bkO (bkO (bkO (E0.out) (p:=⟨tb,0,none⟩) (by show q0≠tb;omega) _) (p:=⟨tb,1,none⟩) (by show q0≠tb;omega) _) (p:=⟨tb,2,none⟩) (by show q0≠tb;omega) _) (p:=⟨tb,3,none⟩) (by show q0≠tb;omega) _) (p:=⟨tb,4,none⟩) (by show q0≠tb;omega) _,bkO (bkO (bkO (bkO (bkO (E1.out) (p:=⟨tb,0,none⟩) (by show q1≠tb;omega) _) (p:=⟨tb,1,none⟩) (by show q1≠tb;omega) _) (p:=⟨tb,2,none⟩) (by show q1≠tb;omega) _) (p:=⟨tb,3,none⟩) (by show q1≠tb;omega) _) (p:=⟨tb,4,none⟩) (by show q1≠tb;omega) _,((((((BB0.out)).setCell (p:=⟨tb,0,none⟩) Q3n _).setCell (p:=⟨tb,1,none⟩) Q3n _).setCell (p:=⟨tb,2,none⟩) Q3n _).setCell (p:=⟨tb,3,none⟩) Q3n _).setCell (p:=⟨tb,4,none⟩) Q3n _⟩))
 case rest =>
  obtain⟨tb,g,g2,rfl,kt,t0,t1,t2,t3,t4,t5,t6,t7,t8,kg,kg2,hb⟩:=hcut;have KT:=IJ kt;have hl0:(List.replicate m (0:Int)).length=m:=by simp
  have OG:=own_rowC kg HML.out II Q3v;have OG2:=own_rowC kg2 HML.out II Q3v;rw[hl0] at OG OG2;have HG:Hid (Own wc (zam (flatL m 0 h)) (IZ (some ⟨g,0,none⟩) m m) [g]):=by
   have e:flatL m 0 h=List.replicate m 0:=by unfold flatL;simp
   rw[e];exact OG
  have HG2:=IJ OG2;have HB:=IJ hb;have KR:=IJ (bkB K0.out hb II);clear kt kg kg2 OG OG2 hb hmk HML K0 hw_;generalize wc=W1 at *;go_wp2;go_loopw [10] (fun i wr=>∃ (k:Nat),k≤m∧i=J (k:Int)∧OI W0 W0 wr∧wr.heap.size=W1.heap.size∧wr.heap[tb]? = some (.cells #[J st,J wd,J ht,IZ (some ⟨g,0,none⟩) m m,IZ (some ⟨g2,0,none⟩) m m] 26 (0,0))∧wr.heap[r]? = some (.cells #[J 0,J 0,J 0,IZ none 0 0,IZ none 0 0] 26 (0,0))∧Own wr (zam (flatL m k h)) (IZ (some ⟨g,0,none⟩) m m) [g]∧Own wr (zam (List.replicate m 0)) (IZ (some ⟨g2,0,none⟩) m m) [g2]) (fun i wr=>m-(intOf i).toNat)
  case atStart=>exact⟨0,II,rfl,HB.out,rfl,KT.out,KR.out,HG.out,HG2.out⟩
  case round =>
   obtain⟨k,hk,rfl,hb,hz,kt,kr,og,og2⟩:=hrel;have B1:=IJ hb;have KT1:=IJ kt;have KR1:=IJ kr;have O1:=IJ og;have O2:=IJ og2;have zra:=Nat.le_of_eq hz;have zrb:=Nat.le_of_eq hz.symm;clear hb kt kr og og2 hz KT KR HG HG2 HB
   by_cases hlt:k<m
   ·have hki:(k:Int)<(m:Int):=II
    have hkn:(0:Int)≤(k:Int):=II
    have q3:=bkC KT1.out 3 rfl;obtain⟨s0,f0,o1⟩:=own_setI O1.out (i:=k) (by rw[flatL_len _ hk];exact hlt) h;rw[Nat.zero_add] at s0 f0 o1;rw[flatL_set _ hlt] at o1;have OO1:=IJ o1;have OO2:=IJ (O2.out.setFar (p:=⟨g,k,none⟩) (fun e=>by simp at e;omega) (J h));have KT2:=IJ (bkO KT1.out (p:=⟨g,k,none⟩) (by show tb≠g;omega) (J h));have KR2:=IJ (bkO KR1.out (p:=⟨g,k,none⟩) (by show r≠g;omega) (J h));have BB:=IJ (B1.out.setCell (p:=⟨g,k,none⟩) (by show W0.heap.size≤g;omega) (J h));clear O1 O2 o1 KT1 KR1 B1;go_wp2;go_roundw
    case rel=>exact⟨k+1,II,by go_num,BB.out,by rw[zac];omega,KT2.out,KR2.out,OO1.out,OO2.out⟩
    case measure=>simp only[intOf];omega
   ·have hki:¬ (k:Int)<(m:Int):=II
    have hkm:k=m:=II
    have OE:Hid (Own wr (zam (List.replicate m h)) (IZ (some ⟨g,0,none⟩) m m) [g]):=by
     have:=O1.out;rw[hkm,flatL_end] at this;exact this
    clear hkm O1;obtain⟨c0,c1,c2,c3,c4,_⟩:=bz5 KT1.out;obtain⟨u0,u1,u2,u3,u4,gz⟩:=bz5 KR1.out;go_wp2;refine bodyPost_ret (v:=.agg #[J st,J wd,J ht,IZ (some ⟨g,0,none⟩) m m,IZ (some ⟨g2,0,none⟩) m m]) (by simp[results,Tryz.results95,go_sem, *]) rfl ?_;have hfar:=zca r [J st,J wd,J ht,IZ (some ⟨g,0,none⟩) m m,IZ (some ⟨g2,0,none⟩) m m] wr 0;have hsz:=zb2 r [J st,J wd,J ht,IZ (some ⟨g,0,none⟩) m m,IZ (some ⟨g2,0,none⟩) m m] wr 0;have hlow:=zbz r [J st,J wd,J ht,IZ (some ⟨g,0,none⟩) m m,IZ (some ⟨g2,0,none⟩) m m] wr 0;simp only[zbq] at hfar hsz hlow;refine⟨g,g2,rfl,(B0.out.trans (B1.out.mono II)).trans (hlow.mono rw2),II,by rw[hsz];omega,II,by rw[hsz];omega,II,OE.out.frame (fun x hx=>hfar x Q3z),O2.out.frame (fun x hx=>hfar x Q3z)⟩
def TerD (t:DTerrain):Prop:=(0≤t.step∧t.step≤1000)∧(0≤t.width∧t.width≤1000)∧(0≤t.height∧t.height≤1000)∧t.heights.length≤1000∧t.clutter.length≤1000∧(∀ x ∈ t.heights,0≤x∧x≤2000)∧∀ x ∈ t.clutter,0≤x∧x≤2000
theorem TerD.small {t:DTerrain} (h:TerD t):t.ok∧sizL t.tr≤1048576:=by
 obtain⟨h1,h2,h3,h4,h5,h6,h7⟩:=h;have I:∀ x:Int,0≤x→x≤2000→I64 x:=fun x a b=>⟨II,II⟩
 refine⟨⟨I _ h1.1 II,I _ h2.1 II,I _ h3.1 II,fun x hx=>I x (h6 x hx).1 (h6 x hx).2,fun x hx=>I x (h7 x hx).1 (h7 x hx).2⟩,?_⟩;simp only[DTerrain.tr,sizL,zdb,intT,siz];omega
def TerP (lo hi:Nat) (w:World) (t:DTerrain) (v3 v4:Value):Prop:=∃ f3 f4,Own w (zam t.heights) v3 f3∧Own w (zam t.clutter) v4 f4∧In lo hi f3∧In lo hi f4
theorem TerP.frame {lo hi:Nat} {w w':World} {t:DTerrain} {v3 v4:Value} (h:TerP lo hi w t v3 v4) (hf:∀ b,lo≤b→b<hi→w'.heap[b]? = w.heap[b]?):TerP lo hi w' t v3 v4:=by
 obtain⟨f3,f4,o3,o4,i3,i4⟩:=h;exact⟨f3,f4,o3.frame (fun b hb=>hf b (i3 b hb).1 (i3 b hb).2),o4.frame (fun b hb=>hf b (i4 b hb).1 (i4 b hb).2),i3,i4⟩
theorem TerP.mono {lo hi lo' hi':Nat} {w:World} {t:DTerrain} {v3 v4:Value} (h:TerP lo hi w t v3 v4) (h1:lo'≤lo) (h2:hi≤hi'):TerP lo' hi' w t v3 v4:=by
 obtain⟨f3,f4,o3,o4,i3,i4⟩:=h;exact⟨f3,f4,o3,o4,i3.mono h1 h2,i4.mono h1 h2⟩
theorem TerP.rd {lo hi:Nat} {w:World} {t:DTerrain} {v3 v4:Value} (h:TerP lo hi w t v3 v4):Rd hi w (zam t.heights) v3∧Rd hi w (zam t.clutter) v4:=by
 obtain⟨f3,f4,o3,o4,i3,i4⟩:=h;exact⟨o3.rd i3,o4.rd i4⟩
theorem TerP.form {lo hi:Nat} {w:World} {t:DTerrain} {v3 v4:Value} (h:TerP lo hi w t v3 v4):∃ A3 C3 A4 C4,v3=IZ A3 t.heights.length C3∧v4=IZ A4 t.clutter.length C4:=by
 obtain⟨A3,C3,e3,_,_,_⟩:=h.rd.1.ints;obtain⟨A4,C4,e4,_,_,_⟩:=h.rd.2.ints;exact⟨A3,C3,A4,C4,e3,e4⟩
def DrTer (b k m:Nat) (w:World) (e:Ending) (w':World):Prop:=∃ (t:DTerrain) (v3 v4:Value),TerD t∧e=.returned (.agg (t,v3,v4))∧TerP w.heap.size w'.heap.size w' t v3 v4∧SrcQ b k m w w'
structure TeS (b k c:Nat) (w0 w:World) (r f T g g2 m:Nat) (st wd ht:Int) (hs cl:List Int):Prop where
 d:DrS b k c w0 w r f #[J 0,J 0,J 0,IZ none 0 0,IZ none 0 0] #[J st,J wd,J ht,IZ (some ⟨g,0,none⟩) m m,IZ (some ⟨g2,0,none⟩) m m] T
 o1:Own w (zam hs) (IZ (some ⟨g,0,none⟩) m m) [g]
 o2:Own w (zam cl) (IZ (some ⟨g2,0,none⟩) m m) [g2]
 l1:hs.length=m
 l2:cl.length=m
 p1:w0.heap.size≤g∧g<w.heap.size
 p2:w0.heap.size≤g2∧g2<w.heap.size
 ne:g≠g2∧g≠r∧g≠f∧g2≠r∧g2≠f
 hb:∀ x ∈ hs,0≤x∧x≤2000
 cb:∀ x ∈ cl,0≤x∧x≤2000
section
variable {b k c r f T g g2 m:Nat} {w0 w w':World} {st wd ht:Int} {hs cl:List Int}
theorem DrS.setO {R F:Array Value} (h:DrS b k c w0 w r f R F T) {y:Nat} (h0:w0.heap.size≤y) (h1:y≠r) (h2:y≠f) (j:Nat) (v:Value):DrS b k c w0 (w.setCell ⟨y,j,none⟩ v) r f R F T:=by
 obtain⟨k',a,e,S⟩:=h.src;have:=h.bl;have hbb:OI (b+1) w (w.setCell ⟨y,j,none⟩ v):=(Below.refl (b+1) w).setCell (p:=⟨y,j,none⟩) (by show b+1≤y;omega) v;exact⟨⟨k',a,e,S.below II hbb⟩,⟨h.chg.os,h.chg.tape,h.chg.output,by rw[zac];exact h.chg.size,fun x hx hn=>(bkO rfl (p:=⟨y,j,none⟩) Q40 v).trans (h.chg.block x hx hn)⟩,bkO h.hr (p:=⟨y,j,none⟩) h1.symm v,bkO h.hf (p:=⟨y,j,none⟩) h2.symm v,h.bl,h.lr,h.lf,h.ne⟩
theorem TeS.below (h:TeS b k c w0 w r f T g g2 m st wd ht hs cl) (hb:OI w w w'):TeS b k c w0 w' r f T g g2 m st wd ht hs cl:=by
 have p1:=h.p1;have p2:=h.p2;have:=hb.size;exact⟨h.d.below hb,h.o1.frame (fun x hx=>hb.block x Q3z),h.o2.frame (fun x hx=>hb.block x Q3z),h.l1,h.l2,⟨p1.1,II⟩,⟨p2.1,II⟩,h.ne,h.hb,h.cb⟩
theorem TeS.call {k1 d:Nat} (h:TeS b k c w0 w r f T g g2 m st wd ht hs cl) (h1:k≤k1) (h2:k1≤k+c) (q:SrcQ b k1 d w w'):TeS b k (c+d) w0 w' r f T g g2 m st wd ht hs cl:=by
 have p1:=h.p1;have p2:=h.p2;have hbl:=h.d.bl;have D:=h.d.call h1 h2 q;obtain⟨_,_,_,_,C⟩:=q;have:=C.size;exact⟨D,h.o1.frame (fun x hx=>C.block x Q3z (by simp at hx ⊢;omega)),h.o2.frame (fun x hx=>C.block x Q3z (by simp at hx ⊢;omega)),h.l1,h.l2,⟨p1.1,II⟩,⟨p2.1,II⟩,h.ne,h.hb,h.cb⟩
theorem TeS.more {d:Nat} (h:TeS b k c w0 w r f T g g2 m st wd ht hs cl) (hd:c≤d):TeS b k d w0 w r f T g g2 m st wd ht hs cl:=by
 obtain⟨k',a,e,S⟩:=h.d.src;exact⟨⟨⟨k',a,II,S⟩,h.d.chg,h.d.hr,h.d.hf,h.d.bl,h.d.lr,h.d.lf,h.d.ne⟩,h.o1,h.o2,h.l1,h.l2,h.p1,h.p2,h.ne,h.hb,h.cb⟩
theorem set_bd {l:List Int} {i:Nat} {x:Int} (h:∀ y ∈ l,0≤y∧y≤2000) (h0:0≤x) (h1:x≤2000):∀ y ∈ l.set i x,0≤y∧y≤2000:=fun y hy=>by
 rcases List.mem_or_eq_of_mem_set hy with e|e
 ·exact h y e
 ·subst e;exact⟨h0,h1⟩
theorem TeS.setH (h:TeS b k c w0 w r f T g g2 m st wd ht hs cl) {i:Nat} (hi:i<m) {x:Int} (h0:0≤x) (h1:x≤2000):TeS b k c w0 (w.setCell ⟨g,i,none⟩ (J x)) r f T g g2 m st wd ht (hs.set i x) cl:=by
 have hne:=h.ne;obtain⟨_,_,o⟩:=own_setI h.o1 (i:=i) (by rw[h.l1];exact hi) x;rw[Nat.zero_add] at o;exact⟨h.d.setO h.p1.1 hne.2.1 hne.2.2.1 _ _,o,h.o2.setFar (p:=⟨g,i,none⟩) (fun e=>hne.1 (by simpa using e)) _,by rw[List.length_set];exact h.l1,h.l2,by rw[zac];exact h.p1,by rw[zac];exact h.p2,hne,set_bd h.hb h0 h1,h.cb⟩
theorem TeS.setC (h:TeS b k c w0 w r f T g g2 m st wd ht hs cl) {i:Nat} (hi:i<m) {x:Int} (h0:0≤x) (h1:x≤2000):TeS b k c w0 (w.setCell ⟨g2,i,none⟩ (J x)) r f T g g2 m st wd ht hs (cl.set i x):=by
 have hne:=h.ne;obtain⟨_,_,o⟩:=own_setI h.o2 (i:=i) (by rw[h.l2];exact hi) x;rw[Nat.zero_add] at o;exact⟨h.d.setO h.p2.1 hne.2.2.2.1 hne.2.2.2.2 _ _,h.o1.setFar (p:=⟨g2,i,none⟩) (fun e=>hne.1 (by simp at e;exact e.symm)) _,o,h.l1,by rw[List.length_set];exact h.l2,by rw[zac];exact h.p1,by rw[zac];exact h.p2,hne,h.hb,set_bd h.cb h0 h1⟩
theorem TeS.at1 (h:TeS b k c w0 w r f T g g2 m st wd ht hs cl) {i:Nat} (hi:i<m):(w,g,i,J (hs[i]'(by rw[h.l1];exact hi)))∧w.frozen? ⟨g,i,none⟩=false:=by
 obtain⟨a,b,_⟩:=own_setI h.o1 (i:=i) (by rw[h.l1];exact hi) 0;rw[Nat.zero_add] at a b;exact⟨a,b⟩
theorem TeS.at2 (h:TeS b k c w0 w r f T g g2 m st wd ht hs cl) {i:Nat} (hi:i<m):(w,g2,i,J (cl[i]'(by rw[h.l2];exact hi)))∧w.frozen? ⟨g2,i,none⟩=false:=by
 obtain⟨a,b,_⟩:=own_setI h.o2 (i:=i) (by rw[h.l2];exact hi) 0;rw[Nat.zero_add] at a b;exact⟨a,b⟩
theorem TeS.fin (h:TeS b k c w0 w r f T g g2 m st wd ht hs cl) (hm:m≤1000) (h1:0≤st∧st≤1000) (h2:0≤wd∧wd≤1000) (h3:0≤ht∧ht≤1000):DrTer b k c w0 (.returned (.agg #[J st,J wd,J ht,IZ (some ⟨g,0,none⟩) m m,IZ (some ⟨g2,0,none⟩) m m])) (zbq w r 0 [J st,J wd,J ht,IZ (some ⟨g,0,none⟩) m m,IZ (some ⟨g2,0,none⟩) m m]):=by
 have p1:=h.p1;have p2:=h.p2;have hne:=h.ne;have hfar:=zca r [J st,J wd,J ht,IZ (some ⟨g,0,none⟩) m m,IZ (some ⟨g2,0,none⟩) m m] w 0;have hsz:=zb2 r [J st,J wd,J ht,IZ (some ⟨g,0,none⟩) m m,IZ (some ⟨g2,0,none⟩) m m] w 0;refine⟨⟨st,wd,ht,hs,cl⟩,_,_,⟨h1,h2,h3,by show hs.length≤1000;rw[h.l1];exact hm,by show cl.length≤1000;rw[h.l2];exact hm,h.hb,h.cb⟩,rfl,⟨[g],[g2],h.o1.frame (fun x hx=>hfar x Q3z),h.o2.frame (fun x hx=>hfar x Q3z),fun x hx=>?_,fun x hx=>?_⟩,h.d.fin _⟩
 ·simp at hx;rw[hsz];omega
 ·simp at hx;rw[hsz];omega
end
theorem l20Terrain_any (b k:Nat) (w:World) (h:Src w b k) (hk:k≤1099511400000):Calls Tryz.prog 65 #[.pointer (some ⟨b,0,none⟩)] w (DrTer b k 400 w):=by
 have yb:=h.lt;have HS:=IJ h;clear h;go_enter Tryz.func65,Tryz.ntmps65;go_wp2_with (fail);obtain⟨W0,hW0,b0,z0,k0⟩:=zav w #[J 0,J 0,J 0,IZ none 0 0,IZ none 0 0] 26;rw[hW0];clear hW0;obtain⟨r,hr⟩:∃ r,r=w.heap.size:=⟨_,rfl⟩
 rw[← hr] at k0 ⊢;have r1:=Nat.le_of_eq hr;have r2:=Nat.le_of_eq hr.symm;have K0:=IJ k0;have B0:=IJ b0;clear b0 k0 hr
 go_at_call 59
 refine (zbe b k 300 _ (HS.out.below HS.out.lt B0.out) II II II).mono ?_;rintro e w1 ⟨⟨x,hx0,hx1,rfl⟩,kk,ka,kb,SS,cq⟩;have SK:=IJ SS;have CQ:=IJ cq;have zq:=cq.size;have K1:=IJ ((cq.block r II Q41).trans K0.out);clear SS cq HS K0;go_wp2_with (fail)
 go_at_call 95
 refine (l04Flat_any 100 7 7 x 49 w1 Q47 II II).mono ?_;rintro e w2 ⟨g,g2,rfl,hb,h1,h2,h3,h4,h5,o1,o2⟩;have SK2:=IJ (SK.out.below SK.out.lt hb);have K2:=IJ (bkB K1.out hb II);have zb:=hb.size;have HB:=IJ hb;have O1:=IJ o1;have O2:=IJ o2;clear hb o1 o2 SK K1;go_upto_region 2 with (fail);obtain⟨w3,hw3,b3,z3,k3⟩:=zav w2 #[J 100,J 7,J 7,IZ (some ⟨g,0,none⟩) 49 49,IZ (some ⟨g2,0,none⟩) 49 49] 26;rw[hw3];clear hw3;obtain⟨f,hf⟩:∃ f,f=w2.heap.size:=⟨_,rfl⟩
 rw[← hf] at k3 ⊢;have TS:Hid (TeS b k 2 w w3 r f 26 g g2 49 100 7 7 (List.replicate 49 x) (List.replicate 49 0)) :=
  ⟨⟨⟨kk,ka,kb,SK2.out.below SK2.out.lt b3⟩,(((Chg.of_below B0.out).trans CQ.out).trans (Chg.of_below HB.out)).trans (Chg.of_below b3),bkB K2.out b3 II,k3,yb,II,II,II⟩,O1.out.frame (fun y hy=>b3.block y (by simp at hy;omega)),O2.out.frame (fun y hy=>b3.block y (by simp at hy;omega)),by simp,by simp,II,II,II,fun y hy=>by have:=List.eq_of_mem_replicate hy;omega,fun y hy=>by have:=List.eq_of_mem_replicate hy;omega⟩
 clear b3 k3 SK2 K2 HB O1 O2 CQ B0 hf h1 h2 h3 h4 h5 z0 zq zb z3;go_wp2;go_loopw [4] (fun i wr=>∃ (j:Nat) (hs cl:List Int),j≤49∧i=J (j:Int)∧(∀ i (hi:i<hs.length),j≤i→hs[i]≤299)∧TeS b k (2+8*j) w wr r f 26 g g2 49 100 7 7 hs cl) (fun i wr=>49-(intOf i).toNat)
 case atStart=>exact⟨0,_,_,II,rfl,fun i hi _=>by rw[List.getElem_replicate];omega,TS.out⟩
 case round =>
  obtain⟨j,hs,cl,hj,rfl,hlo,hR⟩:=hrel;have TA:=IJ hR;have HLO:=IJ hlo;clear hR TS hlo
  by_cases hlt:j<49
  ·have hji:(j:Int)<49:=II
   have hjn:(0:Int)≤(j:Int):=II
   have q3:=bkC TA.out.d.hf 3 rfl;go_wp2_with (fail);clear q3
   go_at_call 68
   obtain⟨kk,ka,kb,SS⟩:=TA.out.d.src;refine (one_any b kk 4 _ SS II ⟨II,II⟩).mono ?_;rintro e w4 ⟨⟨cd,rfl⟩,hq⟩;have TB:Hid (TeS b k (2+8*j+2) w w4 r f 26 g g2 49 100 7 7 hs cl):=TA.out.call ka kb hq;clear TA SS ka kb hq;go_upto_if 16 with (fail);go_cut [4] (fun s4 wx=>s4=J (j:Int)∧∃ (hs cl:List Int),(∀ i (hi:i<hs.length),j+1≤i→hs[i]≤299)∧TeS b k (2+8*j+4) w wx r f 26 g g2 49 100 7 7 hs cl)
   case first =>
    cases cd with
    | false =>
     go_wp2;go_meet;exact⟨rfl,hs,cl,fun i hi h=>HLO.out i hi II,TB.out.more II⟩
    | true =>
     go_upto_region 6 with (fail);have TC:=IJ (TB.out.below (zbl w4));clear TB;have hjl:j<hs.length:=by rw[TC.out.l1];exact hlt
     refine zbj 7 [(0,true),(1,true),(2,true),(3,true),(4,true),(5,true),(6,false)] (fun W=>(W,f,3,IZ (some ⟨g,0,none⟩) 49 49)∧(W,g,j,J hs[j])) JI JI ⟨bkC TC.out.d.hf 3 rfl,(TC.out.at1 hlt).1⟩ (fun hHeld=>?_);generalize w4.drew=Y0 at *;clear hHeld
     iterate 6 (refine zaj (v:=?_) rfl (fun _ _ _ h=>h) ?_ ?_;rotate_left;focus (intro W hSW;(try dsimp only at hSW);(go_simp<;>with_reducible rfl));(try simp only[Act.put,OO,OJ,OQ]))
     refine zbd rfl (fun K hK=>?_);go_simp;obtain⟨kk,ka,kb,SS⟩:=TC.out.d.src;refine (zbe b kk 900 _ SS II II II).mono ?_;rintro e Y1 ⟨⟨y,hy0,hy1,rfl⟩,hq⟩;have TD:Hid (TeS b k (2+8*j+2+2) w Y1 r f 26 g g2 49 100 7 7 hs cl):=TC.out.call ka kb hq;refine hK.out _ _ ⟨bkC TD.out.d.hf 3 rfl,(TD.out.at1 hlt).1⟩ ?_;clear hK K TC SS ka kb hq
     (try simp only[Act.put,OO,OJ,OQ])
     refine zcp ?_;simp only[List.drop_succ_cons,List.drop_zero];have hb0:=(TD.out.hb _ (List.getElem_mem hjl)).1;have hb1:=HLO.out j hjl (Nat.le_refl _);have hw_:IntKind.i64.wrap (hs[j]+y)=hs[j]+y:=IntWalk.i64_in _ II;obtain⟨s0,f0⟩:=TD.out.at1 hlt;go_wp2_with (fail);go_meet;refine⟨rfl,_,_,fun i hi h=>?_,(TD.out.setH hlt (x:=hs[j]+y) II II).more II⟩;have hi2:i<hs.length:=by simpa using hi
     rw[List.getElem_set_ne II];exact HLO.out i hi2 II
   case rest =>
    clear HLO TB;obtain⟨rfl,hs,cl,hlo2,hT⟩:=hcut;have HLO:=IJ hlo2;have TB:=IJ hT;clear hlo2 hT;generalize wc=w5 at *;go_wp2_with (fail)
    go_at_call 68
    obtain⟨kk,ka,kb,SS⟩:=TB.out.d.src;refine (one_any b kk 4 _ SS II ⟨II,II⟩).mono ?_;rintro e w6 ⟨⟨cd2,rfl⟩,hq⟩;have TE:Hid (TeS b k (2+8*j+4+2) w w6 r f 26 g g2 49 100 7 7 hs cl):=TB.out.call ka kb hq;clear TB SS ka kb hq;go_upto_if 27 with (fail)
    cases cd2 with
    | false =>
     go_wp2;go_roundw
     case rel=>exact⟨j+1,hs,cl,II,by go_num,HLO.out,TE.out.more II⟩
     case measure=>simp only[intOf];omega
    | true =>
     go_upto_region 8 with (fail);have TC:=IJ (TE.out.below (zbl w6));clear TE;refine zbj 5 [(0,true),(1,true),(2,true),(3,true),(4,false)] (fun W=>W.cell? ⟨f,4,none⟩=some (IZ (some ⟨g2,0,none⟩) 49 49)) JI JI (bkC TC.out.d.hf 4 rfl) (fun hHeld=>?_);generalize w6.drew=Y0 at *;clear hHeld
     iterate 4 (refine zaj (v:=?_) rfl (fun _ _ _ h=>h) ?_ ?_;rotate_left;focus (intro W hSW;(try dsimp only at hSW);(go_simp<;>with_reducible rfl));(try simp only[Act.put,OO,OJ,OQ]))
     refine zbd rfl (fun K hK=>?_);go_simp;obtain⟨kk,ka,kb,SS⟩:=TC.out.d.src;refine (zbe b kk 8 _ SS II II II).mono ?_;rintro e Y1 ⟨⟨y,hy0,hy1,rfl⟩,hq⟩;have TD:Hid (TeS b k (2+8*j+4+2+2) w Y1 r f 26 g g2 49 100 7 7 hs cl):=TC.out.call ka kb hq;refine hK.out _ _ (bkC TD.out.d.hf 4 rfl) ?_;clear hK K TC SS ka kb hq
     (try simp only[Act.put,OO,OJ,OQ])
     refine zcp ?_;simp only[List.drop_succ_cons,List.drop_zero];obtain⟨s0,f0⟩:=TD.out.at2 hlt;go_wp2;go_roundw
     case rel=>exact⟨j+1,hs,_,II,by go_num,HLO.out,(TD.out.setC hlt (x:=y) II II).more II⟩
     case measure=>simp only[intOf];omega
  ·have hji:¬ (j:Int)<49:=II
   have hjm:j=49:=II
   have TG:Hid (TeS b k 400 w wr r f 26 g g2 49 100 7 7 hs cl):=TA.out.more II;clear TA HLO hjm;obtain⟨c0,c1,c2,c3,c4,_⟩:=bz5 TG.out.d.hf;obtain⟨u0,u1,u2,u3,u4,gz⟩:=bz5 TG.out.d.hr;go_wp2;exact bodyPost_ret (v:=.agg #[J 100,J 7,J 7,IZ (some ⟨g,0,none⟩) 49 49,IZ (some ⟨g2,0,none⟩) 49 49]) (by simp[results,Tryz.results65,go_sem, *]) rfl (TG.out.fin II II II II)
end Go.Proofs.YtpakghepnahooaaGreatDoor
