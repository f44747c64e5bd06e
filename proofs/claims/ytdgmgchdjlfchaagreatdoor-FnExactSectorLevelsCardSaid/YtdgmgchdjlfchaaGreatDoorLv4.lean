/- Contracts: heights and classes of ground at places, for the program and for the reference. Conditions: valid terrains, places in them. -/
import Derived.Test.YtdgmgchdjlfchaaGreatDoorLvK
import Derived.Test.YtdgmgchdjlfchaaGreatDoorLvM
import Derived.Test.YtdgmgchdjlfchaaGreatDoorEirp3
set_option linter.unusedVariables false
set_option linter.unusedSimpArgs false
namespace Go.Proofs.YtdgmgchdjlfchaaGreatDoor
open Go.RowKit
set_option maxHeartbeats 16000000
set_option maxRecDepth 100000
theorem rdiv_dd {a s:Int} (h:0≤a):rdiv a (s*s)=(2*a+s*s) / (2*s*s):=by
 unfold rdiv;rw[if_neg (by omega),Int.mul_assoc]
structure Sq (t:DTerrain) (p:DPoint) (i k u v:Int):Prop where
 i0:0≤i
 i1:i≤t.width-2
 k0:0≤k
 k1:k≤t.height-2
 u0:0≤u
 u1:u≤t.step
 v0:0≤v
 v1:v≤t.step
 eu:p.x-i*t.step=u
 ev:p.y-k*t.step=v
 bi:0≤i*t.step∧i*t.step≤200000
 bk:0≤k*t.step∧k*t.step≤200000
theorem sq_of {t:DTerrain} (T:TerrOk t) {p:DPoint} (h:inT t p):Sq t p (colT t.step t.width p.x) (colT t.step t.height p.y) (p.x-colT t.step t.width p.x*t.step) (p.y-colT t.step t.height p.y*t.step):=by
 obtain⟨⟨a0,a1⟩,a2,a3⟩:=colT_bd T.s0 T.w0 h.1.1 h.1.2;obtain⟨⟨b0,b1⟩,b2,b3⟩:=colT_bd T.s0 T.h0 h.2.1 h.2.2;have hp:=zcy T h;unfold ptB at hp;have c0:=Int.mul_nonneg a0 (show 0≤t.step by have:=T.s0;omega);have c1:=Int.mul_nonneg b0 (show 0≤t.step by have:=T.s0;omega);exact⟨a0,a1,b0,b1,a2,a3,b2,b3,rfl,rfl,⟨c0,by omega⟩,⟨c1,by omega⟩⟩
structure Prods (a1 a2 a3 a4 s u v:Int):Prop where
 b1:0≤a1*(s-u)∧a1*(s-u)≤900000000
 c1:0≤a1*(s-u)*(s-v)∧a1*(s-u)*(s-v)≤9000000000000
 b2:0≤a2*u∧a2*u≤900000000
 c2:0≤a2*u*(s-v)∧a2*u*(s-v)≤9000000000000
 b3:0≤a3*(s-u)∧a3*(s-u)≤900000000
 c3:0≤a3*(s-u)*v∧a3*(s-u)*v≤9000000000000
 b4:0≤a4*u∧a4*u≤900000000
 c4:0≤a4*u*v∧a4*u*v≤9000000000000
theorem prods_of {a1 a2 a3 a4 s u v:Int} (s1:s≤10000) (u0:0≤u) (u1:u≤s) (v0:0≤v) (v1:v≤s) (h1:0≤a1∧a1≤90000) (h2:0≤a2∧a2≤90000) (h3:0≤a3∧a3≤90000) (h4:0≤a4∧a4≤90000):Prods a1 a2 a3 a4 s u v:=by
 have p1:=zem h1.1 h1.2 (show 0≤s-u by omega) (by omega) (show 0≤s-v by omega) (by omega);have p2:=zem h2.1 h2.2 u0 (by omega) (show 0≤s-v by omega) (by omega);have p3:=zem h3.1 h3.2 (show 0≤s-u by omega) (by omega) v0 (by omega);have p4:=zem h4.1 h4.2 u0 (by omega) v0 (by omega);exact⟨p1.1,p1.2.1,p2.1,p2.2.1,p3.1,p3.2.1,p4.1,p4.2.1⟩
theorem ze9 (t:DTerrain) (x y:Int) (n:Nat) (en:y*t.width+x=(n:Int)) (hn:n<t.heights.length) (y0:0≤y*t.width) (y1:y*t.width≤552) (x1:x≤24) (pt bh oh ch:Nat) (w:World) (c1:w.cell? ⟨pt,1,none⟩=some (.int .i64 t.width)) (c3:w.cell? ⟨pt,3,none⟩=some (.slice (some ⟨bh,oh,none⟩) t.heights.length ch)) (ch0:w.cell? ⟨bh,oh+n,none⟩=some (.int .i64 (gi t.heights n))) :
  Calls Tryz.prog 227 #[.int .i64 x,.int .i64 y,.pointer (some ⟨pt,0,none⟩)] w fun e w'=>e=.returned (.int .i64 (gi t.heights n))∧Below w.heap.size w w':=by
 have i1:(0:Int)≤(n:Int):=by omega
 have i2:(n:Int)<(t.heights.length:Int):=by omega
 have i3:(n:Int)≤576:=by omega
 go_enter Tryz.func227,Tryz.ntmps227;go_wp2;go_ret;exact⟨rfl,Below.refl _ _⟩
theorem iHeight_any (t:DTerrain) (p:DPoint) (T:TerrOk t) (hp:inT t p) (v3 v4:Value) (w:World) (r3:Rd w.heap.size w (zaj t.heights) v3) :
  Calls Tryz.prog 196 #[.agg #[.int .i64 t.step,.int .i64 t.width,.int .i64 t.height,v3,v4],.agg #[.int .i64 p.x,.int .i64 p.y]] w fun e w'=>e=.returned (.int .i64 (hAt t p))∧Below w.heap.size w w':=by
 obtain⟨a3,c3_,e3,_,_,_⟩:=r3.ints;subst e3;have hlh:=T.lh;have w0_:=T.w0;have w1_:=T.w1;have h0_:=T.h0;have h1_:=T.h1;have s0_:=T.s0;have s1_:=T.s1;have hsq:=step_sq T.s0 T.s1;obtain⟨bh,oh,ea,hbl,hat⟩:=r3.intAt (by have:=zeu (i:=0) (k:=0) (w:=t.width) (h:=t.height) (by omega) (by omega) (by omega) (by omega) w1_ h1_;omega);subst ea;have hpt:=zcy T hp;unfold ptB at hpt;obtain⟨⟨px0,px1⟩,py0,py1⟩:=hpt;have S:=sq_of T hp;have HS:Hid (hAt t p=rdiv (hSum t (colT t.step t.width p.x) (colT t.step t.height p.y) (p.x-colT t.step t.width p.x*t.step) (p.y-colT t.step t.height p.y*t.step)) (t.step*t.step)):=rfl;have HCI:Hid (colT t.step t.width p.x=min (p.x / t.step) (t.width-2)):=rfl;have HCK:Hid (colT t.step t.height p.y=min (p.y / t.step) (t.height-2)):=rfl;have hss:=hSum_bd T (i:=colT t.step t.width p.x) (k:=colT t.step t.height p.y) S.u0 S.u1 S.v0 S.v1;generalize p.x-colT t.step t.width p.x*t.step=cu at *;generalize p.y-colT t.step t.height p.y*t.step=cv at *;generalize colT t.step t.width p.x=ci at *;generalize colT t.step t.height p.y=ck at *;have g1:=zeu (i:=ci) (k:=ck) (w:=t.width) (h:=t.height) S.i0 (by have:=S.i1;omega) S.k0 (by have:=S.k1;omega) w1_ h1_;have g2:=zeu (i:=ci+1) (k:=ck) (w:=t.width) (h:=t.height) (by have:=S.i0;omega) (by have:=S.i1;omega) S.k0 (by have:=S.k1;omega) w1_ h1_;have g3:=zeu (i:=ci) (k:=ck+1) (w:=t.width) (h:=t.height) S.i0 (by have:=S.i1;omega) (by have:=S.k0;omega) (by have:=S.k1;omega) w1_ h1_;have g4:=zeu (i:=ci+1) (k:=ck+1) (w:=t.width) (h:=t.height) (by have:=S.i0;omega) (by have:=S.i1;omega) (by have:=S.k0;omega) (by have:=S.k1;omega) w1_ h1_;obtain⟨n1,en1⟩:=Int.eq_ofNat_of_zero_le g1.2.2.1;obtain⟨n2,en2⟩:=Int.eq_ofNat_of_zero_le g2.2.2.1;obtain⟨n3,en3⟩:=Int.eq_ofNat_of_zero_le g3.2.2.1;obtain⟨n4,en4⟩:=Int.eq_ofNat_of_zero_le g4.2.2.1;have m1:n1<t.heights.length:=by omega
 have m2:n2<t.heights.length:=by omega
 have m3:n3<t.heights.length:=by omega
 have m4:n4<t.heights.length:=by omega
 have HSUM:Hid (hSum t ci ck cu cv=gi t.heights n1*(t.step-cu)*(t.step-cv)+gi t.heights n2*cu*(t.step-cv)+gi t.heights n3*(t.step-cu)*cv+gi t.heights n4*cu*cv):=by
  show _=_
  unfold hSum hIx;rw[en1,en2,en3,en4];simp only[Int.toNat_natCast]
 have PR:=prods_of s1_ S.u0 S.u1 S.v0 S.v1 (T.hs n1) (T.hs n2) (T.hs n3) (T.hs n4);rw[HSUM.out] at hss;have a1:=hat n1 m1;have a2:=hat n2 m2;have a3:=hat n3 m3;have a4:=hat n4 m4;obtain⟨W0,hW0,b0_,z0,k0,k1⟩:=zd4 w #[.int .i64 t.step,.int .i64 t.width,.int .i64 t.height,.slice (some ⟨bh,oh,none⟩) t.heights.length c3_,v4] 39 #[.int .i64 p.x,.int .i64 p.y] 48;have HW0:=Lib.hid hW0;have B0:=Lib.hid b0_;have HD:=Lib.hid (fun (W:World) (hW:Below W0.heap.size W0 W)=>bx5 k0 hW <| bx2 k1 hW <| aI ((bat hW bh _ (by omega)).trans ((bat b0_ bh _ (by omega)).trans a1)) <| aI ((bat hW bh _ (by omega)).trans ((bat b0_ bh _ (by omega)).trans a2)) <| aI ((bat hW bh _ (by omega)).trans ((bat b0_ bh _ (by omega)).trans a3)) <| ((bat hW bh _ (by omega)).trans ((bat b0_ bh _ (by omega)).trans a4)));have HB:Hid (Below W0.heap.size W0 W0):=Below.refl _ _;clear k0 k1 hW0 b0_;have CH1:Hid (∀ W:World,Below W0.heap.size W0 W→Calls Tryz.prog 227 #[.int .i64 ci,.int .i64 ck,.pointer (some ⟨w.heap.size,0,none⟩)] W fun e w'=>e=.returned (.int .i64 (gi t.heights n1))∧Below W.heap.size W w'):=fun  W hW=>by
   obtain⟨t0,t1,t2,t3,t4,t5,t6,t7,t8,t9,t10⟩:=HD.out W hW;exact ze9 t _ _ n1 en1 m1 g1.1 g1.2.1 (by have:=S.i1;omega) _ _ _ _ W t1 t3 t7
 have CH2:Hid (∀ W:World,Below W0.heap.size W0 W→Calls Tryz.prog 227 #[.int .i64 (ci+1),.int .i64 ck,.pointer (some ⟨w.heap.size,0,none⟩)] W fun e w'=>e=.returned (.int .i64 (gi t.heights n2))∧Below W.heap.size W w'):=fun  W hW=>by
   obtain⟨t0,t1,t2,t3,t4,t5,t6,t7,t8,t9,t10⟩:=HD.out W hW;exact ze9 t _ _ n2 en2 m2 g2.1 g2.2.1 (by have:=S.i1;omega) _ _ _ _ W t1 t3 t8
 have CH3:Hid (∀ W:World,Below W0.heap.size W0 W→Calls Tryz.prog 227 #[.int .i64 ci,.int .i64 (ck+1),.pointer (some ⟨w.heap.size,0,none⟩)] W fun e w'=>e=.returned (.int .i64 (gi t.heights n3))∧Below W.heap.size W w'):=fun  W hW=>by
   obtain⟨t0,t1,t2,t3,t4,t5,t6,t7,t8,t9,t10⟩:=HD.out W hW;exact ze9 t _ _ n3 en3 m3 g3.1 g3.2.1 (by have:=S.i1;omega) _ _ _ _ W t1 t3 t9
 have CH4:Hid (∀ W:World,Below W0.heap.size W0 W→Calls Tryz.prog 227 #[.int .i64 (ci+1),.int .i64 (ck+1),.pointer (some ⟨w.heap.size,0,none⟩)] W fun e w'=>e=.returned (.int .i64 (gi t.heights n4))∧Below W.heap.size W w'):=fun  W hW=>by
   obtain⟨t0,t1,t2,t3,t4,t5,t6,t7,t8,t9,t10⟩:=HD.out W hW;exact ze9 t _ _ n4 en4 m4 g4.1 g4.2.1 (by have:=S.i1;omega) _ _ _ _ W t1 t3 t10
 generalize gi t.heights n1=z1 at *;generalize gi t.heights n2=z2 at *;generalize gi t.heights n3=z3 at *;generalize gi t.heights n4=z4 at *;have CD:Hid (∀ W:World,Calls Tryz.prog 202 #[.int .i64 (z1*(t.step-cu)*(t.step-cv)+z2*cu*(t.step-cv)+z3*(t.step-cu)*cv+z4*cu*cv),.int .i64 (t.step*t.step)] W fun e w'=>e=.returned (.int .i64 (hAt t p))∧Below W.heap.size W w'):=fun W=>by
  rw[HS.out,HSUM.out];exact zbs _ _ (by omega) (by omega) (by omega) (by omega) W
 clear hat r3 hss HS HSUM a1 a2 a3 a4;obtain⟨hs0,hs1⟩:=hsq;obtain⟨pb1,pc1,pb2,pc2,pb3,pc3,pb4,pc4⟩:=PR;obtain⟨si0,si1,sk0,sk1,su0,su1,sv0,sv1,seu,sev,⟨sbi0,sbi1⟩,sbk0,sbk1⟩:=S;go_enter Tryz.func196,Tryz.ntmps196;go_upto_region 1 with (fail);rw[HW0.out];obtain⟨t0,t1,t2,t3,t4,t5,t6,t7,t8,t9,t10⟩:=HD.out _ HB.out;go_upto_region 1 with (fail);have o0:=zan (w0:=W0) (show w.heap.size<W0.heap.size by have:=HB.out.size;omega);have o1:=zan (w0:=W0) (show w.heap.size+1<W0.heap.size by have:=HB.out.size;omega);refine zae W0.heap.size W0 (Below.refl _ _) (by kernel_rfl) (by kernel_rfl) ?_
 repeat (go_big_quiet_step (first|fail))
 refine wpQuiet_nil ?_;rintro _ ⟨X,rfl⟩;replace HB:=btr HB (zaa W0.heap.size W0 X);clear o0 o1
 (try clear t0 t1 t2 t3 t4 t5 t6 t7 t8 t9 t10)
 generalize over W0.heap.size W0 X=u2 at *;obtain⟨t0,t1,t2,t3,t4,t5,t6,t7,t8,t9,t10⟩:=HD.out _ HB.out;rw[← HCI.out,← HCK.out];go_upto_region 2 with (fail);have o0:=zan (w0:=u2) (show w.heap.size<u2.heap.size by have:=HB.out.size;omega);have o1:=zan (w0:=u2) (show w.heap.size+1<u2.heap.size by have:=HB.out.size;omega);refine zae u2.heap.size u2 (Below.refl _ _) (by kernel_rfl) (by kernel_rfl) ?_
 repeat (go_big_quiet_step (first|fail))
 refine wpQuiet_nil ?_;rintro _ ⟨X,rfl⟩;replace HB:=btr HB (zaa u2.heap.size u2 X);clear o0 o1
 (try clear t0 t1 t2 t3 t4 t5 t6 t7 t8 t9 t10)
 generalize over u2.heap.size u2 X=u4 at *;obtain⟨t0,t1,t2,t3,t4,t5,t6,t7,t8,t9,t10⟩:=HD.out _ HB.out
 (try rw[seu,sev])
 go_upto_region 4 with (fail);have o0:=zan (w0:=u4) (show w.heap.size<u4.heap.size by have:=HB.out.size;omega);have o1:=zan (w0:=u4) (show bh<u4.heap.size by have:=HB.out.size;omega);refine zae u4.heap.size u4 (Below.refl _ _) (by kernel_rfl) (by kernel_rfl) ?_
 repeat (go_big_quiet_step (first|(go_at_call 227;with_reducible exact zai (Nat.le_refl _) (CH1.out _ (HB.out.trans ((zaa _ _ _).mono HB.out.size))))|(go_at_call 227;with_reducible exact zai (Nat.le_refl _) (CH2.out _ (HB.out.trans ((zaa _ _ _).mono HB.out.size))))|(go_at_call 227;with_reducible exact zai (Nat.le_refl _) (CH3.out _ (HB.out.trans ((zaa _ _ _).mono HB.out.size))))|(go_at_call 227;with_reducible exact zai (Nat.le_refl _) (CH4.out _ (HB.out.trans ((zaa _ _ _).mono HB.out.size))))))
 refine wpQuiet_nil ?_;rintro _ ⟨X,rfl⟩;replace HB:=btr HB (zaa u4.heap.size u4 X);clear o0 o1
 (try clear t0 t1 t2 t3 t4 t5 t6 t7 t8 t9 t10)
 generalize over u4.heap.size u4 X=u6 at *;obtain⟨t0,t1,t2,t3,t4,t5,t6,t7,t8,t9,t10⟩:=HD.out _ HB.out;have HE:=Lib.hid (rfl:hAt t p=hAt t p);go_wp2_with (go_at_call 202;with_reducible refine (CD.out _).mono ?_;rintro e v9 ⟨rfl,hb_⟩;replace HB:=btr HB hb_;clear hb_);go_ret;exact⟨rfl,B0.out.trans (HB.out.mono B0.out.size)⟩
theorem iClutter_any (t:DTerrain) (p:DPoint) (T:TerrOk t) (hp:inT t p) (v3 v4:Value) (w:World) (r4:Rd w.heap.size w (zaj t.clutter) v4) :
  Calls Tryz.prog 159 #[.agg #[.int .i64 t.step,.int .i64 t.width,.int .i64 t.height,v3,v4],.agg #[.int .i64 p.x,.int .i64 p.y]] w fun e w'=>e=.returned (.int .i64 (cAt t p))∧Below w.heap.size w w':=by
 have s0_:=T.s0;have s1_:=T.s1;have w0_:=T.w0;have w1_:=T.w1;have h0_:=T.h0;have h1_:=T.h1;have hlc:=T.lc;have hpt:=zcy T hp;unfold ptB at hpt;obtain⟨⟨px0,px1⟩,py0,py1⟩:=hpt;have cx:=cNear_bd T.s0 hp.1.1 hp.1.2;have cy:=cNear_bd T.s0 hp.2.1 hp.2.2;have g1:=zeu (i:=zdm t.step p.x) (k:=zdm t.step p.y) (w:=t.width) (h:=t.height) cx.1 (by omega) cy.1 (by omega) w1_ h1_;have EX:Hid (zdm t.step p.x=(2*p.x+t.step) / (2*t.step)):=rfl;have EY:Hid (zdm t.step p.y=(2*p.y+t.step) / (2*t.step)):=rfl;have HE0:Hid (cAt t p=gi t.clutter (zdm t.step p.y*t.width+zdm t.step p.x).toNat):=rfl;generalize zdm t.step p.x=cx_ at *;generalize zdm t.step p.y=cy_ at *;obtain⟨n,en⟩:=Int.eq_ofNat_of_zero_le g1.2.2.1;have HE:Hid (cAt t p=gi t.clutter n):=by show _=_;rw[HE0.out,en];rfl
 have hn:n<t.clutter.length:=by omega
 obtain⟨a4,c4,e4,_,_,_⟩:=r4.ints;subst e4;obtain⟨bh,oh,ea,hbl,hat⟩:=r4.intAt (by omega);subst ea;have cl:=hat n hn;have i1:(0:Int)≤(n:Int):=by omega
 have i2:(n:Int)<(t.clutter.length:Int):=by omega
 obtain⟨gy0,gy1,gn0,gn1⟩:=g1;generalize hgv:gi t.clutter n=gv at *;clear hat HE0 r4;obtain⟨W0,hW0,b0_,z0,k0,k1⟩:=zd4 w #[.int .i64 t.step,.int .i64 t.width,.int .i64 t.height,v3,.slice (some ⟨bh,oh,none⟩) t.clutter.length c4] 39 #[.int .i64 p.x,.int .i64 p.y] 48;have HW0:=Lib.hid hW0;have B0:=Lib.hid b0_;have HD:=Lib.hid (fun (W:World) (hW:Below W0.heap.size W0 W)=>bx5 k0 hW <| bx2 k1 hW <| ((bat hW bh _ (by omega)).trans ((bat b0_ bh _ (by omega)).trans cl)));have HB:Hid (Below W0.heap.size W0 W0):=Below.refl _ _;clear k0 k1 hW0 b0_;go_enter Tryz.func159,Tryz.ntmps159;go_upto_region 1 with (fail);rw[HW0.out];obtain⟨t0,t1,t2,t3,t4,t5,t6,t7⟩:=HD.out _ HB.out;go_upto_region 1 with (fail);have o0:=zan (w0:=W0) (show w.heap.size<W0.heap.size by have:=HB.out.size;omega);have o1:=zan (w0:=W0) (show w.heap.size+1<W0.heap.size by have:=HB.out.size;omega);refine zae W0.heap.size W0 (Below.refl _ _) (by kernel_rfl) (by kernel_rfl) ?_
 repeat (go_big_quiet_step (first|fail))
 refine wpQuiet_nil ?_;rintro _ ⟨X,rfl⟩;replace HB:=btr HB (zaa W0.heap.size W0 X);clear o0 o1
 (try clear t0 t1 t2 t3 t4 t5 t6 t7)
 generalize over W0.heap.size W0 X=u2 at *;obtain⟨t0,t1,t2,t3,t4,t5,t6,t7⟩:=HD.out _ HB.out
 (try rw[← EX.out,← EY.out])
 go_wp2;go_ret;exact⟨by rw[HE.out];rfl,B0.out.trans (HB.out.mono B0.out.size)⟩
theorem zeq (t:DTerrain) (q:DEnd) (T:TerrOk t) (hp:inT t q.place) (hq:endP q) (v3 v4:Value) (w:World) (r3:Rd w.heap.size w (zaj t.heights) v3) :
  Calls Tryz.prog 194 #[.agg #[.int .i64 t.step,.int .i64 t.width,.int .i64 t.height,v3,v4],.agg #[.int .i64 q.place.x,.int .i64 q.place.y,.int .i64 q.above]] w fun e w'=>e=.returned (.int .i64 (zcm t q))∧Below w.heap.size w w':=by
 have HE:Hid (zcm t q=hAt t q.place+q.above):=rfl;have hb:=hAt_bd T hp;unfold endP at hq;obtain⟨W0,hW0,b0_,z0,k0,k1⟩:=zd4 w #[.int .i64 t.step,.int .i64 t.width,.int .i64 t.height,v3,v4] 39 #[.int .i64 q.place.x,.int .i64 q.place.y,.int .i64 q.above] 50;have HW0:=Lib.hid hW0;have B0:=Lib.hid b0_;have HD:=Lib.hid (fun (W:World) (hW:Below W0.heap.size W0 W)=>bx5 k0 hW <| by3 k1 hW);have HB:Hid (Below W0.heap.size W0 W0):=Below.refl _ _;clear k0 k1 hW0 b0_;have CH:Hid (∀ W:World,Below W0.heap.size W0 W→Calls Tryz.prog 196 #[.agg #[.int .i64 t.step,.int .i64 t.width,.int .i64 t.height,v3,v4],.agg #[.int .i64 q.place.x,.int .i64 q.place.y]] W fun e w'=>e=.returned (.int .i64 (hAt t q.place))∧Below W.heap.size W w'):=fun  W hW=>iHeight_any t q.place T hp v3 v4 W ((r3.below (B0.out.trans (hW.mono B0.out.size))).mono (B0.out.trans (hW.mono B0.out.size)).size)
 generalize hAt t q.place=ha at *;generalize zcm t q=hi at *;obtain⟨hb0,hb1⟩:=hb;obtain⟨hq0,hq1⟩:=hq;go_enter Tryz.func194,Tryz.ntmps194;go_upto_region 1 with (fail);rw[HW0.out];obtain⟨t0,t1,t2,t3,t4,t5,t6,t7⟩:=HD.out _ HB.out;go_upto_region 1 with (fail);have o0:=zan (w0:=W0) (show w.heap.size<W0.heap.size by have:=HB.out.size;omega);have o1:=zan (w0:=W0) (show w.heap.size+1<W0.heap.size by have:=HB.out.size;omega);refine zae W0.heap.size W0 (Below.refl _ _) (by kernel_rfl) (by kernel_rfl) ?_
 repeat (go_big_quiet_step (first|(go_at_call 196;with_reducible exact zai (Nat.le_refl _) (CH.out _ (HB.out.trans ((zaa _ _ _).mono HB.out.size))))))
 refine wpQuiet_nil ?_;rintro _ ⟨X,rfl⟩;replace HB:=btr HB (zaa W0.heap.size W0 X);clear o0 o1
 (try clear t0 t1 t2 t3 t4 t5 t6 t7)
 generalize over W0.heap.size W0 X=u2 at *;obtain⟨t0,t1,t2,t3,t4,t5,t6,t7⟩:=HD.out _ HB.out;go_wp2;go_ret;exact⟨by rw[HE.out];rfl,B0.out.trans (HB.out.mono B0.out.size)⟩
theorem l04High_any (t:DTerrain) (p:DPoint) (T:TerrOk t) (hp:inT t p) (v3 v4:Value) (b off:Nat) (w:World) (r3:Rd w.heap.size w (zaj t.heights) v3) (c0:w.cell? ⟨b,off,none⟩=some (.int .i64 t.step)) (c1:w.cell? ⟨b,off+1,none⟩=some (.int .i64 t.width)) (c2:w.cell? ⟨b,off+2,none⟩=some (.int .i64 t.height)) (c3:w.cell? ⟨b,off+3,none⟩=some (v3)) (c4:w.cell? ⟨b,off+4,none⟩=some (v4)) :
  Calls Tryz.prog 176 #[.pointer (some ⟨b,off,none⟩),.agg #[.int .i64 p.x,.int .i64 p.y]] w fun e w'=>e=.returned (.int .i64 (hAt t p))∧Below w.heap.size w w':=by
 obtain⟨a3,c3_,e3,_,_,_⟩:=r3.ints;subst e3;have hlh:=T.lh;have w0_:=T.w0;have w1_:=T.w1;have h0_:=T.h0;have h1_:=T.h1;have s0_:=T.s0;have s1_:=T.s1;have hsq:=step_sq T.s0 T.s1;obtain⟨bh,oh,ea,hbl,hat⟩:=r3.intAt (by have:=zeu (i:=0) (k:=0) (w:=t.width) (h:=t.height) (by omega) (by omega) (by omega) (by omega) w1_ h1_;omega);subst ea;have hpt:=zcy T hp;unfold ptB at hpt;obtain⟨⟨px0,px1⟩,py0,py1⟩:=hpt;have S:=sq_of T hp;have HS:Hid (hAt t p=rdiv (hSum t (colT t.step t.width p.x) (colT t.step t.height p.y) (p.x-colT t.step t.width p.x*t.step) (p.y-colT t.step t.height p.y*t.step)) (t.step*t.step)):=rfl;have HCI:Hid (colT t.step t.width p.x=min (p.x / t.step) (t.width-2)):=rfl;have HCK:Hid (colT t.step t.height p.y=min (p.y / t.step) (t.height-2)):=rfl;have hss:=hSum_bd T (i:=colT t.step t.width p.x) (k:=colT t.step t.height p.y) S.u0 S.u1 S.v0 S.v1;generalize p.x-colT t.step t.width p.x*t.step=cu at *;generalize p.y-colT t.step t.height p.y*t.step=cv at *;generalize colT t.step t.width p.x=ci at *;generalize colT t.step t.height p.y=ck at *;obtain⟨si0,si1,sk0,sk1,su0,su1,sv0,sv1,seu,sev,⟨sbi0,sbi1⟩,sbk0,sbk1⟩:=S;have g1:=zeu (i:=ci) (k:=ck) (w:=t.width) (h:=t.height) si0 (by omega) sk0 (by omega) w1_ h1_;have g4:=zeu (i:=ci+1) (k:=ck+1) (w:=t.width) (h:=t.height) (by omega) (by omega) (by omega) (by omega) w1_ h1_;have ek:(ck+1)*t.width=ck*t.width+t.width:=by rw[Int.add_mul,Int.one_mul]
 rw[ek] at g4;obtain⟨n,en⟩:=Int.eq_ofNat_of_zero_le g1.2.2.1;obtain⟨m,em⟩:=Int.eq_ofNat_of_zero_le (show 0≤t.width by omega);obtain⟨n2,hn2⟩:∃ q:Nat,q=n+1:=⟨_,rfl⟩
 obtain⟨n3,hn3⟩:∃ q:Nat,q=n+m:=⟨_,rfl⟩
 obtain⟨n4,hn4⟩:∃ q:Nat,q=n+m+1:=⟨_,rfl⟩
 have m1:n<t.heights.length:=by omega
 have m2:n2<t.heights.length:=by omega
 have m3:n3<t.heights.length:=by omega
 have m4:n4<t.heights.length:=by omega
 have x2:(n:Int)+t.width=(n3:Int):=by omega
 have x3:(n3:Int)+1=(n4:Int):=by omega
 have x4:(n:Int)+1=(n2:Int):=by omega
 have x5:(n4:Int)≤600:=by omega
 have x7:(n3:Int)≤600:=by omega
 have x8:(n:Int)≤600:=by omega
 have x9:(n2:Int)≤600:=by omega
 have y1_:(0:Int)≤(n:Int):=by omega
 have y2_:(0:Int)≤(n2:Int):=by omega
 have y3_:(0:Int)≤(n3:Int):=by omega
 have y4_:(0:Int)≤(n4:Int):=by omega
 have z1_:(n:Int)<(t.heights.length:Int):=by omega
 have z2_:(n2:Int)<(t.heights.length:Int):=by omega
 have z3_:(n3:Int)<(t.heights.length:Int):=by omega
 have z4_:(n4:Int)<(t.heights.length:Int):=by omega
 have HSUM:Hid (hSum t ci ck cu cv=gi t.heights n*(t.step-cu)*(t.step-cv)+gi t.heights n2*cu*(t.step-cv)+gi t.heights n3*(t.step-cu)*cv+gi t.heights n4*cu*cv):=by
  show _=_
  unfold hSum hIx;rw[ek,show ck*t.width+ci=(n:Int) from en,show ck*t.width+(ci+1)=(n2:Int) by omega,show ck*t.width+t.width+ci=(n3:Int) by omega,show ck*t.width+t.width+(ci+1)=(n4:Int) by omega];simp only[Int.toNat_natCast]
 clear em hn2 hn3 hn4;have PR:=prods_of s1_ su0 su1 sv0 sv1 (T.hs n) (T.hs n2) (T.hs n3) (T.hs n4);rw[HSUM.out] at hss;have a1:=hat n m1;have a2:=hat n2 m2;have a3:=hat n3 m3;have a4:=hat n4 m4;have hbp:b<w.heap.size:=zbh c0;obtain⟨W0,hW0,b0_,z0,k0⟩:=zat w #[.int .i64 p.x,.int .i64 p.y] 48;have HW0:=Lib.hid hW0;have B0:=Lib.hid b0_;have HD:=Lib.hid (fun (W:World) (hW:Below W0.heap.size W0 W)=>bx2 k0 hW <| aI ((bat hW b _ (by omega)).trans ((bat b0_ b _ (by omega)).trans c0)) <| aI ((bat hW b _ (by omega)).trans ((bat b0_ b _ (by omega)).trans c1)) <| aI ((bat hW b _ (by omega)).trans ((bat b0_ b _ (by omega)).trans c2)) <| aI ((bat hW b _ (by omega)).trans ((bat b0_ b _ (by omega)).trans c3)) <| aI ((bat hW b _ (by omega)).trans ((bat b0_ b _ (by omega)).trans c4)) <| aI ((bat hW bh _ (by omega)).trans ((bat b0_ bh _ (by omega)).trans a1)) <| aI ((bat hW bh _ (by omega)).trans ((bat b0_ bh _ (by omega)).trans a2)) <| aI ((bat hW bh _ (by omega)).trans ((bat b0_ bh _ (by omega)).trans a3)) <| ((bat hW bh _ (by omega)).trans ((bat b0_ bh _ (by omega)).trans a4)));have HB:Hid (Below W0.heap.size W0 W0):=Below.refl _ _;clear k0 hW0 b0_;have CI:Hid (∀ W:World,Below W0.heap.size W0 W→Calls Tryz.prog 116 #[.int .i64 (p.x / t.step),.int .i64 (t.width-2)] W fun e w'=>e=.returned (.int .i64 ci)∧Below W.heap.size W w'):=fun  W hW=>by rw[HCI.out];exact zam (zez _ _ W)
 have CK:Hid (∀ W:World,Below W0.heap.size W0 W→Calls Tryz.prog 116 #[.int .i64 (p.y / t.step),.int .i64 (t.height-2)] W fun e w'=>e=.returned (.int .i64 ck)∧Below W.heap.size W w'):=fun  W hW=>by rw[HCK.out];exact zam (zez _ _ W)
 have HE:Hid (hAt t p=(2*(gi t.heights n*(t.step-cu)*(t.step-cv)+gi t.heights n2*cu*(t.step-cv)+gi t.heights n3*(t.step-cu)*cv+gi t.heights n4*cu*cv)+t.step*t.step) / (2*t.step*t.step)):=by
  show _=_
  rw[HS.out,HSUM.out];exact rdiv_dd hss.1
 generalize gi t.heights n=z1 at *;generalize gi t.heights n2=z2 at *;generalize gi t.heights n3=z3 at *;generalize gi t.heights n4=z4 at *;have dx0:0≤p.x / t.step:=Int.ediv_nonneg px0 (by omega);have dx1:p.x / t.step≤p.x:=Int.ediv_le_self _ px0;have dy0:0≤p.y / t.step:=Int.ediv_nonneg py0 (by omega);have dy1:p.y / t.step≤p.y:=Int.ediv_le_self _ py0;have hs2:2*t.step*t.step=2*(t.step*t.step):=Int.mul_assoc _ _ _;have hs3:2≤2*t.step*t.step:=by rw[hs2];omega
 have hs4:2*t.step*t.step≤200000000:=by rw[hs2];omega
 clear hs2;clear hat r3 HS HSUM a1 a2 a3 a4 c0 c1 c2 c3 c4;obtain⟨hs0,hs1⟩:=hsq;obtain⟨hss0,hss1⟩:=hss;obtain⟨⟨pb1,pb1_⟩,⟨pc1,pc1_⟩,⟨pb2,pb2_⟩,⟨pc2,pc2_⟩,⟨pb3,pb3_⟩,⟨pc3,pc3_⟩,⟨pb4,pb4_⟩,⟨pc4,pc4_⟩⟩:=PR;obtain⟨gk0,gk1,gn0,gn1⟩:=g1;go_enter Tryz.func176,Tryz.ntmps176;go_upto_region 1 with (fail);rw[HW0.out];obtain⟨t0,t1,t2,t3,t4,t5,t6,t7,t8,t9,t10⟩:=HD.out _ HB.out;go_upto_region 1 with (fail);have o0:=zan (w0:=W0) (show b<W0.heap.size by have:=HB.out.size;omega);have o1:=zan (w0:=W0) (show w.heap.size<W0.heap.size by have:=HB.out.size;omega);refine zae W0.heap.size W0 (Below.refl _ _) (by kernel_rfl) (by kernel_rfl) ?_
 repeat (go_big_quiet_step (first|(go_at_call 116;with_reducible exact zai (Nat.le_refl _) (CI.out _ (HB.out.trans ((zaa _ _ _).mono HB.out.size))))))
 refine wpQuiet_nil ?_;rintro _ ⟨X,rfl⟩;replace HB:=btr HB (zaa W0.heap.size W0 X);clear o0 o1
 (try clear t0 t1 t2 t3 t4 t5 t6 t7 t8 t9 t10)
 generalize over W0.heap.size W0 X=u2 at *;obtain⟨t0,t1,t2,t3,t4,t5,t6,t7,t8,t9,t10⟩:=HD.out _ HB.out;go_upto_region 2 with (fail);have o0:=zan (w0:=u2) (show b<u2.heap.size by have:=HB.out.size;omega);have o1:=zan (w0:=u2) (show w.heap.size<u2.heap.size by have:=HB.out.size;omega);refine zae u2.heap.size u2 (Below.refl _ _) (by kernel_rfl) (by kernel_rfl) ?_
 repeat (go_big_quiet_step (first|(go_at_call 116;with_reducible exact zai (Nat.le_refl _) (CK.out _ (HB.out.trans ((zaa _ _ _).mono HB.out.size))))))
 refine wpQuiet_nil ?_;rintro _ ⟨X,rfl⟩;replace HB:=btr HB (zaa u2.heap.size u2 X);clear o0 o1
 (try clear t0 t1 t2 t3 t4 t5 t6 t7 t8 t9 t10)
 generalize over u2.heap.size u2 X=u4 at *;obtain⟨t0,t1,t2,t3,t4,t5,t6,t7,t8,t9,t10⟩:=HD.out _ HB.out;go_upto_region 3 with (fail);have o0:=zan (w0:=u4) (show b<u4.heap.size by have:=HB.out.size;omega);have o1:=zan (w0:=u4) (show w.heap.size<u4.heap.size by have:=HB.out.size;omega);refine zae u4.heap.size u4 (Below.refl _ _) (by kernel_rfl) (by kernel_rfl) ?_
 repeat (go_big_quiet_step (first|fail))
 refine wpQuiet_nil ?_;rintro _ ⟨X,rfl⟩;replace HB:=btr HB (zaa u4.heap.size u4 X);clear o0 o1
 (try clear t0 t1 t2 t3 t4 t5 t6 t7 t8 t9 t10)
 generalize over u4.heap.size u4 X=u6 at *;obtain⟨t0,t1,t2,t3,t4,t5,t6,t7,t8,t9,t10⟩:=HD.out _ HB.out
 (try rw[seu])
 go_upto_region 4 with (fail);have o0:=zan (w0:=u6) (show b<u6.heap.size by have:=HB.out.size;omega);have o1:=zan (w0:=u6) (show w.heap.size<u6.heap.size by have:=HB.out.size;omega);refine zae u6.heap.size u6 (Below.refl _ _) (by kernel_rfl) (by kernel_rfl) ?_
 repeat (go_big_quiet_step (first|fail))
 refine wpQuiet_nil ?_;rintro _ ⟨X,rfl⟩;replace HB:=btr HB (zaa u6.heap.size u6 X);clear o0 o1
 (try clear t0 t1 t2 t3 t4 t5 t6 t7 t8 t9 t10)
 generalize over u6.heap.size u6 X=u8 at *;obtain⟨t0,t1,t2,t3,t4,t5,t6,t7,t8,t9,t10⟩:=HD.out _ HB.out
 (try rw[sev])
 go_upto_region 6 with (fail);go_upto_region 7 with (fail);have o0:=zan (w0:=u8) (show b<u8.heap.size by have:=HB.out.size;omega);have o1:=zan (w0:=u8) (show bh<u8.heap.size by have:=HB.out.size;omega);refine zae u8.heap.size u8 (Below.refl _ _) (by kernel_rfl) (by kernel_rfl) ?_;simp only[List.append_eq,List.cons_append,List.nil_append]
 repeat (go_big_quiet_step (first|fail))
 refine wpQuiet_nil ?_;rintro _ ⟨X,rfl⟩;replace HB:=btr HB (zaa u8.heap.size u8 X);clear o0 o1
 (try clear t0 t1 t2 t3 t4 t5 t6 t7 t8 t9 t10)
 generalize over u8.heap.size u8 X=u11 at *;obtain⟨t0,t1,t2,t3,t4,t5,t6,t7,t8,t9,t10⟩:=HD.out _ HB.out;go_wp2;go_ret;exact⟨by rw[HE.out];rfl,B0.out.trans (HB.out.mono B0.out.size)⟩
theorem l04Clut_any (t:DTerrain) (p:DPoint) (T:TerrOk t) (hp:inT t p) (v3 v4:Value) (b off:Nat) (w:World) (r4:Rd w.heap.size w (zaj t.clutter) v4) (c0:w.cell? ⟨b,off,none⟩=some (.int .i64 t.step)) (c1:w.cell? ⟨b,off+1,none⟩=some (.int .i64 t.width)) (c2:w.cell? ⟨b,off+2,none⟩=some (.int .i64 t.height)) (c3:w.cell? ⟨b,off+3,none⟩=some (v3)) (c4:w.cell? ⟨b,off+4,none⟩=some (v4)) :
  Calls Tryz.prog 141 #[.pointer (some ⟨b,off,none⟩),.agg #[.int .i64 p.x,.int .i64 p.y]] w fun e w'=>e=.returned (.int .i64 (cAt t p))∧Below w.heap.size w w':=by
 have hbp:b<w.heap.size:=zbh c0;have s0_:=T.s0;have s1_:=T.s1;have w0_:=T.w0;have w1_:=T.w1;have h0_:=T.h0;have h1_:=T.h1;have hlc:=T.lc;have hpt:=zcy T hp;unfold ptB at hpt;obtain⟨⟨px0,px1⟩,py0,py1⟩:=hpt;have cx:=cNear_bd T.s0 hp.1.1 hp.1.2;have cy:=cNear_bd T.s0 hp.2.1 hp.2.2;have g1:=zeu (i:=zdm t.step p.x) (k:=zdm t.step p.y) (w:=t.width) (h:=t.height) cx.1 (by omega) cy.1 (by omega) w1_ h1_;have EX:Hid (zdm t.step p.x=(2*p.x+t.step) / (2*t.step)):=rfl;have EY:Hid (zdm t.step p.y=(2*p.y+t.step) / (2*t.step)):=rfl;have HE0:Hid (cAt t p=gi t.clutter (zdm t.step p.y*t.width+zdm t.step p.x).toNat):=rfl;generalize zdm t.step p.x=cx_ at *;generalize zdm t.step p.y=cy_ at *;obtain⟨n,en⟩:=Int.eq_ofNat_of_zero_le g1.2.2.1;have HE:Hid (cAt t p=gi t.clutter n):=by show _=_;rw[HE0.out,en];rfl
 have hn:n<t.clutter.length:=by omega
 obtain⟨a4,cc4,e4,_,_,_⟩:=r4.ints;subst e4;obtain⟨bh,oh,ea,hbl,hat⟩:=r4.intAt (by omega);subst ea;have cl:=hat n hn;have i1:(0:Int)≤(n:Int):=by omega
 have i2:(n:Int)<(t.clutter.length:Int):=by omega
 obtain⟨gy0,gy1,gn0,gn1⟩:=g1;generalize hgv:gi t.clutter n=gv at *;clear hat HE0 r4;obtain⟨W0,hW0,b0_,z0,k0⟩:=zat w #[.int .i64 p.x,.int .i64 p.y] 48;have HW0:=Lib.hid hW0;have B0:=Lib.hid b0_;have HD:=Lib.hid (fun (W:World) (hW:Below W0.heap.size W0 W)=>bx2 k0 hW <| aI ((bat hW b _ (by omega)).trans ((bat b0_ b _ (by omega)).trans c0)) <| aI ((bat hW b _ (by omega)).trans ((bat b0_ b _ (by omega)).trans c1)) <| aI ((bat hW b _ (by omega)).trans ((bat b0_ b _ (by omega)).trans c2)) <| aI ((bat hW b _ (by omega)).trans ((bat b0_ b _ (by omega)).trans c3)) <| aI ((bat hW b _ (by omega)).trans ((bat b0_ b _ (by omega)).trans c4)) <| ((bat hW bh _ (by omega)).trans ((bat b0_ bh _ (by omega)).trans cl)));have HB:Hid (Below W0.heap.size W0 W0):=Below.refl _ _;clear k0 hW0 b0_;clear c0 c1 c2 c3 c4;go_enter Tryz.func141,Tryz.ntmps141;go_upto_region 1 with (fail);rw[HW0.out];obtain⟨t0,t1,t2,t3,t4,t5,t6,t7⟩:=HD.out _ HB.out;go_upto_region 1 with (fail);have o0:=zan (w0:=W0) (show b<W0.heap.size by have:=HB.out.size;omega);have o1:=zan (w0:=W0) (show w.heap.size<W0.heap.size by have:=HB.out.size;omega);refine zae W0.heap.size W0 (Below.refl _ _) (by kernel_rfl) (by kernel_rfl) ?_
 repeat (go_big_quiet_step (first|fail))
 refine wpQuiet_nil ?_;rintro _ ⟨X,rfl⟩;replace HB:=btr HB (zaa W0.heap.size W0 X);clear o0 o1
 (try clear t0 t1 t2 t3 t4 t5 t6 t7)
 generalize over W0.heap.size W0 X=u2 at *;obtain⟨t0,t1,t2,t3,t4,t5,t6,t7⟩:=HD.out _ HB.out
 (try rw[← EX.out])
 go_upto_region 2 with (fail);have o0:=zan (w0:=u2) (show b<u2.heap.size by have:=HB.out.size;omega);have o1:=zan (w0:=u2) (show w.heap.size<u2.heap.size by have:=HB.out.size;omega);refine zae u2.heap.size u2 (Below.refl _ _) (by kernel_rfl) (by kernel_rfl) ?_
 repeat (go_big_quiet_step (first|fail))
 refine wpQuiet_nil ?_;rintro _ ⟨X,rfl⟩;replace HB:=btr HB (zaa u2.heap.size u2 X);clear o0 o1
 (try clear t0 t1 t2 t3 t4 t5 t6 t7)
 generalize over u2.heap.size u2 X=u4 at *;obtain⟨t0,t1,t2,t3,t4,t5,t6,t7⟩:=HD.out _ HB.out
 (try rw[← EY.out])
 go_upto_region 3 with (fail);have o0:=zan (w0:=u4) (show b<u4.heap.size by have:=HB.out.size;omega);have o1:=zan (w0:=u4) (show bh<u4.heap.size by have:=HB.out.size;omega);refine zae u4.heap.size u4 (Below.refl _ _) (by kernel_rfl) (by kernel_rfl) ?_
 repeat (go_big_quiet_step (first|fail))
 refine wpQuiet_nil ?_;rintro _ ⟨X,rfl⟩;replace HB:=btr HB (zaa u4.heap.size u4 X);clear o0 o1
 (try clear t0 t1 t2 t3 t4 t5 t6 t7)
 generalize over u4.heap.size u4 X=u6 at *;obtain⟨t0,t1,t2,t3,t4,t5,t6,t7⟩:=HD.out _ HB.out;go_wp2;go_ret;exact⟨by rw[HE.out];rfl,B0.out.trans (HB.out.mono B0.out.size)⟩
theorem ze7 (t:DTerrain) (q:DEnd) (T:TerrOk t) (hp:inT t q.place) (hq:endP q) (v3 v4:Value) (b off:Nat) (w:World) (r3:Rd w.heap.size w (zaj t.heights) v3) (c0:w.cell? ⟨b,off,none⟩=some (.int .i64 t.step)) (c1:w.cell? ⟨b,off+1,none⟩=some (.int .i64 t.width)) (c2:w.cell? ⟨b,off+2,none⟩=some (.int .i64 t.height)) (c3:w.cell? ⟨b,off+3,none⟩=some (v3)) (c4:w.cell? ⟨b,off+4,none⟩=some (v4)) :
  Calls Tryz.prog 137 #[.pointer (some ⟨b,off,none⟩),.agg #[.int .i64 q.place.x,.int .i64 q.place.y,.int .i64 q.above]] w fun e w'=>e=.returned (.int .i64 (zcm t q))∧Below w.heap.size w w':=by
 have HE:Hid (zcm t q=hAt t q.place+q.above):=rfl;have hb:=hAt_bd T hp;unfold endP at hq;have hbp:b<w.heap.size:=zbh c0;obtain⟨W0,hW0,b0_,z0,k0⟩:=zat w #[.int .i64 q.place.x,.int .i64 q.place.y,.int .i64 q.above] 50;have HW0:=Lib.hid hW0;have B0:=Lib.hid b0_;have HD:=Lib.hid (fun (W:World) (hW:Below W0.heap.size W0 W)=>bx3 k0 hW <| aI ((bat hW b _ (by omega)).trans ((bat b0_ b _ (by omega)).trans c0)) <| aI ((bat hW b _ (by omega)).trans ((bat b0_ b _ (by omega)).trans c1)) <| aI ((bat hW b _ (by omega)).trans ((bat b0_ b _ (by omega)).trans c2)) <| aI ((bat hW b _ (by omega)).trans ((bat b0_ b _ (by omega)).trans c3)) <| ((bat hW b _ (by omega)).trans ((bat b0_ b _ (by omega)).trans c4)));have HB:Hid (Below W0.heap.size W0 W0):=Below.refl _ _;clear k0 hW0 b0_;have CH:Hid (∀ W:World,Below W0.heap.size W0 W→Calls Tryz.prog 176 #[.pointer (some ⟨b,off,none⟩),.agg #[.int .i64 q.place.x,.int .i64 q.place.y]] W fun e w'=>e=.returned (.int .i64 (hAt t q.place))∧Below W.heap.size W w'):=fun  W hW=>by
   obtain⟨t0,t1,t2,t3,t4,t5,t6,t7⟩:=HD.out W hW;exact l04High_any t q.place T hp v3 v4 b off W ((r3.below (B0.out.trans (hW.mono B0.out.size))).mono (B0.out.trans (hW.mono B0.out.size)).size) t3 t4 t5 t6 t7
 clear c0 c1 c2 c3 c4;generalize hAt t q.place=ha at *;generalize zcm t q=hi at *;obtain⟨hb0,hb1⟩:=hb;obtain⟨hq0,hq1⟩:=hq;go_enter Tryz.func137,Tryz.ntmps137;go_upto_region 1 with (fail);rw[HW0.out];obtain⟨t0,t1,t2,t3,t4,t5,t6,t7⟩:=HD.out _ HB.out;go_upto_region 1 with (fail);have o0:=zan (w0:=W0) (show w.heap.size<W0.heap.size by have:=HB.out.size;omega);refine zae W0.heap.size W0 (Below.refl _ _) (by kernel_rfl) (by kernel_rfl) ?_
 repeat (go_big_quiet_step (first|(go_at_call 176;with_reducible exact zai (Nat.le_refl _) (CH.out _ (HB.out.trans ((zaa _ _ _).mono HB.out.size))))))
 refine wpQuiet_nil ?_;rintro _ ⟨X,rfl⟩;replace HB:=btr HB (zaa W0.heap.size W0 X);clear o0
 (try clear t0 t1 t2 t3 t4 t5 t6 t7)
 generalize over W0.heap.size W0 X=u2 at *;obtain⟨t0,t1,t2,t3,t4,t5,t6,t7⟩:=HD.out _ HB.out;go_wp2;go_ret;exact⟨by rw[HE.out];rfl,B0.out.trans (HB.out.mono B0.out.size)⟩
end Go.Proofs.YtdgmgchdjlfchaaGreatDoor
