/- Contracts: losses in free space, by gases, by clutter, for the program and for the reference. Conditions: bounded numbers; the tables hold what they hold at the start. -/
import Derived.Test.YtpakghepnahooaaGreatDoorRd1
import Derived.Test.YtpakghepnahooaaGreatDoorDw6
set_option linter.unusedVariables false
set_option linter.unusedSimpArgs false
namespace Go.Proofs.YtpakghepnahooaaGreatDoor
open Go.RowKit
theorem Q2k {p:Prop} (h:p:=by first|exact Nat.le_refl _|omega|(simp;done)|(simp<;>omega)):p:=h
theorem Q0i {p:Prop} (h:p:=by
 obtain⟨q,eq_⟩:=Int.eq_ofNat_of_zero_le (show 0≤(k:Int)-1 by omega)
 have hqn:k-1=q:=II
 rw[hqn] at hpk
 have hqa:=(HX.out q II).1
 have hqv:=(HX.out q II).2
 have j0:(0:Int)≤(q:Int):=II
 have j1:(q:Int)<9:=II
 have HPK:=IJ hpk
 have CB:Hid (∀ W:World,OI w w W→Calls Tryz.prog 234 #[J (gi gP q),J (gi gV q),J (gi gP k),J (gi gV k),J x] W fun e w'=>e=.returned (J GX)∧OI W W w'):=fun W hW=>by
  rw[HPK.out];exact blend_any _ _ _ _ _ (gP_bd _) (gV_bd _) (gP_bd _) (gV_bd _) W
 clear hpk HPK HP HALL HX
 go_upto_region 5 with (fail)
 have o0:=zai (w0:=w) (show b<w.heap.size from hb)
 refine zab w.heap.size w (Below.refl _ _) JI JI ?_
 repeat (go_big_quiet_step (first|(go_at_call 234;with_reducible exact zah (Nat.le_refl _) (CB.out _ (HB.out.trans ((zaa _ _ _).mono HB.out.size))))))
 refine wpQuiet_nil ?_
 rintro _ ⟨Y,rfl⟩
 have HB2:=IJ (zaa w.heap.size w Y)
 clear o0
 generalize over w.heap.size w Y=u9 at *
 go_wp2
 go_ret
 exact⟨rfl,HB2.out⟩):p:=h
theorem Q0r {p:Prop} (h:p:=by
 go_roundw
 case rel=>exact⟨j+1,II,by rw[HE2.out],by go_num,HB.out⟩
 case measure=>simp[intOf];omega):p:=h
theorem Q1j {p:Prop} (h:p:=by
 (intro W hSW;(try dsimp only at hSW);obtain⟨t0,t1,t2,t3⟩:=HD.out W hSW;(go_simp<;>with_reducible rfl))):p:=h
theorem Q1l {p:Prop} (h:p:=by
 rcases Int.le_total 0 d with h|h
 ·rw[Int.tmod_eq_emod_of_nonneg h];omega
 ·obtain⟨c,rfl⟩:∃ c,d = -c:=⟨-d,II⟩
  rw[Int.neg_tmod,Int.tmod_eq_emod_of_nonneg (show 0≤c by omega)];omega):p:=h
theorem Q1m {p:Prop} (h:p:=by
 go_enter Tryz.func234,Tryz.ntmps234
 go_wp2
 go_ret
 exact⟨by rw[HE2.out];rfl,Below.refl _ _⟩):p:=h
theorem Q1n {p:Prop} (h:p:=by
 have cl:=L.sin k hk
 have k0:(0:Int)≤(k:Int):=II
 have k1:(k:Int)<91:=II
 clear L
 go_enter Tryz.func176,Tryz.ntmps176
 go_wp2
 go_ret
 exact⟨by rw[HE.out];rfl,Below.refl _ _⟩):p:=h
theorem Q1r {p:Prop} (h:p:=by
 exact⟨by rw[HT2.out,HX2.out],by repeat (first|exact Below.refl _ _|refine Below.alloc ?_ Q30 _)⟩):p:=h
theorem Q1x {p:Prop} (h:p:=by
 have HS:=IJ hs
 clear hs
 generalize clP f 0=pv at *
 go_wp2
 go_round
 case rel=>exact⟨1,II,by rw[HS.out],rfl⟩
 case measure=>simp[intOf]):p:=h
theorem Q1y {p:Prop} (h:p:=by
 have HS:=IJ hs
 clear hs
 generalize clP f 1=pv at *
 go_wp2
 go_round
 case rel=>exact⟨2,II,by rw[HS.out],rfl⟩
 case measure=>simp[intOf]):p:=h
theorem Q1z {p:Prop} (h:p:=by
 have HS:=IJ hs
 clear hs
 generalize clP f 2=pv at *
 go_wp2
 go_round
 case rel=>exact⟨3,II,by rw[HS.out],rfl⟩
 case measure=>simp[intOf]):p:=h
theorem Q20 {p:Prop} (h:p:=by
 have HS:=IJ hs
 clear hs
 generalize clP f 3=pv at *
 go_wp2
 go_round
 case rel=>exact⟨4,II,by rw[HS.out],rfl⟩
 case measure=>simp[intOf]):p:=h
theorem Q21 {p:Prop} (h:p:=by
 go_wp2_with (go_at_call 176;with_reducible refine CS.out.mono ?_;rintro e w1 ⟨rfl,hb1⟩)
 go_ret
 exact⟨by rw[HE.out];rfl,hb1⟩):p:=h
theorem Q29 {p:Prop} (h:p:=by
 go_wp2_with (go_at_call 175;with_reducible refine (CB.out _ _ HB.out).mono ?_;rintro e v ⟨rfl,hb_⟩;replace HB:=btr HB hb_;clear hb_)
 exact Q0r):p:=h
structure TabW (w:World):Prop where
 lib:LibW w
 z0:1<w.heap.size
 z1:0<w.heap.size
 sin:∀ k:Nat,k<91→w.cell? ⟨1,k,none⟩=some (J (gi sinL k))
 cln:∀ k:Nat,k<8→∃ s,w.cell? ⟨0,k*3,none⟩=some (IQ s)
 clh:∀ k:Nat,k<8→w.cell? ⟨0,k*3+1,none⟩=some (J (gi clH k))
 cll:∀ k:Nat,k<8→w.cell? ⟨0,k*3+2,none⟩=some (J (gi clL k))
theorem TabW.mono {w w':World} (h:TabW w) (hb:OI w w w'):TabW w':=by
 have hz:=hb.size;have z0:=h.z0;have z1:=h.z1
 exact⟨h.lib.mono hb,II,II,fun k hk=>(bat hb _ _ z0).trans (h.sin k hk),fun k hk=>by
  obtain⟨s,hs⟩:=h.cln k hk
  exact⟨s,(bat hb _ _ z1).trans hs⟩,fun k hk=>(bat hb _ _ z1).trans (h.clh k hk),fun k hk=>(bat hb _ _ z1).trans (h.cll k hk)⟩
set_option maxHeartbeats 16000000
set_option maxRecDepth 100000
theorem times_any (a ea b eb:Int) (ha:Sc a) (hb:Sc b) (e0:0≤ea) (e1:ea≤1000000) (f0:0≤eb) (f1:eb≤1000000) (w:World) :
  Calls Tryz.prog 212 #[.agg #[J a,J ea],.agg #[J b,J eb]] w fun e w'=>e=.returned (.agg #[J (tms a b),J (ea+eb+tmx a b)])∧OI w w w':=by
 obtain⟨m0,m1⟩:=sc_mul ha hb;have HT:Hid (tms a b=if 1000000000≤a*b / 100000000 then a*b / 100000000 / 10 else a*b / 100000000):=rfl;have HX:Hid (tmx a b=if 1000000000≤a*b / 100000000 then 1 else 0):=rfl;have p0:0≤a*b:=II
 by_cases hc:1000000000≤a*b / 100000000
 ·have HT2:Hid (tms a b=a*b / 100000000 / 10):=by show _=_;rw[HT.out,if_pos hc]
  have HX2:Hid (ea+eb+tmx a b=ea+eb+1):=by show _=_;rw[HX.out,if_pos hc]
  have q0:0≤a*b / 100000000:=II
  clear HT HX;generalize tms a b=T at *;generalize tmx a b=U at *;generalize hp:a*b=p at *;go_enter Tryz.func212,Tryz.ntmps212;go_wp2;refine bodyPost_ret (v:=.agg #[J (p / 100000000 / 10),J (ea+eb+1)]) (by simp[results,Tryz.results212,go_sem, *]) rfl ?_;exact Q1r
 ·have HT2:Hid (tms a b=a*b / 100000000):=by show _=_;rw[HT.out,if_neg hc]
  have HX2:Hid (ea+eb+tmx a b=ea+eb):=by show _=_;rw[HX.out,if_neg hc];omega
  have q0:0≤a*b / 100000000:=II
  clear HT HX;generalize tms a b=T at *;generalize tmx a b=U at *;generalize hp:a*b=p at *;go_enter Tryz.func212,Tryz.ntmps212;go_wp2;refine bodyPost_ret (v:=.agg #[J (p / 100000000),J (ea+eb)]) (by simp[results,Tryz.results212,go_sem, *]) rfl ?_;exact Q1r
theorem blend_any (x0 y0 x1 y1 x:Int) (ba:0≤x0∧x0≤100000) (bb:0≤y0∧y0≤15000) (bc:0≤x1∧x1≤100000) (bd:0≤y1∧y1≤15000) (w:World) :
  Calls Tryz.prog 234 #[J x0,J y0,J x1,J y1,J x] w fun e w'=>e=.returned (J (lineR x0 y0 x1 y1 x))∧OI w w w':=by
 have B0:Hid (OI w w w):=Below.refl _ _;have HB:Hid (OI w w w):=Below.refl _ _;have HE:Hid (lineR x0 y0 x1 y1 x=if x≤x0∨x1≤x0 then y0 else (if x1≤x then y1 else y0+rdiv ((y1-y0)*(x-x0)) (x1-x0))):=rfl;generalize lineR x0 y0 x1 y1 x=LR at *
 by_cases c0:x≤x0
 ·have HE2:Hid (LR=y0):=by show _=_;rw[HE.out,if_pos (Or.inl c0)]
  exact Q1m
 by_cases c1:x1≤x0
 ·have HE2:Hid (LR=y0):=by show _=_;rw[HE.out,if_pos (Or.inr c1)]
  exact Q1m
 by_cases c2:x1≤x
 ·have HE2:Hid (LR=y1):=by show _=_;rw[HE.out,if_neg II,if_pos c2]
  exact Q1m
 have HE2:Hid (LR=y0+rdiv ((y1-y0)*(x-x0)) (x1-x0)):=by show _=_;rw[HE.out,if_neg II,if_neg c2]
 have e:=lineR_in ba bb bc bd (x:=x) II II;have r:=rdiv_bd (a:=(y1-y0)*(x-x0)) (b:=x1-x0) II 1500000000 e.1 e.2;obtain⟨e1,e2⟩:=e;obtain⟨r1,r2⟩:=r;obtain⟨ba1,ba2⟩:=ba;obtain⟨bb1,bb2⟩:=bb;obtain⟨bc1,bc2⟩:=bc;obtain⟨bd1,bd2⟩:=bd;have CD:Hid (∀ W:World,OI w w W→Calls Tryz.prog 180 #[J ((y1-y0)*(x-x0)),J (x1-x0)] W fun e w'=>e=.returned (J (rdiv ((y1-y0)*(x-x0)) (x1-x0)))∧OI W W w'):=fun  W hW=>zbx _ _ II II II II W
 generalize rdiv ((y1-y0)*(x-x0)) (x1-x0)=RV at *;go_enter Tryz.func234,Tryz.ntmps234;skip;go_wp2_with (first|(go_at_call 180;with_reducible refine (CD.out _ HB.out).mono ?_;rintro e v1 ⟨rfl,hb_⟩;replace HB:=btr HB hb_;clear hb_;skip));go_ret;exact⟨by rw[HE2.out];rfl,B0.out.trans (HB.out.mono B0.out.size)⟩
theorem iLogDb_any (n:Int) (h1:-9223372036854775808≤n) (h2:n≤9223372036854775807) (w:World) (L:LibW w) :
  Calls Tryz.prog 179 #[J n] w fun e w'=>e=.returned (J (lgI n))∧OI w w w':=by
 by_cases c1:n<1
 ·have HE:Hid (lgI n=0):=by show _=_;unfold lgI;rw[if_pos c1]
  go_enter Tryz.func179,Tryz.ntmps179;go_wp2;go_ret;exact⟨by rw[HE.out];rfl,Below.refl _ _⟩
 replace h1:1≤n:=II
 have HE:Hid (lgI n=(zej 4 (nrm n.toNat (ndg n)) (ndg n)).2):=by show _=_;unfold lgI;rw[if_neg c1];rfl
 obtain⟨q1,q2⟩:=ndg_spec h1;have q3:=ndg_le h1 h2;have hsc:=nrm_sc h1;have CD:=IJ (decimal_any n ⟨II,h2⟩ w L);have hsz:(((ofL (Go.Lib.itoa n)).size:Nat):Int)=(ndg n:Int)+1:=by
  have hp:=Go.Lib.nDigits_pos n.toNat;have:(ofL (Go.Lib.itoa n)).size=Go.Lib.nDigits n.toNat:=by
   rw[ofL_size];unfold Go.Lib.itoa;rw[if_neg II,Go.Lib.decDigits_length]
  unfold ndg;omega
 clear L c1;generalize ofL (Go.Lib.itoa n)=TX at *;generalize lgI n=LG at *;generalize ndg n=R at *;obtain⟨u,rfl⟩:∃ u:Nat,n=(u:Int):=⟨n.toNat,II⟩
 rw[Int.toNat_natCast] at *;rw[nrm_eq] at HE hsc;have HQ2:=IJ q2;have HSC:=IJ hsc;clear q1 q2 hsc;have u1:(1:Int)≤(u:Int):=h1;have u2:(u:Int)≤9223372036854775807:=h2;go_enter Tryz.func179,Tryz.ntmps179;go_upto_region 4 with (go_at_call 211;with_reducible refine CD.out.mono ?_;rintro e v1 ⟨rfl,hb1⟩);have HB:=IJ hb1;clear hb1 CD;clear hsz;have hmx:max (8-(R:Int)) 0=((8-R:Nat):Int):=II
 have hmx2:max ((R:Int)-8) 0=((R-8:Nat):Int):=II
 go_wp2
 go_loop [4,18] (fun x i=>∃ j:Nat,j≤8-R∧x=J ((u*10 ^ j:Nat):Int)∧i=J (j:Int)) (fun x i=>(8-R)-(intOf i).toNat)
 case atStart=>exact⟨0,Nat.zero_le _,by simp,by simp⟩
 case round =>
  obtain⟨j,hj,rfl,rfl⟩:=hrel;have ji:(j:Int)≤8:=II
  by_cases hlt2:j<8-R
  ·have hup:=nrm_up HQ2.out (show R+(j+1)≤8 by omega)
   have pu:=pow_up u j;rw[pu] at hup;generalize u*10 ^ j=y2 at *;have z1:(y2:Int)*10≤1000000000:=II
   have z2:(j:Int)<((8-R:Nat):Int):=II
   go_wp2
   go_round
   case rel=>exact⟨j+1,II,by rw[pu];go_num,by go_num⟩
   case measure=>simp[intOf];omega
  ·obtain rfl:j=8-R:=II
   have hx0:(u*10 ^ (8-R):Nat)≤9223372036854775807:=by
    by_cases h8:R≤8
    ·have:=nrm_up HQ2.out (show R+(8-R)≤8 by omega);omega
    ·rw[show 8-R=0 by omega];simp<;>omega
   have HP:Hid ((u*10 ^ (8-R):Nat)≤9223372036854775807):=hx0;generalize u*10 ^ (8-R)=y3 at *;go_wp2
   go_loop [4,26] (fun x i=>∃ j:Nat,j≤R-8∧x=J ((y3 / 10 ^ j:Nat):Int)∧i=J (j:Int)) (fun x i=>(R-8)-(intOf i).toNat)
   case atStart=>exact⟨0,Nat.zero_le _,by simp,by simp⟩
   case round =>
    obtain⟨j,hj,rfl,rfl⟩:=hrel;have ji:(j:Int)≤18:=II
    have dv3:=div_up y3 j;have dl3:y3 / 10 ^ j≤y3:=Nat.div_le_self _ _
    by_cases hlt3:j<R-8
    ·generalize y3 / 10 ^ j=y4 at *
     have z1:(y4:Int)≤9223372036854775807:=II
     have z2:(j:Int)<((R-8:Nat):Int):=II
     go_wp2
     go_round
     case rel=>exact⟨j+1,II,by rw[dv3];go_num,by go_num⟩
     case measure=>simp[intOf];omega
    ·obtain rfl:j=R-8:=II
     generalize y3 / 10 ^ (R-8)=y4 at *;go_wp2;go_loopw [3,4,31] (fun r x i wr=>∃ q:Nat,q≤4∧r=J (zej q (y4:Int) (R:Int)).2∧x=J (zej q (y4:Int) (R:Int)).1∧i=J (q:Int)∧OI w w wr) (fun r x i wr=>4-(intOf i).toNat)
     case atStart=>exact⟨0,Nat.zero_le _,rfl,rfl,rfl,HB.out⟩
     case round =>
      obtain⟨q,hq,rfl,rfl,rfl,hb⟩:=hrel;have hs:=logIt_sc (r:=(R:Int)) HSC.out q;have hbd:=logIt_bd (x:=(y4:Int)) (r:=(R:Int)) 18 II II q;have HS1:Hid ((zej (q+1) (y4:Int) (R:Int)).1=tenN (zej q (y4:Int) (R:Int)).1):=rfl;have HS2:Hid ((zej (q+1) (y4:Int) (R:Int)).2=10*(zej q (y4:Int) (R:Int)).2+tenX (zej q (y4:Int) (R:Int)).1):=rfl
      by_cases hlt4:q<4
      ·have hpw:((19:Int)*10 ^ q)≤19000:=by
        have:q=0∨q=1∨q=2∨q=3:=II
        rcases this with rfl|rfl|rfl|rfl<;>decide
       have r0:=hbd.1;have r1:(zej q (y4:Int) (R:Int)).2<19000:=by have:=hbd.2;simp at this;omega
       generalize (zej q (y4:Int) (R:Int)).1=X at *;generalize (zej q (y4:Int) (R:Int)).2=RR at *;have HBr:=IJ hb;clear hb hbd HB HQ2 HSC HP hmx hmx2;have s2:=tms_sc hs hs;have s4:=tms_sc s2 s2;have s5:=tms_sc s4 hs;obtain⟨a0,a1⟩:=tmx_bd X X;obtain⟨b0,b1⟩:=tmx_bd (tms X X) (tms X X);obtain⟨c0,c1_⟩:=tmx_bd (tms (tms X X) (tms X X)) X;obtain⟨d0,d1⟩:=tmx_bd (tms (tms (tms X X) (tms X X)) X) (tms (tms (tms X X) (tms X X)) X);have HN:Hid (tenN X=tms (tms (tms (tms X X) (tms X X)) X) (tms (tms (tms X X) (tms X X)) X)):=rfl;have HX:Hid (tenX X=2*(2*tmx X X+tmx (tms X X) (tms X X)+tmx (tms (tms X X) (tms X X)) X)+tmx (tms (tms (tms X X) (tms X X)) X) (tms (tms (tms X X) (tms X X)) X)):=rfl;have T1:Hid (∀ W:World,Calls Tryz.prog 212 #[.agg #[J X,J 0],.agg #[J X,J 0]] W fun e w'=>e=.returned (.agg #[J (tms X X),J (tmx X X)])∧OI W W w'):=fun W=>by
        have:=times_any X 0 X 0 hs hs II II II II W
        rwa [show (0:Int)+0+tmx X X=tmx X X by omega] at this
       have T2:Hid (∀ W:World,Calls Tryz.prog 212 #[.agg #[J (tms X X),J (tmx X X)],.agg #[J (tms X X),J (tmx X X)]] W fun e w'=>e=.returned (.agg #[J (tms (tms X X) (tms X X)),J (tmx X X+tmx X X+tmx (tms X X) (tms X X))])∧OI W W w'):=fun W=>times_any _ _ _ _ s2 s2 II II II II W
       have T3:Hid (∀ W:World,Calls Tryz.prog 212 #[.agg #[J (tms (tms X X) (tms X X)),J (tmx X X+tmx X X+tmx (tms X X) (tms X X))],.agg #[J X,J 0]] W fun e w'=>e=.returned (.agg #[J (tms (tms (tms X X) (tms X X)) X),J (tmx X X+tmx X X+tmx (tms X X) (tms X X)+0+tmx (tms (tms X X) (tms X X)) X)])∧OI W W w'):=fun W=>times_any _ _ _ _ s4 hs II II II II W
       generalize hE5:tmx X X+tmx X X+tmx (tms X X) (tms X X)+0+tmx (tms (tms X X) (tms X X)) X=e5 at *;have e50:0≤e5:=II
       have e51:e5≤4:=II
       have T4:Hid (∀ W:World,Calls Tryz.prog 212 #[.agg #[J (tms (tms (tms X X) (tms X X)) X),J e5],.agg #[J (tms (tms (tms X X) (tms X X)) X),J e5]] W fun e w'=>e=.returned (.agg #[J (tms (tms (tms (tms X X) (tms X X)) X) (tms (tms (tms X X) (tms X X)) X)),J (e5+e5+tmx (tms (tms (tms X X) (tms X X)) X) (tms (tms (tms X X) (tms X X)) X))])∧OI W W w'):=fun W=>times_any _ _ _ _ s5 s5 II II II II W
       have HX2:Hid (tenX X=e5+e5+tmx (tms (tms (tms X X) (tms X X)) X) (tms (tms (tms X X) (tms X X)) X)):=by show _=_;rw[HX.out];omega
       rw[← HX2.out] at T4;rw[← HN.out] at T4;have hx9:=tenX_bd X;clear hE5 HX HX2 HN;generalize tenN X=NX at *;generalize tenX X=DX at *;clear c0 c1_ d0 d1 s5 s4 s2 hs;generalize tms (tms (tms X X) (tms X X)) X=n5 at *;generalize tmx X X+tmx X X+tmx (tms X X) (tms X X)=e4 at *;generalize tms (tms X X) (tms X X)=n4 at *;generalize tms X X=n2 at *;generalize tmx X X=e2 at *;obtain⟨x90,x91⟩:=hx9;have zr0:=HBr.out.size;go_upto_region 16 with (fail);refine wp_cut (fun W=>OI w w W∧wr.heap.size<W.heap.size∧(W,wr.heap.size,0,J X)∧(W,wr.heap.size,1,J 0)) ⟨HBr.out.alloc zr0 _,by simp[go_sem],by simp[go_sem],by simp[go_sem]⟩ ?_;rintro W1 ⟨hb1,z1,t0,t1⟩;have HB1:=IJ hb1;clear hb1;go_upto_region 17 with (go_at_call 212;with_reducible refine (T1.out _).mono ?_;rintro e v1 ⟨rfl,hb2⟩);have zv:=hb2.size;have hbv:=HB1.out.trans (hb2.mono HB1.out.size);have zw1:=HB1.out.size;refine wp_cut (fun W=>OI w w W∧v1.heap.size<W.heap.size∧(W,wr.heap.size,0,J X)∧(W,wr.heap.size,1,J 0)∧(W,v1.heap.size,0,J n2)∧(W,v1.heap.size,1,J e2)) ⟨hbv.alloc hbv.size _,by simp[go_sem],?_,?_,by simp[go_sem],by simp[go_sem]⟩ ?_
       ·rw[bat (zao v1 _) wr.heap.size 0 II,bat hb2 wr.heap.size 0 z1];exact t0
       ·rw[bat (zao v1 _) wr.heap.size 1 II,bat hb2 wr.heap.size 1 z1];exact t1
       clear t0 t1;rintro W2 ⟨hb3,z2,t0,t1,t2,t3⟩;have HB2:=IJ hb3;clear hb3 hbv hb2;have zz2:wr.heap.size<W2.heap.size:=II
       have HD:Hid (∀ W:World,OI W2 W2 W→((W,wr.heap.size,0,J X)∧(W,wr.heap.size,1,J 0)∧(W,v1.heap.size,0,J n2)∧(W,v1.heap.size,1,J e2))):=fun W hW=>⟨(bat hW _ _ zz2).trans t0,(bat hW _ _ zz2).trans t1,(bat hW _ _ z2).trans t2,(bat hW _ _ z2).trans t3⟩
       clear t0 t1 t2 t3;have BS:Hid (OI W2 W2 W2):=Below.refl _ _;go_cut [7] (fun s7 wx=>∃ h:Nat,s7=.pointer (some ⟨h,0,none⟩)∧wx.heap[h]? = some (.cells #[J n5,J e5] 220 (0,0))∧W2.heap.size≤h∧h<wx.heap.size∧OI W2 W2 wx)
       case first =>
        refine zas 7 (.read 0 (.read 1 (.read 3 (.two 2 5 (.two 4 5 (.one 5 (.one 6 .nil)) (.one 4 (.one 6 .nil))) (.one 2 (.one 4 (.one 6 .nil))))))) (fun W=>OI W2 W2 W) JI JI (BS.out.drew) ?_;have YB:=IJ (BS.out.drew);have Yz:W2.heap.size≤W2.drew.heap.size:=Nat.le_refl _;generalize W2.drew=Y at *;refine zak (v:=?_) rfl (fun _ _ _ h=>h) ?_ ?_
        rotate_left
        ·exact Q1j
        (try simp only[Act.put,OO,OJ,OQ])
        refine zak (v:=?_) rfl (fun _ _ _ h=>h) ?_ ?_
        rotate_left
        ·exact Q1j
        (try simp only[Act.put,OO,OJ,OQ])
        refine zak (v:=?_) rfl (fun _ _ _ h=>h) ?_ ?_
        rotate_left
        ·exact Q1j
        (try simp only[Act.put,OO,OJ,OQ])
        refine zbv ?_ ?_
        ·refine zae rfl (fun K hK=>?_)
         go_simp;refine ((fun W _=>T2.out W) _ YB.out).mono ?_;rintro e Y1 ⟨rfl,hb1⟩;have YB1:=btr YB hb1;refine hK.out _ _ YB1.out ?_;clear hK K
         (try simp only[Act.put,OO,OJ,OQ])
         have bs1:Y.heap.size≤Y1.heap.size:=hb1.size;clear hb1;refine zbv ?_ ?_
         ·refine zae rfl (fun K hK=>?_)
          go_simp;refine ((fun W _=>T3.out W) _ YB1.out).mono ?_;rintro e Y2 ⟨rfl,hb2⟩;have YB2:=btr YB1 hb2;refine hK.out _ _ YB2.out ?_;clear hK K
          (try simp only[Act.put,OO,OJ,OQ])
          have bs2:Y1.heap.size≤Y2.heap.size:=hb2.size;clear hb2;refine zaf ?_;refine zae rfl (fun K hK=>?_);go_simp;have hb3:OI Y2 Y2 (Y2.alloc (.cells #[J 0,J 0] 220)):=zao _ _;have Ykc3:=IJ (bkN Y2 #[J 0,J 0] 220);have zl3:Y2.heap.size+1≤(Y2.alloc (.cells #[J 0,J 0] 220)).heap.size:=by simp
          have YB3:=btr YB2 hb3;refine hK.out _ _ YB3.out ?_;clear hK K
          (try simp only[Act.put,OO,OJ,OQ])
          have bs3:Y2.heap.size≤(Y2.alloc (.cells #[J 0,J 0] 220)).heap.size:=hb3.size;clear hb3;generalize (Y2.alloc (.cells #[J 0,J 0] 220))=Y3 at *;refine zaf ?_;refine zae rfl (fun K hK=>?_);have g0:=bkC (v:=J 0) Ykc3.out 0 rfl;have g1:=bkC (v:=J 0) Ykc3.out 1 rfl;have fz:=bkF Ykc3.out;have kf_:(((Y3.setCell ⟨Y2,0,none⟩ (J n5)).setCell ⟨Y2,1,none⟩ (J e5))).heap[Y2.heap.size]? = some (.cells #[J n5,J e5] 220 (0,0)):=by
           have h_:=(bkS (bkS Ykc3.out 0 (J n5)) 1 (J e5))
           simpa using h_
          have Ykc4:=IJ kf_;clear kf_;have YB4:=IJ ((YB3.out.setCell (p:=⟨Y2,0,none⟩) (by show W2.heap.size≤Y2.heap.size;have:=YB3.out.size;omega) (J n5)).setCell (p:=⟨Y2,1,none⟩) (by show W2.heap.size≤Y2.heap.size;have:=YB3.out.size;omega) (J e5));have bs4:Y3.heap.size≤(((Y3.setCell ⟨Y2,0,none⟩ (J n5)).setCell ⟨Y2,1,none⟩ (J e5))).heap.size:=by simp only[zac];omega
          go_simp;refine hK.out _ _ YB4.out ?_;clear hK K fz g0 g1
          (try simp only[Act.put,OO,OJ,OQ])
          generalize ((Y3.setCell ⟨Y2,0,none⟩ (J n5)).setCell ⟨Y2,1,none⟩ (J e5))=Y4 at *;refine zat ?_;simp only[List.drop_succ_cons,List.drop_zero];go_wp2_with fail;go_meet;exact⟨_,rfl,Ykc4.out,II,II,YB4.out⟩
         ·refine zae rfl (fun K hK=>?_)
          go_simp;have hb5:OI Y1 Y1 (Y1.alloc (.cells #[J 0,J 0] 220)):=zao _ _;have Ykc5:=IJ (bkN Y1 #[J 0,J 0] 220);have zl5:Y1.heap.size+1≤(Y1.alloc (.cells #[J 0,J 0] 220)).heap.size:=by simp
          have YB5:=btr YB1 hb5;refine hK.out _ _ YB5.out ?_;clear hK K
          (try simp only[Act.put,OO,OJ,OQ])
          have bs5:Y1.heap.size≤(Y1.alloc (.cells #[J 0,J 0] 220)).heap.size:=hb5.size;clear hb5;generalize (Y1.alloc (.cells #[J 0,J 0] 220))=Y5 at *;refine zaf ?_;refine zae rfl (fun K hK=>?_);go_simp;refine ((fun W _=>T3.out W) _ YB5.out).mono ?_;rintro e Y6 ⟨rfl,hb6⟩;have YB6:=btr YB5 hb6;refine hK.out _ _ YB6.out ?_;clear hK K
          (try simp only[Act.put,OO,OJ,OQ])
          have bs6:Y5.heap.size≤Y6.heap.size:=hb6.size;have Ykc6:=IJ (bkB Ykc5.out hb6 Q2k);clear hb6;refine zaf ?_;refine zae rfl (fun K hK=>?_);have g0:=bkC (v:=J 0) Ykc6.out 0 rfl;have g1:=bkC (v:=J 0) Ykc6.out 1 rfl;have fz:=bkF Ykc6.out;have kf_:(((Y6.setCell ⟨Y1,0,none⟩ (J n5)).setCell ⟨Y1,1,none⟩ (J e5))).heap[Y1.heap.size]? = some (.cells #[J n5,J e5] 220 (0,0)):=by
           have h_:=(bkS (bkS Ykc6.out 0 (J n5)) 1 (J e5))
           simpa using h_
          have Ykc7:=IJ kf_;clear kf_;have YB7:=IJ ((YB6.out.setCell (p:=⟨Y1,0,none⟩) (by show W2.heap.size≤Y1.heap.size;have:=YB6.out.size;omega) (J n5)).setCell (p:=⟨Y1,1,none⟩) (by show W2.heap.size≤Y1.heap.size;have:=YB6.out.size;omega) (J e5));have bs7:Y6.heap.size≤(((Y6.setCell ⟨Y1,0,none⟩ (J n5)).setCell ⟨Y1,1,none⟩ (J e5))).heap.size:=by simp only[zac];omega
          go_simp;refine hK.out _ _ YB7.out ?_;clear hK K fz g0 g1
          (try simp only[Act.put,OO,OJ,OQ])
          generalize ((Y6.setCell ⟨Y1,0,none⟩ (J n5)).setCell ⟨Y1,1,none⟩ (J e5))=Y7 at *;refine zat ?_;simp only[List.drop_succ_cons,List.drop_zero];go_wp2_with fail;go_meet;exact⟨_,rfl,Ykc7.out,II,II,YB7.out⟩
        ·refine zae rfl (fun K hK=>?_)
         go_simp;have hb8:OI Y Y (Y.alloc (.cells #[J 0,J 0] 220)):=zao _ _;have Ykc8:=IJ (bkN Y #[J 0,J 0] 220);have zl8:Y.heap.size+1≤(Y.alloc (.cells #[J 0,J 0] 220)).heap.size:=by simp
         have YB8:=btr YB hb8;refine hK.out _ _ YB8.out ?_;clear hK K
         (try simp only[Act.put,OO,OJ,OQ])
         have bs8:Y.heap.size≤(Y.alloc (.cells #[J 0,J 0] 220)).heap.size:=hb8.size;clear hb8;generalize (Y.alloc (.cells #[J 0,J 0] 220))=Y8 at *;refine zaf ?_;refine zae rfl (fun K hK=>?_);go_simp;refine ((fun W _=>T2.out W) _ YB8.out).mono ?_;rintro e Y9 ⟨rfl,hb9⟩;have YB9:=btr YB8 hb9;refine hK.out _ _ YB9.out ?_;clear hK K
         (try simp only[Act.put,OO,OJ,OQ])
         have bs9:Y8.heap.size≤Y9.heap.size:=hb9.size;have Ykc9:=IJ (bkB Ykc8.out hb9 Q2k);clear hb9;refine zaf ?_;refine zae rfl (fun K hK=>?_);go_simp;refine ((fun W _=>T3.out W) _ YB9.out).mono ?_;rintro e Y10 ⟨rfl,hb10⟩;have YB10:=btr YB9 hb10;refine hK.out _ _ YB10.out ?_;clear hK K
         (try simp only[Act.put,OO,OJ,OQ])
         have bs10:Y9.heap.size≤Y10.heap.size:=hb10.size;have Ykc10:=IJ (bkB Ykc9.out hb10 Q2k);clear hb10;refine zaf ?_;refine zae rfl (fun K hK=>?_);have g0:=bkC (v:=J 0) Ykc10.out 0 rfl;have g1:=bkC (v:=J 0) Ykc10.out 1 rfl;have fz:=bkF Ykc10.out;have kf_:(((Y10.setCell ⟨Y,0,none⟩ (J n5)).setCell ⟨Y,1,none⟩ (J e5))).heap[Y.heap.size]? = some (.cells #[J n5,J e5] 220 (0,0)):=by
          have h_:=(bkS (bkS Ykc10.out 0 (J n5)) 1 (J e5))
          simpa using h_
         have Ykc11:=IJ kf_;clear kf_;have YB11:=IJ ((YB10.out.setCell (p:=⟨Y,0,none⟩) (by show W2.heap.size≤Y.heap.size;have:=YB10.out.size;omega) (J n5)).setCell (p:=⟨Y,1,none⟩) (by show W2.heap.size≤Y.heap.size;have:=YB10.out.size;omega) (J e5));have bs11:Y10.heap.size≤(((Y10.setCell ⟨Y,0,none⟩ (J n5)).setCell ⟨Y,1,none⟩ (J e5))).heap.size:=by simp only[zac];omega
         go_simp;refine hK.out _ _ YB11.out ?_;clear hK K fz g0 g1
         (try simp only[Act.put,OO,OJ,OQ])
         generalize ((Y10.setCell ⟨Y,0,none⟩ (J n5)).setCell ⟨Y,1,none⟩ (J e5))=Y11 at *;refine zat ?_;simp only[List.drop_succ_cons,List.drop_zero];go_wp2_with fail;go_meet;exact⟨_,rfl,Ykc11.out,II,II,YB11.out⟩
       case rest =>
        obtain⟨h,rfl,kh,hlo,hhi,hbw⟩:=hcut;generalize wc=W3 at *;have HB3:=btr HB2 hbw;have K3:=IJ kh;have t0:=bkC (v:=J n5) K3.out 0 rfl;have t1:=bkC (v:=J e5) K3.out 1 rfl;have zh:w.heap.size≤h:=by have:=HB2.out.size;omega
        clear kh hbw HD BS;go_upto_region 19 with (go_at_call 212;with_reducible refine (T4.out _).mono ?_;rintro e v2 ⟨rfl,hb4⟩;clear t0 t1;have k4:=bkB K3.out hb4 hhi;have t0:=bkC (v:=J n5) k4 0 rfl;have t1:=bkC (v:=J e5) k4 1 rfl;have fz:=bkF k4);have zv2:=hb4.size;have hbv2:=HB3.out.trans (hb4.mono HB3.out.size);refine wp_cut (fun W=>OI w w W∧h<W.heap.size∧(W,h,0,J NX)∧(W,h,1,J DX)) ⟨(hbv2.setCell (p:=⟨h,0,none⟩) zh _).setCell (p:=⟨h,1,none⟩) zh _,by simp only[zac];omega,bkC (bkS (bkS k4 0 (J NX)) 1 (J DX)) 0 Q4a,bkC (bkS (bkS k4 0 (J NX)) 1 (J DX)) 1 Q4a⟩ ?_;clear t0 t1 fz k4 hb4 hbv2 K3;rintro W5 ⟨hb5,z5,t0,t1⟩;have HB5:=IJ hb5;clear hb5;have o0:=zai (w0:=W5) (show h<W5.heap.size from z5);refine zab W5.heap.size W5 (Below.refl _ _) JI JI ?_
        repeat (go_big_quiet_step (fail))
        refine wpQuiet_nil ?_;rintro _ ⟨Y,rfl⟩;have HB6:=IJ (HB5.out.trans ((zaa W5.heap.size W5 Y).mono HB5.out.size));clear o0 t0 t1;generalize over W5.heap.size W5 Y=W6 at *;go_wp2;go_roundw
        case rel=>exact⟨q+1,II,by rw[HS2.out],by rw[HS1.out],by go_num,HB6.out⟩
        case measure=>simp[intOf];omega
      ·obtain rfl:q=4:=II
       go_wp2;go_ret;exact⟨by rw[HE.out];rfl,hb⟩
set_option maxHeartbeats 8000000
set_option maxRecDepth 100000
theorem emod_deg (d:Int):(Int.tmod d 360+360) % 360=d % 360:=by
 exact Q1l
theorem tmod_mod (d:Int):(Int.tmod d 360+90) % 360=(d+90) % 360:=by
 exact Q1l
theorem cosA_sin (d:Int):sinA (Int.tmod d 360+90)=cosA d:=by unfold sinA cosA;rw[tmod_mod]
theorem best_pos {g:Int→Int} {s:Int} {k:Nat} (h:g (zdo g s k)<g (s+((k+1:Nat):Int))):zdo g s (k+1)=s+((k+1:Nat):Int):=by
 show (if g (zdo g s k)<g (s+((k+1:Nat):Int)) then s+((k+1:Nat):Int) else zdo g s k)=_
 rw[if_pos h]
theorem best_neg {g:Int→Int} {s:Int} {k:Nat} (h:¬ g (zdo g s k)<g (s+((k+1:Nat):Int))):zdo g s (k+1)=zdo g s k:=by
 show (if g (zdo g s k)<g (s+((k+1:Nat):Int)) then s+((k+1:Nat):Int) else zdo g s k)=_
 rw[if_neg h]
theorem iSineD_any (d D:Int) (hD:d % 360=D) (h1:D<180) (w:World) (L:TabW w):Calls Tryz.prog 176 #[J d] w fun e w'=>e=.returned (J (sin2 D))∧OI w w w':=by
 have ed:=emod_deg d;rw[hD] at ed;obtain⟨ht0,ht1⟩:=tmod_bd d;generalize htm:Int.tmod d 360=t at *;have ed2:t % 360=D:=II
 have hD0:0≤D:=II
 clear hD;have c:¬ 180≤D:=II
 by_cases c2:90<D
 ·obtain⟨k,ek⟩:=Int.eq_ofNat_of_zero_le (show 0≤180-D by omega)
  have hk:k<91:=II
  have HE:Hid (sin2 D=gi sinL k):=by show _=_;unfold sin2 sinT;rw[if_pos c2,ek];rfl
  exact Q1n
 ·obtain⟨k,rfl⟩:=Int.eq_ofNat_of_zero_le hD0
  have hk:k<91:=II
  have HE:Hid (sin2 (k:Int)=gi sinL k):=by show _=_;unfold sin2 sinT;rw[if_neg c2];rfl
  exact Q1n
theorem iSine_any (d:Int) (w:World) (L:TabW w):Calls Tryz.prog 176 #[J d] w fun e w'=>e=.returned (J (sinA d))∧OI w w w':=by
 by_cases c:180≤d % 360
 ·have HE0:Hid (sinA d=sinD (d % 360)):=rfl
  have ed:=emod_deg d;obtain⟨ht0,ht1⟩:=tmod_bd d;generalize htm:Int.tmod d 360=t at *;have ed2:t % 360=d % 360:=II
  have hD1:d % 360<360:=II
  generalize d % 360=D at *;generalize sinA d=SA at *;have HE:Hid (SA = -(sin2 (D-180))):=by show _=_;rw[HE0.out];unfold sinD;rw[if_pos c]
  have CS:=IJ (iSineD_any (D-180) (D-180) II II w L);obtain⟨s0,s1⟩:=sin2_bd (D-180);generalize sin2 (D-180)=sv at *;clear L HE0;go_enter Tryz.func176,Tryz.ntmps176;exact Q21
 ·have HE:sinA d=sin2 (d % 360):=by unfold sinA sinD;rw[if_neg c]
  rw[HE];exact iSineD_any d _ rfl II w L
theorem iCosine_any (d:Int) (w:World) (L:TabW w):Calls Tryz.prog 177 #[J d] w fun e w'=>e=.returned (J (cosA d))∧OI w w w':=by
 have HE:=IJ (cosA_sin d);obtain⟨ht0,ht1⟩:=tmod_bd d;generalize htm:Int.tmod d 360=t at *;have CS:=IJ (iSine_any (t+90) w L);clear L;go_enter Tryz.func177,Tryz.ntmps177;exact Q21
theorem bearingC_any (a b:DPoint) (ha:ptB a) (hb:ptB b) (d:Int) (pb pa:Nat) (w:World) (L:TabW w) (c0:w.cell? ⟨pb,0,none⟩=some (J b.x)) (c1:w.cell? ⟨pb,1,none⟩=some (J b.y)) (c2:w.cell? ⟨pa,0,none⟩=some (J a.x)) (c3:w.cell? ⟨pa,1,none⟩=some (J a.y)) :
  Calls Tryz.prog 175 #[J d,.pointer (some ⟨pb,0,none⟩),.pointer (some ⟨pa,0,none⟩)] w fun e w'=>e=.returned (J (dotP (b.x-a.x) (b.y-a.y) d))∧OI w w w':=by
 have z_pb:pb<w.heap.size:=cell_lt c0;have z_pa:pa<w.heap.size:=cell_lt c2;unfold ptB at ha hb;obtain⟨⟨x0,x1⟩,y0,y1⟩:=ha;obtain⟨⟨u0,u1⟩,v0,v1⟩:=hb;obtain⟨⟨m0,m1⟩,n0,n1⟩:=dotP_bd (x:=b.x-a.x) (y:=b.y-a.y) d II II II II;have HE:Hid (dotP (b.x-a.x) (b.y-a.y) d=(b.x-a.x)*sinA d+(b.y-a.y)*cosA d):=rfl;have B0:Hid (OI w w w):=Below.refl _ _;have HD:Hid (∀ W:World,OI w w W→((W,pb,0,J b.x)∧(W,pb,1,J b.y)∧(W,pa,0,J a.x)∧(W,pa,1,J a.y))):=fun W hW=>⟨(bat hW pb _ II).trans c0,(bat hW pb _ II).trans c1,(bat hW pa _ II).trans c2,(bat hW pa _ II).trans c3⟩
 have HB:Hid (OI w w w):=Below.refl _ _;have CSI:Hid (∀ (dd:Int) (W:World),OI w w W→Calls Tryz.prog 176 #[J dd] W fun e w'=>e=.returned (J (sinA dd))∧OI W W w'):=fun dd W hW=>iSine_any dd W (L.mono (B0.out.trans hW))
 have CCO:Hid (∀ (dd:Int) (W:World),OI w w W→Calls Tryz.prog 177 #[J dd] W fun e w'=>e=.returned (J (cosA dd))∧OI W W w'):=fun dd W hW=>iCosine_any dd W (L.mono (B0.out.trans hW))
 clear L c0 c1 c2 c3;go_enter Tryz.func175,Tryz.ntmps175;obtain⟨t0,t1,t2,t3⟩:=HD.out _ HB.out;go_upto_region 1 with (fail);have o0:=zai (w0:=w) (show pb<w.heap.size by have:=HB.out.size;omega);have o1:=zai (w0:=w) (show pa<w.heap.size by have:=HB.out.size;omega);refine zab w.heap.size w (Below.refl _ _) JI JI ?_
 repeat (go_big_quiet_step (first|(go_at_call 176;with_reducible exact zah (Nat.le_refl _) (CSI.out _ _ (HB.out.trans ((zaa _ _ _).mono HB.out.size))))|(go_at_call 177;with_reducible exact zah (Nat.le_refl _) (CCO.out _ _ (HB.out.trans ((zaa _ _ _).mono HB.out.size))))))
 refine wpQuiet_nil ?_;rintro _ ⟨X,rfl⟩;replace HB:=btr HB (zaa w.heap.size w X);clear o0 o1
 (try clear t0 t1 t2 t3)
 generalize over w.heap.size w X=u2 at *;obtain⟨t0,t1,t2,t3⟩:=HD.out _ HB.out;go_wp2;exact Q09
theorem elevationC_any (d h:Int) (d0:0≤d) (d1:d≤283000) (h0:-200000≤h) (h1:h≤200000) (e0:Int) (pd ph:Nat) (w:World) (L:TabW w) (c0:w.cell? ⟨pd,0,none⟩=some (J d)) (c1:w.cell? ⟨ph,0,none⟩=some (J h)) :
  Calls Tryz.prog 178 #[J e0,.pointer (some ⟨pd,0,none⟩),.pointer (some ⟨ph,0,none⟩)] w fun e w'=>e=.returned (J (dotE d h e0))∧OI w w w':=by
 have z_pd:pd<w.heap.size:=cell_lt c0;have z_ph:ph<w.heap.size:=cell_lt c1;obtain⟨⟨m0,m1⟩,n0,n1⟩:=dotE_bd e0 d0 d1 h0 h1;have HE:Hid (dotE d h e0=10*d*cosA e0+h*sinA e0):=rfl;have B0:Hid (OI w w w):=Below.refl _ _;have HD:Hid (∀ W:World,OI w w W→((W,pd,0,J d)∧(W,ph,0,J h))):=fun W hW=>⟨(bat hW pd _ II).trans c0,(bat hW ph _ II).trans c1⟩
 have HB:Hid (OI w w w):=Below.refl _ _;have CSI:Hid (∀ (dd:Int) (W:World),OI w w W→Calls Tryz.prog 176 #[J dd] W fun e w'=>e=.returned (J (sinA dd))∧OI W W w'):=fun dd W hW=>iSine_any dd W (L.mono (B0.out.trans hW))
 have CCO:Hid (∀ (dd:Int) (W:World),OI w w W→Calls Tryz.prog 177 #[J dd] W fun e w'=>e=.returned (J (cosA dd))∧OI W W w'):=fun dd W hW=>iCosine_any dd W (L.mono (B0.out.trans hW))
 clear L c0 c1;go_enter Tryz.func178,Tryz.ntmps178;obtain⟨t0,t1⟩:=HD.out _ HB.out;go_upto_region 1 with (fail);have o0:=zai (w0:=w) (show pd<w.heap.size by have:=HB.out.size;omega);have o1:=zai (w0:=w) (show ph<w.heap.size by have:=HB.out.size;omega);refine zab w.heap.size w (Below.refl _ _) JI JI ?_
 repeat (go_big_quiet_step (first|(go_at_call 176;with_reducible exact zah (Nat.le_refl _) (CSI.out _ _ (HB.out.trans ((zaa _ _ _).mono HB.out.size))))|(go_at_call 177;with_reducible exact zah (Nat.le_refl _) (CCO.out _ _ (HB.out.trans ((zaa _ _ _).mono HB.out.size))))))
 refine wpQuiet_nil ?_;rintro _ ⟨X,rfl⟩;replace HB:=btr HB (zaa w.heap.size w X);clear o0 o1
 (try clear t0 t1)
 generalize over w.heap.size w X=u2 at *;obtain⟨t0,t1⟩:=HD.out _ HB.out;go_wp2;exact Q09
theorem iDist_any (a b:DPoint) (ha:ptB a) (hb:ptB b) (w:World) :
  Calls Tryz.prog 171 #[.agg #[J a.x,J a.y],.agg #[J b.x,J b.y]] w fun e w'=>e=.returned (J (zcr a b))∧OI w w w':=by
 have HE:Hid (zcr a b=isq (dist2 b a)):=by show _=_;rw[distI_symm];rfl
 unfold ptB at ha hb;obtain⟨⟨x0,x1⟩,y0,y1⟩:=ha;obtain⟨⟨u0,u1⟩,v0,v1⟩:=hb;have sx:=sq_bd (x:=a.x-b.x) II II;have sy:=sq_bd (x:=a.y-b.y) II II;have hd:dist2 b a=(a.x-b.x)*(a.x-b.x)+(a.y-b.y)*(a.y-b.y):=rfl;obtain⟨sx0,sx1⟩:=sx;obtain⟨sy0,sy1⟩:=sy;obtain⟨W0,hW0,b0_,z0,k0,k1⟩:=zdv w #[J a.x,J a.y] 53 #[J b.x,J b.y] 53;have HW0:=IJ hW0;have B0:=IJ b0_;have HD:=IJ (fun (W:World) (hW:OI W0 W0 W)=>bx2 k0 hW <| by2 k1 hW);have HB:Hid (OI W0 W0 W0):=Below.refl _ _;clear k0 k1 hW0 b0_;have CR:Hid (∀ W:World,OI W0 W0 W→Calls Tryz.prog 208 #[J ((a.x-b.x)*(a.x-b.x)+(a.y-b.y)*(a.y-b.y))] W fun e w'=>e=.returned (J (isq (dist2 b a)))∧OI W W w'):=fun  W hW=>by rw[hd];exact rootOf_any _ II II W
 clear hd;go_enter Tryz.func171,Tryz.ntmps171;go_upto_region 1 with (fail);rw[HW0.out];obtain⟨t0,t1,t2,t3⟩:=HD.out _ HB.out;go_wp2_with (first|(go_at_call 208;with_reducible refine (CR.out _ HB.out).mono ?_;rintro e v1 ⟨rfl,hb_⟩;(try clear t0 t1 t2 t3);replace HB:=btr HB hb_;clear hb_;obtain⟨t0,t1,t2,t3⟩:=HD.out _ HB.out));exact Q09
theorem iBearing_any (a b:DPoint) (ha:ptB a) (hb:ptB b) (w:World) (L:TabW w) :
  Calls Tryz.prog 128 #[.agg #[J a.x,J a.y],.agg #[J b.x,J b.y]] w fun e w'=>e=.returned (J (zfi a b))∧OI w w w':=by
 obtain⟨W0,hW0,b0_,z0,k0,k1⟩:=zdv w #[J a.x,J a.y] 53 #[J b.x,J b.y] 53;have HW0:=IJ hW0;have B0:=IJ b0_;have HD:=IJ (fun (W:World) (hW:OI W0 W0 W)=>bx2 k0 hW <| by2 k1 hW);have HB:Hid (OI W0 W0 W0):=Below.refl _ _;clear k0 k1 hW0 b0_;have CB:Hid (∀ (dd:Int) (W:World),OI W0 W0 W→Calls Tryz.prog 175 #[J dd,.pointer (some ⟨w.heap.size+1,0,none⟩),.pointer (some ⟨w,0,none⟩)] W fun e w'=>e=.returned (J (dotP (b.x-a.x) (b.y-a.y) dd))∧OI W W w'):=fun dd W hW=>by
   obtain⟨t0,t1,t2,t3⟩:=HD.out W hW;exact bearingC_any a b ha hb dd _ _ W (L.mono (B0.out.trans (hW.mono B0.out.size))) t2 t3 t0 t1
 have HE:Hid (zfi a b=zdo (dotP (b.x-a.x) (b.y-a.y)) 0 359):=rfl;generalize zfi a b=BI at *;generalize dotP (b.x-a.x) (b.y-a.y)=g at *;clear L ha hb;go_enter Tryz.func128,Tryz.ntmps128;go_upto_region 1 with (fail);rw[HW0.out];go_wp2;go_loopw [6,7] (fun bs dd wr=>∃ j:Nat,j≤359∧bs=J (zdo g 0 j)∧dd=J (1+(j:Int))∧OI W0 W0 wr) (fun bs dd wr=>(360-(intOf dd)).toNat)
 case atStart=>exact⟨0,Nat.zero_le _,rfl,by simp,Below.refl _ _⟩
 case round =>
  obtain⟨j,hj,rfl,rfl,hbw⟩:=hrel;have HB:=IJ hbw;clear hbw;have bb:=zek g 0 j;have es:(0:Int)+((j+1:Nat):Int)=1+(j:Int):=II
  have hji:(j:Int)≤359:=II
  by_cases hlt:j<359
  ·have hp:=best_pos (g:=g) (s:=0) (k:=j)
   have hn:=best_neg (g:=g) (s:=0) (k:=j);rw[es] at hp hn;have HP:=IJ hp;have HN:=IJ hn;clear hp hn es;generalize zdo g 0 j=ob at *;obtain⟨bb0,bb1⟩:=bb
   by_cases hc:g ob<g (1+(j:Int))
   ·have HE2:=IJ (HP.out hc)
    exact Q29
   ·have HE2:=IJ (HN.out hc)
    exact Q29
  ·obtain rfl:j=359:=II
   go_wp2;exact Q09
set_option maxHeartbeats 16000000
set_option maxRecDepth 100000
theorem iFree_any (f d:Int) (f0:1≤f) (f1:f≤100000000) (d0:1≤d) (d1:d≤283000) (w:World) (L:LibW w) :
  Calls Tryz.prog 130 #[J f,J d] w fun e w'=>e=.returned (J (freeI f d))∧OI w w w':=by
 have HE:Hid (freeI f d=max (2*lgI d+2*lgI f-87552) 0):=rfl;obtain⟨a0,a1⟩:=lgI_bd (n:=f) II;obtain⟨b0,b1⟩:=lgI_bd (n:=d) II;generalize freeI f d=FV at *;have B0:Hid (OI w w w):=Below.refl _ _;have HB:Hid (OI w w w):=Below.refl _ _;have CD:Hid (∀ W:World,OI w w W→Calls Tryz.prog 179 #[J d] W fun e w'=>e=.returned (J (lgI d))∧OI W W w'):=fun  W hW=>iLogDb_any d II II W (L.mono (B0.out.trans hW))
 have CF:Hid (∀ W:World,OI w w W→Calls Tryz.prog 179 #[J f] W fun e w'=>e=.returned (J (lgI f))∧OI W W w'):=fun  W hW=>iLogDb_any f II II W (L.mono (B0.out.trans hW))
 generalize lgI d=ld at *;generalize lgI f=lf at *;go_enter Tryz.func130,Tryz.ntmps130;skip;go_wp2_with ((first|(go_at_call 179;with_reducible refine (CD.out _ HB.out).mono ?_)|(go_at_call 179;with_reducible refine (CF.out _ HB.out).mono ?_));rintro e v1 ⟨rfl,hb_⟩;replace HB:=btr HB hb_;clear hb_;skip);exact Q09
theorem gas_pick {x:Int} {k:Nat} (k0:1≤k) (k1:k≤8) (h0:∀ j,1≤j→j<k→gi gP j<x) (h1:k=8∨x≤gi gP k):gasX x=lineR (gi gP (k-1)) (gi gV (k-1)) (gi gP k) (gi gV k) x:=by
 rw[gasK_uniq k0 k1 h0 h1];rfl
theorem rowsAt_any (b c:Nat) (f:Int) (f0:1≤f) (f1:f≤100000000) (w:World) (hb:b<w.heap.size) (hx:∀ k:Nat,k<9→(w,b,k*2,J (gi gP k))∧(w,b,k*2+1,J (gi gV k))) :
  Calls Tryz.prog 214 #[IZ (some ⟨b,0,none⟩) 9 c,J f] w fun e w'=>e=.returned (J (gasX (f / 1000)))∧OI w w w':=by
 have HX:=IJ hx;clear hx;have x0:0≤f / 1000:=II
 have x1:f / 1000≤100000:=II
 have HP:Hid (∀ k:Nat,1≤k→k≤8→(∀ j,1≤j→j<k→gi gP j<f / 1000)→(k=8∨f / 1000≤gi gP k)→gasX (f / 1000)=lineR (gi gP (k-1)) (gi gV (k-1)) (gi gP k) (gi gV k) (f / 1000)):=fun k k0 k1 h0 h1=>gas_pick k0 k1 h0 h1
 generalize gasX (f / 1000)=GX at *;generalize hfx:f / 1000=x at *;have B0:Hid (OI w w w):=Below.refl _ _;have HB:Hid (OI w w w):=Below.refl _ _;go_enter Tryz.func214,Tryz.ntmps214;skip;go_wp2
 go_loop [6] (fun ki=>∃ k:Nat,1≤k∧k≤8∧ki=J (k:Int)∧∀ j,1≤j→j<k→gi gP j<x) (fun ki=>9-(intOf ki).toNat)
 case atStart=>exact⟨1,Nat.le_refl _,II,rfl,fun j h0 h1=>II⟩
 case round =>
  obtain⟨k,hk0,hk1,rfl,hall⟩:=hrel;have HALL:=IJ hall;clear hall;have i0:(0:Int)≤(k:Int):=II
  have i1:(k:Int)<9:=II
  have i2:(k:Int)≤8:=II
  have i3:(1:Int)≤(k:Int):=II
  have hka:=(HX.out k II).1;have hkv:=(HX.out k II).2
  by_cases h8:k<8
  ·have h8i:(k:Int)<8:=II
   by_cases hc:gi gP k<x
   ·go_wp2
    go_round
    case rel=>exact⟨k+1,II,II,by go_num,fun j h0 h1=>by
     by_cases hj:j=k
     ·subst hj;exact hc
     ·exact HALL.out j h0 II⟩
    case measure=>simp[intOf];omega
   ·have hcd:decide (gi gP k<x)=false:=decide_eq_false hc
    have hpk:=HP.out k hk0 hk1 HALL.out II;exact Q0i
  ·have h8i:(8:Int)≤(k:Int):=II
   have hpk:=HP.out k hk0 hk1 HALL.out (Or.inl II);exact Q0i
theorem gasSpec_any (f:Int) (f0:1≤f) (f1:f≤100000000) (w:World) :
  Calls Tryz.prog 181 #[J f] w fun e w'=>e=.returned (J (gasX (f / 1000)))∧OI w w w':=by
 go_enter Tryz.func181,Tryz.ntmps181;go_wp2_with (go_at_call 214;with_reducible refine (rowsAt_any w.heap.size 9 f f0 f1 _ Q4a ?_).mono ?_)
 ·intro k hk
  have hk2:k=0∨k=1∨k=2∨k=3∨k=4∨k=5∨k=6∨k=7∨k=8:=II
  rcases hk2 with rfl|rfl|rfl|rfl|rfl|rfl|rfl|rfl|rfl<;>exact⟨bkC (bkN w _ _) _ rfl,bkC (bkN w _ _) _ rfl⟩
 rintro e v1 ⟨rfl,hb1⟩;go_wp2;go_ret;exact⟨rfl,(zao w _).trans (hb1.mono Q4a)⟩
theorem iGas_any (f d:Int) (f0:1≤f) (f1:f≤100000000) (d0:1≤d) (d1:d≤283000) (w:World) :
  Calls Tryz.prog 131 #[J f,J d] w fun e w'=>e=.returned (J (gasI f d))∧OI w w w':=by
 obtain⟨g0,g1⟩:=gas_in (f:=f) (d:=d) II d1;have HE:Hid (gasI f d=rdiv (gasX (f / 1000)*d) 1000):=rfl;obtain⟨q0,q1⟩:=gasX_bd (f / 1000);generalize gasI f d=GV at *;have B0:Hid (OI w w w):=Below.refl _ _;have HB:Hid (OI w w w):=Below.refl _ _;have CS:Hid (∀ W:World,OI w w W→Calls Tryz.prog 181 #[J f] W fun e w'=>e=.returned (J (gasX (f / 1000)))∧OI W W w'):=fun  W hW=>gasSpec_any f f0 f1 W
 have CD:Hid (∀ W:World,OI w w W→Calls Tryz.prog 180 #[J (gasX (f / 1000)*d),J 1000] W fun e w'=>e=.returned (J (rdiv (gasX (f / 1000)*d) 1000))∧OI W W w'):=fun  W hW=>zbx _ _ II II II II W
 generalize gasX (f / 1000)=GX at *;go_enter Tryz.func131,Tryz.ntmps131;skip;go_wp2_with ((first|(go_at_call 181;with_reducible refine (CS.out _ HB.out).mono ?_)|(go_at_call 180;with_reducible refine (CD.out _ HB.out).mono ?_));rintro e v1 ⟨rfl,hb_⟩;replace HB:=btr HB hb_;clear hb_;skip);exact Q09
def clTh:List Int:=[300000,1000000,3000000,10000000]
def clP (f:Int):Nat→Int
 | 0=>50
 | k+1=>clP f k+if gi clTh k<f then 25 else 0
theorem clP4 (f:Int):clP f 4=clF f:=by
 have e0:gi clTh 0=300000:=rfl;have e1:gi clTh 1=1000000:=rfl;have e2:gi clTh 2=3000000:=rfl;have e3:gi clTh 3=10000000:=rfl;unfold clF;simp only[clP,e0,e1,e2,e3]
 repeat' split
 all_goals omega
theorem clP_bd (f:Int):∀ k:Nat,50≤clP f k∧clP f k≤50+25*(k:Int)
 | 0=>by simp[clP]
 | k+1=>by
  have:=clP_bd f k;simp only[clP]
  split<;>omega
theorem iClut_any (k:Nat) (hk:k<8) (f a:Int) (f0:1≤f) (f1:f≤100000000) (a0:0≤a) (w:World) (L:TabW w) :
  Calls Tryz.prog 135 #[J (k:Int),J f,J a] w fun e w'=>e=.returned (J (cluI (k:Int) f a))∧OI w w w':=by
 obtain⟨hh0,hh1⟩:=clH_bd k;obtain⟨hl0,hl1⟩:=clL_bd k;have HE0:Hid (cluI (k:Int) f a=if gi clH k≤a then 0 else rdiv (clF f*gi clL k*(gi clH k-a)) (100*gi clH k)):=rfl;have hin:=fun h:¬ gi clH k≤a=>clu_in (c:=(k:Int)) (f:=f) a0 h
 rw[Int.toNat_natCast] at hin;have HIN:=IJ hin;clear hin;have k0:(0:Int)≤(k:Int):=II
 have k1:(k:Int)<8:=II
 have hC4:=clP4 f;have HC4:=IJ hC4;clear hC4;obtain⟨cf0,cf1⟩:=clF_bd f;generalize cluI (k:Int) f a=CV at *;obtain⟨s,g0⟩:=L.cln k hk;have g1:=L.clh k hk;have g2:=L.cll k hk;clear L;generalize gi clH k=hv at *;generalize gi clL k=lv at *;obtain⟨W0,hW0,b0_,z0,k0_⟩:=zav w #[IQ s,J hv,J lv] 207;have HW0:=IJ hW0;have B0:=IJ b0_;have HD:Hid (∀ W:World,OI W0 W0 W→((W,w.heap.size,0,IQ s)∧(W,w.heap.size,1,J hv)∧(W,w.heap.size,2,J lv))):=fun W hW=>⟨(bat hW w.heap.size _ II).trans (bkC k0_ 0 rfl),(bat hW w.heap.size _ II).trans (bkC k0_ 1 rfl),(bat hW w.heap.size _ II).trans (bkC k0_ 2 rfl)⟩
 have HB:Hid (OI W0 W0 W0):=Below.refl _ _;clear hW0 b0_ k0_
 by_cases hc:hv≤a
 case pos =>
  have HE:Hid (CV=0):=by show _=_;rw[HE0.out,if_pos hc]
  go_enter Tryz.func135,Tryz.ntmps135;go_upto_region 2 with (fail);rw[HW0.out];clear g0 g1 g2;obtain⟨t0,t1,t2⟩:=HD.out _ HB.out;go_wp2;go_ret;exact⟨by rw[HE.out];rfl,B0.out⟩
 have HE1:Hid (CV=rdiv (clF f*lv*(hv-a)) (100*hv)):=by show _=_;rw[HE0.out,if_neg hc]
 obtain⟨⟨p0,p1⟩,q0,q1⟩:=HIN.out hc;clear HE0 HIN;have hi0:∀ w,(Instr.index 209 (.agg #[J 300000,J 1000000,J 3000000,J 10000000]) (J 0)).run Tryz.prog w=.ok (J 300000) w:=fun _=>by kernel_rfl
 have hi1:∀ w,(Instr.index 209 (.agg #[J 300000,J 1000000,J 3000000,J 10000000]) (J 1)).run Tryz.prog w=.ok (J 1000000) w:=fun _=>by kernel_rfl
 have hi2:∀ w,(Instr.index 209 (.agg #[J 300000,J 1000000,J 3000000,J 10000000]) (J 2)).run Tryz.prog w=.ok (J 3000000) w:=fun _=>by kernel_rfl
 have hi3:∀ w,(Instr.index 209 (.agg #[J 300000,J 1000000,J 3000000,J 10000000]) (J 3)).run Tryz.prog w=.ok (J 10000000) w:=fun _=>by kernel_rfl
 go_enter Tryz.func135,Tryz.ntmps135;go_upto_region 2 with (fail);rw[HW0.out];clear g0 g1 g2;obtain⟨t0,t1,t2⟩:=HD.out _ HB.out;go_wp2
 go_loop [8,19] (fun ps ks=>∃ k:Nat,k≤4∧ps=J (clP f k)∧ks=J (k:Int)) (fun ps ks=>4-(intOf ks).toNat)
 case atStart=>exact⟨0,II,rfl,rfl⟩
 case round =>
  obtain⟨j,hj,rfl,rfl⟩:=hrel;obtain⟨cb0,cb1⟩:=clP_bd f j;have hj5:j=0∨j=1∨j=2∨j=3∨j=4:=II
  rcases hj5 with rfl|rfl|rfl|rfl|rfl
  ·by_cases cf:300000<f
   ·have hs:clP f 1=clP f 0+25:=by show clP f 0+(if gi clTh 0<f then 25 else 0)=_;rw[if_pos (by exact cf)]
    exact Q1x
   ·have hs:clP f 1=clP f 0:=by show clP f 0+(if gi clTh 0<f then 25 else 0)=_;rw[if_neg (by exact cf),Int.add_zero]
    exact Q1x
  ·by_cases cf:1000000<f
   ·have hs:clP f 2=clP f 1+25:=by show clP f 1+(if gi clTh 1<f then 25 else 0)=_;rw[if_pos (by exact cf)]
    exact Q1y
   ·have hs:clP f 2=clP f 1:=by show clP f 1+(if gi clTh 1<f then 25 else 0)=_;rw[if_neg (by exact cf),Int.add_zero]
    exact Q1y
  ·by_cases cf:3000000<f
   ·have hs:clP f 3=clP f 2+25:=by show clP f 2+(if gi clTh 2<f then 25 else 0)=_;rw[if_pos (by exact cf)]
    exact Q1z
   ·have hs:clP f 3=clP f 2:=by show clP f 2+(if gi clTh 2<f then 25 else 0)=_;rw[if_neg (by exact cf),Int.add_zero]
    exact Q1z
  ·by_cases cf:10000000<f
   ·have hs:clP f 4=clP f 3+25:=by show clP f 3+(if gi clTh 3<f then 25 else 0)=_;rw[if_pos (by exact cf)]
    exact Q20
   ·have hs:clP f 4=clP f 3:=by show clP f 3+(if gi clTh 3<f then 25 else 0)=_;rw[if_neg (by exact cf),Int.add_zero]
    exact Q20
  ·rw[HC4.out] at cb0 cb1 ⊢
   clear hi0 hi1 hi2 hi3 HC4;have CD:Hid (∀ W:World,OI W0 W0 W→Calls Tryz.prog 180 #[J (clF f*lv*(hv-a)),J (100*hv)] W fun e w'=>e=.returned (J CV)∧OI W W w'):=fun  W hW=>by rw[HE1.out];exact zbx _ _ II II II II W
   clear HE1;generalize clF f=cfv at *;go_wp2_with (first|(go_at_call 180;with_reducible refine (CD.out _ HB.out).mono ?_;rintro e v1 ⟨rfl,hb_⟩;(try clear t0 t1 t2);replace HB:=btr HB hb_;clear hb_;obtain⟨t0,t1,t2⟩:=HD.out _ HB.out));go_ret;exact Q1d
end Go.Proofs.YtpakghepnahooaaGreatDoor
