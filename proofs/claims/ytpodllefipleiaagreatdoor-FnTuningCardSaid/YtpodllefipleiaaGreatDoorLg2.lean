/- Contracts: logarithms of the program. Conditions: bounded numbers; the library's table holds what it holds at the start. -/
import Derived.Test.YtpodllefipleiaaGreatDoorLg1
import Derived.Test.YtpodllefipleiaaGreatDoorRd1
set_option linter.unusedVariables false
set_option linter.unusedSimpArgs false
namespace Go.Proofs.YtpodllefipleiaaGreatDoor
open Go.RowKit
set_option maxHeartbeats 16000000
set_option maxRecDepth 100000
theorem times_any (a ea b eb:Int) (ha:Sc a) (hb:Sc b) (e0:0≤ea) (e1:ea≤1000000) (f0:0≤eb) (f1:eb≤1000000) (w:World) :
  Calls Tryz.prog 69 #[.agg #[.int .i64 a,.int .i64 ea],.agg #[.int .i64 b,.int .i64 eb]] w fun e w'=>e=.returned (.agg #[.int .i64 (tms a b),.int .i64 (ea+eb+tmx a b)])∧Below w.heap.size w w':=by
 obtain⟨m0,m1⟩:=sc_mul ha hb;have HT:Hid (tms a b=if 1000000000≤a*b / 100000000 then a*b / 100000000 / 10 else a*b / 100000000):=rfl;have HX:Hid (tmx a b=if 1000000000≤a*b / 100000000 then 1 else 0):=rfl;have p0:0≤a*b:=by omega
 by_cases hc:1000000000≤a*b / 100000000
 ·have HT2:Hid (tms a b=a*b / 100000000 / 10):=by show _=_;rw[HT.out,if_pos hc]
  have HX2:Hid (ea+eb+tmx a b=ea+eb+1):=by show _=_;rw[HX.out,if_pos hc]
  have q0:0≤a*b / 100000000:=by omega
  clear HT HX;generalize tms a b=T at *;generalize tmx a b=U at *;generalize hp:a*b=p at *;go_enter Tryz.func69,Tryz.ntmps69;go_wp2;refine bodyPost_ret (v:=.agg #[.int .i64 (p / 100000000 / 10),.int .i64 (ea+eb+1)]) (by simp[results,Tryz.results69,go_sem, *]) rfl ?_;exact⟨by rw[HT2.out,HX2.out],by repeat (first|exact Below.refl _ _|refine Below.alloc ?_ (by first|exact Nat.le_refl _|(simp;done)|(simp<;>omega)) _)⟩
 ·have HT2:Hid (tms a b=a*b / 100000000):=by show _=_;rw[HT.out,if_neg hc]
  have HX2:Hid (ea+eb+tmx a b=ea+eb):=by show _=_;rw[HX.out,if_neg hc];omega
  have q0:0≤a*b / 100000000:=by omega
  clear HT HX;generalize tms a b=T at *;generalize tmx a b=U at *;generalize hp:a*b=p at *;go_enter Tryz.func69,Tryz.ntmps69;go_wp2;refine bodyPost_ret (v:=.agg #[.int .i64 (p / 100000000),.int .i64 (ea+eb)]) (by simp[results,Tryz.results69,go_sem, *]) rfl ?_;exact⟨by rw[HT2.out,HX2.out],by repeat (first|exact Below.refl _ _|refine Below.alloc ?_ (by first|exact Nat.le_refl _|(simp;done)|(simp<;>omega)) _)⟩
theorem iLogDb_any (n:Int) (h1:-9223372036854775808≤n) (h2:n≤9223372036854775807) (w:World) (L:LibW w) :
  Calls Tryz.prog 25 #[.int .i64 n] w fun e w'=>e=.returned (.int .i64 (lgI n))∧Below w.heap.size w w':=by
 by_cases c1:n<1
 ·have HE:Hid (lgI n=0):=by show _=_;unfold lgI;rw[if_pos c1]
  go_enter Tryz.func25,Tryz.ntmps25;go_wp2;go_ret;exact⟨by rw[HE.out];rfl,Below.refl _ _⟩
 replace h1:1≤n:=by omega
 have HE:Hid (lgI n=(zaq 4 (nrm n.toNat (ndg n)) (ndg n)).2):=by show _=_;unfold lgI;rw[if_neg c1];rfl
 obtain⟨q1,q2⟩:=ndg_spec h1;have q3:=ndg_le h1 h2;have hsc:=nrm_sc h1;have CD:=Lib.hid (zb0 n ⟨by omega,h2⟩ w L);have hsz:(((ofL (Go.Lib.itoa n)).size:Nat):Int)=(ndg n:Int)+1:=by
  have hp:=Go.Lib.nDigits_pos n.toNat;have:(ofL (Go.Lib.itoa n)).size=Go.Lib.nDigits n.toNat:=by
   rw[ofL_size];unfold Go.Lib.itoa;rw[if_neg (by omega),Go.Lib.decDigits_length]
  unfold ndg;omega
 clear L c1;generalize ofL (Go.Lib.itoa n)=TX at *;generalize lgI n=LG at *;generalize ndg n=R at *;obtain⟨u,rfl⟩:∃ u:Nat,n=(u:Int):=⟨n.toNat,by omega⟩
 rw[Int.toNat_natCast] at *;rw[nrm_eq] at HE hsc;have HQ2:=Lib.hid q2;have HSC:=Lib.hid hsc;clear q1 q2 hsc;have u1:(1:Int)≤(u:Int):=h1;have u2:(u:Int)≤9223372036854775807:=h2;go_enter Tryz.func25,Tryz.ntmps25;go_upto_region 4 with (go_at_call 34;with_reducible refine CD.out.mono ?_;rintro e v1 ⟨rfl,hb1⟩);have HB:=Lib.hid hb1;clear hb1 CD;clear hsz;have hmx:max (8-(R:Int)) 0=((8-R:Nat):Int):=by omega
 have hmx2:max ((R:Int)-8) 0=((R-8:Nat):Int):=by omega
 go_wp2
 go_loop [4,18] (fun x i=>∃ j:Nat,j≤8-R∧x=.int .i64 ((u*10 ^ j:Nat):Int)∧i=.int .i64 (j:Int)) (fun x i=>(8-R)-(intOf i).toNat)
 case atStart=>exact⟨0,Nat.zero_le _,by simp,by simp⟩
 case round =>
  obtain⟨j,hj,rfl,rfl⟩:=hrel;have ji:(j:Int)≤8:=by omega
  by_cases hlt2:j<8-R
  ·have hup:=nrm_up HQ2.out (show R+(j+1)≤8 by omega)
   have pu:=pow_up u j;rw[pu] at hup;generalize u*10 ^ j=y2 at *;have z1:(y2:Int)*10≤1000000000:=by omega
   have z2:(j:Int)<((8-R:Nat):Int):=by omega
   go_wp2
   go_round
   case rel=>exact⟨j+1,by omega,by rw[pu];go_num,by go_num⟩
   case measure=>simp[intOf];omega
  ·obtain rfl:j=8-R:=by omega
   have hx0:(u*10 ^ (8-R):Nat)≤9223372036854775807:=by
    by_cases h8:R≤8
    ·have:=nrm_up HQ2.out (show R+(8-R)≤8 by omega);omega
    ·rw[show 8-R=0 by omega];simp<;>omega
   have HP:Hid ((u*10 ^ (8-R):Nat)≤9223372036854775807):=hx0;generalize u*10 ^ (8-R)=y3 at *;go_wp2
   go_loop [4,26] (fun x i=>∃ j:Nat,j≤R-8∧x=.int .i64 ((y3 / 10 ^ j:Nat):Int)∧i=.int .i64 (j:Int)) (fun x i=>(R-8)-(intOf i).toNat)
   case atStart=>exact⟨0,Nat.zero_le _,by simp,by simp⟩
   case round =>
    obtain⟨j,hj,rfl,rfl⟩:=hrel;have ji:(j:Int)≤18:=by omega
    have dv3:=div_up y3 j;have dl3:y3 / 10 ^ j≤y3:=Nat.div_le_self _ _
    by_cases hlt3:j<R-8
    ·generalize y3 / 10 ^ j=y4 at *
     have z1:(y4:Int)≤9223372036854775807:=by omega
     have z2:(j:Int)<((R-8:Nat):Int):=by omega
     go_wp2
     go_round
     case rel=>exact⟨j+1,by omega,by rw[dv3];go_num,by go_num⟩
     case measure=>simp[intOf];omega
    ·obtain rfl:j=R-8:=by omega
     generalize y3 / 10 ^ (R-8)=y4 at *;go_wp2;go_loopw [3,4,31] (fun r x i wr=>∃ q:Nat,q≤4∧r=.int .i64 (zaq q (y4:Int) (R:Int)).2∧x=.int .i64 (zaq q (y4:Int) (R:Int)).1∧i=.int .i64 (q:Int)∧Below w.heap.size w wr) (fun r x i wr=>4-(intOf i).toNat)
     case atStart=>exact⟨0,Nat.zero_le _,rfl,rfl,rfl,HB.out⟩
     case round =>
      obtain⟨q,hq,rfl,rfl,rfl,hb⟩:=hrel;have hs:=logIt_sc (r:=(R:Int)) HSC.out q;have hbd:=logIt_bd (x:=(y4:Int)) (r:=(R:Int)) 18 (by omega) (by omega) q;have HS1:Hid ((zaq (q+1) (y4:Int) (R:Int)).1=tenN (zaq q (y4:Int) (R:Int)).1):=rfl;have HS2:Hid ((zaq (q+1) (y4:Int) (R:Int)).2=10*(zaq q (y4:Int) (R:Int)).2+tenX (zaq q (y4:Int) (R:Int)).1):=rfl
      by_cases hlt4:q<4
      ·have hpw:((19:Int)*10 ^ q)≤19000:=by
        have:q=0∨q=1∨q=2∨q=3:=by omega
        rcases this with rfl|rfl|rfl|rfl<;>decide
       have r0:=hbd.1;have r1:(zaq q (y4:Int) (R:Int)).2<19000:=by have:=hbd.2;simp at this;omega
       generalize (zaq q (y4:Int) (R:Int)).1=X at *;generalize (zaq q (y4:Int) (R:Int)).2=RR at *;have HBr:=Lib.hid hb;clear hb hbd HB HQ2 HSC HP hmx hmx2;have s2:=tms_sc hs hs;have s4:=tms_sc s2 s2;have s5:=tms_sc s4 hs;obtain⟨a0,a1⟩:=tmx_bd X X;obtain⟨b0,b1⟩:=tmx_bd (tms X X) (tms X X);obtain⟨c0,c1_⟩:=tmx_bd (tms (tms X X) (tms X X)) X;obtain⟨d0,d1⟩:=tmx_bd (tms (tms (tms X X) (tms X X)) X) (tms (tms (tms X X) (tms X X)) X);have HN:Hid (tenN X=tms (tms (tms (tms X X) (tms X X)) X) (tms (tms (tms X X) (tms X X)) X)):=rfl;have HX:Hid (tenX X=2*(2*tmx X X+tmx (tms X X) (tms X X)+tmx (tms (tms X X) (tms X X)) X)+tmx (tms (tms (tms X X) (tms X X)) X) (tms (tms (tms X X) (tms X X)) X)):=rfl;have T1:Hid (∀ W:World,Calls Tryz.prog 69 #[.agg #[.int .i64 X,.int .i64 0],.agg #[.int .i64 X,.int .i64 0]] W fun e w'=>e=.returned (.agg #[.int .i64 (tms X X),.int .i64 (tmx X X)])∧Below W.heap.size W w'):=fun W=>by
        have:=times_any X 0 X 0 hs hs (by omega) (by omega) (by omega) (by omega) W
        rwa [show (0:Int)+0+tmx X X=tmx X X by omega] at this
       have T2:Hid (∀ W:World,Calls Tryz.prog 69 #[.agg #[.int .i64 (tms X X),.int .i64 (tmx X X)],.agg #[.int .i64 (tms X X),.int .i64 (tmx X X)]] W fun e w'=>e=.returned (.agg #[.int .i64 (tms (tms X X) (tms X X)),.int .i64 (tmx X X+tmx X X+tmx (tms X X) (tms X X))])∧Below W.heap.size W w'):=fun W=>times_any _ _ _ _ s2 s2 (by omega) (by omega) (by omega) (by omega) W
       have T3:Hid (∀ W:World,Calls Tryz.prog 69 #[.agg #[.int .i64 (tms (tms X X) (tms X X)),.int .i64 (tmx X X+tmx X X+tmx (tms X X) (tms X X))],.agg #[.int .i64 X,.int .i64 0]] W fun e w'=>e=.returned (.agg #[.int .i64 (tms (tms (tms X X) (tms X X)) X),.int .i64 (tmx X X+tmx X X+tmx (tms X X) (tms X X)+0+tmx (tms (tms X X) (tms X X)) X)])∧Below W.heap.size W w'):=fun W=>times_any _ _ _ _ s4 hs (by omega) (by omega) (by omega) (by omega) W
       generalize hE5:tmx X X+tmx X X+tmx (tms X X) (tms X X)+0+tmx (tms (tms X X) (tms X X)) X=e5 at *;have e50:0≤e5:=by omega
       have e51:e5≤4:=by omega
       have T4:Hid (∀ W:World,Calls Tryz.prog 69 #[.agg #[.int .i64 (tms (tms (tms X X) (tms X X)) X),.int .i64 e5],.agg #[.int .i64 (tms (tms (tms X X) (tms X X)) X),.int .i64 e5]] W fun e w'=>e=.returned (.agg #[.int .i64 (tms (tms (tms (tms X X) (tms X X)) X) (tms (tms (tms X X) (tms X X)) X)),.int .i64 (e5+e5+tmx (tms (tms (tms X X) (tms X X)) X) (tms (tms (tms X X) (tms X X)) X))])∧Below W.heap.size W w'):=fun W=>times_any _ _ _ _ s5 s5 (by omega) (by omega) (by omega) (by omega) W
       have HX2:Hid (tenX X=e5+e5+tmx (tms (tms (tms X X) (tms X X)) X) (tms (tms (tms X X) (tms X X)) X)):=by show _=_;rw[HX.out];omega
       rw[← HX2.out] at T4;rw[← HN.out] at T4;have hx9:=tenX_bd X;clear hE5 HX HX2 HN;generalize tenN X=NX at *;generalize tenX X=DX at *;clear c0 c1_ d0 d1 s5 s4 s2 hs;generalize tms (tms (tms X X) (tms X X)) X=n5 at *;generalize tmx X X+tmx X X+tmx (tms X X) (tms X X)=e4 at *;generalize tms (tms X X) (tms X X)=n4 at *;generalize tms X X=n2 at *;generalize tmx X X=e2 at *;obtain⟨x90,x91⟩:=hx9;have zr0:=HBr.out.size;go_upto_region 16 with (fail);refine wp_cut (fun W=>Below w.heap.size w W∧wr.heap.size<W.heap.size∧W.cell? ⟨wr.heap.size,0,none⟩=some (.int .i64 X)∧W.cell? ⟨wr.heap.size,1,none⟩=some (.int .i64 0)) ⟨HBr.out.alloc zr0 _,by simp[go_sem],by simp[go_sem],by simp[go_sem]⟩ ?_;rintro W1 ⟨hb1,z1,t0,t1⟩;have HB1:=Lib.hid hb1;clear hb1;go_upto_region 17 with (go_at_call 69;with_reducible refine (T1.out _).mono ?_;rintro e v1 ⟨rfl,hb2⟩);have zv:=hb2.size;have hbv:=HB1.out.trans (hb2.mono HB1.out.size);have zw1:=HB1.out.size;refine wp_cut (fun W=>Below w.heap.size w W∧v1.heap.size<W.heap.size∧W.cell? ⟨wr.heap.size,0,none⟩=some (.int .i64 X)∧W.cell? ⟨wr.heap.size,1,none⟩=some (.int .i64 0)∧W.cell? ⟨v1.heap.size,0,none⟩=some (.int .i64 n2)∧W.cell? ⟨v1.heap.size,1,none⟩=some (.int .i64 e2)) ⟨hbv.alloc hbv.size _,by simp[go_sem],?_,?_,by simp[go_sem],by simp[go_sem]⟩ ?_
       ·rw[bat (zao v1 _) wr.heap.size 0 (by omega),bat hb2 wr.heap.size 0 z1];exact t0
       ·rw[bat (zao v1 _) wr.heap.size 1 (by omega),bat hb2 wr.heap.size 1 z1];exact t1
       clear t0 t1;rintro W2 ⟨hb3,z2,t0,t1,t2,t3⟩;have HB2:=Lib.hid hb3;clear hb3 hbv hb2;have zz2:wr.heap.size<W2.heap.size:=by omega
       have HD:Hid (∀ W:World,Below W2.heap.size W2 W→(W.cell? ⟨wr.heap.size,0,none⟩=some (.int .i64 X)∧W.cell? ⟨wr.heap.size,1,none⟩=some (.int .i64 0)∧W.cell? ⟨v1.heap.size,0,none⟩=some (.int .i64 n2)∧W.cell? ⟨v1.heap.size,1,none⟩=some (.int .i64 e2))):=fun W hW=>⟨(bat hW _ _ zz2).trans t0,(bat hW _ _ zz2).trans t1,(bat hW _ _ z2).trans t2,(bat hW _ _ z2).trans t3⟩
       clear t0 t1 t2 t3;have BS:Hid (Below W2.heap.size W2 W2):=Below.refl _ _;go_cut [7] (fun s7 wx=>∃ h:Nat,s7=.pointer (some ⟨h,0,none⟩)∧wx.heap[h]? = some (.cells #[.int .i64 n5,.int .i64 e5] 103 (0,0))∧W2.heap.size≤h∧h<wx.heap.size∧Below W2.heap.size W2 wx)
       case first =>
        refine wp_region_tree 7 (.read 0 (.read 1 (.read 3 (.two 2 5 (.two 4 5 (.one 5 (.one 6 .nil)) (.one 4 (.one 6 .nil))) (.one 2 (.one 4 (.one 6 .nil))))))) (fun W=>Below W2.heap.size W2 W) (by kernel_rfl) (by kernel_rfl) (BS.out.drew) ?_;have YB:=Lib.hid (BS.out.drew);have Yz:W2.heap.size≤W2.drew.heap.size:=Nat.le_refl _;generalize W2.drew=Y at *;refine wpTree_read (v:=?_) rfl (fun _ _ _ h=>h) ?_ ?_
        rotate_left
        ·(intro W hSW;(try dsimp only at hSW);obtain⟨t0,t1,t2,t3⟩:=HD.out W hSW;(go_simp<;>with_reducible rfl))
        (try simp only[Act.put,List.setIfInBounds_toArray,List.set_cons_zero,List.set_cons_succ])
        refine wpTree_read (v:=?_) rfl (fun _ _ _ h=>h) ?_ ?_
        rotate_left
        ·(intro W hSW;(try dsimp only at hSW);obtain⟨t0,t1,t2,t3⟩:=HD.out W hSW;(go_simp<;>with_reducible rfl))
        (try simp only[Act.put,List.setIfInBounds_toArray,List.set_cons_zero,List.set_cons_succ])
        refine wpTree_read (v:=?_) rfl (fun _ _ _ h=>h) ?_ ?_
        rotate_left
        ·(intro W hSW;(try dsimp only at hSW);obtain⟨t0,t1,t2,t3⟩:=HD.out W hSW;(go_simp<;>with_reducible rfl))
        (try simp only[Act.put,List.setIfInBounds_toArray,List.set_cons_zero,List.set_cons_succ])
        refine wpTree_two ?_ ?_
        ·refine zax rfl (fun K hK=>?_)
         go_simp;refine ((fun W _=>T2.out W) _ YB.out).mono ?_;rintro e Y1 ⟨rfl,hb1⟩;have YB1:=Lib.hid (YB.out.trans (hb1.mono YB.out.size));refine hK.out _ _ YB1.out ?_;clear hK K
         (try simp only[Act.put,List.setIfInBounds_toArray,List.set_cons_zero,List.set_cons_succ])
         have bs1:Y.heap.size≤Y1.heap.size:=hb1.size;clear hb1;refine wpTree_two ?_ ?_
         ·refine zax rfl (fun K hK=>?_)
          go_simp;refine ((fun W _=>T3.out W) _ YB1.out).mono ?_;rintro e Y2 ⟨rfl,hb2⟩;have YB2:=Lib.hid (YB1.out.trans (hb2.mono YB1.out.size));refine hK.out _ _ YB2.out ?_;clear hK K
          (try simp only[Act.put,List.setIfInBounds_toArray,List.set_cons_zero,List.set_cons_succ])
          have bs2:Y1.heap.size≤Y2.heap.size:=hb2.size;clear hb2;refine za2 ?_;refine zax rfl (fun K hK=>?_);go_simp;have hb3:Below Y2.heap.size Y2 (Y2.alloc (.cells #[.int .i64 0,.int .i64 0] 103)):=zao _ _;have Ykc3:=Lib.hid (bkN Y2 #[.int .i64 0,.int .i64 0] 103);have zl3:Y2.heap.size+1≤(Y2.alloc (.cells #[.int .i64 0,.int .i64 0] 103)).heap.size:=by simp
          have YB3:=Lib.hid (YB2.out.trans (hb3.mono YB2.out.size));refine hK.out _ _ YB3.out ?_;clear hK K
          (try simp only[Act.put,List.setIfInBounds_toArray,List.set_cons_zero,List.set_cons_succ])
          have bs3:Y2.heap.size≤(Y2.alloc (.cells #[.int .i64 0,.int .i64 0] 103)).heap.size:=hb3.size;clear hb3;generalize (Y2.alloc (.cells #[.int .i64 0,.int .i64 0] 103))=Y3 at *;refine za2 ?_;refine zax rfl (fun K hK=>?_);have g0:=bkC (v:=.int .i64 0) Ykc3.out 0 rfl;have g1:=bkC (v:=.int .i64 0) Ykc3.out 1 rfl;have fz:=bkF Ykc3.out;have kf_:(((Y3.setCell ⟨Y2.heap.size,0,none⟩ (.int .i64 n5)).setCell ⟨Y2.heap.size,1,none⟩ (.int .i64 e5))).heap[Y2.heap.size]? = some (.cells #[.int .i64 n5,.int .i64 e5] 103 (0,0)):=by
           have h_:=(bkS (bkS Ykc3.out 0 (.int .i64 n5)) 1 (.int .i64 e5))
           simpa using h_
          have Ykc4:=Lib.hid kf_;clear kf_;have YB4:=Lib.hid ((YB3.out.setCell (p:=⟨Y2.heap.size,0,none⟩) (by show W2.heap.size≤Y2.heap.size;have:=YB3.out.size;omega) (.int .i64 n5)).setCell (p:=⟨Y2.heap.size,1,none⟩) (by show W2.heap.size≤Y2.heap.size;have:=YB3.out.size;omega) (.int .i64 e5));have bs4:Y3.heap.size≤(((Y3.setCell ⟨Y2.heap.size,0,none⟩ (.int .i64 n5)).setCell ⟨Y2.heap.size,1,none⟩ (.int .i64 e5))).heap.size:=by simp only[zak];omega
          go_simp;refine hK.out _ _ YB4.out ?_;clear hK K fz g0 g1
          (try simp only[Act.put,List.setIfInBounds_toArray,List.set_cons_zero,List.set_cons_succ])
          generalize ((Y3.setCell ⟨Y2.heap.size,0,none⟩ (.int .i64 n5)).setCell ⟨Y2.heap.size,1,none⟩ (.int .i64 e5))=Y4 at *;refine wpTree_nil ?_;simp only[List.drop_succ_cons,List.drop_zero];go_wp2_with fail;go_meet;exact⟨_,rfl,Ykc4.out,by omega,by omega,YB4.out⟩
         ·refine zax rfl (fun K hK=>?_)
          go_simp;have hb5:Below Y1.heap.size Y1 (Y1.alloc (.cells #[.int .i64 0,.int .i64 0] 103)):=zao _ _;have Ykc5:=Lib.hid (bkN Y1 #[.int .i64 0,.int .i64 0] 103);have zl5:Y1.heap.size+1≤(Y1.alloc (.cells #[.int .i64 0,.int .i64 0] 103)).heap.size:=by simp
          have YB5:=Lib.hid (YB1.out.trans (hb5.mono YB1.out.size));refine hK.out _ _ YB5.out ?_;clear hK K
          (try simp only[Act.put,List.setIfInBounds_toArray,List.set_cons_zero,List.set_cons_succ])
          have bs5:Y1.heap.size≤(Y1.alloc (.cells #[.int .i64 0,.int .i64 0] 103)).heap.size:=hb5.size;clear hb5;generalize (Y1.alloc (.cells #[.int .i64 0,.int .i64 0] 103))=Y5 at *;refine za2 ?_;refine zax rfl (fun K hK=>?_);go_simp;refine ((fun W _=>T3.out W) _ YB5.out).mono ?_;rintro e Y6 ⟨rfl,hb6⟩;have YB6:=Lib.hid (YB5.out.trans (hb6.mono YB5.out.size));refine hK.out _ _ YB6.out ?_;clear hK K
          (try simp only[Act.put,List.setIfInBounds_toArray,List.set_cons_zero,List.set_cons_succ])
          have bs6:Y5.heap.size≤Y6.heap.size:=hb6.size;have Ykc6:=Lib.hid (bkB Ykc5.out hb6 (by first|exact Nat.le_refl _|omega|(simp;done)|(simp<;>omega)));clear hb6;refine za2 ?_;refine zax rfl (fun K hK=>?_);have g0:=bkC (v:=.int .i64 0) Ykc6.out 0 rfl;have g1:=bkC (v:=.int .i64 0) Ykc6.out 1 rfl;have fz:=bkF Ykc6.out;have kf_:(((Y6.setCell ⟨Y1.heap.size,0,none⟩ (.int .i64 n5)).setCell ⟨Y1.heap.size,1,none⟩ (.int .i64 e5))).heap[Y1.heap.size]? = some (.cells #[.int .i64 n5,.int .i64 e5] 103 (0,0)):=by
           have h_:=(bkS (bkS Ykc6.out 0 (.int .i64 n5)) 1 (.int .i64 e5))
           simpa using h_
          have Ykc7:=Lib.hid kf_;clear kf_;have YB7:=Lib.hid ((YB6.out.setCell (p:=⟨Y1.heap.size,0,none⟩) (by show W2.heap.size≤Y1.heap.size;have:=YB6.out.size;omega) (.int .i64 n5)).setCell (p:=⟨Y1.heap.size,1,none⟩) (by show W2.heap.size≤Y1.heap.size;have:=YB6.out.size;omega) (.int .i64 e5));have bs7:Y6.heap.size≤(((Y6.setCell ⟨Y1.heap.size,0,none⟩ (.int .i64 n5)).setCell ⟨Y1.heap.size,1,none⟩ (.int .i64 e5))).heap.size:=by simp only[zak];omega
          go_simp;refine hK.out _ _ YB7.out ?_;clear hK K fz g0 g1
          (try simp only[Act.put,List.setIfInBounds_toArray,List.set_cons_zero,List.set_cons_succ])
          generalize ((Y6.setCell ⟨Y1.heap.size,0,none⟩ (.int .i64 n5)).setCell ⟨Y1.heap.size,1,none⟩ (.int .i64 e5))=Y7 at *;refine wpTree_nil ?_;simp only[List.drop_succ_cons,List.drop_zero];go_wp2_with fail;go_meet;exact⟨_,rfl,Ykc7.out,by omega,by omega,YB7.out⟩
        ·refine zax rfl (fun K hK=>?_)
         go_simp;have hb8:Below Y.heap.size Y (Y.alloc (.cells #[.int .i64 0,.int .i64 0] 103)):=zao _ _;have Ykc8:=Lib.hid (bkN Y #[.int .i64 0,.int .i64 0] 103);have zl8:Y.heap.size+1≤(Y.alloc (.cells #[.int .i64 0,.int .i64 0] 103)).heap.size:=by simp
         have YB8:=Lib.hid (YB.out.trans (hb8.mono YB.out.size));refine hK.out _ _ YB8.out ?_;clear hK K
         (try simp only[Act.put,List.setIfInBounds_toArray,List.set_cons_zero,List.set_cons_succ])
         have bs8:Y.heap.size≤(Y.alloc (.cells #[.int .i64 0,.int .i64 0] 103)).heap.size:=hb8.size;clear hb8;generalize (Y.alloc (.cells #[.int .i64 0,.int .i64 0] 103))=Y8 at *;refine za2 ?_;refine zax rfl (fun K hK=>?_);go_simp;refine ((fun W _=>T2.out W) _ YB8.out).mono ?_;rintro e Y9 ⟨rfl,hb9⟩;have YB9:=Lib.hid (YB8.out.trans (hb9.mono YB8.out.size));refine hK.out _ _ YB9.out ?_;clear hK K
         (try simp only[Act.put,List.setIfInBounds_toArray,List.set_cons_zero,List.set_cons_succ])
         have bs9:Y8.heap.size≤Y9.heap.size:=hb9.size;have Ykc9:=Lib.hid (bkB Ykc8.out hb9 (by first|exact Nat.le_refl _|omega|(simp;done)|(simp<;>omega)));clear hb9;refine za2 ?_;refine zax rfl (fun K hK=>?_);go_simp;refine ((fun W _=>T3.out W) _ YB9.out).mono ?_;rintro e Y10 ⟨rfl,hb10⟩;have YB10:=Lib.hid (YB9.out.trans (hb10.mono YB9.out.size));refine hK.out _ _ YB10.out ?_;clear hK K
         (try simp only[Act.put,List.setIfInBounds_toArray,List.set_cons_zero,List.set_cons_succ])
         have bs10:Y9.heap.size≤Y10.heap.size:=hb10.size;have Ykc10:=Lib.hid (bkB Ykc9.out hb10 (by first|exact Nat.le_refl _|omega|(simp;done)|(simp<;>omega)));clear hb10;refine za2 ?_;refine zax rfl (fun K hK=>?_);have g0:=bkC (v:=.int .i64 0) Ykc10.out 0 rfl;have g1:=bkC (v:=.int .i64 0) Ykc10.out 1 rfl;have fz:=bkF Ykc10.out;have kf_:(((Y10.setCell ⟨Y.heap.size,0,none⟩ (.int .i64 n5)).setCell ⟨Y.heap.size,1,none⟩ (.int .i64 e5))).heap[Y.heap.size]? = some (.cells #[.int .i64 n5,.int .i64 e5] 103 (0,0)):=by
          have h_:=(bkS (bkS Ykc10.out 0 (.int .i64 n5)) 1 (.int .i64 e5))
          simpa using h_
         have Ykc11:=Lib.hid kf_;clear kf_;have YB11:=Lib.hid ((YB10.out.setCell (p:=⟨Y.heap.size,0,none⟩) (by show W2.heap.size≤Y.heap.size;have:=YB10.out.size;omega) (.int .i64 n5)).setCell (p:=⟨Y.heap.size,1,none⟩) (by show W2.heap.size≤Y.heap.size;have:=YB10.out.size;omega) (.int .i64 e5));have bs11:Y10.heap.size≤(((Y10.setCell ⟨Y.heap.size,0,none⟩ (.int .i64 n5)).setCell ⟨Y.heap.size,1,none⟩ (.int .i64 e5))).heap.size:=by simp only[zak];omega
         go_simp;refine hK.out _ _ YB11.out ?_;clear hK K fz g0 g1
         (try simp only[Act.put,List.setIfInBounds_toArray,List.set_cons_zero,List.set_cons_succ])
         generalize ((Y10.setCell ⟨Y.heap.size,0,none⟩ (.int .i64 n5)).setCell ⟨Y.heap.size,1,none⟩ (.int .i64 e5))=Y11 at *;refine wpTree_nil ?_;simp only[List.drop_succ_cons,List.drop_zero];go_wp2_with fail;go_meet;exact⟨_,rfl,Ykc11.out,by omega,by omega,YB11.out⟩
       case rest =>
        obtain⟨h,rfl,kh,hlo,hhi,hbw⟩:=hcut;generalize wc=W3 at *;have HB3:=Lib.hid (HB2.out.trans (hbw.mono HB2.out.size));have K3:=Lib.hid kh;have t0:=bkC (v:=.int .i64 n5) K3.out 0 rfl;have t1:=bkC (v:=.int .i64 e5) K3.out 1 rfl;have zh:w.heap.size≤h:=by have:=HB2.out.size;omega
        clear kh hbw HD BS;go_upto_region 19 with (go_at_call 69;with_reducible refine (T4.out _).mono ?_;rintro e v2 ⟨rfl,hb4⟩;clear t0 t1;have k4:=bkB K3.out hb4 hhi;have t0:=bkC (v:=.int .i64 n5) k4 0 rfl;have t1:=bkC (v:=.int .i64 e5) k4 1 rfl;have fz:=bkF k4);have zv2:=hb4.size;have hbv2:=HB3.out.trans (hb4.mono HB3.out.size);refine wp_cut (fun W=>Below w.heap.size w W∧h<W.heap.size∧W.cell? ⟨h,0,none⟩=some (.int .i64 NX)∧W.cell? ⟨h,1,none⟩=some (.int .i64 DX)) ⟨(hbv2.setCell (p:=⟨h,0,none⟩) zh _).setCell (p:=⟨h,1,none⟩) zh _,by simp only[zak];omega,bkC (bkS (bkS k4 0 (.int .i64 NX)) 1 (.int .i64 DX)) 0 (by simp),bkC (bkS (bkS k4 0 (.int .i64 NX)) 1 (.int .i64 DX)) 1 (by simp)⟩ ?_;clear t0 t1 fz k4 hb4 hbv2 K3;rintro W5 ⟨hb5,z5,t0,t1⟩;have HB5:=Lib.hid hb5;clear hb5;have o0:=overC (w0:=W5) (show h<W5.heap.size from z5);refine zae W5.heap.size W5 (Below.refl _ _) (by kernel_rfl) (by kernel_rfl) ?_
        repeat (go_big_quiet_step (fail))
        refine wpQuiet_nil ?_;rintro _ ⟨Y,rfl⟩;have HB6:=Lib.hid (HB5.out.trans ((zad W5.heap.size W5 Y).mono HB5.out.size));clear o0 t0 t1;generalize over W5.heap.size W5 Y=W6 at *;go_wp2;go_roundw
        case rel=>exact⟨q+1,by omega,by rw[HS2.out],by rw[HS1.out],by go_num,HB6.out⟩
        case measure=>simp[intOf];omega
      ·obtain rfl:q=4:=by omega
       go_wp2;go_ret;exact⟨by rw[HE.out];rfl,hb⟩
end Go.Proofs.YtpodllefipleiaaGreatDoor
