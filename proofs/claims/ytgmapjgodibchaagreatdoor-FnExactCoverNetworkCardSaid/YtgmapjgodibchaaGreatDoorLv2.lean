/- Contracts: logarithms, values on a line, for the program and for the reference. Conditions: bounded numbers; the library's table holds what it holds at the start. -/
import Derived.Test.YtgmapjgodibchaaGreatDoorRd1
import Derived.Test.YtgmapjgodibchaaGreatDoorLvK
import Derived.Test.YtgmapjgodibchaaGreatDoorLvM
set_option linter.unusedVariables false
set_option linter.unusedSimpArgs false
namespace Go.Proofs.YtgmapjgodibchaaGreatDoor
open Go.RowKit
structure TabW (w:World):Prop where
 lib:LibW w
 z0:1<w.heap.size
 z1:0<w.heap.size
 sin:∀ k:Nat,k<91→w.cell? ⟨1,k,none⟩=some (I (gi sinL k))
 cln:∀ k:Nat,k<8→∃ s,w.cell? ⟨0,k*3,none⟩=some (F s)
 clh:∀ k:Nat,k<8→w.cell? ⟨0,k*3+1,none⟩=some (I (gi clH k))
 cll:∀ k:Nat,k<8→w.cell? ⟨0,k*3+2,none⟩=some (I (gi clL k))
theorem TabW.mono {w w':World} (h:TabW w) (hb:IJ w w w'):TabW w':=by
 have hz:=hb.size;have z0:=h.z0;have z1:=h.z1
 exact⟨h.lib.mono hb,O,O,fun k hk=>(bat hb _ _ z0).trans (h.sin k hk),fun k hk=>by
  obtain⟨s,hs⟩:=h.cln k hk
  exact⟨s,(bat hb _ _ z1).trans hs⟩,fun k hk=>(bat hb _ _ z1).trans (h.clh k hk),fun k hk=>(bat hb _ _ z1).trans (h.cll k hk)⟩
set_option maxHeartbeats 16000000
set_option maxRecDepth 100000
theorem times_any (a ea b eb:Int) (ha:Sc a) (hb:Sc b) (e0:0≤ea) (e1:ea≤1000000) (f0:0≤eb) (f1:eb≤1000000) (w:World) :
  Calls Tryz.prog 238 #[.agg #[I a,I ea],.agg #[I b,I eb]] w fun e w'=>e=.returned (.agg #[I (tms a b),I (ea+eb+tmx a b)])∧IJ w w w':=by
 obtain⟨m0,m1⟩:=sc_mul ha hb;have HT:Hid (tms a b=if 1000000000≤a*b / 100000000 then a*b / 100000000 / 10 else a*b / 100000000):=rfl;have HX:Hid (tmx a b=if 1000000000≤a*b / 100000000 then 1 else 0):=rfl;have p0:0≤a*b:=O
 by_cases hc:1000000000≤a*b / 100000000
 ·have HT2:Hid (tms a b=a*b / 100000000 / 10):=by show _=_;rw[HT.out,if_pos hc]
  have HX2:Hid (ea+eb+tmx a b=ea+eb+1):=by show _=_;rw[HX.out,if_pos hc]
  have q0:0≤a*b / 100000000:=O
  clear HT HX;generalize tms a b=T at *;generalize tmx a b=U at *;generalize hp:a*b=p at *;go_enter Tryz.func238,Tryz.ntmps238;go_wp2;refine bodyPost_ret (v:=.agg #[I (p / 100000000 / 10),I (ea+eb+1)]) (by simp[results,Tryz.results238,go_sem, *]) rfl ?_;exact⟨by rw[HT2.out,HX2.out],by repeat (first|exact Below.refl _ _|refine Below.alloc ?_ (by first|exact Nat.le_refl _|(simp;done)|(simp<;>omega)) _)⟩
 ·have HT2:Hid (tms a b=a*b / 100000000):=by show _=_;rw[HT.out,if_neg hc]
  have HX2:Hid (ea+eb+tmx a b=ea+eb):=by show _=_;rw[HX.out,if_neg hc];omega
  have q0:0≤a*b / 100000000:=O
  clear HT HX;generalize tms a b=T at *;generalize tmx a b=U at *;generalize hp:a*b=p at *;go_enter Tryz.func238,Tryz.ntmps238;go_wp2;refine bodyPost_ret (v:=.agg #[I (p / 100000000),I (ea+eb)]) (by simp[results,Tryz.results238,go_sem, *]) rfl ?_;exact⟨by rw[HT2.out,HX2.out],by repeat (first|exact Below.refl _ _|refine Below.alloc ?_ (by first|exact Nat.le_refl _|(simp;done)|(simp<;>omega)) _)⟩
theorem zex (a b:Int) (ha:Sc a) (hb:Sc b) (w:World) :
  Calls Tryz.prog 264 #[I a,I b] w fun e w'=>e=.returned (.tuple #[I (tms a b),I (tmx a b)])∧IJ w w w':=by
 obtain⟨m0,m1⟩:=sc_mul ha hb;have HT:Hid (tms a b=if 1000000000≤a*b / 100000000 then a*b / 100000000 / 10 else a*b / 100000000):=rfl;have HX:Hid (tmx a b=if 1000000000≤a*b / 100000000 then 1 else 0):=rfl;have p0:0≤a*b:=O
 have q0:0≤a*b / 100000000:=O
 by_cases hc:1000000000≤a*b / 100000000
 ·have HT2:Hid (tms a b=a*b / 100000000 / 10):=by show _=_;rw[HT.out,if_pos hc]
  have HX2:Hid (tmx a b=1):=by show _=_;rw[HX.out,if_pos hc]
  clear HT HX;generalize tms a b=T at *;generalize tmx a b=U at *;generalize hp:a*b=p at *;go_enter Tryz.func264,Tryz.ntmps264;go_wp2;go_ret2;exact⟨by rw[HT2.out,HX2.out];rfl,Below.refl _ _⟩
 ·have HT2:Hid (tms a b=a*b / 100000000):=by show _=_;rw[HT.out,if_neg hc]
  have HX2:Hid (tmx a b=0):=by show _=_;rw[HX.out,if_neg hc]
  clear HT HX;generalize tms a b=T at *;generalize tmx a b=U at *;generalize hp:a*b=p at *;go_enter Tryz.func264,Tryz.ntmps264;go_wp2;go_ret2;exact⟨by rw[HT2.out,HX2.out];rfl,Below.refl _ _⟩
theorem l02Tenth_any (x:Int) (hx:Sc x) (w:World) :
  Calls Tryz.prog 248 #[I x] w fun e w'=>e=.returned (.tuple #[I (tenN x),I (tenX x)])∧IJ w w w':=by
 have B0:Hid (IJ w w w):=Below.refl _ _;have HB:Hid (IJ w w w):=Below.refl _ _;have HN:Hid (tenN x=tms (tms (tms (tms x x) (tms x x)) x) (tms (tms (tms x x) (tms x x)) x)):=rfl;have HX:Hid (tenX x=2*(2*tmx x x+tmx (tms x x) (tms x x)+tmx (tms (tms x x) (tms x x)) x)+tmx (tms (tms (tms x x) (tms x x)) x) (tms (tms (tms x x) (tms x x)) x)):=rfl;have s2:=tms_sc hx hx;have s4:=tms_sc s2 s2;have s5:=tms_sc s4 hx;have b1:=tmx_bd x x;have b2:=tmx_bd (tms x x) (tms x x);have b3:=tmx_bd (tms (tms x x) (tms x x)) x;have b4:=tmx_bd (tms (tms (tms x x) (tms x x)) x) (tms (tms (tms x x) (tms x x)) x);have C0:Hid (∀ W:World,IJ w w W→Calls Tryz.prog 264 #[I x,I x] W fun e w'=>e=.returned (.tuple #[I (tms x x),I (tmx x x)])∧IJ W W w'):=fun  W hW=>zex _ _ hx hx W
 have C1:Hid (∀ W:World,IJ w w W→Calls Tryz.prog 264 #[I (tms x x),I (tms x x)] W fun e w'=>e=.returned (.tuple #[I (tms (tms x x) (tms x x)),I (tmx (tms x x) (tms x x))])∧IJ W W w'):=fun  W hW=>zex _ _ s2 s2 W
 have C2:Hid (∀ W:World,IJ w w W→Calls Tryz.prog 264 #[I (tms (tms x x) (tms x x)),I x] W fun e w'=>e=.returned (.tuple #[I (tms (tms (tms x x) (tms x x)) x),I (tmx (tms (tms x x) (tms x x)) x)])∧IJ W W w'):=fun  W hW=>zex _ _ s4 hx W
 have C3:Hid (∀ W:World,IJ w w W→Calls Tryz.prog 264 #[I (tms (tms (tms x x) (tms x x)) x),I (tms (tms (tms x x) (tms x x)) x)] W fun e w'=>e=.returned (.tuple #[I (tms (tms (tms (tms x x) (tms x x)) x) (tms (tms (tms x x) (tms x x)) x)),I (tmx (tms (tms (tms x x) (tms x x)) x) (tms (tms (tms x x) (tms x x)) x))])∧IJ W W w'):=fun  W hW=>zex _ _ s5 s5 W
 generalize tms x x=two at *;generalize tmx x x=ea at *;generalize tms two two=four at *;generalize tmx two two=eb at *;generalize tms four x=five at *;generalize tmx four x=ec at *;generalize tms five five=ten at *;generalize tmx five five=ed at *;clear s2 s4 s5 hx;go_enter Tryz.func248,Tryz.ntmps248;skip;go_wp2_with (first|(go_at_call 264;with_reducible refine (C0.out _ HB.out).mono ?_;rintro e v1 ⟨rfl,hb_⟩;replace HB:=btr HB hb_;clear hb_;skip)|(go_at_call 264;with_reducible refine (C1.out _ HB.out).mono ?_;rintro e v1 ⟨rfl,hb_⟩;replace HB:=btr HB hb_;clear hb_;skip)|(go_at_call 264;with_reducible refine (C2.out _ HB.out).mono ?_;rintro e v1 ⟨rfl,hb_⟩;replace HB:=btr HB hb_;clear hb_;skip)|(go_at_call 264;with_reducible refine (C3.out _ HB.out).mono ?_;rintro e v1 ⟨rfl,hb_⟩;replace HB:=btr HB hb_;clear hb_;skip));go_ret2;exact⟨by rw[HN.out,HX.out];rfl,B0.out.trans (HB.out.mono B0.out.size)⟩
theorem l02Log_any (n:Int) (h1:1≤n) (h2:n≤9223372036854775807) (w:World) :
  Calls Tryz.prog 217 #[I n] w fun e w'=>e=.returned (I (lgB n))∧IJ w w w':=by
 have HE:Hid (lgB n=(zcw 4 (nrm n.toNat (ndg n)) (ndg n)).2):=rfl;obtain⟨q1,q2⟩:=ndg_spec h1;have q3:=ndg_le h1 h2;have hsc:=nrm_sc h1;generalize lgB n=LG at *;generalize ndg n=R at *;obtain⟨u,rfl⟩:∃ u:Nat,n=(u:Int):=⟨n.toNat,O⟩
 rw[Int.toNat_natCast] at *;rw[nrm_eq] at HE hsc;have HQ1:=J q1;have HQ2:=J q2;have HSC:=J hsc;clear q1 q2 hsc;have u1:(1:Int)≤(u:Int):=h1;have u2:(u:Int)≤9223372036854775807:=h2;go_enter Tryz.func217,Tryz.ntmps217;go_wp2
 go_loop [3,4] (fun r m=>∃ k:Nat,k≤R∧r=I (k:Int)∧m=I ((u / 10 ^ k:Nat):Int)) (fun r m=>R-(intOf r).toNat)
 case atStart=>exact⟨0,Nat.zero_le _,rfl,by simp⟩
 case round =>
  obtain⟨k,hk,rfl,rfl⟩:=hrel;have ki:(k:Int)≤18:=O
  have dv:=div_up u k;have dl:u / 10 ^ k≤u:=Nat.div_le_self _ _
  by_cases hlt:k<R
  ·have hge:=div_ge HQ1.out hlt
   generalize u / 10 ^ k=y at *;have y1:(10:Int)≤(y:Int):=O
   have y2:(y:Int)≤9223372036854775807:=O
   go_wp2
   go_round
   case rel=>exact⟨k+1,O,by go_num,by rw[dv];go_num⟩
   case measure=>simp[intOf];omega
  ·obtain rfl:k=R:=O
   have hle:=div_lt10 HQ2.out;generalize u / 10 ^ k=y at *;have y1:¬ (10:Int)≤(y:Int):=O
   go_wp2
   go_loop [5,6] (fun x i=>∃ j:Nat,j≤8-k∧x=I ((u*10 ^ j:Nat):Int)∧i=I ((k:Int)+(j:Int))) (fun x i=>8-(intOf i).toNat)
   case atStart=>exact⟨0,Nat.zero_le _,by simp,by simp⟩
   case round =>
    obtain⟨j,hj,rfl,rfl⟩:=hrel;have ji:(j:Int)≤8:=O
    by_cases hlt2:k+j<8
    ·have hup:=nrm_up HQ2.out (show k+(j+1)≤8 by omega)
     have pu:=pow_up u j;rw[pu] at hup;generalize u*10 ^ j=y2 at *;have z1:(y2:Int)*10≤1000000000:=O
     go_wp2
     go_round
     case rel=>exact⟨j+1,O,by rw[pu];go_num,by go_num⟩
     case measure=>simp[intOf];omega
    ·obtain rfl:j=8-k:=O
     have hx0:(u*10 ^ (8-k):Nat)≤9223372036854775807:=by
      by_cases h8:k≤8
      ·have:=nrm_up HQ2.out (show k+(8-k)≤8 by omega);omega
      ·rw[show 8-k=0 by omega];simp<;>omega
     have HP:Hid ((u*10 ^ (8-k):Nat)≤9223372036854775807):=hx0;generalize u*10 ^ (8-k)=y3 at *;go_wp2
     go_loop [5,7] (fun x i=>∃ j:Nat,j≤k-8∧x=I ((y3 / 10 ^ j:Nat):Int)∧i=I ((k:Int)-(j:Int))) (fun x i=>(intOf i).toNat)
     case atStart=>exact⟨0,Nat.zero_le _,by simp,by simp⟩
     case round =>
      obtain⟨j,hj,rfl,rfl⟩:=hrel;have ji:(j:Int)≤18:=O
      have dv3:=div_up y3 j;have dl3:y3 / 10 ^ j≤y3:=Nat.div_le_self _ _
      by_cases hlt3:8+j<k
      ·generalize y3 / 10 ^ j=y4 at *
       have z1:(y4:Int)≤9223372036854775807:=O
       go_wp2
       go_round
       case rel=>exact⟨j+1,O,by rw[dv3];go_num,by go_num⟩
       case measure=>simp[intOf];omega
      ·obtain rfl:j=k-8:=O
       generalize y3 / 10 ^ (k-8)=y4 at *;have ec:((k:Int)-((k-8:Nat):Int))≤8:=O
       go_wp2;go_loopw [3,5,8] (fun r x i wr=>∃ q:Nat,q≤4∧r=I (zcw q (y4:Int) (k:Int)).2∧x=I (zcw q (y4:Int) (k:Int)).1∧i=I (q:Int)∧IJ w w wr) (fun r x i wr=>4-(intOf i).toNat)
       case atStart=>exact⟨0,Nat.zero_le _,rfl,rfl,rfl,Below.refl _ _⟩
       case round =>
        obtain⟨q,hq,rfl,rfl,rfl,hb⟩:=hrel;have hs:=logIt_sc (r:=(k:Int)) HSC.out q;have hbd:=logIt_bd (x:=(y4:Int)) (r:=(k:Int)) 18 O O q;have HS1:Hid ((zcw (q+1) (y4:Int) (k:Int)).1=tenN (zcw q (y4:Int) (k:Int)).1):=rfl;have HS2:Hid ((zcw (q+1) (y4:Int) (k:Int)).2=10*(zcw q (y4:Int) (k:Int)).2+tenX (zcw q (y4:Int) (k:Int)).1):=rfl
        by_cases hlt4:q<4
        ·have hpw:((19:Int)*10 ^ q)≤19000:=by
          have:q=0∨q=1∨q=2∨q=3:=O
          rcases this with rfl|rfl|rfl|rfl<;>decide
         have r0:=hbd.1;have r1:(zcw q (y4:Int) (k:Int)).2<19000:=by have:=hbd.2;simp at this;omega
         generalize (zcw q (y4:Int) (k:Int)).1=X at *;generalize (zcw q (y4:Int) (k:Int)).2=RR at *;have hx9:=tenX_bd X;have CT:=J (fun W=>l02Tenth_any X hs W);have HB:=J hb;clear hb hs hbd;generalize tenX X=DX at *;generalize tenN X=NX at *;obtain⟨d0,d1⟩:=hx9;go_wp2_with (go_at_call 248;with_reducible refine (CT.out _).mono ?_;rintro e v1 ⟨rfl,hb1⟩;replace HB:=btr HB hb1;clear hb1);go_roundw
         case rel=>exact⟨q+1,O,by rw[HS2.out],by rw[HS1.out],by go_num,HB.out⟩
         case measure=>simp[intOf];omega
        ·obtain rfl:q=4:=O
         go_wp2;go_ret;exact⟨by rw[HE.out];rfl,hb⟩
theorem blend_any (x0 y0 x1 y1 x:Int) (ba:0≤x0∧x0≤100000) (bb:0≤y0∧y0≤15000) (bc:0≤x1∧x1≤100000) (bd:0≤y1∧y1≤15000) (w:World) :
  Calls Tryz.prog 260 #[I x0,I y0,I x1,I y1,I x] w fun e w'=>e=.returned (I (lineR x0 y0 x1 y1 x))∧IJ w w w':=by
 have B0:Hid (IJ w w w):=Below.refl _ _;have HB:Hid (IJ w w w):=Below.refl _ _;have HE:Hid (lineR x0 y0 x1 y1 x=if x≤x0∨x1≤x0 then y0 else (if x1≤x then y1 else y0+rdiv ((y1-y0)*(x-x0)) (x1-x0))):=rfl;generalize lineR x0 y0 x1 y1 x=LR at *
 by_cases c0:x≤x0
 ·have HE2:Hid (LR=y0):=by show _=_;rw[HE.out,if_pos (Or.inl c0)]
  go_enter Tryz.func260,Tryz.ntmps260;go_wp2;go_ret;exact⟨by rw[HE2.out];rfl,Below.refl _ _⟩
 by_cases c1:x1≤x0
 ·have HE2:Hid (LR=y0):=by show _=_;rw[HE.out,if_pos (Or.inr c1)]
  go_enter Tryz.func260,Tryz.ntmps260;go_wp2;go_ret;exact⟨by rw[HE2.out];rfl,Below.refl _ _⟩
 by_cases c2:x1≤x
 ·have HE2:Hid (LR=y1):=by show _=_;rw[HE.out,if_neg O,if_pos c2]
  go_enter Tryz.func260,Tryz.ntmps260;go_wp2;go_ret;exact⟨by rw[HE2.out];rfl,Below.refl _ _⟩
 have HE2:Hid (LR=y0+rdiv ((y1-y0)*(x-x0)) (x1-x0)):=by show _=_;rw[HE.out,if_neg O,if_neg c2]
 have e:=lineR_in ba bb bc bd (x:=x) O O;have r:=zd6 (a:=(y1-y0)*(x-x0)) (b:=x1-x0) O 1500000000 e.1 e.2;obtain⟨e1,e2⟩:=e;obtain⟨r1,r2⟩:=r;obtain⟨ba1,ba2⟩:=ba;obtain⟨bb1,bb2⟩:=bb;obtain⟨bc1,bc2⟩:=bc;obtain⟨bd1,bd2⟩:=bd;have CD:Hid (∀ W:World,IJ w w W→Calls Tryz.prog 201 #[I ((y1-y0)*(x-x0)),I (x1-x0)] W fun e w'=>e=.returned (I (rdiv ((y1-y0)*(x-x0)) (x1-x0)))∧IJ W W w'):=fun  W hW=>zbu _ _ O O O O W
 generalize rdiv ((y1-y0)*(x-x0)) (x1-x0)=RV at *;go_enter Tryz.func260,Tryz.ntmps260;skip;go_wp2_with (first|(go_at_call 201;with_reducible refine (CD.out _ HB.out).mono ?_;rintro e v1 ⟨rfl,hb_⟩;replace HB:=btr HB hb_;clear hb_;skip));go_ret;exact⟨by rw[HE2.out];rfl,B0.out.trans (HB.out.mono B0.out.size)⟩
theorem l01Line_any (x0 y0 x1 y1 x:Int) (ba:0≤x0∧x0≤100000) (bb:0≤y0∧y0≤15000) (bc:0≤x1∧x1≤100000) (bd:0≤y1∧y1≤15000) (w:World) :
  Calls Tryz.prog 266 #[I x0,I y0,I x1,I y1,I x] w fun e w'=>e=.returned (I (lineR x0 y0 x1 y1 x))∧IJ w w w':=by
 have B0:Hid (IJ w w w):=Below.refl _ _;have HB:Hid (IJ w w w):=Below.refl _ _;have HE:Hid (lineR x0 y0 x1 y1 x=if x≤x0∨x1≤x0 then y0 else (if x1≤x then y1 else y0+rdiv ((y1-y0)*(x-x0)) (x1-x0))):=rfl;generalize lineR x0 y0 x1 y1 x=LR at *
 by_cases c0:x≤x0
 ·have HE2:Hid (LR=y0):=by show _=_;rw[HE.out,if_pos (Or.inl c0)]
  go_enter Tryz.func266,Tryz.ntmps266;go_wp2;go_ret;exact⟨by rw[HE2.out];rfl,Below.refl _ _⟩
 by_cases c1:x1≤x0
 ·have HE2:Hid (LR=y0):=by show _=_;rw[HE.out,if_pos (Or.inr c1)]
  go_enter Tryz.func266,Tryz.ntmps266;go_wp2;go_ret;exact⟨by rw[HE2.out];rfl,Below.refl _ _⟩
 by_cases c2:x1≤x
 ·have HE2:Hid (LR=y1):=by show _=_;rw[HE.out,if_neg O,if_pos c2]
  go_enter Tryz.func266,Tryz.ntmps266;go_wp2;go_ret;exact⟨by rw[HE2.out];rfl,Below.refl _ _⟩
 have HE2:Hid (LR=y0+rdiv ((y1-y0)*(x-x0)) (x1-x0)):=by show _=_;rw[HE.out,if_neg O,if_neg c2]
 have e:=lineR_in ba bb bc bd (x:=x) O O;have r:=zd6 (a:=(y1-y0)*(x-x0)) (b:=x1-x0) O 1500000000 e.1 e.2;obtain⟨e1,e2⟩:=e;obtain⟨r1,r2⟩:=r;obtain⟨ba1,ba2⟩:=ba;obtain⟨bb1,bb2⟩:=bb;obtain⟨bc1,bc2⟩:=bc;obtain⟨bd1,bd2⟩:=bd;have CD:Hid (∀ W:World,IJ w w W→Calls Tryz.prog 222 #[I ((y1-y0)*(x-x0)),I (x1-x0)] W fun e w'=>e=.returned (I (rdiv ((y1-y0)*(x-x0)) (x1-x0)))∧IJ W W w'):=fun  W hW=>zam (zbn _ _ O O O O W)
 generalize rdiv ((y1-y0)*(x-x0)) (x1-x0)=RV at *;go_enter Tryz.func266,Tryz.ntmps266;skip;go_wp2_with (first|(go_at_call 222;with_reducible refine (CD.out _ HB.out).mono ?_;rintro e v1 ⟨rfl,hb_⟩;replace HB:=btr HB hb_;clear hb_;skip));go_ret;exact⟨by rw[HE2.out];rfl,B0.out.trans (HB.out.mono B0.out.size)⟩
theorem iLogDb_any (n:Int) (h1:-9223372036854775808≤n) (h2:n≤9223372036854775807) (w:World) (L:LibW w) :
  Calls Tryz.prog 200 #[I n] w fun e w'=>e=.returned (I (lgI n))∧IJ w w w':=by
 by_cases c1:n<1
 ·have HE:Hid (lgI n=0):=by show _=_;unfold lgI;rw[if_pos c1]
  go_enter Tryz.func200,Tryz.ntmps200;go_wp2;go_ret;exact⟨by rw[HE.out];rfl,Below.refl _ _⟩
 replace h1:1≤n:=O
 have HE:Hid (lgI n=(zcw 4 (nrm n.toNat (ndg n)) (ndg n)).2):=by show _=_;unfold lgI;rw[if_neg c1];rfl
 obtain⟨q1,q2⟩:=ndg_spec h1;have q3:=ndg_le h1 h2;have hsc:=nrm_sc h1;have CD:=J (decimal_any n ⟨O,h2⟩ w L);have hsz:(((ofL (Go.Lib.itoa n)).size:Nat):Int)=(ndg n:Int)+1:=by
  have hp:=Go.Lib.nDigits_pos n.toNat;have:(ofL (Go.Lib.itoa n)).size=Go.Lib.nDigits n.toNat:=by
   rw[ofL_size];unfold Go.Lib.itoa;rw[if_neg O,Go.Lib.decDigits_length]
  unfold ndg;omega
 clear L c1;generalize ofL (Go.Lib.itoa n)=TX at *;generalize lgI n=LG at *;generalize ndg n=R at *;obtain⟨u,rfl⟩:∃ u:Nat,n=(u:Int):=⟨n.toNat,O⟩
 rw[Int.toNat_natCast] at *;rw[nrm_eq] at HE hsc;have HQ2:=J q2;have HSC:=J hsc;clear q1 q2 hsc;have u1:(1:Int)≤(u:Int):=h1;have u2:(u:Int)≤9223372036854775807:=h2;go_enter Tryz.func200,Tryz.ntmps200;go_upto_region 4 with (go_at_call 237;with_reducible refine CD.out.mono ?_;rintro e v1 ⟨rfl,hb1⟩);have HB:=J hb1;clear hb1 CD;clear hsz;have hmx:max (8-(R:Int)) 0=((8-R:Nat):Int):=O
 have hmx2:max ((R:Int)-8) 0=((R-8:Nat):Int):=O
 go_wp2
 go_loop [4,18] (fun x i=>∃ j:Nat,j≤8-R∧x=I ((u*10 ^ j:Nat):Int)∧i=I (j:Int)) (fun x i=>(8-R)-(intOf i).toNat)
 case atStart=>exact⟨0,Nat.zero_le _,by simp,by simp⟩
 case round =>
  obtain⟨j,hj,rfl,rfl⟩:=hrel;have ji:(j:Int)≤8:=O
  by_cases hlt2:j<8-R
  ·have hup:=nrm_up HQ2.out (show R+(j+1)≤8 by omega)
   have pu:=pow_up u j;rw[pu] at hup;generalize u*10 ^ j=y2 at *;have z1:(y2:Int)*10≤1000000000:=O
   have z2:(j:Int)<((8-R:Nat):Int):=O
   go_wp2
   go_round
   case rel=>exact⟨j+1,O,by rw[pu];go_num,by go_num⟩
   case measure=>simp[intOf];omega
  ·obtain rfl:j=8-R:=O
   have hx0:(u*10 ^ (8-R):Nat)≤9223372036854775807:=by
    by_cases h8:R≤8
    ·have:=nrm_up HQ2.out (show R+(8-R)≤8 by omega);omega
    ·rw[show 8-R=0 by omega];simp<;>omega
   have HP:Hid ((u*10 ^ (8-R):Nat)≤9223372036854775807):=hx0;generalize u*10 ^ (8-R)=y3 at *;go_wp2
   go_loop [4,26] (fun x i=>∃ j:Nat,j≤R-8∧x=I ((y3 / 10 ^ j:Nat):Int)∧i=I (j:Int)) (fun x i=>(R-8)-(intOf i).toNat)
   case atStart=>exact⟨0,Nat.zero_le _,by simp,by simp⟩
   case round =>
    obtain⟨j,hj,rfl,rfl⟩:=hrel;have ji:(j:Int)≤18:=O
    have dv3:=div_up y3 j;have dl3:y3 / 10 ^ j≤y3:=Nat.div_le_self _ _
    by_cases hlt3:j<R-8
    ·generalize y3 / 10 ^ j=y4 at *
     have z1:(y4:Int)≤9223372036854775807:=O
     have z2:(j:Int)<((R-8:Nat):Int):=O
     go_wp2
     go_round
     case rel=>exact⟨j+1,O,by rw[dv3];go_num,by go_num⟩
     case measure=>simp[intOf];omega
    ·obtain rfl:j=R-8:=O
     generalize y3 / 10 ^ (R-8)=y4 at *;go_wp2;go_loopw [3,4,31] (fun r x i wr=>∃ q:Nat,q≤4∧r=I (zcw q (y4:Int) (R:Int)).2∧x=I (zcw q (y4:Int) (R:Int)).1∧i=I (q:Int)∧IJ w w wr) (fun r x i wr=>4-(intOf i).toNat)
     case atStart=>exact⟨0,Nat.zero_le _,rfl,rfl,rfl,HB.out⟩
     case round =>
      obtain⟨q,hq,rfl,rfl,rfl,hb⟩:=hrel;have hs:=logIt_sc (r:=(R:Int)) HSC.out q;have hbd:=logIt_bd (x:=(y4:Int)) (r:=(R:Int)) 18 O O q;have HS1:Hid ((zcw (q+1) (y4:Int) (R:Int)).1=tenN (zcw q (y4:Int) (R:Int)).1):=rfl;have HS2:Hid ((zcw (q+1) (y4:Int) (R:Int)).2=10*(zcw q (y4:Int) (R:Int)).2+tenX (zcw q (y4:Int) (R:Int)).1):=rfl
      by_cases hlt4:q<4
      ·have hpw:((19:Int)*10 ^ q)≤19000:=by
        have:q=0∨q=1∨q=2∨q=3:=O
        rcases this with rfl|rfl|rfl|rfl<;>decide
       have r0:=hbd.1;have r1:(zcw q (y4:Int) (R:Int)).2<19000:=by have:=hbd.2;simp at this;omega
       generalize (zcw q (y4:Int) (R:Int)).1=X at *;generalize (zcw q (y4:Int) (R:Int)).2=RR at *;have HBr:=J hb;clear hb hbd HB HQ2 HSC HP hmx hmx2;have s2:=tms_sc hs hs;have s4:=tms_sc s2 s2;have s5:=tms_sc s4 hs;obtain⟨a0,a1⟩:=tmx_bd X X;obtain⟨b0,b1⟩:=tmx_bd (tms X X) (tms X X);obtain⟨c0,c1_⟩:=tmx_bd (tms (tms X X) (tms X X)) X;obtain⟨d0,d1⟩:=tmx_bd (tms (tms (tms X X) (tms X X)) X) (tms (tms (tms X X) (tms X X)) X);have HN:Hid (tenN X=tms (tms (tms (tms X X) (tms X X)) X) (tms (tms (tms X X) (tms X X)) X)):=rfl;have HX:Hid (tenX X=2*(2*tmx X X+tmx (tms X X) (tms X X)+tmx (tms (tms X X) (tms X X)) X)+tmx (tms (tms (tms X X) (tms X X)) X) (tms (tms (tms X X) (tms X X)) X)):=rfl;have T1:Hid (∀ W:World,Calls Tryz.prog 238 #[.agg #[I X,I 0],.agg #[I X,I 0]] W fun e w'=>e=.returned (.agg #[I (tms X X),I (tmx X X)])∧IJ W W w'):=fun W=>by
        have:=times_any X 0 X 0 hs hs O O O O W
        rwa [show (0:Int)+0+tmx X X=tmx X X by omega] at this
       have T2:Hid (∀ W:World,Calls Tryz.prog 238 #[.agg #[I (tms X X),I (tmx X X)],.agg #[I (tms X X),I (tmx X X)]] W fun e w'=>e=.returned (.agg #[I (tms (tms X X) (tms X X)),I (tmx X X+tmx X X+tmx (tms X X) (tms X X))])∧IJ W W w'):=fun W=>times_any _ _ _ _ s2 s2 O O O O W
       have T3:Hid (∀ W:World,Calls Tryz.prog 238 #[.agg #[I (tms (tms X X) (tms X X)),I (tmx X X+tmx X X+tmx (tms X X) (tms X X))],.agg #[I X,I 0]] W fun e w'=>e=.returned (.agg #[I (tms (tms (tms X X) (tms X X)) X),I (tmx X X+tmx X X+tmx (tms X X) (tms X X)+0+tmx (tms (tms X X) (tms X X)) X)])∧IJ W W w'):=fun W=>times_any _ _ _ _ s4 hs O O O O W
       generalize hE5:tmx X X+tmx X X+tmx (tms X X) (tms X X)+0+tmx (tms (tms X X) (tms X X)) X=e5 at *;have e50:0≤e5:=O
       have e51:e5≤4:=O
       have T4:Hid (∀ W:World,Calls Tryz.prog 238 #[.agg #[I (tms (tms (tms X X) (tms X X)) X),I e5],.agg #[I (tms (tms (tms X X) (tms X X)) X),I e5]] W fun e w'=>e=.returned (.agg #[I (tms (tms (tms (tms X X) (tms X X)) X) (tms (tms (tms X X) (tms X X)) X)),I (e5+e5+tmx (tms (tms (tms X X) (tms X X)) X) (tms (tms (tms X X) (tms X X)) X))])∧IJ W W w'):=fun W=>times_any _ _ _ _ s5 s5 O O O O W
       have HX2:Hid (tenX X=e5+e5+tmx (tms (tms (tms X X) (tms X X)) X) (tms (tms (tms X X) (tms X X)) X)):=by show _=_;rw[HX.out];omega
       rw[← HX2.out] at T4;rw[← HN.out] at T4;have hx9:=tenX_bd X;clear hE5 HX HX2 HN;generalize tenN X=NX at *;generalize tenX X=DX at *;clear c0 c1_ d0 d1 s5 s4 s2 hs;generalize tms (tms (tms X X) (tms X X)) X=n5 at *;generalize tmx X X+tmx X X+tmx (tms X X) (tms X X)=e4 at *;generalize tms (tms X X) (tms X X)=n4 at *;generalize tms X X=n2 at *;generalize tmx X X=e2 at *;obtain⟨x90,x91⟩:=hx9;have zr0:=HBr.out.size;go_upto_region 16 with (fail);refine wp_cut (fun W=>IJ w w W∧wr.heap.size<W.heap.size∧W.cell? ⟨wr,0,none⟩=some (I X)∧W.cell? ⟨wr,1,none⟩=some (I 0)) ⟨HBr.out.alloc zr0 _,by simp[go_sem],by simp[go_sem],by simp[go_sem]⟩ ?_;rintro W1 ⟨hb1,z1,t0,t1⟩;have HB1:=J hb1;clear hb1;go_upto_region 17 with (go_at_call 238;with_reducible refine (T1.out _).mono ?_;rintro e v1 ⟨rfl,hb2⟩);have zv:=hb2.size;have hbv:=HB1.out.trans (hb2.mono HB1.out.size);have zw1:=HB1.out.size;refine wp_cut (fun W=>IJ w w W∧v1.heap.size<W.heap.size∧W.cell? ⟨wr,0,none⟩=some (I X)∧W.cell? ⟨wr,1,none⟩=some (I 0)∧W.cell? ⟨v1,0,none⟩=some (I n2)∧W.cell? ⟨v1,1,none⟩=some (I e2)) ⟨hbv.alloc hbv.size _,by simp[go_sem],?_,?_,by simp[go_sem],by simp[go_sem]⟩ ?_
       ·rw[bat (za2 v1 _) wr.heap.size 0 O,bat hb2 wr.heap.size 0 z1];exact t0
       ·rw[bat (za2 v1 _) wr.heap.size 1 O,bat hb2 wr.heap.size 1 z1];exact t1
       clear t0 t1;rintro W2 ⟨hb3,z2,t0,t1,t2,t3⟩;have HB2:=J hb3;clear hb3 hbv hb2;have zz2:wr.heap.size<W2.heap.size:=O
       have HD:Hid (∀ W:World,IJ W2 W2 W→(W.cell? ⟨wr,0,none⟩=some (I X)∧W.cell? ⟨wr,1,none⟩=some (I 0)∧W.cell? ⟨v1,0,none⟩=some (I n2)∧W.cell? ⟨v1,1,none⟩=some (I e2))):=fun W hW=>⟨(bat hW _ _ zz2).trans t0,(bat hW _ _ zz2).trans t1,(bat hW _ _ z2).trans t2,(bat hW _ _ z2).trans t3⟩
       clear t0 t1 t2 t3;have BS:Hid (IJ W2 W2 W2):=Below.refl _ _;go_cut [7] (fun s7 wx=>∃ h:Nat,s7=.pointer (some ⟨h,0,none⟩)∧wx.heap[h]? = some (.cells #[I n5,I e5] 265 (0,0))∧W2.heap.size≤h∧h<wx.heap.size∧IJ W2 W2 wx)
       case first =>
        refine zap 7 (.read 0 (.read 1 (.read 3 (.two 2 5 (.two 4 5 (.one 5 (.one 6 .nil)) (.one 4 (.one 6 .nil))) (.one 2 (.one 4 (.one 6 .nil))))))) (fun W=>IJ W2 W2 W) OJ OJ (BS.out.drew) ?_;have YB:=J (BS.out.drew);have Yz:W2.heap.size≤W2.drew.heap.size:=Nat.le_refl _;generalize W2.drew=Y at *;refine zag (v:=?_) rfl (fun _ _ _ h=>h) ?_ ?_
        rotate_left
        ·(intro W hSW;(try dsimp only at hSW);obtain⟨t0,t1,t2,t3⟩:=HD.out W hSW;(go_simp<;>with_reducible rfl))
        (try simp only[Act.put,IQ,IZ,OI])
        refine zag (v:=?_) rfl (fun _ _ _ h=>h) ?_ ?_
        rotate_left
        ·(intro W hSW;(try dsimp only at hSW);obtain⟨t0,t1,t2,t3⟩:=HD.out W hSW;(go_simp<;>with_reducible rfl))
        (try simp only[Act.put,IQ,IZ,OI])
        refine zag (v:=?_) rfl (fun _ _ _ h=>h) ?_ ?_
        rotate_left
        ·(intro W hSW;(try dsimp only at hSW);obtain⟨t0,t1,t2,t3⟩:=HD.out W hSW;(go_simp<;>with_reducible rfl))
        (try simp only[Act.put,IQ,IZ,OI])
        refine za0 ?_ ?_
        ·refine zae rfl (fun K hK=>?_)
         go_simp;refine ((fun W _=>T2.out W) _ YB.out).mono ?_;rintro e Y1 ⟨rfl,hb1⟩;have YB1:=btr YB hb1;refine hK.out _ _ YB1.out ?_;clear hK K
         (try simp only[Act.put,IQ,IZ,OI])
         have bs1:Y.heap.size≤Y1.heap.size:=hb1.size;clear hb1;refine za0 ?_ ?_
         ·refine zae rfl (fun K hK=>?_)
          go_simp;refine ((fun W _=>T3.out W) _ YB1.out).mono ?_;rintro e Y2 ⟨rfl,hb2⟩;have YB2:=btr YB1 hb2;refine hK.out _ _ YB2.out ?_;clear hK K
          (try simp only[Act.put,IQ,IZ,OI])
          have bs2:Y1.heap.size≤Y2.heap.size:=hb2.size;clear hb2;refine zaf ?_;refine zae rfl (fun K hK=>?_);go_simp;have hb3:IJ Y2 Y2 (Y2.alloc (.cells #[I 0,I 0] 265)):=za2 _ _;have Ykc3:=J (bkN Y2 #[I 0,I 0] 265);have zl3:Y2.heap.size+1≤(Y2.alloc (.cells #[I 0,I 0] 265)).heap.size:=by simp
          have YB3:=btr YB2 hb3;refine hK.out _ _ YB3.out ?_;clear hK K
          (try simp only[Act.put,IQ,IZ,OI])
          have bs3:Y2.heap.size≤(Y2.alloc (.cells #[I 0,I 0] 265)).heap.size:=hb3.size;clear hb3;generalize (Y2.alloc (.cells #[I 0,I 0] 265))=Y3 at *;refine zaf ?_;refine zae rfl (fun K hK=>?_);have g0:=bkC (v:=I 0) Ykc3.out 0 rfl;have g1:=bkC (v:=I 0) Ykc3.out 1 rfl;have fz:=bkF Ykc3.out;have kf_:(((Y3.setCell ⟨Y2,0,none⟩ (I n5)).setCell ⟨Y2,1,none⟩ (I e5))).heap[Y2.heap.size]? = some (.cells #[I n5,I e5] 265 (0,0)):=by
           have h_:=(bkS (bkS Ykc3.out 0 (I n5)) 1 (I e5))
           simpa using h_
          have Ykc4:=J kf_;clear kf_;have YB4:=J ((YB3.out.setCell (p:=⟨Y2,0,none⟩) (by show W2.heap.size≤Y2.heap.size;have:=YB3.out.size;omega) (I n5)).setCell (p:=⟨Y2,1,none⟩) (by show W2.heap.size≤Y2.heap.size;have:=YB3.out.size;omega) (I e5));have bs4:Y3.heap.size≤(((Y3.setCell ⟨Y2,0,none⟩ (I n5)).setCell ⟨Y2,1,none⟩ (I e5))).heap.size:=by simp only[zac];omega
          go_simp;refine hK.out _ _ YB4.out ?_;clear hK K fz g0 g1
          (try simp only[Act.put,IQ,IZ,OI])
          generalize ((Y3.setCell ⟨Y2,0,none⟩ (I n5)).setCell ⟨Y2,1,none⟩ (I e5))=Y4 at *;refine zak ?_;simp only[List.drop_succ_cons,List.drop_zero];go_wp2_with fail;go_meet;exact⟨_,rfl,Ykc4.out,O,O,YB4.out⟩
         ·refine zae rfl (fun K hK=>?_)
          go_simp;have hb5:IJ Y1 Y1 (Y1.alloc (.cells #[I 0,I 0] 265)):=za2 _ _;have Ykc5:=J (bkN Y1 #[I 0,I 0] 265);have zl5:Y1.heap.size+1≤(Y1.alloc (.cells #[I 0,I 0] 265)).heap.size:=by simp
          have YB5:=btr YB1 hb5;refine hK.out _ _ YB5.out ?_;clear hK K
          (try simp only[Act.put,IQ,IZ,OI])
          have bs5:Y1.heap.size≤(Y1.alloc (.cells #[I 0,I 0] 265)).heap.size:=hb5.size;clear hb5;generalize (Y1.alloc (.cells #[I 0,I 0] 265))=Y5 at *;refine zaf ?_;refine zae rfl (fun K hK=>?_);go_simp;refine ((fun W _=>T3.out W) _ YB5.out).mono ?_;rintro e Y6 ⟨rfl,hb6⟩;have YB6:=btr YB5 hb6;refine hK.out _ _ YB6.out ?_;clear hK K
          (try simp only[Act.put,IQ,IZ,OI])
          have bs6:Y5.heap.size≤Y6.heap.size:=hb6.size;have Ykc6:=J (bkB Ykc5.out hb6 (by first|exact Nat.le_refl _|omega|(simp;done)|(simp<;>omega)));clear hb6;refine zaf ?_;refine zae rfl (fun K hK=>?_);have g0:=bkC (v:=I 0) Ykc6.out 0 rfl;have g1:=bkC (v:=I 0) Ykc6.out 1 rfl;have fz:=bkF Ykc6.out;have kf_:(((Y6.setCell ⟨Y1,0,none⟩ (I n5)).setCell ⟨Y1,1,none⟩ (I e5))).heap[Y1.heap.size]? = some (.cells #[I n5,I e5] 265 (0,0)):=by
           have h_:=(bkS (bkS Ykc6.out 0 (I n5)) 1 (I e5))
           simpa using h_
          have Ykc7:=J kf_;clear kf_;have YB7:=J ((YB6.out.setCell (p:=⟨Y1,0,none⟩) (by show W2.heap.size≤Y1.heap.size;have:=YB6.out.size;omega) (I n5)).setCell (p:=⟨Y1,1,none⟩) (by show W2.heap.size≤Y1.heap.size;have:=YB6.out.size;omega) (I e5));have bs7:Y6.heap.size≤(((Y6.setCell ⟨Y1,0,none⟩ (I n5)).setCell ⟨Y1,1,none⟩ (I e5))).heap.size:=by simp only[zac];omega
          go_simp;refine hK.out _ _ YB7.out ?_;clear hK K fz g0 g1
          (try simp only[Act.put,IQ,IZ,OI])
          generalize ((Y6.setCell ⟨Y1,0,none⟩ (I n5)).setCell ⟨Y1,1,none⟩ (I e5))=Y7 at *;refine zak ?_;simp only[List.drop_succ_cons,List.drop_zero];go_wp2_with fail;go_meet;exact⟨_,rfl,Ykc7.out,O,O,YB7.out⟩
        ·refine zae rfl (fun K hK=>?_)
         go_simp;have hb8:IJ Y Y (Y.alloc (.cells #[I 0,I 0] 265)):=za2 _ _;have Ykc8:=J (bkN Y #[I 0,I 0] 265);have zl8:Y.heap.size+1≤(Y.alloc (.cells #[I 0,I 0] 265)).heap.size:=by simp
         have YB8:=btr YB hb8;refine hK.out _ _ YB8.out ?_;clear hK K
         (try simp only[Act.put,IQ,IZ,OI])
         have bs8:Y.heap.size≤(Y.alloc (.cells #[I 0,I 0] 265)).heap.size:=hb8.size;clear hb8;generalize (Y.alloc (.cells #[I 0,I 0] 265))=Y8 at *;refine zaf ?_;refine zae rfl (fun K hK=>?_);go_simp;refine ((fun W _=>T2.out W) _ YB8.out).mono ?_;rintro e Y9 ⟨rfl,hb9⟩;have YB9:=btr YB8 hb9;refine hK.out _ _ YB9.out ?_;clear hK K
         (try simp only[Act.put,IQ,IZ,OI])
         have bs9:Y8.heap.size≤Y9.heap.size:=hb9.size;have Ykc9:=J (bkB Ykc8.out hb9 (by first|exact Nat.le_refl _|omega|(simp;done)|(simp<;>omega)));clear hb9;refine zaf ?_;refine zae rfl (fun K hK=>?_);go_simp;refine ((fun W _=>T3.out W) _ YB9.out).mono ?_;rintro e Y10 ⟨rfl,hb10⟩;have YB10:=btr YB9 hb10;refine hK.out _ _ YB10.out ?_;clear hK K
         (try simp only[Act.put,IQ,IZ,OI])
         have bs10:Y9.heap.size≤Y10.heap.size:=hb10.size;have Ykc10:=J (bkB Ykc9.out hb10 (by first|exact Nat.le_refl _|omega|(simp;done)|(simp<;>omega)));clear hb10;refine zaf ?_;refine zae rfl (fun K hK=>?_);have g0:=bkC (v:=I 0) Ykc10.out 0 rfl;have g1:=bkC (v:=I 0) Ykc10.out 1 rfl;have fz:=bkF Ykc10.out;have kf_:(((Y10.setCell ⟨Y,0,none⟩ (I n5)).setCell ⟨Y,1,none⟩ (I e5))).heap[Y.heap.size]? = some (.cells #[I n5,I e5] 265 (0,0)):=by
          have h_:=(bkS (bkS Ykc10.out 0 (I n5)) 1 (I e5))
          simpa using h_
         have Ykc11:=J kf_;clear kf_;have YB11:=J ((YB10.out.setCell (p:=⟨Y,0,none⟩) (by show W2.heap.size≤Y.heap.size;have:=YB10.out.size;omega) (I n5)).setCell (p:=⟨Y,1,none⟩) (by show W2.heap.size≤Y.heap.size;have:=YB10.out.size;omega) (I e5));have bs11:Y10.heap.size≤(((Y10.setCell ⟨Y,0,none⟩ (I n5)).setCell ⟨Y,1,none⟩ (I e5))).heap.size:=by simp only[zac];omega
         go_simp;refine hK.out _ _ YB11.out ?_;clear hK K fz g0 g1
         (try simp only[Act.put,IQ,IZ,OI])
         generalize ((Y10.setCell ⟨Y,0,none⟩ (I n5)).setCell ⟨Y,1,none⟩ (I e5))=Y11 at *;refine zak ?_;simp only[List.drop_succ_cons,List.drop_zero];go_wp2_with fail;go_meet;exact⟨_,rfl,Ykc11.out,O,O,YB11.out⟩
       case rest =>
        obtain⟨h,rfl,kh,hlo,hhi,hbw⟩:=hcut;generalize wc=W3 at *;have HB3:=btr HB2 hbw;have K3:=J kh;have t0:=bkC (v:=I n5) K3.out 0 rfl;have t1:=bkC (v:=I e5) K3.out 1 rfl;have zh:w.heap.size≤h:=by have:=HB2.out.size;omega
        clear kh hbw HD BS;go_upto_region 19 with (go_at_call 238;with_reducible refine (T4.out _).mono ?_;rintro e v2 ⟨rfl,hb4⟩;clear t0 t1;have k4:=bkB K3.out hb4 hhi;have t0:=bkC (v:=I n5) k4 0 rfl;have t1:=bkC (v:=I e5) k4 1 rfl;have fz:=bkF k4);have zv2:=hb4.size;have hbv2:=HB3.out.trans (hb4.mono HB3.out.size);refine wp_cut (fun W=>IJ w w W∧h<W.heap.size∧W.cell? ⟨h,0,none⟩=some (I NX)∧W.cell? ⟨h,1,none⟩=some (I DX)) ⟨(hbv2.setCell (p:=⟨h,0,none⟩) zh _).setCell (p:=⟨h,1,none⟩) zh _,by simp only[zac];omega,bkC (bkS (bkS k4 0 (I NX)) 1 (I DX)) 0 (by simp),bkC (bkS (bkS k4 0 (I NX)) 1 (I DX)) 1 (by simp)⟩ ?_;clear t0 t1 fz k4 hb4 hbv2 K3;rintro W5 ⟨hb5,z5,t0,t1⟩;have HB5:=J hb5;clear hb5;have o0:=zal (w0:=W5) (show h<W5.heap.size from z5);refine zad W5.heap.size W5 (Below.refl _ _) OJ OJ ?_
        repeat (go_big_quiet_step (fail))
        refine wpQuiet_nil ?_;rintro _ ⟨Y,rfl⟩;have HB6:=J (HB5.out.trans ((zaa W5.heap.size W5 Y).mono HB5.out.size));clear o0 t0 t1;generalize over W5.heap.size W5 Y=W6 at *;go_wp2;go_roundw
        case rel=>exact⟨q+1,O,by rw[HS2.out],by rw[HS1.out],by go_num,HB6.out⟩
        case measure=>simp[intOf];omega
      ·obtain rfl:q=4:=O
       go_wp2;go_ret;exact⟨by rw[HE.out];rfl,hb⟩
end Go.Proofs.YtgmapjgodibchaaGreatDoor
