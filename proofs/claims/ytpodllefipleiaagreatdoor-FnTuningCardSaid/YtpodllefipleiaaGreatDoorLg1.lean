/- Contracts: logarithms of the reference. Conditions: bounded numbers. -/
import Derived.Test.YtpodllefipleiaaGreatDoorLv1
import Derived.Test.YtpodllefipleiaaGreatDoorMk
import Derived.Lib.MinMax
set_option linter.unusedVariables false
set_option linter.unusedSimpArgs false
namespace Go.Proofs.YtpodllefipleiaaGreatDoor
open Go.RowKit
set_option maxHeartbeats 16000000
set_option maxRecDepth 100000
theorem nrm_up {u R k:Nat} (h:u<10 ^ (R+1)) (hk:R+k≤8):u*10 ^ k<1000000000:=by
 have a:=(Nat.mul_lt_mul_right (show 0<10 ^ k from Nat.pow_pos (by omega))).2 h;rw[← Nat.pow_add] at a;have b:=Nat.pow_le_pow_right (show 0<10 by omega) (show R+1+k≤9 by omega);omega
theorem pow_up (u k:Nat):u*10 ^ (k+1)=u*10 ^ k*10:=by rw[Nat.pow_succ,Nat.mul_assoc]
theorem div_up (u k:Nat):u / 10 ^ (k+1)=u / 10 ^ k / 10:=by rw[Nat.pow_succ,Nat.div_div_eq_div_mul]
theorem div_ge {u R k:Nat} (h:10 ^ R≤u) (hk:k<R):10≤u / 10 ^ k:=by
 have b:=Nat.pow_le_pow_right (show 0<10 by omega) (show k+1≤R by omega);rw[Nat.pow_succ] at b;exact (Nat.le_div_iff_mul_le (Nat.pow_pos (by omega))).2 (by rw[Nat.mul_comm];omega)
theorem div_lt10 {u R:Nat} (h:u<10 ^ (R+1)):u / 10 ^ R<10:=by
 rw[Nat.pow_succ] at h;exact Nat.div_lt_of_lt_mul h
theorem nrm_eq (u R:Nat):nrm u R=((u*10 ^ (8-R) / 10 ^ (R-8):Nat):Int):=by
 unfold nrm
 split
 ·rename_i h;rw[show R-8=0 by omega,Nat.pow_zero,Nat.div_one]
 ·rename_i h;rw[show 8-R=0 by omega,Nat.pow_zero,Nat.mul_one]
theorem zbf (a b:Int) (ha:Sc a) (hb:Sc b) (w:World) :
  Calls Tryz.prog 110 #[.int .i64 a,.int .i64 b] w fun e w'=>e=.returned (.tuple #[.int .i64 (tms a b),.int .i64 (tmx a b)])∧Below w.heap.size w w':=by
 obtain⟨m0,m1⟩:=sc_mul ha hb;have HT:Hid (tms a b=if 1000000000≤a*b / 100000000 then a*b / 100000000 / 10 else a*b / 100000000):=rfl;have HX:Hid (tmx a b=if 1000000000≤a*b / 100000000 then 1 else 0):=rfl;have p0:0≤a*b:=by omega
 have q0:0≤a*b / 100000000:=by omega
 by_cases hc:1000000000≤a*b / 100000000
 ·have HT2:Hid (tms a b=a*b / 100000000 / 10):=by show _=_;rw[HT.out,if_pos hc]
  have HX2:Hid (tmx a b=1):=by show _=_;rw[HX.out,if_pos hc]
  clear HT HX;generalize tms a b=T at *;generalize tmx a b=U at *;generalize hp:a*b=p at *;go_enter Tryz.func110,Tryz.ntmps110;go_wp2;go_ret2;exact⟨by rw[HT2.out,HX2.out];rfl,Below.refl _ _⟩
 ·have HT2:Hid (tms a b=a*b / 100000000):=by show _=_;rw[HT.out,if_neg hc]
  have HX2:Hid (tmx a b=0):=by show _=_;rw[HX.out,if_neg hc]
  clear HT HX;generalize tms a b=T at *;generalize tmx a b=U at *;generalize hp:a*b=p at *;go_enter Tryz.func110,Tryz.ntmps110;go_wp2;go_ret2;exact⟨by rw[HT2.out,HX2.out];rfl,Below.refl _ _⟩
theorem l02Tenth_any (x:Int) (hx:Sc x) (w:World) :
  Calls Tryz.prog 92 #[.int .i64 x] w fun e w'=>e=.returned (.tuple #[.int .i64 (tenN x),.int .i64 (tenX x)])∧Below w.heap.size w w':=by
 have B0:Hid (Below w.heap.size w w):=Below.refl _ _;have HB:Hid (Below w.heap.size w w):=Below.refl _ _;have HN:Hid (tenN x=tms (tms (tms (tms x x) (tms x x)) x) (tms (tms (tms x x) (tms x x)) x)):=rfl;have HX:Hid (tenX x=2*(2*tmx x x+tmx (tms x x) (tms x x)+tmx (tms (tms x x) (tms x x)) x)+tmx (tms (tms (tms x x) (tms x x)) x) (tms (tms (tms x x) (tms x x)) x)):=rfl;have s2:=tms_sc hx hx;have s4:=tms_sc s2 s2;have s5:=tms_sc s4 hx;have b1:=tmx_bd x x;have b2:=tmx_bd (tms x x) (tms x x);have b3:=tmx_bd (tms (tms x x) (tms x x)) x;have b4:=tmx_bd (tms (tms (tms x x) (tms x x)) x) (tms (tms (tms x x) (tms x x)) x);have C0:Hid (∀ W:World,Below w.heap.size w W→Calls Tryz.prog 110 #[.int .i64 x,.int .i64 x] W fun e w'=>e=.returned (.tuple #[.int .i64 (tms x x),.int .i64 (tmx x x)])∧Below W.heap.size W w'):=fun  W hW=>zbf _ _ hx hx W
 have C1:Hid (∀ W:World,Below w.heap.size w W→Calls Tryz.prog 110 #[.int .i64 (tms x x),.int .i64 (tms x x)] W fun e w'=>e=.returned (.tuple #[.int .i64 (tms (tms x x) (tms x x)),.int .i64 (tmx (tms x x) (tms x x))])∧Below W.heap.size W w'):=fun  W hW=>zbf _ _ s2 s2 W
 have C2:Hid (∀ W:World,Below w.heap.size w W→Calls Tryz.prog 110 #[.int .i64 (tms (tms x x) (tms x x)),.int .i64 x] W fun e w'=>e=.returned (.tuple #[.int .i64 (tms (tms (tms x x) (tms x x)) x),.int .i64 (tmx (tms (tms x x) (tms x x)) x)])∧Below W.heap.size W w'):=fun  W hW=>zbf _ _ s4 hx W
 have C3:Hid (∀ W:World,Below w.heap.size w W→Calls Tryz.prog 110 #[.int .i64 (tms (tms (tms x x) (tms x x)) x),.int .i64 (tms (tms (tms x x) (tms x x)) x)] W fun e w'=>e=.returned (.tuple #[.int .i64 (tms (tms (tms (tms x x) (tms x x)) x) (tms (tms (tms x x) (tms x x)) x)),.int .i64 (tmx (tms (tms (tms x x) (tms x x)) x) (tms (tms (tms x x) (tms x x)) x))])∧Below W.heap.size W w'):=fun  W hW=>zbf _ _ s5 s5 W
 generalize tms x x=two at *;generalize tmx x x=ea at *;generalize tms two two=four at *;generalize tmx two two=eb at *;generalize tms four x=five at *;generalize tmx four x=ec at *;generalize tms five five=ten at *;generalize tmx five five=ed at *;clear s2 s4 s5 hx;go_enter Tryz.func92,Tryz.ntmps92;skip;go_wp2_with (first|(go_at_call 110;with_reducible refine (C0.out _ HB.out).mono ?_;rintro e v1 ⟨rfl,hb_⟩;replace HB:=Lib.hid (HB.out.trans (hb_.mono HB.out.size));clear hb_;skip)|(go_at_call 110;with_reducible refine (C1.out _ HB.out).mono ?_;rintro e v1 ⟨rfl,hb_⟩;replace HB:=Lib.hid (HB.out.trans (hb_.mono HB.out.size));clear hb_;skip)|(go_at_call 110;with_reducible refine (C2.out _ HB.out).mono ?_;rintro e v1 ⟨rfl,hb_⟩;replace HB:=Lib.hid (HB.out.trans (hb_.mono HB.out.size));clear hb_;skip)|(go_at_call 110;with_reducible refine (C3.out _ HB.out).mono ?_;rintro e v1 ⟨rfl,hb_⟩;replace HB:=Lib.hid (HB.out.trans (hb_.mono HB.out.size));clear hb_;skip));go_ret2;exact⟨by rw[HN.out,HX.out];rfl,B0.out.trans (HB.out.mono B0.out.size)⟩
theorem l02Log_any (n:Int) (h1:1≤n) (h2:n≤9223372036854775807) (w:World) :
  Calls Tryz.prog 65 #[.int .i64 n] w fun e w'=>e=.returned (.int .i64 (lgB n))∧Below w.heap.size w w':=by
 have HE:Hid (lgB n=(zaq 4 (nrm n.toNat (ndg n)) (ndg n)).2):=rfl;obtain⟨q1,q2⟩:=ndg_spec h1;have q3:=ndg_le h1 h2;have hsc:=nrm_sc h1;generalize lgB n=LG at *;generalize ndg n=R at *;obtain⟨u,rfl⟩:∃ u:Nat,n=(u:Int):=⟨n.toNat,by omega⟩
 rw[Int.toNat_natCast] at *;rw[nrm_eq] at HE hsc;have HQ1:=Lib.hid q1;have HQ2:=Lib.hid q2;have HSC:=Lib.hid hsc;clear q1 q2 hsc;have u1:(1:Int)≤(u:Int):=h1;have u2:(u:Int)≤9223372036854775807:=h2;go_enter Tryz.func65,Tryz.ntmps65;go_wp2
 go_loop [3,4] (fun r m=>∃ k:Nat,k≤R∧r=.int .i64 (k:Int)∧m=.int .i64 ((u / 10 ^ k:Nat):Int)) (fun r m=>R-(intOf r).toNat)
 case atStart=>exact⟨0,Nat.zero_le _,rfl,by simp⟩
 case round =>
  obtain⟨k,hk,rfl,rfl⟩:=hrel;have ki:(k:Int)≤18:=by omega
  have dv:=div_up u k;have dl:u / 10 ^ k≤u:=Nat.div_le_self _ _
  by_cases hlt:k<R
  ·have hge:=div_ge HQ1.out hlt
   generalize u / 10 ^ k=y at *;have y1:(10:Int)≤(y:Int):=by omega
   have y2:(y:Int)≤9223372036854775807:=by omega
   go_wp2
   go_round
   case rel=>exact⟨k+1,by omega,by go_num,by rw[dv];go_num⟩
   case measure=>simp[intOf];omega
  ·obtain rfl:k=R:=by omega
   have hle:=div_lt10 HQ2.out;generalize u / 10 ^ k=y at *;have y1:¬ (10:Int)≤(y:Int):=by omega
   go_wp2
   go_loop [5,6] (fun x i=>∃ j:Nat,j≤8-k∧x=.int .i64 ((u*10 ^ j:Nat):Int)∧i=.int .i64 ((k:Int)+(j:Int))) (fun x i=>8-(intOf i).toNat)
   case atStart=>exact⟨0,Nat.zero_le _,by simp,by simp⟩
   case round =>
    obtain⟨j,hj,rfl,rfl⟩:=hrel;have ji:(j:Int)≤8:=by omega
    by_cases hlt2:k+j<8
    ·have hup:=nrm_up HQ2.out (show k+(j+1)≤8 by omega)
     have pu:=pow_up u j;rw[pu] at hup;generalize u*10 ^ j=y2 at *;have z1:(y2:Int)*10≤1000000000:=by omega
     go_wp2
     go_round
     case rel=>exact⟨j+1,by omega,by rw[pu];go_num,by go_num⟩
     case measure=>simp[intOf];omega
    ·obtain rfl:j=8-k:=by omega
     have hx0:(u*10 ^ (8-k):Nat)≤9223372036854775807:=by
      by_cases h8:k≤8
      ·have:=nrm_up HQ2.out (show k+(8-k)≤8 by omega);omega
      ·rw[show 8-k=0 by omega];simp<;>omega
     have HP:Hid ((u*10 ^ (8-k):Nat)≤9223372036854775807):=hx0;generalize u*10 ^ (8-k)=y3 at *;go_wp2
     go_loop [5,7] (fun x i=>∃ j:Nat,j≤k-8∧x=.int .i64 ((y3 / 10 ^ j:Nat):Int)∧i=.int .i64 ((k:Int)-(j:Int))) (fun x i=>(intOf i).toNat)
     case atStart=>exact⟨0,Nat.zero_le _,by simp,by simp⟩
     case round =>
      obtain⟨j,hj,rfl,rfl⟩:=hrel;have ji:(j:Int)≤18:=by omega
      have dv3:=div_up y3 j;have dl3:y3 / 10 ^ j≤y3:=Nat.div_le_self _ _
      by_cases hlt3:8+j<k
      ·generalize y3 / 10 ^ j=y4 at *
       have z1:(y4:Int)≤9223372036854775807:=by omega
       go_wp2
       go_round
       case rel=>exact⟨j+1,by omega,by rw[dv3];go_num,by go_num⟩
       case measure=>simp[intOf];omega
      ·obtain rfl:j=k-8:=by omega
       generalize y3 / 10 ^ (k-8)=y4 at *;have ec:((k:Int)-((k-8:Nat):Int))≤8:=by omega
       go_wp2;go_loopw [3,5,8] (fun r x i wr=>∃ q:Nat,q≤4∧r=.int .i64 (zaq q (y4:Int) (k:Int)).2∧x=.int .i64 (zaq q (y4:Int) (k:Int)).1∧i=.int .i64 (q:Int)∧Below w.heap.size w wr) (fun r x i wr=>4-(intOf i).toNat)
       case atStart=>exact⟨0,Nat.zero_le _,rfl,rfl,rfl,Below.refl _ _⟩
       case round =>
        obtain⟨q,hq,rfl,rfl,rfl,hb⟩:=hrel;have hs:=logIt_sc (r:=(k:Int)) HSC.out q;have hbd:=logIt_bd (x:=(y4:Int)) (r:=(k:Int)) 18 (by omega) (by omega) q;have HS1:Hid ((zaq (q+1) (y4:Int) (k:Int)).1=tenN (zaq q (y4:Int) (k:Int)).1):=rfl;have HS2:Hid ((zaq (q+1) (y4:Int) (k:Int)).2=10*(zaq q (y4:Int) (k:Int)).2+tenX (zaq q (y4:Int) (k:Int)).1):=rfl
        by_cases hlt4:q<4
        ·have hpw:((19:Int)*10 ^ q)≤19000:=by
          have:q=0∨q=1∨q=2∨q=3:=by omega
          rcases this with rfl|rfl|rfl|rfl<;>decide
         have r0:=hbd.1;have r1:(zaq q (y4:Int) (k:Int)).2<19000:=by have:=hbd.2;simp at this;omega
         generalize (zaq q (y4:Int) (k:Int)).1=X at *;generalize (zaq q (y4:Int) (k:Int)).2=RR at *;have hx9:=tenX_bd X;have CT:=Lib.hid (fun W=>l02Tenth_any X hs W);have HB:=Lib.hid hb;clear hb hs hbd;generalize tenX X=DX at *;generalize tenN X=NX at *;obtain⟨d0,d1⟩:=hx9;go_wp2_with (go_at_call 92;with_reducible refine (CT.out _).mono ?_;rintro e v1 ⟨rfl,hb1⟩;replace HB:=Lib.hid (HB.out.trans (hb1.mono HB.out.size));clear hb1);go_roundw
         case rel=>exact⟨q+1,by omega,by rw[HS2.out],by rw[HS1.out],by go_num,HB.out⟩
         case measure=>simp[intOf];omega
        ·obtain rfl:q=4:=by omega
         go_wp2;go_ret;exact⟨by rw[HE.out];rfl,hb⟩
end Go.Proofs.YtpodllefipleiaaGreatDoor
