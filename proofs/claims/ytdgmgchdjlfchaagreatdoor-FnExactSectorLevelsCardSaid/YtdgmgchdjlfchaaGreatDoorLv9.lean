/- Contracts: losses in free space, by gases, by clutter, for the program and for the reference. Conditions: bounded numbers; the tables hold what they hold at the start. -/
import Derived.Test.YtdgmgchdjlfchaaGreatDoorLv3
import Derived.Test.YtdgmgchdjlfchaaGreatDoorLv6
set_option linter.unusedVariables false
set_option linter.unusedSimpArgs false
namespace Go.Proofs.YtdgmgchdjlfchaaGreatDoor
open Go.RowKit
set_option maxHeartbeats 16000000
set_option maxRecDepth 100000
theorem iFree_any (f d:Int) (f0:1≤f) (f1:f≤100000000) (d0:1≤d) (d1:d≤283000) (w:World) (L:LibW w) :
  Calls Tryz.prog 153 #[.int .i64 f,.int .i64 d] w fun e w'=>e=.returned (.int .i64 (zel f d))∧Below w.heap.size w w':=by
 have HE:Hid (zel f d=max (2*lgI d+2*lgI f-87552) 0):=rfl;obtain⟨a0,a1⟩:=lgI_bd (n:=f) (by omega);obtain⟨b0,b1⟩:=lgI_bd (n:=d) (by omega);generalize zel f d=FV at *;have B0:Hid (Below w.heap.size w w):=Below.refl _ _;have HB:Hid (Below w.heap.size w w):=Below.refl _ _;have CD:Hid (∀ W:World,Below w.heap.size w W→Calls Tryz.prog 201 #[.int .i64 d] W fun e w'=>e=.returned (.int .i64 (lgI d))∧Below W.heap.size W w'):=fun  W hW=>iLogDb_any d (by omega) (by omega) W (L.mono (B0.out.trans hW))
 have CF:Hid (∀ W:World,Below w.heap.size w W→Calls Tryz.prog 201 #[.int .i64 f] W fun e w'=>e=.returned (.int .i64 (lgI f))∧Below W.heap.size W w'):=fun  W hW=>iLogDb_any f (by omega) (by omega) W (L.mono (B0.out.trans hW))
 generalize lgI d=ld at *;generalize lgI f=lf at *;go_enter Tryz.func153,Tryz.ntmps153;skip;go_wp2_with ((first|(go_at_call 201;with_reducible refine (CD.out _ HB.out).mono ?_)|(go_at_call 201;with_reducible refine (CF.out _ HB.out).mono ?_));rintro e v1 ⟨rfl,hb_⟩;replace HB:=btr HB hb_;clear hb_;skip);go_ret;exact⟨by rw[HE.out];rfl,B0.out.trans (HB.out.mono B0.out.size)⟩
theorem l09Loss_any (f d:Int) (f0:1≤f) (f1:f≤100000000) (d0:1≤d) (d1:d≤283000) (w:World) :
  Calls Tryz.prog 135 #[.int .i64 f,.int .i64 d] w fun e w'=>e=.returned (.int .i64 (zel f d))∧Below w.heap.size w w':=by
 have HE:Hid (zel f d=max (2*lgI d+2*lgI f-87552) 0):=rfl;obtain⟨a0,a1⟩:=lgI_bd (n:=f) (by omega);obtain⟨b0,b1⟩:=lgI_bd (n:=d) (by omega);generalize zel f d=FV at *;have B0:Hid (Below w.heap.size w w):=Below.refl _ _;have HB:Hid (Below w.heap.size w w):=Below.refl _ _;have CD:Hid (∀ W:World,Below w.heap.size w W→Calls Tryz.prog 173 #[.int .i64 d] W fun e w'=>e=.returned (.int .i64 (lgI d))∧Below W.heap.size W w'):=fun  W hW=>by
   have hh:=l02Log_any d (by omega) (by omega) W;unfold lgI;rw[if_neg (by omega)];exact hh
 have CF:Hid (∀ W:World,Below w.heap.size w W→Calls Tryz.prog 173 #[.int .i64 f] W fun e w'=>e=.returned (.int .i64 (lgI f))∧Below W.heap.size W w'):=fun  W hW=>by
   have hh:=l02Log_any f (by omega) (by omega) W;unfold lgI;rw[if_neg (by omega)];exact hh
 generalize lgI d=ld at *;generalize lgI f=lf at *;rw[Int.max_comm] at HE;have CM:Hid (∀ W:World,Below w.heap.size w W→Calls Tryz.prog 115 #[.int .i64 0,.int .i64 (2*ld+2*lf-87552)] W fun e w'=>e=.returned (.int .i64 (max 0 (2*ld+2*lf-87552)))∧Below W.heap.size W w'):=fun  W hW=>zam (ze0 _ _ W)
 go_enter Tryz.func135,Tryz.ntmps135;skip;go_wp2_with ((first|(go_at_call 173;with_reducible refine (CD.out _ HB.out).mono ?_)|(go_at_call 173;with_reducible refine (CF.out _ HB.out).mono ?_)|(go_at_call 115;with_reducible refine (CM.out _ HB.out).mono ?_));rintro e v1 ⟨rfl,hb_⟩;replace HB:=btr HB hb_;clear hb_;skip);go_ret;exact⟨by rw[HE.out];rfl,B0.out.trans (HB.out.mono B0.out.size)⟩
theorem gas_pick {x:Int} {k:Nat} (k0:1≤k) (k1:k≤8) (h0:∀ j,1≤j→j<k→gi gP j<x) (h1:k=8∨x≤gi gP k):gasX x=lineR (gi gP (k-1)) (gi gV (k-1)) (gi gP k) (gi gV k) x:=by
 rw[gasK_uniq k0 k1 h0 h1];rfl
theorem rowsAt_any (b c:Nat) (f:Int) (f0:1≤f) (f1:f≤100000000) (w:World) (hb:b<w.heap.size) (hx:∀ k:Nat,k<9→w.cell? ⟨b,k*2,none⟩=some (.int .i64 (gi gP k))∧w.cell? ⟨b,k*2+1,none⟩=some (.int .i64 (gi gV k))) :
  Calls Tryz.prog 231 #[.slice (some ⟨b,0,none⟩) 9 c,.int .i64 f] w fun e w'=>e=.returned (.int .i64 (gasX (f / 1000)))∧Below w.heap.size w w':=by
 have HX:=Lib.hid hx;clear hx;have x0:0≤f / 1000:=by omega
 have x1:f / 1000≤100000:=by omega
 have HP:Hid (∀ k:Nat,1≤k→k≤8→(∀ j,1≤j→j<k→gi gP j<f / 1000)→(k=8∨f / 1000≤gi gP k)→gasX (f / 1000)=lineR (gi gP (k-1)) (gi gV (k-1)) (gi gP k) (gi gV k) (f / 1000)):=fun k k0 k1 h0 h1=>gas_pick k0 k1 h0 h1
 generalize gasX (f / 1000)=GX at *;generalize hfx:f / 1000=x at *;have B0:Hid (Below w.heap.size w w):=Below.refl _ _;have HB:Hid (Below w.heap.size w w):=Below.refl _ _;go_enter Tryz.func231,Tryz.ntmps231;skip;go_wp2
 go_loop [6] (fun ki=>∃ k:Nat,1≤k∧k≤8∧ki=.int .i64 (k:Int)∧∀ j,1≤j→j<k→gi gP j<x) (fun ki=>9-(intOf ki).toNat)
 case atStart=>exact⟨1,Nat.le_refl _,by omega,rfl,fun j h0 h1=>by omega⟩
 case round =>
  obtain⟨k,hk0,hk1,rfl,hall⟩:=hrel;have HALL:=Lib.hid hall;clear hall;have i0:(0:Int)≤(k:Int):=by omega
  have i1:(k:Int)<9:=by omega
  have i2:(k:Int)≤8:=by omega
  have i3:(1:Int)≤(k:Int):=by omega
  have hka:=(HX.out k (by omega)).1;have hkv:=(HX.out k (by omega)).2
  by_cases h8:k<8
  ·have h8i:(k:Int)<8:=by omega
   by_cases hc:gi gP k<x
   ·go_wp2
    go_round
    case rel=>exact⟨k+1,by omega,by omega,by go_num,fun j h0 h1=>by
     by_cases hj:j=k
     ·subst hj;exact hc
     ·exact HALL.out j h0 (by omega)⟩
    case measure=>simp[intOf];omega
   ·have hcd:decide (gi gP k<x)=false:=decide_eq_false hc
    have hpk:=HP.out k hk0 hk1 HALL.out (by omega);obtain⟨q,eq_⟩:=Int.eq_ofNat_of_zero_le (show 0≤(k:Int)-1 by omega);have hqn:k-1=q:=by omega
    rw[hqn] at hpk;have hqa:=(HX.out q (by omega)).1;have hqv:=(HX.out q (by omega)).2;have j0:(0:Int)≤(q:Int):=by omega
    have j1:(q:Int)<9:=by omega
    have HPK:=Lib.hid hpk;have CB:Hid (∀ W:World,Below w.heap.size w W→Calls Tryz.prog 248 #[.int .i64 (gi gP q),.int .i64 (gi gV q),.int .i64 (gi gP k),.int .i64 (gi gV k),.int .i64 x] W fun e w'=>e=.returned (.int .i64 GX)∧Below W.heap.size W w'):=fun W hW=>by
     rw[HPK.out];exact blend_any _ _ _ _ _ (gP_bd _) (gV_bd _) (gP_bd _) (gV_bd _) W
    clear hpk HPK HP HALL HX;go_upto_region 5 with (fail);have o0:=zan (w0:=w) (show b<w.heap.size from hb);refine zae w.heap.size w (Below.refl _ _) (by kernel_rfl) (by kernel_rfl) ?_
    repeat (go_big_quiet_step (first|(go_at_call 248;with_reducible exact zai (Nat.le_refl _) (CB.out _ (HB.out.trans ((zaa _ _ _).mono HB.out.size))))))
    refine wpQuiet_nil ?_;rintro _ ⟨Y,rfl⟩;have HB2:=Lib.hid (zaa w.heap.size w Y);clear o0;generalize over w.heap.size w Y=u9 at *;go_wp2;go_ret;exact⟨rfl,HB2.out⟩
  ·have h8i:(8:Int)≤(k:Int):=by omega
   have hpk:=HP.out k hk0 hk1 HALL.out (Or.inl (by omega));obtain⟨q,eq_⟩:=Int.eq_ofNat_of_zero_le (show 0≤(k:Int)-1 by omega);have hqn:k-1=q:=by omega
   rw[hqn] at hpk;have hqa:=(HX.out q (by omega)).1;have hqv:=(HX.out q (by omega)).2;have j0:(0:Int)≤(q:Int):=by omega
   have j1:(q:Int)<9:=by omega
   have HPK:=Lib.hid hpk;have CB:Hid (∀ W:World,Below w.heap.size w W→Calls Tryz.prog 248 #[.int .i64 (gi gP q),.int .i64 (gi gV q),.int .i64 (gi gP k),.int .i64 (gi gV k),.int .i64 x] W fun e w'=>e=.returned (.int .i64 GX)∧Below W.heap.size W w'):=fun W hW=>by
    rw[HPK.out];exact blend_any _ _ _ _ _ (gP_bd _) (gV_bd _) (gP_bd _) (gV_bd _) W
   clear hpk HPK HP HALL HX;go_upto_region 5 with (fail);have o0:=zan (w0:=w) (show b<w.heap.size from hb);refine zae w.heap.size w (Below.refl _ _) (by kernel_rfl) (by kernel_rfl) ?_
   repeat (go_big_quiet_step (first|(go_at_call 248;with_reducible exact zai (Nat.le_refl _) (CB.out _ (HB.out.trans ((zaa _ _ _).mono HB.out.size))))))
   refine wpQuiet_nil ?_;rintro _ ⟨Y,rfl⟩;have HB2:=Lib.hid (zaa w.heap.size w Y);clear o0;generalize over w.heap.size w Y=u9 at *;go_wp2;go_ret;exact⟨rfl,HB2.out⟩
theorem gasSpec_any (f:Int) (f0:1≤f) (f1:f≤100000000) (w:World) :
  Calls Tryz.prog 203 #[.int .i64 f] w fun e w'=>e=.returned (.int .i64 (gasX (f / 1000)))∧Below w.heap.size w w':=by
 go_enter Tryz.func203,Tryz.ntmps203;go_wp2_with (go_at_call 231;with_reducible refine (rowsAt_any w.heap.size 9 f f0 f1 _ (by simp) ?_).mono ?_)
 ·intro k hk
  have hk2:k=0∨k=1∨k=2∨k=3∨k=4∨k=5∨k=6∨k=7∨k=8:=by omega
  rcases hk2 with rfl|rfl|rfl|rfl|rfl|rfl|rfl|rfl|rfl<;>exact⟨bkC (bkN w _ _) _ rfl,bkC (bkN w _ _) _ rfl⟩
 rintro e v1 ⟨rfl,hb1⟩;go_wp2;go_ret;exact⟨rfl,(za3 w _).trans (hb1.mono (by simp))⟩
theorem iGas_any (f d:Int) (f0:1≤f) (f1:f≤100000000) (d0:1≤d) (d1:d≤283000) (w:World) :
  Calls Tryz.prog 154 #[.int .i64 f,.int .i64 d] w fun e w'=>e=.returned (.int .i64 (gasI f d))∧Below w.heap.size w w':=by
 obtain⟨g0,g1⟩:=gas_in (f:=f) (d:=d) (by omega) d1;have HE:Hid (gasI f d=rdiv (gasX (f / 1000)*d) 1000):=rfl;obtain⟨q0,q1⟩:=gasX_bd (f / 1000);generalize gasI f d=GV at *;have B0:Hid (Below w.heap.size w w):=Below.refl _ _;have HB:Hid (Below w.heap.size w w):=Below.refl _ _;have CS:Hid (∀ W:World,Below w.heap.size w W→Calls Tryz.prog 203 #[.int .i64 f] W fun e w'=>e=.returned (.int .i64 (gasX (f / 1000)))∧Below W.heap.size W w'):=fun  W hW=>gasSpec_any f f0 f1 W
 have CD:Hid (∀ W:World,Below w.heap.size w W→Calls Tryz.prog 202 #[.int .i64 (gasX (f / 1000)*d),.int .i64 1000] W fun e w'=>e=.returned (.int .i64 (rdiv (gasX (f / 1000)*d) 1000))∧Below W.heap.size W w'):=fun  W hW=>zbs _ _ (by omega) (by omega) (by omega) (by omega) W
 generalize gasX (f / 1000)=GX at *;go_enter Tryz.func154,Tryz.ntmps154;skip;go_wp2_with ((first|(go_at_call 203;with_reducible refine (CS.out _ HB.out).mono ?_)|(go_at_call 202;with_reducible refine (CD.out _ HB.out).mono ?_));rintro e v1 ⟨rfl,hb_⟩;replace HB:=btr HB hb_;clear hb_;skip);go_ret;exact⟨by rw[HE.out];rfl,B0.out.trans (HB.out.mono B0.out.size)⟩
theorem l09Distance_any (n:Int) (w:World):Calls Tryz.prog 177 #[.int .i64 n] w fun e w'=>e=.returned (.bool (inB n 1 283000))∧w=w':=by
 go_enter Tryz.func177,Tryz.ntmps177;go_wp2_with (go_at_call 77;refine (zar _ _ _ _).mono ?_;rintro e w1 ⟨rfl,rfl⟩);go_ret;exact⟨rfl,rfl⟩
theorem l09Freq_any (n:Int) (w:World):Calls Tryz.prog 119 #[.int .i64 n] w fun e w'=>e=.returned (.bool (inB n 1 100000000))∧w=w':=by
 go_enter Tryz.func119,Tryz.ntmps119;go_wp2_with (go_at_call 77;refine (zar _ _ _ _).mono ?_;rintro e w1 ⟨rfl,rfl⟩);go_ret;exact⟨rfl,rfl⟩
theorem l11Table_any (b c:Nat) (f:Int) (f0:1≤f) (f1:f≤100000000) (w:World) (hx:∀ k:Nat,k<9→w.cell? ⟨b,k,none⟩=some (.int .i64 (gi gP k))∧w.cell? ⟨c,k,none⟩=some (.int .i64 (gi gV k))) :
  Calls Tryz.prog 219 #[.int .i64 (f / 1000),.slice (some ⟨b,0,none⟩) 9 9,.slice (some ⟨c,0,none⟩) 9 9] w fun e w'=>e=.returned (.int .i64 (gasX (f / 1000)))∧Below w.heap.size w w':=by
 have HX:=Lib.hid hx;clear hx;have x0:0≤f / 1000:=by omega
 have x1:f / 1000≤100000:=by omega
 have HP:Hid (∀ k:Nat,1≤k→k≤8→(∀ j,1≤j→j<k→gi gP j<f / 1000)→(k=8∨f / 1000≤gi gP k)→gasX (f / 1000)=lineR (gi gP (k-1)) (gi gV (k-1)) (gi gP k) (gi gV k) (f / 1000)):=fun k k0 k1 h0 h1=>gas_pick k0 k1 h0 h1
 generalize gasX (f / 1000)=GX at *;generalize f / 1000=x at *;have B0:Hid (Below w.heap.size w w):=Below.refl _ _;have HB:Hid (Below w.heap.size w w):=Below.refl _ _;have hp0:gi gP 0=1000:=rfl;have hq0:gi gV 0=5:=rfl;have c00:=(HX.out 0 (by omega)).1;have c01:=(HX.out 0 (by omega)).2;have hbl:b<w.heap.size:=zbh c00;have hcl:c<w.heap.size:=zbh c01;rw[hp0] at c00;rw[hq0] at c01
 by_cases hz:x≤1000
 ·have HE:Hid (GX=5):=by
   show _=_
   rw[HP.out 1 (by omega) (by omega) (fun j h0 h1=>by omega) (Or.inr (by show x≤10000;omega))];show lineR (gi gP 0) (gi gV 0) (gi gP 1) (gi gV 1) x=5
   unfold lineR;rw[if_pos (Or.inl (by show x≤1000;exact hz))];rfl
  clear HP HX hp0 hq0;go_enter Tryz.func219,Tryz.ntmps219;go_wp2;go_ret;exact⟨by rw[HE.out];rfl,Below.refl _ _⟩
 clear hp0 hq0 c00 c01;go_enter Tryz.func219,Tryz.ntmps219;have c00:=(HX.out 0 (by omega)).1;rw[show gi gP 0=1000 from rfl] at c00;go_wp2
 go_loop [8] (fun ki=>∃ k:Nat,1≤k∧k≤9∧ki=.int .i64 (k:Int)∧∀ j,1≤j→j<k→gi gP j<x) (fun ki=>10-(intOf ki).toNat)
 case atStart=>exact⟨1,Nat.le_refl _,by omega,rfl,fun j h0 h1=>by omega⟩
 case round =>
  obtain⟨k,hk0,hk1,rfl,hall⟩:=hrel;have HALL:=Lib.hid hall;clear hall c00;have i0:(0:Int)≤(k:Int):=by omega
  have i3:(1:Int)≤(k:Int):=by omega
  by_cases h9:k<9
  ·have i1:(k:Int)<9:=by omega
   have i2:(k:Int)≤8:=by omega
   have hka:=(HX.out k h9).1;have hkv:=(HX.out k h9).2
   by_cases hc:x≤gi gP k
   ·have hpk:=HP.out k hk0 (by omega) HALL.out (Or.inr hc)
    obtain⟨q,eq_⟩:=Int.eq_ofNat_of_zero_le (show 0≤(k:Int)-1 by omega);have hqn:k-1=q:=by omega
    rw[hqn] at hpk;have hqa:=(HX.out q (by omega)).1;have hqv:=(HX.out q (by omega)).2;have j0:(0:Int)≤(q:Int):=by omega
    have j1:(q:Int)<9:=by omega
    have HPK:=Lib.hid hpk;have CB:Hid (∀ W:World,Below w.heap.size w W→Calls Tryz.prog 239 #[.int .i64 (gi gP q),.int .i64 (gi gV q),.int .i64 (gi gP k),.int .i64 (gi gV k),.int .i64 x] W fun e w'=>e=.returned (.int .i64 GX)∧Below W.heap.size W w'):=fun W hW=>by
     rw[HPK.out];exact l01Line_any _ _ _ _ _ (gP_bd _) (gV_bd _) (gP_bd _) (gV_bd _) W
    clear hpk HPK HP HALL HX;go_upto_region 8 with (fail);have o0:=zan (w0:=w) hbl;have o1:=zan (w0:=w) hcl;refine zae w.heap.size w (Below.refl _ _) (by kernel_rfl) (by kernel_rfl) ?_
    repeat (go_big_quiet_step (first|(go_at_call 239;with_reducible exact zai (Nat.le_refl _) (CB.out _ (HB.out.trans ((zaa _ _ _).mono HB.out.size))))))
    refine wpQuiet_nil ?_;rintro _ ⟨Y,rfl⟩;have HB2:=Lib.hid (zaa w.heap.size w Y);clear o0 o1;generalize over w.heap.size w Y=u9 at *;go_wp2;go_ret;exact⟨rfl,HB2.out⟩
   ·have hcd:decide (x≤gi gP k)=false:=decide_eq_false hc
    go_wp2
    go_round
    case rel=>exact⟨k+1,by omega,by omega,by go_num,fun j h0 h1=>by
     by_cases hj:j=k
     ·subst hj;omega
     ·exact HALL.out j h0 (by omega)⟩
    case measure=>simp[intOf];omega
  ·obtain rfl:k=9:=by omega
   have c8:=(HX.out 8 (by omega)).2;rw[show gi gV 8=480 from rfl] at c8;have h8:=HALL.out 8 (by omega) (by omega);have HE:Hid (GX=480):=by
    show _=_
    have h8b:(100000:Int)<x:=h8;omega
   clear HP HX HALL;go_wp2;go_ret;exact⟨by rw[HE.out];rfl,Below.refl _ _⟩
theorem l11Gas_any (f:Int) (f0:1≤f) (f1:f≤100000000) (w:World) :
  Calls Tryz.prog 179 #[.int .i64 f] w fun e w'=>e=.returned (.int .i64 (gasX (f / 1000)))∧Below w.heap.size w w':=by
 go_enter Tryz.func179,Tryz.ntmps179;go_wp2_with (go_at_call 219;with_reducible refine (l11Table_any w.heap.size (w.heap.size+1) f f0 f1 _ ?_).mono ?_)
 ·intro k hk
  have hk2:k=0∨k=1∨k=2∨k=3∨k=4∨k=5∨k=6∨k=7∨k=8:=by omega
  rcases hk2 with rfl|rfl|rfl|rfl|rfl|rfl|rfl|rfl|rfl<;>exact⟨by simp[go_sem];rfl,by simp[go_sem];rfl⟩
 rintro e v1 ⟨rfl,hb1⟩;go_wp2;go_ret;exact⟨rfl,((za3 w _).trans ((za3 _ _).mono (by simp))).trans (hb1.mono (by simp<;>omega))⟩
theorem sGas_any (f d:Int) (f0:1≤f) (f1:f≤100000000) (d0:1≤d) (d1:d≤283000) (w:World) :
  Calls Tryz.prog 138 #[.int .i64 f,.int .i64 d] w fun e w'=>e=.returned (.tuple #[.int .i64 (gasI f d),.int .i64 0])∧Below w.heap.size w w':=by
 obtain⟨g0,g1⟩:=gas_in (f:=f) (d:=d) (by omega) d1;have HE:Hid (gasI f d=rdiv (gasX (f / 1000)*d) 1000):=rfl;obtain⟨q0,q1⟩:=gasX_bd (f / 1000);generalize gasI f d=GV at *;have B0:Hid (Below w.heap.size w w):=Below.refl _ _;have HB:Hid (Below w.heap.size w w):=Below.refl _ _;have CF:Hid (∀ W:World,Below w.heap.size w W→Calls Tryz.prog 119 #[.int .i64 f] W fun e w'=>e=.returned (.bool true)∧Below W.heap.size W w'):=fun  W hW=>by
   have hh:=l09Freq_any f W;rw[zav.2 ⟨f0,f1⟩] at hh;exact zam hh
 have CI:Hid (∀ W:World,Below w.heap.size w W→Calls Tryz.prog 177 #[.int .i64 d] W fun e w'=>e=.returned (.bool true)∧Below W.heap.size W w'):=fun  W hW=>by
   have hh:=l09Distance_any d W;rw[zav.2 ⟨d0,d1⟩] at hh;exact zam hh
 have CS:Hid (∀ W:World,Below w.heap.size w W→Calls Tryz.prog 179 #[.int .i64 f] W fun e w'=>e=.returned (.int .i64 (gasX (f / 1000)))∧Below W.heap.size W w'):=fun  W hW=>l11Gas_any f f0 f1 W
 have CD:Hid (∀ W:World,Below w.heap.size w W→Calls Tryz.prog 178 #[.int .i64 (gasX (f / 1000)*d),.int .i64 1000] W fun e w'=>e=.returned (.int .i64 (rdiv (gasX (f / 1000)*d) 1000))∧Below W.heap.size W w'):=fun  W hW=>zam (zbm _ _ (by omega) (by omega) (by omega) (by omega) W)
 generalize gasX (f / 1000)=GX at *;go_enter Tryz.func138,Tryz.ntmps138;skip;go_wp2_with ((first|(go_at_call 119;with_reducible refine (CF.out _ HB.out).mono ?_)|(go_at_call 177;with_reducible refine (CI.out _ HB.out).mono ?_)|(go_at_call 179;with_reducible refine (CS.out _ HB.out).mono ?_)|(go_at_call 178;with_reducible refine (CD.out _ HB.out).mono ?_));rintro e v1 ⟨rfl,hb_⟩;replace HB:=btr HB hb_;clear hb_;skip);go_ret2;exact⟨by rw[HE.out];rfl,B0.out.trans (HB.out.mono B0.out.size)⟩
theorem l11High_any (k:Nat) (hk:k<8) (w:World) :
  Calls Tryz.prog 183 #[.int .i64 (k:Int)] w fun e w'=>e=.returned (.int .i64 (gi clH k))∧Below w.heap.size w w':=by
 have k0:(0:Int)≤(k:Int):=by omega
 have k1:(k:Int)<8:=by omega
 have kc:=tab_at clH k hk;generalize hv:gi clH k=hv_ at *;go_enter Tryz.func183,Tryz.ntmps183;go_upto_region 2 with (fail);have cl:(w.alloc (.cells ((clH.map fun n=>Value.int .i64 n).toArray) 2)).cell? ⟨w.heap.size,k,none⟩=some (.int .i64 hv_):=bkC (bkN w _ _) k kc;have zz:w.heap.size<(w.alloc (.cells ((clH.map fun n=>Value.int .i64 n).toArray) 2)).heap.size:=by simp
 have bb:=za3 w (.cells ((clH.map fun n=>Value.int .i64 n).toArray) 2);change Code.wp _ _ _ _ (w.alloc (.cells ((clH.map fun n=>Value.int .i64 n).toArray) 2))
 generalize w.alloc (.cells ((clH.map fun n=>Value.int .i64 n).toArray) 2)=W1 at *;go_wp2;go_ret;exact⟨rfl,bb⟩
def clTh:List Int:=[300000,1000000,3000000,10000000]
def clP (f:Int):Nat→Int
 | 0=>50
 | k+1=>clP f k+if gi clTh k<f then 25 else 0
theorem clP4 (f:Int):clP f 4=clF f:=by
 have e0:gi clTh 0=300000:=rfl;have e1:gi clTh 1=1000000:=rfl;have e2:gi clTh 2=3000000:=rfl;have e3:gi clTh 3=10000000:=rfl;unfold clF;simp only[clP,e0,e1,e2,e3]
 repeat' split
 all_goals omega
theorem clP_bd (f:Int):∀ k:Nat,50≤clP f k∧clP f k≤50+25*(k:Int)
 | 0=>by simp[clP]
 | k+1=>by
  have:=clP_bd f k;simp only[clP]
  split<;>omega
theorem l11Clut_any (k:Nat) (hk:k<8) (f a:Int) (f0:1≤f) (f1:f≤100000000) (a0:0≤a) (w:World) :
  Calls Tryz.prog 140 #[.int .i64 (k:Int),.int .i64 f,.int .i64 a] w fun e w'=>e=.returned (.int .i64 (cluI (k:Int) f a))∧Below w.heap.size w w':=by
 obtain⟨hh0,hh1⟩:=clH_bd k;obtain⟨hl0,hl1⟩:=clL_bd k;have HE0:Hid (cluI (k:Int) f a=if gi clH k≤a then 0 else rdiv (clF f*gi clL k*(gi clH k-a)) (100*gi clH k)):=rfl;have hin:=fun h:¬ gi clH k≤a=>clu_in (c:=(k:Int)) (f:=f) a0 h
 rw[Int.toNat_natCast] at hin;have HIN:=Lib.hid hin;clear hin;have k0:(0:Int)≤(k:Int):=by omega
 have k1:(k:Int)<8:=by omega
 obtain⟨cf0,cf1⟩:=clF_bd f;generalize cluI (k:Int) f a=CV at *;have B0:Hid (Below w.heap.size w w):=Below.refl _ _;have HB:Hid (Below w.heap.size w w):=Below.refl _ _;have CH:Hid (∀ W:World,Below w.heap.size w W→Calls Tryz.prog 183 #[.int .i64 (k:Int)] W fun e w'=>e=.returned (.int .i64 (gi clH k))∧Below W.heap.size W w'):=fun  W hW=>l11High_any k hk W
 have kc:=tab_at clL k hk;generalize gi clH k=hv at *;generalize gi clL k=lv at *
 by_cases hc:hv≤a
 ·have HE:Hid (CV=0):=by show _=_;rw[HE0.out,if_pos hc]
  go_enter Tryz.func140,Tryz.ntmps140;skip;go_wp2_with (first|(go_at_call 183;with_reducible refine (CH.out _ HB.out).mono ?_;rintro e v1 ⟨rfl,hb_⟩;replace HB:=btr HB hb_;clear hb_;skip));go_ret;exact⟨by rw[HE.out];rfl,B0.out.trans (HB.out.mono B0.out.size)⟩
 have HE1:Hid (CV=rdiv (clF f*lv*(hv-a)) (100*hv)):=by show _=_;rw[HE0.out,if_neg hc]
 obtain⟨⟨p0,p1⟩,q0,q1⟩:=HIN.out hc;clear HE0 HIN;go_enter Tryz.func140,Tryz.ntmps140;skip;go_upto_region 5 with (first|(go_at_call 183;with_reducible refine (CH.out _ HB.out).mono ?_;rintro e v1 ⟨rfl,hb_⟩;replace HB:=btr HB hb_;clear hb_;skip));have hL:∀ h_:k<([Value.int .i64 0,Value.int .i64 1000,Value.int .i64 500,Value.int .i64 12000,Value.int .i64 8000,Value.int .i64 10000,Value.int .i64 16000,Value.int .i64 20000]:List Value).length,([Value.int .i64 0,Value.int .i64 1000,Value.int .i64 500,Value.int .i64 12000,Value.int .i64 8000,Value.int .i64 10000,Value.int .i64 16000,Value.int .i64 20000]:List Value)[k]'h_=.int .i64 lv:=fun h_=>by
  have e_:([Value.int .i64 0,Value.int .i64 1000,Value.int .i64 500,Value.int .i64 12000,Value.int .i64 8000,Value.int .i64 10000,Value.int .i64 16000,Value.int .i64 20000]:List Value)[k]? = some (.int .i64 lv):=by
   have h9:=kc;rw[List.getElem?_toArray] at h9;exact h9
  rw[List.getElem?_eq_getElem h_] at e_;exact Option.some.inj e_
 rw[hL];have bq:=Lib.hid (HB.out.trans ((za3 v1 (.cells #[Value.int .i64 0,Value.int .i64 1000,Value.int .i64 500,Value.int .i64 12000,Value.int .i64 8000,Value.int .i64 10000,Value.int .i64 16000,Value.int .i64 20000] 2)).mono HB.out.size));generalize v1.alloc (.cells #[Value.int .i64 0,Value.int .i64 1000,Value.int .i64 500,Value.int .i64 12000,Value.int .i64 8000,Value.int .i64 10000,Value.int .i64 16000,Value.int .i64 20000] 2)=v2 at *;clear HB hL kc CH;have HB:=bq
 by_cases c50:f≤300000
 case pos =>
  have hF:clF f=50:=by unfold clF;rw[if_pos c50]
  rw[hF] at p0 p1 q0 q1 HE1 cf0 cf1;have CD:Hid (∀ W:World,Below w.heap.size w W→Calls Tryz.prog 178 #[.int .i64 (50*lv*(hv-a)),.int .i64 (100*hv)] W fun e w'=>e=.returned (.int .i64 CV)∧Below W.heap.size W w'):=fun  W hW=>zam (by rw[HE1.out];exact zbm _ _ (by omega) (by omega) (by omega) (by omega) W)
  clear hF HE1;go_wp2_with (first|(go_at_call 178;with_reducible refine (CD.out _ HB.out).mono ?_;rintro e v2 ⟨rfl,hb_⟩;replace HB:=btr HB hb_;clear hb_;skip));go_ret;exact⟨rfl,B0.out.trans (HB.out.mono B0.out.size)⟩
 by_cases c75:f≤1000000
 case pos =>
  have hF:clF f=75:=by unfold clF;rw[if_neg c50];rw[if_pos c75]
  rw[hF] at p0 p1 q0 q1 HE1 cf0 cf1;have CD:Hid (∀ W:World,Below w.heap.size w W→Calls Tryz.prog 178 #[.int .i64 (75*lv*(hv-a)),.int .i64 (100*hv)] W fun e w'=>e=.returned (.int .i64 CV)∧Below W.heap.size W w'):=fun  W hW=>zam (by rw[HE1.out];exact zbm _ _ (by omega) (by omega) (by omega) (by omega) W)
  clear hF HE1;go_wp2_with (first|(go_at_call 178;with_reducible refine (CD.out _ HB.out).mono ?_;rintro e v2 ⟨rfl,hb_⟩;replace HB:=btr HB hb_;clear hb_;skip));go_ret;exact⟨rfl,B0.out.trans (HB.out.mono B0.out.size)⟩
 by_cases c100:f≤3000000
 case pos =>
  have hF:clF f=100:=by unfold clF;rw[if_neg c50];rw[if_neg c75];rw[if_pos c100]
  rw[hF] at p0 p1 q0 q1 HE1 cf0 cf1;have CD:Hid (∀ W:World,Below w.heap.size w W→Calls Tryz.prog 178 #[.int .i64 (100*lv*(hv-a)),.int .i64 (100*hv)] W fun e w'=>e=.returned (.int .i64 CV)∧Below W.heap.size W w'):=fun  W hW=>zam (by rw[HE1.out];exact zbm _ _ (by omega) (by omega) (by omega) (by omega) W)
  clear hF HE1;go_wp2_with (first|(go_at_call 178;with_reducible refine (CD.out _ HB.out).mono ?_;rintro e v2 ⟨rfl,hb_⟩;replace HB:=btr HB hb_;clear hb_;skip));go_ret;exact⟨rfl,B0.out.trans (HB.out.mono B0.out.size)⟩
 by_cases c125:f≤10000000
 case pos =>
  have hF:clF f=125:=by unfold clF;rw[if_neg c50];rw[if_neg c75];rw[if_neg c100];rw[if_pos c125]
  rw[hF] at p0 p1 q0 q1 HE1 cf0 cf1;have CD:Hid (∀ W:World,Below w.heap.size w W→Calls Tryz.prog 178 #[.int .i64 (125*lv*(hv-a)),.int .i64 (100*hv)] W fun e w'=>e=.returned (.int .i64 CV)∧Below W.heap.size W w'):=fun  W hW=>zam (by rw[HE1.out];exact zbm _ _ (by omega) (by omega) (by omega) (by omega) W)
  clear hF HE1;go_wp2_with (first|(go_at_call 178;with_reducible refine (CD.out _ HB.out).mono ?_;rintro e v2 ⟨rfl,hb_⟩;replace HB:=btr HB hb_;clear hb_;skip));go_ret;exact⟨rfl,B0.out.trans (HB.out.mono B0.out.size)⟩
 have hF:clF f=150:=by unfold clF;rw[if_neg c50];rw[if_neg c75];rw[if_neg c100];rw[if_neg c125]
 rw[hF] at p0 p1 q0 q1 HE1 cf0 cf1;have CD:Hid (∀ W:World,Below w.heap.size w W→Calls Tryz.prog 178 #[.int .i64 (150*lv*(hv-a)),.int .i64 (100*hv)] W fun e w'=>e=.returned (.int .i64 CV)∧Below W.heap.size W w'):=fun  W hW=>zam (by rw[HE1.out];exact zbm _ _ (by omega) (by omega) (by omega) (by omega) W)
 clear hF HE1;go_wp2_with (first|(go_at_call 178;with_reducible refine (CD.out _ HB.out).mono ?_;rintro e v2 ⟨rfl,hb_⟩;replace HB:=btr HB hb_;clear hb_;skip));go_ret;exact⟨rfl,B0.out.trans (HB.out.mono B0.out.size)⟩
theorem iClut_any (k:Nat) (hk:k<8) (f a:Int) (f0:1≤f) (f1:f≤100000000) (a0:0≤a) (w:World) (L:TabW w) :
  Calls Tryz.prog 158 #[.int .i64 (k:Int),.int .i64 f,.int .i64 a] w fun e w'=>e=.returned (.int .i64 (cluI (k:Int) f a))∧Below w.heap.size w w':=by
 obtain⟨hh0,hh1⟩:=clH_bd k;obtain⟨hl0,hl1⟩:=clL_bd k;have HE0:Hid (cluI (k:Int) f a=if gi clH k≤a then 0 else rdiv (clF f*gi clL k*(gi clH k-a)) (100*gi clH k)):=rfl;have hin:=fun h:¬ gi clH k≤a=>clu_in (c:=(k:Int)) (f:=f) a0 h
 rw[Int.toNat_natCast] at hin;have HIN:=Lib.hid hin;clear hin;have k0:(0:Int)≤(k:Int):=by omega
 have k1:(k:Int)<8:=by omega
 have hC4:=clP4 f;have HC4:=Lib.hid hC4;clear hC4;obtain⟨cf0,cf1⟩:=clF_bd f;generalize cluI (k:Int) f a=CV at *;obtain⟨s,g0⟩:=L.cln k hk;have g1:=L.clh k hk;have g2:=L.cll k hk;clear L;generalize gi clH k=hv at *;generalize gi clL k=lv at *;obtain⟨W0,hW0,b0_,z0,k0_⟩:=zat w #[.string s,.int .i64 hv,.int .i64 lv] 231;have HW0:=Lib.hid hW0;have B0:=Lib.hid b0_;have HD:Hid (∀ W:World,Below W0.heap.size W0 W→(W.cell? ⟨w.heap.size,0,none⟩=some (.string s)∧W.cell? ⟨w.heap.size,1,none⟩=some (.int .i64 hv)∧W.cell? ⟨w.heap.size,2,none⟩=some (.int .i64 lv))):=fun W hW=>⟨(bat hW w.heap.size _ (by omega)).trans (bkC k0_ 0 rfl),(bat hW w.heap.size _ (by omega)).trans (bkC k0_ 1 rfl),(bat hW w.heap.size _ (by omega)).trans (bkC k0_ 2 rfl)⟩
 have HB:Hid (Below W0.heap.size W0 W0):=Below.refl _ _;clear hW0 b0_ k0_
 by_cases hc:hv≤a
 case pos =>
  have HE:Hid (CV=0):=by show _=_;rw[HE0.out,if_pos hc]
  go_enter Tryz.func158,Tryz.ntmps158;go_upto_region 2 with (fail);rw[HW0.out];clear g0 g1 g2;obtain⟨t0,t1,t2⟩:=HD.out _ HB.out;go_wp2;go_ret;exact⟨by rw[HE.out];rfl,B0.out⟩
 have HE1:Hid (CV=rdiv (clF f*lv*(hv-a)) (100*hv)):=by show _=_;rw[HE0.out,if_neg hc]
 obtain⟨⟨p0,p1⟩,q0,q1⟩:=HIN.out hc;clear HE0 HIN;have hi0:∀ w,(Instr.index 233 (.agg #[.int .i64 300000,.int .i64 1000000,.int .i64 3000000,.int .i64 10000000]) (.int .i64 0)).run Tryz.prog w=.ok (.int .i64 300000) w:=fun _=>by kernel_rfl
 have hi1:∀ w,(Instr.index 233 (.agg #[.int .i64 300000,.int .i64 1000000,.int .i64 3000000,.int .i64 10000000]) (.int .i64 1)).run Tryz.prog w=.ok (.int .i64 1000000) w:=fun _=>by kernel_rfl
 have hi2:∀ w,(Instr.index 233 (.agg #[.int .i64 300000,.int .i64 1000000,.int .i64 3000000,.int .i64 10000000]) (.int .i64 2)).run Tryz.prog w=.ok (.int .i64 3000000) w:=fun _=>by kernel_rfl
 have hi3:∀ w,(Instr.index 233 (.agg #[.int .i64 300000,.int .i64 1000000,.int .i64 3000000,.int .i64 10000000]) (.int .i64 3)).run Tryz.prog w=.ok (.int .i64 10000000) w:=fun _=>by kernel_rfl
 go_enter Tryz.func158,Tryz.ntmps158;go_upto_region 2 with (fail);rw[HW0.out];clear g0 g1 g2;obtain⟨t0,t1,t2⟩:=HD.out _ HB.out;go_wp2
 go_loop [8,19] (fun ps ks=>∃ k:Nat,k≤4∧ps=.int .i64 (clP f k)∧ks=.int .i64 (k:Int)) (fun ps ks=>4-(intOf ks).toNat)
 case atStart=>exact⟨0,by omega,rfl,rfl⟩
 case round =>
  obtain⟨j,hj,rfl,rfl⟩:=hrel;obtain⟨cb0,cb1⟩:=clP_bd f j;have hj5:j=0∨j=1∨j=2∨j=3∨j=4:=by omega
  rcases hj5 with rfl|rfl|rfl|rfl|rfl
  ·by_cases cf:300000<f
   ·have hs:clP f 1=clP f 0+25:=by show clP f 0+(if gi clTh 0<f then 25 else 0)=_;rw[if_pos (by exact cf)]
    have HS:=Lib.hid hs;clear hs;generalize clP f 0=pv at *;go_wp2
    go_round
    case rel=>exact⟨1,by omega,by rw[HS.out],rfl⟩
    case measure=>simp[intOf]
   ·have hs:clP f 1=clP f 0:=by show clP f 0+(if gi clTh 0<f then 25 else 0)=_;rw[if_neg (by exact cf),Int.add_zero]
    have HS:=Lib.hid hs;clear hs;generalize clP f 0=pv at *;go_wp2
    go_round
    case rel=>exact⟨1,by omega,by rw[HS.out],rfl⟩
    case measure=>simp[intOf]
  ·by_cases cf:1000000<f
   ·have hs:clP f 2=clP f 1+25:=by show clP f 1+(if gi clTh 1<f then 25 else 0)=_;rw[if_pos (by exact cf)]
    have HS:=Lib.hid hs;clear hs;generalize clP f 1=pv at *;go_wp2
    go_round
    case rel=>exact⟨2,by omega,by rw[HS.out],rfl⟩
    case measure=>simp[intOf]
   ·have hs:clP f 2=clP f 1:=by show clP f 1+(if gi clTh 1<f then 25 else 0)=_;rw[if_neg (by exact cf),Int.add_zero]
    have HS:=Lib.hid hs;clear hs;generalize clP f 1=pv at *;go_wp2
    go_round
    case rel=>exact⟨2,by omega,by rw[HS.out],rfl⟩
    case measure=>simp[intOf]
  ·by_cases cf:3000000<f
   ·have hs:clP f 3=clP f 2+25:=by show clP f 2+(if gi clTh 2<f then 25 else 0)=_;rw[if_pos (by exact cf)]
    have HS:=Lib.hid hs;clear hs;generalize clP f 2=pv at *;go_wp2
    go_round
    case rel=>exact⟨3,by omega,by rw[HS.out],rfl⟩
    case measure=>simp[intOf]
   ·have hs:clP f 3=clP f 2:=by show clP f 2+(if gi clTh 2<f then 25 else 0)=_;rw[if_neg (by exact cf),Int.add_zero]
    have HS:=Lib.hid hs;clear hs;generalize clP f 2=pv at *;go_wp2
    go_round
    case rel=>exact⟨3,by omega,by rw[HS.out],rfl⟩
    case measure=>simp[intOf]
  ·by_cases cf:10000000<f
   ·have hs:clP f 4=clP f 3+25:=by show clP f 3+(if gi clTh 3<f then 25 else 0)=_;rw[if_pos (by exact cf)]
    have HS:=Lib.hid hs;clear hs;generalize clP f 3=pv at *;go_wp2
    go_round
    case rel=>exact⟨4,by omega,by rw[HS.out],rfl⟩
    case measure=>simp[intOf]
   ·have hs:clP f 4=clP f 3:=by show clP f 3+(if gi clTh 3<f then 25 else 0)=_;rw[if_neg (by exact cf),Int.add_zero]
    have HS:=Lib.hid hs;clear hs;generalize clP f 3=pv at *;go_wp2
    go_round
    case rel=>exact⟨4,by omega,by rw[HS.out],rfl⟩
    case measure=>simp[intOf]
  ·rw[HC4.out] at cb0 cb1 ⊢
   clear hi0 hi1 hi2 hi3 HC4;have CD:Hid (∀ W:World,Below W0.heap.size W0 W→Calls Tryz.prog 202 #[.int .i64 (clF f*lv*(hv-a)),.int .i64 (100*hv)] W fun e w'=>e=.returned (.int .i64 CV)∧Below W.heap.size W w'):=fun  W hW=>by rw[HE1.out];exact zbs _ _ (by omega) (by omega) (by omega) (by omega) W
   clear HE1;generalize clF f=cfv at *;go_wp2_with (first|(go_at_call 202;with_reducible refine (CD.out _ HB.out).mono ?_;rintro e v1 ⟨rfl,hb_⟩;(try clear t0 t1 t2);replace HB:=btr HB hb_;clear hb_;obtain⟨t0,t1,t2⟩:=HD.out _ HB.out));go_ret;exact⟨rfl,B0.out.trans (HB.out.mono B0.out.size)⟩
end Go.Proofs.YtdgmgchdjlfchaaGreatDoor
