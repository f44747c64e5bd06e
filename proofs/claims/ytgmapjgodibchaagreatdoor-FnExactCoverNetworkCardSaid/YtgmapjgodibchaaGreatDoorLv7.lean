/- Contracts: losses over one edge, valid profiles, worst places, for the program and for the reference. Conditions: valid profiles. -/
import Derived.Test.YtgmapjgodibchaaGreatDoorLv6
import Derived.Test.YtgmapjgodibchaaGreatDoorLv3
set_option linter.unusedVariables false
set_option linter.unusedSimpArgs false
namespace Go.Proofs.YtgmapjgodibchaaGreatDoor
open Go.RowKit
set_option maxHeartbeats 8000000
set_option maxRecDepth 100000
def shrP (p:Pf) (f i:Int):Int:=rdiv (1000*clrP p i) (max (radP p f i) 1)
def wrsP (p:Pf) (f:Int):Int:=zaz (fun x=>-(shrP p f x)) 1 (p.hs.length-3)
structure PfW (p:Pf):Prop where
 d0:-283000≤p.d
 d1:p.d≤283000
 f0:0≤p.f
 f1:p.f≤180000
 l0:0≤p.l
 l1:p.l≤180000
 n0:2≤p.hs.length
 n1:p.hs.length≤65
 hs:∀ k,0≤gi p.hs k∧gi p.hs k≤90000
theorem PfOk.w {p:Pf} (h:PfOk p):PfW p:=⟨by have:=h.d0;omega,h.d1,h.f0,h.f1,h.l0,h.l1,h.n0,h.n1,h.hs⟩
theorem pfB_w {p:Pf} (h:PfW p):pfB p=(inB p.d 1 283000&&(decide (gi p.hs 0≤p.f)&&decide (gi p.hs (p.hs.length-1)≤p.l))):=by
 have a:=zat.2 (show 0≤p.f∧p.f≤180000 from ⟨h.f0,h.f1⟩);have b:=zat.2 (show 0≤p.l∧p.l≤180000 from ⟨h.l0,h.l1⟩);have c:decide (2≤(p.hs.length:Int))=true:=decide_eq_true (by have:=h.n0;omega);have d:decide ((p.hs.length:Int)≤65)=true:=decide_eq_true (by have:=h.n1;omega);have e:(p.hs.all fun n=>inB n 0 90000)=true:=gi_allB (fun k _=>h.hs k);unfold pfB;rw[a,b,c,d,e];simp only[Bool.true_and]
theorem offP_diff {p:Pf} (h:PfOk p) {i k:Int} (i0:0≤i) (i1:i≤p.n) (k0:0≤k) (k1:k≤p.n):-283000≤offP p.d p.n k-offP p.d p.n i∧offP p.d p.n k-offP p.d p.n i≤283000:=by
 have a:=off_ok h i0 i1;have b:=off_ok h k0 k1;omega
theorem gi_take (l:List Int) (n k:Nat) (h:k<n):gi (l.take n) k=gi l k:=by
 unfold gi;rw[List.getD_eq_getElem?_getD,List.getD_eq_getElem?_getD,List.getElem?_take_of_lt h]
theorem gi_drop (l:List Int) (n k:Nat):gi (l.drop n) k=gi l (n+k):=by
 unfold gi;rw[List.getD_eq_getElem?_getD,List.getD_eq_getElem?_getD,List.getElem?_drop]
theorem gi_over (l:List Int) (k:Nat) (h:l.length≤k):gi l k=0:=by
 unfold gi;rw[List.getD_eq_getElem?_getD,List.getElem?_eq_none h];rfl
theorem partP_len {p:Pf} {i k:Nat} (hik:i<k) (hk:k<p.hs.length):(zbq p i k).hs.length=k+1-i:=by
 show ((p.hs.drop (i:Int).toNat).take ((k:Int)+1-(i:Int)).toNat).length=_
 rw[List.length_take,List.length_drop,Int.toNat_natCast];omega
theorem partP_w {p:Pf} (h:PfOk p) {i k:Nat} (hik:i<k) (hk:k<p.hs.length):PfW (zbq p i k):=by
 have hn:p.n=(p.hs.length:Int)-1:=rfl;have hd:=offP_diff h (i:=i) (k:=k) O O O O;have hl:=partP_len hik hk;have:=h.n1;refine⟨hd.1,hd.2,?_,?_,?_,?_,O,O,fun q=>?_⟩
 ·show 0≤if (i:Int)=0 then p.f else gi p.hs (i:Int).toNat
  split
  ·exact h.f0
  ·exact (h.hs _).1
 ·show (if (i:Int)=0 then p.f else gi p.hs (i:Int).toNat)≤180000
  split
  ·exact h.f1
  ·have:=(h.hs (i:Int).toNat).2;omega
 ·show 0≤if (k:Int)=p.n then p.l else gi p.hs (k:Int).toNat
  split
  ·exact h.l0
  ·exact (h.hs _).1
 ·show (if (k:Int)=p.n then p.l else gi p.hs (k:Int).toNat)≤180000
  split
  ·exact h.l1
  ·have:=(h.hs (k:Int).toNat).2;omega
 ·by_cases hq:q<(zbq p i k).hs.length
  ·have e:gi (zbq p i k).hs q=gi p.hs (i+q):=by
    show gi ((p.hs.drop (i:Int).toNat).take ((k:Int)+1-(i:Int)).toNat) q=_
    rw[gi_take _ _ _ O,gi_drop,Int.toNat_natCast]
   rw[e];exact h.hs _
  ·rw[gi_over _ _ O];omega
theorem iEdge_any (nu:Int) (h0:-1000000≤nu) (h1:nu≤1000000) (w:World) (L:LibW w) :
  Calls Tryz.prog 243 #[I nu] w fun e w'=>e=.returned (I (edgI nu))∧IJ w w w':=by
 have HE0:Hid (edgI nu=if nu≤-780 then 0 else max (6900+2*(lgI (isq ((nu-100)*(nu-100)+1000000)+(nu-100))-30000)) 0):=rfl;generalize edgI nu=EV at *;have B0:Hid (IJ w w w):=Below.refl _ _;have HB:Hid (IJ w w w):=Below.refl _ _;have CW:Hid (∀ W:World,IJ w w W→Calls Tryz.prog 54 #[I nu,I (-1000000),I 1000000] W fun e w'=>e=.returned (.bool true)∧IJ W W w'):=fun  W hW=>by
   have hh:=zao nu (-1000000) 1000000 W;rw[zat.2 ⟨h0,h1⟩] at hh;exact zam hh
 by_cases c:nu≤-780
 ·have HE:Hid (EV=0):=by show _=_;rw[HE0.out,if_pos c]
  go_enter Tryz.func243,Tryz.ntmps243;skip;go_wp2_with (first|(go_at_call 54;with_reducible refine (CW.out _ HB.out).mono ?_;rintro e v1 ⟨rfl,hb_⟩;replace HB:=btr HB hb_;clear hb_;skip));go_ret;exact⟨by rw[HE.out];rfl,B0.out.trans (HB.out.mono B0.out.size)⟩
 have HE:Hid (EV=max (6900+2*(lgI (isq ((nu-100)*(nu-100)+1000000)+(nu-100))-30000)) 0):=by show _=_;rw[HE0.out,if_neg c]
 obtain⟨⟨a0,a1⟩,b0,b1⟩:=edg_in (nu:=nu) O h1;have lb:=lgI_bd (n:=isq ((nu-100)*(nu-100)+1000000)+(nu-100)) O;have c2:-780<nu:=O
 clear HE0;have CR:Hid (∀ W:World,IJ w w W→Calls Tryz.prog 234 #[I ((nu-100)*(nu-100)+1000000)] W fun e w'=>e=.returned (I (isq ((nu-100)*(nu-100)+1000000)))∧IJ W W w'):=fun  W hW=>rootOf_any _ O O W
 have CL:Hid (∀ W:World,IJ w w W→Calls Tryz.prog 200 #[I (isq ((nu-100)*(nu-100)+1000000)+(nu-100))] W fun e w'=>e=.returned (I (lgI (isq ((nu-100)*(nu-100)+1000000)+(nu-100))))∧IJ W W w'):=fun  W hW=>iLogDb_any _ O O W (L.mono (B0.out.trans hW))
 generalize lgI (isq ((nu-100)*(nu-100)+1000000)+(nu-100))=LG at *;generalize isq ((nu-100)*(nu-100)+1000000)=RQ at *;obtain⟨lb0,lb1⟩:=lb;go_enter Tryz.func243,Tryz.ntmps243;skip;go_wp2_with ((first|(go_at_call 54;with_reducible refine (CW.out _ HB.out).mono ?_)|(go_at_call 234;with_reducible refine (CR.out _ HB.out).mono ?_)|(go_at_call 200;with_reducible refine (CL.out _ HB.out).mono ?_));rintro e v1 ⟨rfl,hb_⟩;replace HB:=btr HB hb_;clear hb_;skip);go_ret;exact⟨by rw[HE.out];rfl,B0.out.trans (HB.out.mono B0.out.size)⟩
theorem l10Edge_any (nu:Int) (h0:-1000000≤nu) (h1:nu≤1000000) (w:World) :
  Calls Tryz.prog 225 #[I nu] w fun e w'=>e=.returned (I (edgI nu))∧IJ w w w':=by
 have HE0:Hid (edgI nu=if nu≤-780 then 0 else max (6900+2*(lgI (isq ((nu-100)*(nu-100)+1000000)+(nu-100))-30000)) 0):=rfl;generalize edgI nu=EV at *;have B0:Hid (IJ w w w):=Below.refl _ _;have HB:Hid (IJ w w w):=Below.refl _ _
 by_cases c:nu≤-780
 ·have HE:Hid (EV=0):=by show _=_;rw[HE0.out,if_pos c]
  go_enter Tryz.func225,Tryz.ntmps225;skip;go_wp2;go_ret;exact⟨by rw[HE.out];rfl,B0.out.trans (HB.out.mono B0.out.size)⟩
 have HE:Hid (EV=max (6900+2*(lgI (isq ((nu-100)*(nu-100)+1000000)+(nu-100))-30000)) 0):=by show _=_;rw[HE0.out,if_neg c]
 obtain⟨⟨a0,a1⟩,b0,b1⟩:=edg_in (nu:=nu) O h1;have lb:=lgI_bd (n:=isq ((nu-100)*(nu-100)+1000000)+(nu-100)) O;have c2:-780<nu:=O
 clear HE0;have CR:Hid (∀ W:World,IJ w w W→Calls Tryz.prog 246 #[I ((nu-100)*(nu-100)+1000000)] W fun e w'=>e=.returned (I (isq ((nu-100)*(nu-100)+1000000)))∧IJ W W w'):=fun  W hW=>zam (l01Root_any _ O W)
 have CL:Hid (∀ W:World,IJ w w W→Calls Tryz.prog 217 #[I (isq ((nu-100)*(nu-100)+1000000)+(nu-100))] W fun e w'=>e=.returned (I (lgI (isq ((nu-100)*(nu-100)+1000000)+(nu-100))))∧IJ W W w'):=fun  W hW=>by
   have hh:=l02Log_any (isq ((nu-100)*(nu-100)+1000000)+(nu-100)) b0 O W;unfold lgI;rw[if_neg O];exact hh
 generalize lgI (isq ((nu-100)*(nu-100)+1000000)+(nu-100))=LG at *;generalize isq ((nu-100)*(nu-100)+1000000)=RQ at *;obtain⟨lb0,lb1⟩:=lb;rw[Int.max_comm] at HE;have CM:Hid (∀ W:World,IJ w w W→Calls Tryz.prog 94 #[I 0,I (6900+2*(LG-30000))] W fun e w'=>e=.returned (I (max 0 (6900+2*(LG-30000))))∧IJ W W w'):=fun  W hW=>zam (ze7 _ _ W)
 go_enter Tryz.func225,Tryz.ntmps225;skip;go_wp2_with ((first|(go_at_call 246;with_reducible refine (CR.out _ HB.out).mono ?_)|(go_at_call 217;with_reducible refine (CL.out _ HB.out).mono ?_)|(go_at_call 94;with_reducible refine (CM.out _ HB.out).mono ?_));rintro e v1 ⟨rfl,hb_⟩;replace HB:=btr HB hb_;clear hb_;skip);go_ret;exact⟨by rw[HE.out];rfl,B0.out.trans (HB.out.mono B0.out.size)⟩
theorem iParOf_any (h r:Int) (h0:-200000≤h) (h1:h≤200000) (r0:0≤r) (r1:r≤2000000000) (w:World) :
  Calls Tryz.prog 263 #[I h,I r] w fun e w'=>e=.returned (I (nuI h r))∧IJ w w w':=by
 have HE:Hid (nuI h r=min (max (rdiv (1414*h) (max r 1)) (-1000000)) 1000000):=rfl;have rb:=zd6 (a:=1414*h) (b:=max r 1) O 282800000 O O;generalize nuI h r=NV at *;have B0:Hid (IJ w w w):=Below.refl _ _;have HB:Hid (IJ w w w):=Below.refl _ _;have CD:Hid (∀ W:World,IJ w w W→Calls Tryz.prog 201 #[I (1414*h),I (max r 1)] W fun e w'=>e=.returned (I (rdiv (1414*h) (max r 1)))∧IJ W W w'):=fun  W hW=>zbu _ _ O O O O W
 generalize rdiv (1414*h) (max r 1)=RV at *;obtain⟨rb0,rb1⟩:=rb;go_enter Tryz.func263,Tryz.ntmps263;skip;go_wp2_with (first|(go_at_call 201;with_reducible refine (CD.out _ HB.out).mono ?_;rintro e v1 ⟨rfl,hb_⟩;replace HB:=btr HB hb_;clear hb_;skip));go_ret;exact⟨by rw[HE.out];rfl,B0.out.trans (HB.out.mono B0.out.size)⟩
theorem l10Limit_any (n:Int) (w:World) :
  Calls Tryz.prog 275 #[I n] w fun e w'=>e=.returned (I (min (max n (-1000000)) 1000000))∧IJ w w w':=by
 have HE:Hid (min (max n (-1000000)) 1000000=max (-1000000) (min 1000000 n)):=by show _=_;omega
 have B0:Hid (IJ w w w):=Below.refl _ _;have HB:Hid (IJ w w w):=Below.refl _ _;have CI:Hid (∀ W:World,IJ w w W→Calls Tryz.prog 231 #[I 1000000,I n] W fun e w'=>e=.returned (I (min 1000000 n))∧IJ W W w'):=fun  W hW=>zam (ze6 _ _ W)
 have CA:Hid (∀ W:World,IJ w w W→Calls Tryz.prog 94 #[I (-1000000),I (min 1000000 n)] W fun e w'=>e=.returned (I (max (-1000000) (min 1000000 n)))∧IJ W W w'):=fun  W hW=>zam (ze7 _ _ W)
 generalize min 1000000 n=MV at *;generalize min (max n (-1000000)) 1000000=RV at *;go_enter Tryz.func275,Tryz.ntmps275;skip;go_wp2_with ((first|(go_at_call 231;with_reducible refine (CI.out _ HB.out).mono ?_)|(go_at_call 94;with_reducible refine (CA.out _ HB.out).mono ?_));rintro e v1 ⟨rfl,hb_⟩;replace HB:=btr HB hb_;clear hb_;skip);go_ret;exact⟨by rw[HE.out];rfl,B0.out.trans (HB.out.mono B0.out.size)⟩
theorem l10Of_any (h r:Int) (h0:-200000≤h) (h1:h≤200000) (r0:0≤r) (r1:r≤2000000000) (w:World) :
  Calls Tryz.prog 268 #[I h,I r] w fun e w'=>e=.returned (I (nuI h r))∧IJ w w w':=by
 have HE:Hid (nuI h r=min (max (rdiv (1414*h) (max r 1)) (-1000000)) 1000000):=rfl;have rb:=zd6 (a:=1414*h) (b:=max r 1) O 282800000 O O;generalize nuI h r=NV at *;have B0:Hid (IJ w w w):=Below.refl _ _;have HB:Hid (IJ w w w):=Below.refl _ _;have CM:Hid (∀ W:World,IJ w w W→Calls Tryz.prog 94 #[I 1,I r] W fun e w'=>e=.returned (I (max r 1))∧IJ W W w'):=fun  W hW=>by rw[Int.max_comm];exact zam (ze7 _ _ W)
 have CD:Hid (∀ W:World,IJ w w W→Calls Tryz.prog 222 #[I (1414*h),I (max r 1)] W fun e w'=>e=.returned (I (rdiv (1414*h) (max r 1)))∧IJ W W w'):=fun  W hW=>zam (zbn _ _ O O O O W)
 have CX:Hid (∀ W:World,IJ w w W→Calls Tryz.prog 275 #[I (rdiv (1414*h) (max r 1))] W fun e w'=>e=.returned (I (min (max (rdiv (1414*h) (max r 1)) (-1000000)) 1000000))∧IJ W W w'):=fun  W hW=>l10Limit_any _ W
 generalize rdiv (1414*h) (max r 1)=RV at *;go_enter Tryz.func268,Tryz.ntmps268;skip;go_wp2_with ((first|(go_at_call 94;with_reducible refine (CM.out _ HB.out).mono ?_)|(go_at_call 222;with_reducible refine (CD.out _ HB.out).mono ?_)|(go_at_call 275;with_reducible refine (CX.out _ HB.out).mono ?_));rintro e v1 ⟨rfl,hb_⟩;replace HB:=btr HB hb_;clear hb_;skip);go_ret;exact⟨by rw[HE.out];rfl,B0.out.trans (HB.out.mono B0.out.size)⟩
theorem iPar_any (P:Pf) (h:PfOk P) (vh:Value) (f:Int) (f0:1≤f) (f1:f≤100000000) (k:Nat) (hk:k<P.hs.length) (w:World) (r:Rd w w (zai P.hs) vh) :
  Calls Tryz.prog 242 #[.agg #[I P.d,I P.f,I P.l,vh],I f,I (k:Int)] w fun e w'=>e=.returned (I (nuP P f k))∧IJ w w w':=by
 have HE:Hid (nuP P f k=nuI (-(clrP P k)) (radP P f k)):=rfl;have hn:P.n=(P.hs.length:Int)-1:=rfl;have ki0:0≤(k:Int):=O
 have ki1:(k:Int)≤P.n:=O
 obtain⟨cb0,cb1⟩:=clrP_bd h ki0 ki1;obtain⟨rb0,rb1⟩:=radP_bd h f0 f1 ki0 ki1;obtain⟨W0,hW0,b0_,z0,k0⟩:=zax w #[I P.d,I P.f,I P.l,vh] 211;have HW0:=J hW0;have B0:=J b0_;have HD:=J (fun (W:World) (hW:IJ W0 W0 W)=>by4 k0 hW);have HB:Hid (IJ W0 W0 W0):=Below.refl _ _;clear k0 hW0 b0_;have CC:Hid (∀ W:World,IJ W0 W0 W→Calls Tryz.prog 261 #[.agg #[I P.d,I P.f,I P.l,vh],I (k:Int)] W fun e w'=>e=.returned (I (clrP P k))∧IJ W W w'):=fun  W hW=>iClear_any P h vh k hk W (zb4 r B0.out hW)
 have CR:Hid (∀ W:World,IJ W0 W0 W→Calls Tryz.prog 262 #[.agg #[I P.d,I P.f,I P.l,vh],I f,I (k:Int)] W fun e w'=>e=.returned (I (radP P f k))∧IJ W W w'):=fun  W hW=>iRadius_any P h vh f f0 f1 k hk W (zb4 r B0.out hW)
 have CP:Hid (∀ W:World,IJ W0 W0 W→Calls Tryz.prog 263 #[I (-(clrP P k)),I (radP P f k)] W fun e w'=>e=.returned (I (nuI (-(clrP P k)) (radP P f k)))∧IJ W W w'):=fun  W hW=>iParOf_any _ _ O O O O W
 generalize clrP P k=cr at *;generalize radP P f k=rr at *;generalize nuP P f k=nn at *;go_enter Tryz.func242,Tryz.ntmps242;go_upto_region 1 with (fail);rw[HW0.out];obtain⟨t0,t1,t2,t3⟩:=HD.out _ HB.out;go_upto_region 1 with (fail);have o0:=zal (w0:=W0) (show w.heap.size<W0.heap.size by have:=HB.out.size;omega);refine zad W0.heap.size W0 (Below.refl _ _) OJ OJ ?_
 repeat (go_big_quiet_step (first|(go_at_call 261;with_reducible exact zaj (Nat.le_refl _) (CC.out _ (HB.out.trans ((zaa _ _ _).mono HB.out.size))))|(go_at_call 262;with_reducible exact zaj (Nat.le_refl _) (CR.out _ (HB.out.trans ((zaa _ _ _).mono HB.out.size))))|(go_at_call 263;with_reducible exact zaj (Nat.le_refl _) (CP.out _ (HB.out.trans ((zaa _ _ _).mono HB.out.size))))))
 refine wpQuiet_nil ?_;rintro _ ⟨X,rfl⟩;replace HB:=btr HB (zaa W0.heap.size W0 X);clear o0
 (try clear t0 t1 t2 t3)
 generalize over W0.heap.size W0 X=u2 at *;obtain⟨t0,t1,t2,t3⟩:=HD.out _ HB.out;go_wp2;go_ret;exact⟨by rw[HE.out];rfl,B0.out.trans (HB.out.mono B0.out.size)⟩
theorem iShare_any (P:Pf) (h:PfOk P) (vh:Value) (f:Int) (f0:1≤f) (f1:f≤100000000) (k:Nat) (hk:k<P.hs.length) (w:World) (r:Rd w w (zai P.hs) vh) :
  Calls Tryz.prog 241 #[.agg #[I P.d,I P.f,I P.l,vh],I f,I (k:Int)] w fun e w'=>e=.returned (I (shrP P f k))∧IJ w w w':=by
 have HE:Hid (shrP P f k=rdiv (1000*clrP P k) (max (radP P f k) 1)):=rfl;have hn:P.n=(P.hs.length:Int)-1:=rfl;have ki0:0≤(k:Int):=O
 have ki1:(k:Int)≤P.n:=O
 obtain⟨cb0,cb1⟩:=clrP_bd h ki0 ki1;obtain⟨rb0,rb1⟩:=radP_bd h f0 f1 ki0 ki1;obtain⟨W0,hW0,b0_,z0,k0⟩:=zax w #[I P.d,I P.f,I P.l,vh] 211;have HW0:=J hW0;have B0:=J b0_;have HD:=J (fun (W:World) (hW:IJ W0 W0 W)=>by4 k0 hW);have HB:Hid (IJ W0 W0 W0):=Below.refl _ _;clear k0 hW0 b0_;have CC:Hid (∀ W:World,IJ W0 W0 W→Calls Tryz.prog 261 #[.agg #[I P.d,I P.f,I P.l,vh],I (k:Int)] W fun e w'=>e=.returned (I (clrP P k))∧IJ W W w'):=fun  W hW=>iClear_any P h vh k hk W (zb4 r B0.out hW)
 have CR:Hid (∀ W:World,IJ W0 W0 W→Calls Tryz.prog 262 #[.agg #[I P.d,I P.f,I P.l,vh],I f,I (k:Int)] W fun e w'=>e=.returned (I (radP P f k))∧IJ W W w'):=fun  W hW=>iRadius_any P h vh f f0 f1 k hk W (zb4 r B0.out hW)
 have CP:Hid (∀ W:World,IJ W0 W0 W→Calls Tryz.prog 201 #[I (1000*clrP P k),I (max (radP P f k) 1)] W fun e w'=>e=.returned (I (rdiv (1000*clrP P k) (max (radP P f k) 1)))∧IJ W W w'):=fun  W hW=>zbu _ _ O O O O W
 generalize clrP P k=cr at *;generalize radP P f k=rr at *;generalize shrP P f k=nn at *;go_enter Tryz.func241,Tryz.ntmps241;go_upto_region 1 with (fail);rw[HW0.out];obtain⟨t0,t1,t2,t3⟩:=HD.out _ HB.out;go_upto_region 1 with (fail);have o0:=zal (w0:=W0) (show w.heap.size<W0.heap.size by have:=HB.out.size;omega);refine zad W0.heap.size W0 (Below.refl _ _) OJ OJ ?_
 repeat (go_big_quiet_step (first|(go_at_call 261;with_reducible exact zaj (Nat.le_refl _) (CC.out _ (HB.out.trans ((zaa _ _ _).mono HB.out.size))))|(go_at_call 262;with_reducible exact zaj (Nat.le_refl _) (CR.out _ (HB.out.trans ((zaa _ _ _).mono HB.out.size))))|(go_at_call 201;with_reducible exact zaj (Nat.le_refl _) (CP.out _ (HB.out.trans ((zaa _ _ _).mono HB.out.size))))))
 refine wpQuiet_nil ?_;rintro _ ⟨X,rfl⟩;replace HB:=btr HB (zaa W0.heap.size W0 X);clear o0
 (try clear t0 t1 t2 t3)
 generalize over W0.heap.size W0 X=u2 at *;obtain⟨t0,t1,t2,t3⟩:=HD.out _ HB.out;go_wp2;go_ret;exact⟨by rw[HE.out];rfl,B0.out.trans (HB.out.mono B0.out.size)⟩
theorem l10Nu_any (P:Pf) (h:PfOk P) (vh:Value) (b off:Nat) (f:Int) (f0:1≤f) (f1:f≤100000000) (k:Nat) (hk:k<P.hs.length) (w:World) (r:Rd w w (zai P.hs) vh) (c0:w.cell? ⟨b,off,none⟩=some (I P.d)) (c1:w.cell? ⟨b,off+1,none⟩=some (I P.f)) (c2:w.cell? ⟨b,off+2,none⟩=some (I P.l)) (c3:w.cell? ⟨b,off+3,none⟩=some (vh)) :
  Calls Tryz.prog 252 #[.pointer (some ⟨b,off,none⟩),I f,I (k:Int)] w fun e w'=>e=.returned (I (nuP P f k))∧IJ w w w':=by
 have hbp:b<w.heap.size:=zbh c0;have HE:Hid (nuP P f k=nuI (-(clrP P k)) (radP P f k)):=rfl;have HR:Hid (radP P f k=freI f (offP P.d P.n k) (P.d-offP P.d P.n k)):=rfl;have hn:P.n=(P.hs.length:Int)-1:=rfl;have ki0:0≤(k:Int):=O
 have ki1:(k:Int)≤P.n:=O
 obtain⟨cb0,cb1⟩:=clrP_bd h ki0 ki1;obtain⟨rb0,rb1⟩:=radP_bd h f0 f1 ki0 ki1;obtain⟨of0,of1,of2⟩:=off_ok h ki0 ki1;have d1_:=h.d1;have B0:Hid (IJ w w w):=Below.refl _ _;have HD:Hid (∀ W:World,IJ w w W→(W.cell? ⟨b,off,none⟩=some (I P.d)∧W.cell? ⟨b,off+1,none⟩=some (I P.f)∧W.cell? ⟨b,off+2,none⟩=some (I P.l)∧W.cell? ⟨b,off+3,none⟩=some (vh))):=fun W hW=>⟨(bat hW b _ O).trans c0,(bat hW b _ O).trans c1,(bat hW b _ O).trans c2,(bat hW b _ O).trans c3⟩
 have HB:Hid (IJ w w w):=Below.refl _ _;have CO:Hid (∀ W:World,IJ w w W→Calls Tryz.prog 267 #[.pointer (some ⟨b,off,none⟩),I (k:Int)] W fun e w'=>e=.returned (I (offP P.d P.n k))∧IJ W W w'):=fun  W hW=>by
   obtain⟨t0,t1,t2,t3⟩:=HD.out W hW;exact zdm P h vh b off k hk W (zb4 r B0.out hW) t0 t1 t2 t3
 have CC:Hid (∀ W:World,IJ w w W→Calls Tryz.prog 269 #[.pointer (some ⟨b,off,none⟩),I (k:Int)] W fun e w'=>e=.returned (I (clrP P k))∧IJ W W w'):=fun  W hW=>by
   obtain⟨t0,t1,t2,t3⟩:=HD.out W hW;exact l05Clear_any P h vh b off k hk W (zb4 r B0.out hW) t0 t1 t2 t3
 have CF:Hid (∀ W:World,IJ w w W→Calls Tryz.prog 270 #[I f,I (offP P.d P.n k),I (P.d-offP P.d P.n k)] W fun e w'=>e=.returned (I (radP P f k))∧IJ W W w'):=fun  W hW=>by rw[HR.out];exact l05Fresnel_any _ _ _ f0 f1 of0 of2 O O W
 have CP:Hid (∀ W:World,IJ w w W→Calls Tryz.prog 268 #[I (-(clrP P k)),I (radP P f k)] W fun e w'=>e=.returned (I (nuI (-(clrP P k)) (radP P f k)))∧IJ W W w'):=fun  W hW=>l10Of_any _ _ O O O O W
 clear c0 c1 c2 c3 HR;generalize clrP P k=cr at *;generalize radP P f k=rr at *;generalize nuP P f k=nn at *;generalize offP P.d P.n k=OF at *;go_enter Tryz.func252,Tryz.ntmps252;obtain⟨t0,t1,t2,t3⟩:=HD.out _ HB.out;go_upto_region 2 with (first|(go_at_call 267;with_reducible refine (CO.out _ HB.out).mono ?_;rintro e v1 ⟨rfl,hb_⟩;(try clear t0 t1 t2 t3);replace HB:=btr HB hb_;clear hb_;obtain⟨t0,t1,t2,t3⟩:=HD.out _ HB.out));have o0:=zal (w0:=v1) (show b<v1.heap.size by have:=HB.out.size;omega);refine zad v1.heap.size v1 (Below.refl _ _) OJ OJ ?_
 repeat (go_big_quiet_step (first|(go_at_call 269;with_reducible exact zaj (Nat.le_refl _) (CC.out _ (HB.out.trans ((zaa _ _ _).mono HB.out.size))))|(go_at_call 270;with_reducible exact zaj (Nat.le_refl _) (CF.out _ (HB.out.trans ((zaa _ _ _).mono HB.out.size))))|(go_at_call 268;with_reducible exact zaj (Nat.le_refl _) (CP.out _ (HB.out.trans ((zaa _ _ _).mono HB.out.size))))))
 refine wpQuiet_nil ?_;rintro _ ⟨X,rfl⟩;replace HB:=btr HB (zaa v1.heap.size v1 X);clear o0
 (try clear t0 t1 t2 t3)
 generalize over v1.heap.size v1 X=u2 at *;obtain⟨t0,t1,t2,t3⟩:=HD.out _ HB.out;go_wp2;go_ret;exact⟨by rw[HE.out];rfl,B0.out.trans (HB.out.mono B0.out.size)⟩
theorem l05Share_any (P:Pf) (h:PfOk P) (vh:Value) (b off:Nat) (f:Int) (f0:1≤f) (f1:f≤100000000) (k:Nat) (hk:k<P.hs.length) (w:World) (r:Rd w w (zai P.hs) vh) (c0:w.cell? ⟨b,off,none⟩=some (I P.d)) (c1:w.cell? ⟨b,off+1,none⟩=some (I P.f)) (c2:w.cell? ⟨b,off+2,none⟩=some (I P.l)) (c3:w.cell? ⟨b,off+3,none⟩=some (vh)) :
  Calls Tryz.prog 255 #[.pointer (some ⟨b,off,none⟩),I f,I (k:Int)] w fun e w'=>e=.returned (I (shrP P f k))∧IJ w w w':=by
 have hbp:b<w.heap.size:=zbh c0;have HE:Hid (shrP P f k=rdiv (1000*clrP P k) (max (radP P f k) 1)):=rfl;have HR:Hid (radP P f k=freI f (offP P.d P.n k) (P.d-offP P.d P.n k)):=rfl;have hn:P.n=(P.hs.length:Int)-1:=rfl;have ki0:0≤(k:Int):=O
 have ki1:(k:Int)≤P.n:=O
 obtain⟨cb0,cb1⟩:=clrP_bd h ki0 ki1;obtain⟨rb0,rb1⟩:=radP_bd h f0 f1 ki0 ki1;obtain⟨of0,of1,of2⟩:=off_ok h ki0 ki1;have d1_:=h.d1;have B0:Hid (IJ w w w):=Below.refl _ _;have HD:Hid (∀ W:World,IJ w w W→(W.cell? ⟨b,off,none⟩=some (I P.d)∧W.cell? ⟨b,off+1,none⟩=some (I P.f)∧W.cell? ⟨b,off+2,none⟩=some (I P.l)∧W.cell? ⟨b,off+3,none⟩=some (vh))):=fun W hW=>⟨(bat hW b _ O).trans c0,(bat hW b _ O).trans c1,(bat hW b _ O).trans c2,(bat hW b _ O).trans c3⟩
 have HB:Hid (IJ w w w):=Below.refl _ _;have CO:Hid (∀ W:World,IJ w w W→Calls Tryz.prog 267 #[.pointer (some ⟨b,off,none⟩),I (k:Int)] W fun e w'=>e=.returned (I (offP P.d P.n k))∧IJ W W w'):=fun  W hW=>by
   obtain⟨t0,t1,t2,t3⟩:=HD.out W hW;exact zdm P h vh b off k hk W (zb4 r B0.out hW) t0 t1 t2 t3
 have CC:Hid (∀ W:World,IJ w w W→Calls Tryz.prog 269 #[.pointer (some ⟨b,off,none⟩),I (k:Int)] W fun e w'=>e=.returned (I (clrP P k))∧IJ W W w'):=fun  W hW=>by
   obtain⟨t0,t1,t2,t3⟩:=HD.out W hW;exact l05Clear_any P h vh b off k hk W (zb4 r B0.out hW) t0 t1 t2 t3
 have CF:Hid (∀ W:World,IJ w w W→Calls Tryz.prog 270 #[I f,I (offP P.d P.n k),I (P.d-offP P.d P.n k)] W fun e w'=>e=.returned (I (radP P f k))∧IJ W W w'):=fun  W hW=>by rw[HR.out];exact l05Fresnel_any _ _ _ f0 f1 of0 of2 O O W
 have CM:Hid (∀ W:World,IJ w w W→Calls Tryz.prog 94 #[I 1,I (radP P f k)] W fun e w'=>e=.returned (I (max (radP P f k) 1))∧IJ W W w'):=fun  W hW=>by rw[Int.max_comm];exact zam (ze7 _ _ W)
 have CP:Hid (∀ W:World,IJ w w W→Calls Tryz.prog 222 #[I (1000*clrP P k),I (max (radP P f k) 1)] W fun e w'=>e=.returned (I (rdiv (1000*clrP P k) (max (radP P f k) 1)))∧IJ W W w'):=fun  W hW=>zam (zbn _ _ O O O O W)
 clear c0 c1 c2 c3 HR;generalize clrP P k=cr at *;generalize radP P f k=rr at *;generalize shrP P f k=nn at *;generalize offP P.d P.n k=OF at *;go_enter Tryz.func255,Tryz.ntmps255;obtain⟨t0,t1,t2,t3⟩:=HD.out _ HB.out;go_upto_region 2 with (first|(go_at_call 267;with_reducible refine (CO.out _ HB.out).mono ?_;rintro e v1 ⟨rfl,hb_⟩;(try clear t0 t1 t2 t3);replace HB:=btr HB hb_;clear hb_;obtain⟨t0,t1,t2,t3⟩:=HD.out _ HB.out));have o0:=zal (w0:=v1) (show b<v1.heap.size by have:=HB.out.size;omega);refine zad v1.heap.size v1 (Below.refl _ _) OJ OJ ?_
 repeat (go_big_quiet_step (first|(go_at_call 269;with_reducible exact zaj (Nat.le_refl _) (CC.out _ (HB.out.trans ((zaa _ _ _).mono HB.out.size))))|(go_at_call 270;with_reducible exact zaj (Nat.le_refl _) (CF.out _ (HB.out.trans ((zaa _ _ _).mono HB.out.size))))|(go_at_call 94;with_reducible exact zaj (Nat.le_refl _) (CM.out _ (HB.out.trans ((zaa _ _ _).mono HB.out.size))))|(go_at_call 222;with_reducible exact zaj (Nat.le_refl _) (CP.out _ (HB.out.trans ((zaa _ _ _).mono HB.out.size))))))
 refine wpQuiet_nil ?_;rintro _ ⟨X,rfl⟩;replace HB:=btr HB (zaa v1.heap.size v1 X);clear o0
 (try clear t0 t1 t2 t3)
 generalize over v1.heap.size v1 X=u2 at *;obtain⟨t0,t1,t2,t3⟩:=HD.out _ HB.out;go_wp2;go_ret;exact⟨by rw[HE.out];rfl,B0.out.trans (HB.out.mono B0.out.size)⟩
theorem iSingle_any (P:Pf) (h:PfOk P) (vh:Value) (f:Int) (f0:1≤f) (f1:f≤100000000) (h3:3≤P.hs.length) (w:World) (r:Rd w w (zai P.hs) vh) (L:LibW w) :
  Calls Tryz.prog 208 #[.agg #[I P.d,I P.f,I P.l,vh],I f] w fun e w'=>e=.returned (.tuple #[I (wstP P f),I (sglP P f)])∧IJ w w w':=by
 have HW:Hid (wstP P f=zaz (nuP P f) 1 (P.hs.length-3)):=rfl;have HS:Hid (sglP P f=edgI (nuP P f (wstP P f))):=rfl;have hn:P.n=(P.hs.length:Int)-1:=rfl;have n1_:=h.n1;obtain⟨N,hN⟩:∃ N,P.hs.length=N+3:=⟨P.hs.length-3,O⟩
 have hN2:P.hs.length-3=N:=O
 have hni:P.n=(N:Int)+2:=O
 have hNb:(N:Int)≤62:=O
 rw[hN2] at HW;obtain⟨W0,hW0,b0_,z0,k0⟩:=zax w #[I P.d,I P.f,I P.l,vh] 211;have HW0:=J hW0;have B0:=J b0_;have HD:=J (fun (W:World) (hW:IJ W0 W0 W)=>by4 k0 hW);have HB:Hid (IJ W0 W0 W0):=Below.refl _ _;clear k0 hW0 b0_;have CL:Hid (∀ W:World,IJ W0 W0 W→Calls Tryz.prog 207 #[.agg #[I P.d,I P.f,I P.l,vh]] W fun e w'=>e=.returned (I ((N:Int)+2))∧IJ W W w'):=fun  W hW=>by rw[← hni];exact zd1 P O vh W (zb4 r B0.out hW)
 have CP:Hid (∀ (x:Int) (hx:0≤x∧x<(N:Int)+3) (W:World),IJ W0 W0 W→Calls Tryz.prog 242 #[.agg #[I P.d,I P.f,I P.l,vh],I f,I x] W fun e w'=>e=.returned (I (nuP P f x))∧IJ W W w'):=fun x hx W hW=>by
   obtain⟨k,rfl⟩:=Int.eq_ofNat_of_zero_le hx.1;exact iPar_any P h vh f f0 f1 k O W (zb4 r B0.out hW)
 have CE:Hid (∀ W:World,IJ W0 W0 W→Calls Tryz.prog 243 #[I (nuP P f (wstP P f))] W fun e w'=>e=.returned (I (sglP P f))∧IJ W W w'):=fun  W hW=>by
   rw[HS.out];have hh:=nuP_bd P f (wstP P f);exact iEdge_any _ hh.1 hh.2 W (L.mono (B0.out.trans (hW.mono B0.out.size)))
 clear L r;generalize sglP P f=SV at *;generalize wstP P f=WV at *;generalize nuP P f=g at *;go_enter Tryz.func208,Tryz.ntmps208;go_upto_region 1 with (fail);rw[HW0.out];obtain⟨t0,t1,t2,t3⟩:=HD.out _ HB.out;go_wp2;go_loopw [6,7] (fun bs ii wr=>∃ j:Nat,j≤N∧bs=I (zaz g 1 j)∧ii=I (2+(j:Int))∧IJ W0 W0 wr) (fun bs ii wr=>(N+2-(intOf ii)).toNat)
 case atStart=>exact⟨0,Nat.zero_le _,rfl,by simp,HB.out⟩
 case round =>
  obtain⟨j,hj,rfl,rfl,hbw⟩:=hrel;clear t0 t1 t2 t3;replace HB:=J hbw;clear hbw;obtain⟨t0,t1,t2,t3⟩:=HD.out _ HB.out;obtain⟨bb0,bb1⟩:=zdb g 1 j;have es:(1:Int)+((j+1:Nat):Int)=2+(j:Int):=O
  have hji:(j:Int)≤(N:Int):=O
  by_cases hlt:j<N
  ·have hjl:(j:Int)<(N:Int):=O
   have hp:=zfm (g:=g) (s:=1) (k:=j);have hn2:=zfn (g:=g) (s:=1) (k:=j);rw[es] at hp hn2;have HP:=J hp;have HN:=J hn2;clear hp hn2 es HW HS CE;generalize zaz g 1 j=ob at *;go_upto_region 5 with (go_at_call 207;with_reducible refine (CL.out _ HB.out).mono ?_;rintro e v1 ⟨rfl,hb_⟩;(try clear t0 t1 t2 t3);replace HB:=btr HB hb_;clear hb_;obtain⟨t0,t1,t2,t3⟩:=HD.out _ HB.out);have o0:=zal (w0:=v1) (show w.heap.size<v1.heap.size by have:=HB.out.size;omega);refine zad v1.heap.size v1 (Below.refl _ _) OJ OJ ?_
   repeat (go_big_quiet_step (first|(go_at_call 242;with_reducible exact zaj (Nat.le_refl _) (CP.out _ ⟨O,O⟩ _ (HB.out.trans ((zaa _ _ _).mono HB.out.size))))))
   refine wpQuiet_nil ?_;rintro _ ⟨X,rfl⟩;replace HB:=btr HB (zaa v1.heap.size v1 X);clear o0
   (try clear t0 t1 t2 t3)
   generalize over v1.heap.size v1 X=u1 at *;obtain⟨t0,t1,t2,t3⟩:=HD.out _ HB.out
   by_cases hc:g ob<g (2+(j:Int))
   ·have HE2:=J (HP.out O)
    go_wp2;go_roundw
    case rel=>exact⟨j+1,O,by rw[HE2.out],by go_num,HB.out⟩
    case measure=>simp[intOf];omega
   ·have HE2:=J (HN.out O)
    go_wp2;go_roundw
    case rel=>exact⟨j+1,O,by rw[HE2.out],by go_num,HB.out⟩
    case measure=>simp[intOf];omega
  ·obtain rfl:j=N:=O
   rw[← HW.out] at bb0 bb1 ⊢;go_wp2_with (first|(go_at_call 207;with_reducible refine (CL.out _ HB.out).mono ?_;rintro e v1 ⟨rfl,hb_⟩;(try clear t0 t1 t2 t3);replace HB:=btr HB hb_;clear hb_;obtain⟨t0,t1,t2,t3⟩:=HD.out _ HB.out)|(go_at_call 242;with_reducible refine (CP.out _ ⟨O,O⟩ _ HB.out).mono ?_;rintro e v1 ⟨rfl,hb_⟩;(try clear t0 t1 t2 t3);replace HB:=btr HB hb_;clear hb_;obtain⟨t0,t1,t2,t3⟩:=HD.out _ HB.out)|(go_at_call 243;with_reducible refine (CE.out _ HB.out).mono ?_;rintro e v1 ⟨rfl,hb_⟩;(try clear t0 t1 t2 t3);replace HB:=btr HB hb_;clear hb_;obtain⟨t0,t1,t2,t3⟩:=HD.out _ HB.out));go_ret2;exact⟨rfl,B0.out.trans (HB.out.mono B0.out.size)⟩
theorem zem (P:Pf) (h:PfW P) (vh:Value) (w:World) (r:Rd w w (zai P.hs) vh) :
  Calls Tryz.prog 203 #[.agg #[I P.d,I P.f,I P.l,vh]] w fun e w'=>e=.returned (.bool (pfB P))∧IJ w w w':=by
 have hpf:=pfB_w h;have HF:=J hpf;have f0_:=zat.2 (show 0≤P.f∧P.f≤180000 from ⟨h.f0,h.f1⟩);have l0_:=zat.2 (show 0≤P.l∧P.l≤180000 from ⟨h.l0,h.l1⟩);have ea:(P.hs.all fun n=>inB n 0 90000)=true:=gi_allB (fun k _=>h.hs k);have n0_:=h.n0;have n1_:=h.n1;have hsi0:=h.hs 0;have hsil:=h.hs (P.hs.length-1);clear hpf;obtain⟨av,cv,ev,_,_,_⟩:=r.ints;subst ev;obtain⟨bh,oh,ea_,hbl,hat⟩:=r.intAt O;subst ea_;have cl0:=hat 0 O;have cl1:=hat (P.hs.length-1) O;rw[Nat.add_zero] at cl0;have xl:(P.hs.length:Int)-1=((P.hs.length-1:Nat):Int):=O
 have xl1:(0:Int)≤((P.hs.length-1:Nat):Int):=O
 have xl2:((P.hs.length-1:Nat):Int)<(P.hs.length:Int):=O
 have ni0:(2:Int)≤(P.hs.length:Int):=O
 have ni1:(P.hs.length:Int)≤65:=O
 obtain⟨W0,hW0,b0_,z0,k0⟩:=zax w #[I P.d,I P.f,I P.l,II (some ⟨bh,oh,none⟩) P.hs.length cv] 211;have HW0:=J hW0;have B0:=J b0_;have HD:=J (fun (W:World) (hW:IJ W0 W0 W)=>bx4 k0 hW <| aI ((bat hW bh _ O).trans ((bat b0_ bh _ O).trans cl0)) <| ((bat hW bh _ O).trans ((bat b0_ bh _ O).trans cl1)));have HB:Hid (IJ W0 W0 W0):=Below.refl _ _;clear k0 hW0 b0_;have CF:Hid (∀ W:World,IJ W0 W0 W→Calls Tryz.prog 54 #[I P.f,I 0,I 180000] W fun e w'=>e=.returned (.bool true)∧IJ W W w'):=fun  W hW=>by
   have hh:=zao P.f 0 180000 W;rw[f0_] at hh;exact zam hh
 have CL:Hid (∀ W:World,IJ W0 W0 W→Calls Tryz.prog 54 #[I P.l,I 0,I 180000] W fun e w'=>e=.returned (.bool true)∧IJ W W w'):=fun  W hW=>by
   have hh:=zao P.l 0 180000 W;rw[l0_] at hh;exact zam hh
 have CA:Hid (∀ W:World,IJ W0 W0 W→Calls Tryz.prog 100 #[II (some ⟨bh,oh,none⟩) P.hs.length cv,I 0,I 90000] W fun e w'=>e=.returned (.bool true)∧IJ W W w'):=fun  W hW=>by
   have hh:=zdo P.hs 0 90000 _ W.heap.size W (zb4 r B0.out hW) (Nat.le_refl _) O;rw[ea] at hh;exact hh
 have CD:Hid (∀ W:World,IJ W0 W0 W→Calls Tryz.prog 54 #[I P.d,I 1,I 283000] W fun e w'=>e=.returned (.bool (inB P.d 1 283000))∧IJ W W w'):=fun  W hW=>zam (zao P.d 1 283000 W)
 clear hat r cl0 cl1 f0_ l0_ ea h;generalize gi P.hs 0=h0 at *;generalize gi P.hs (P.hs.length-1)=hz at *;generalize pfB P=PB at *
 cases hA:inB P.d 1 283000 with
 | false =>
  rw[hA] at CD HF;have HE:Hid (PB=false):=by show _=_;rw[HF.out];rfl
  go_enter Tryz.func203,Tryz.ntmps203;go_upto_region 1 with (fail);rw[HW0.out];obtain⟨t0,t1,t2,t3,t4,t5⟩:=HD.out _ HB.out;go_wp2_with ((first|(go_at_call 54;with_reducible refine (CF.out _ HB.out).mono ?_)|(go_at_call 54;with_reducible refine (CL.out _ HB.out).mono ?_)|(go_at_call 54;with_reducible refine (CD.out _ HB.out).mono ?_));rintro e v1 ⟨rfl,hb_⟩;(try clear t0 t1 t2 t3 t4 t5);replace HB:=btr HB hb_;clear hb_;obtain⟨t0,t1,t2,t3,t4,t5⟩:=HD.out _ HB.out);go_ret;exact⟨by rw[HE.out];rfl,B0.out.trans (HB.out.mono B0.out.size)⟩
 | true =>
  rw[hA] at CD HF
  by_cases hG:h0≤P.f
  case neg =>
   have hGd:decide (h0≤P.f)=false:=decide_eq_false hG;have HE:Hid (PB=false):=by show _=_;rw[HF.out,decide_eq_false hG];rfl
   go_enter Tryz.func203,Tryz.ntmps203;go_upto_region 1 with (fail);rw[HW0.out];obtain⟨t0,t1,t2,t3,t4,t5⟩:=HD.out _ HB.out;go_upto_region 4 with ((first|(go_at_call 54;with_reducible refine (CF.out _ HB.out).mono ?_)|(go_at_call 54;with_reducible refine (CL.out _ HB.out).mono ?_)|(go_at_call 54;with_reducible refine (CD.out _ HB.out).mono ?_));rintro e v1 ⟨rfl,hb_⟩;(try clear t0 t1 t2 t3 t4 t5);replace HB:=btr HB hb_;clear hb_;obtain⟨t0,t1,t2,t3,t4,t5⟩:=HD.out _ HB.out);have o0:=zal (w0:=v1) (show w.heap.size<v1.heap.size by have:=HB.out.size;omega);have o1:=zal (w0:=v1) (show bh<v1.heap.size by have:=HB.out.size;omega);refine zad v1.heap.size v1 (Below.refl _ _) OJ OJ ?_
   repeat (go_big_quiet_step (first|(go_at_call 100;with_reducible exact zaj (Nat.le_refl _) (CA.out _ (HB.out.trans ((zaa _ _ _).mono HB.out.size))))))
   refine wpQuiet_nil ?_;rintro _ ⟨X,rfl⟩;replace HB:=btr HB (zaa v1.heap.size v1 X);clear o0 o1
   (try clear t0 t1 t2 t3 t4 t5)
   generalize over v1.heap.size v1 X=u2 at *;obtain⟨t0,t1,t2,t3,t4,t5⟩:=HD.out _ HB.out;go_wp2;go_ret;exact⟨by rw[HE.out];rfl,B0.out.trans (HB.out.mono B0.out.size)⟩
  by_cases hH:hz≤P.l
  case neg =>
   have hGd:decide (h0≤P.f)=true:=decide_eq_true hG;have hHd:decide (hz≤P.l)=false:=decide_eq_false hH;have HE:Hid (PB=false):=by show _=_;rw[HF.out,decide_eq_false hH,decide_eq_true hG];rfl
   go_enter Tryz.func203,Tryz.ntmps203;go_upto_region 1 with (fail);rw[HW0.out];obtain⟨t0,t1,t2,t3,t4,t5⟩:=HD.out _ HB.out;go_upto_region 4 with ((first|(go_at_call 54;with_reducible refine (CF.out _ HB.out).mono ?_)|(go_at_call 54;with_reducible refine (CL.out _ HB.out).mono ?_)|(go_at_call 54;with_reducible refine (CD.out _ HB.out).mono ?_));rintro e v1 ⟨rfl,hb_⟩;(try clear t0 t1 t2 t3 t4 t5);replace HB:=btr HB hb_;clear hb_;obtain⟨t0,t1,t2,t3,t4,t5⟩:=HD.out _ HB.out);have o0:=zal (w0:=v1) (show w.heap.size<v1.heap.size by have:=HB.out.size;omega);have o1:=zal (w0:=v1) (show bh<v1.heap.size by have:=HB.out.size;omega);refine zad v1.heap.size v1 (Below.refl _ _) OJ OJ ?_
   repeat (go_big_quiet_step (first|(go_at_call 100;with_reducible exact zaj (Nat.le_refl _) (CA.out _ (HB.out.trans ((zaa _ _ _).mono HB.out.size))))))
   refine wpQuiet_nil ?_;rintro _ ⟨X,rfl⟩;replace HB:=btr HB (zaa v1.heap.size v1 X);clear o0 o1
   (try clear t0 t1 t2 t3 t4 t5)
   generalize over v1.heap.size v1 X=u2 at *;obtain⟨t0,t1,t2,t3,t4,t5⟩:=HD.out _ HB.out;go_wp2;go_ret;exact⟨by rw[HE.out];rfl,B0.out.trans (HB.out.mono B0.out.size)⟩
  have hGd:decide (h0≤P.f)=true:=decide_eq_true hG;have hHd:decide (hz≤P.l)=true:=decide_eq_true hH;have HE:Hid (PB=true):=by show _=_;rw[HF.out,decide_eq_true hH,decide_eq_true hG];rfl
  go_enter Tryz.func203,Tryz.ntmps203;go_upto_region 1 with (fail);rw[HW0.out];obtain⟨t0,t1,t2,t3,t4,t5⟩:=HD.out _ HB.out;go_upto_region 4 with ((first|(go_at_call 54;with_reducible refine (CF.out _ HB.out).mono ?_)|(go_at_call 54;with_reducible refine (CL.out _ HB.out).mono ?_)|(go_at_call 54;with_reducible refine (CD.out _ HB.out).mono ?_));rintro e v1 ⟨rfl,hb_⟩;(try clear t0 t1 t2 t3 t4 t5);replace HB:=btr HB hb_;clear hb_;obtain⟨t0,t1,t2,t3,t4,t5⟩:=HD.out _ HB.out);have o0:=zal (w0:=v1) (show w.heap.size<v1.heap.size by have:=HB.out.size;omega);have o1:=zal (w0:=v1) (show bh<v1.heap.size by have:=HB.out.size;omega);refine zad v1.heap.size v1 (Below.refl _ _) OJ OJ ?_
  repeat (go_big_quiet_step (first|(go_at_call 100;with_reducible exact zaj (Nat.le_refl _) (CA.out _ (HB.out.trans ((zaa _ _ _).mono HB.out.size))))))
  refine wpQuiet_nil ?_;rintro _ ⟨X,rfl⟩;replace HB:=btr HB (zaa v1.heap.size v1 X);clear o0 o1
  (try clear t0 t1 t2 t3 t4 t5)
  generalize over v1.heap.size v1 X=u2 at *;obtain⟨t0,t1,t2,t3,t4,t5⟩:=HD.out _ HB.out;go_wp2;go_ret;exact⟨by rw[HE.out];rfl,B0.out.trans (HB.out.mono B0.out.size)⟩
end Go.Proofs.YtgmapjgodibchaaGreatDoor
