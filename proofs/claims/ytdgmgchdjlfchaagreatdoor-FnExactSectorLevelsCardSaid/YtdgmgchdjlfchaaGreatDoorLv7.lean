/- Contracts: losses over one edge, valid profiles, worst places, for the program and for the reference. Conditions: valid profiles. -/
import Derived.Test.YtdgmgchdjlfchaaGreatDoorLv6
import Derived.Test.YtdgmgchdjlfchaaGreatDoorLv3
set_option linter.unusedVariables false
set_option linter.unusedSimpArgs false
namespace Go.Proofs.YtdgmgchdjlfchaaGreatDoor
open Go.RowKit
set_option maxHeartbeats 8000000
set_option maxRecDepth 100000
def shrP (p:Pf) (f i:Int):Int:=rdiv (1000*clrP p i) (max (radP p f i) 1)
def wrsP (p:Pf) (f:Int):Int:=za1 (fun x=>-(shrP p f x)) 1 (p.hs.length-3)
structure PfW (p:Pf):Prop where
 d0:-283000≤p.d
 d1:p.d≤283000
 f0:0≤p.f
 f1:p.f≤180000
 l0:0≤p.l
 l1:p.l≤180000
 n0:2≤p.hs.length
 n1:p.hs.length≤65
 hs:∀ k,0≤gi p.hs k∧gi p.hs k≤90000
theorem PfOk.w {p:Pf} (h:PfOk p):PfW p:=⟨by have:=h.d0;omega,h.d1,h.f0,h.f1,h.l0,h.l1,h.n0,h.n1,h.hs⟩
theorem pfB_w {p:Pf} (h:PfW p):pfB p=(inB p.d 1 283000&&(decide (gi p.hs 0≤p.f)&&decide (gi p.hs (p.hs.length-1)≤p.l))):=by
 have a:=zav.2 (show 0≤p.f∧p.f≤180000 from ⟨h.f0,h.f1⟩);have b:=zav.2 (show 0≤p.l∧p.l≤180000 from ⟨h.l0,h.l1⟩);have c:decide (2≤(p.hs.length:Int))=true:=decide_eq_true (by have:=h.n0;omega);have d:decide ((p.hs.length:Int)≤65)=true:=decide_eq_true (by have:=h.n1;omega);have e:(p.hs.all fun n=>inB n 0 90000)=true:=gi_allB (fun k _=>h.hs k);unfold pfB;rw[a,b,c,d,e];simp only[Bool.true_and]
theorem offP_diff {p:Pf} (h:PfOk p) {i k:Int} (i0:0≤i) (i1:i≤p.n) (k0:0≤k) (k1:k≤p.n):-283000≤offP p.d p.n k-offP p.d p.n i∧offP p.d p.n k-offP p.d p.n i≤283000:=by
 have a:=off_ok h i0 i1;have b:=off_ok h k0 k1;omega
theorem gi_take (l:List Int) (n k:Nat) (h:k<n):gi (l.take n) k=gi l k:=by
 unfold gi;rw[List.getD_eq_getElem?_getD,List.getD_eq_getElem?_getD,List.getElem?_take_of_lt h]
theorem gi_drop (l:List Int) (n k:Nat):gi (l.drop n) k=gi l (n+k):=by
 unfold gi;rw[List.getD_eq_getElem?_getD,List.getD_eq_getElem?_getD,List.getElem?_drop]
theorem gi_over (l:List Int) (k:Nat) (h:l.length≤k):gi l k=0:=by
 unfold gi;rw[List.getD_eq_getElem?_getD,List.getElem?_eq_none h];rfl
theorem partP_len {p:Pf} {i k:Nat} (hik:i<k) (hk:k<p.hs.length):(zbq p i k).hs.length=k+1-i:=by
 show ((p.hs.drop (i:Int).toNat).take ((k:Int)+1-(i:Int)).toNat).length=_
 rw[List.length_take,List.length_drop,Int.toNat_natCast];omega
theorem partP_w {p:Pf} (h:PfOk p) {i k:Nat} (hik:i<k) (hk:k<p.hs.length):PfW (zbq p i k):=by
 have hn:p.n=(p.hs.length:Int)-1:=rfl;have hd:=offP_diff h (i:=i) (k:=k) (by omega) (by omega) (by omega) (by omega);have hl:=partP_len hik hk;have:=h.n1;refine⟨hd.1,hd.2,?_,?_,?_,?_,by omega,by omega,fun q=>?_⟩
 ·show 0≤if (i:Int)=0 then p.f else gi p.hs (i:Int).toNat
  split
  ·exact h.f0
  ·exact (h.hs _).1
 ·show (if (i:Int)=0 then p.f else gi p.hs (i:Int).toNat)≤180000
  split
  ·exact h.f1
  ·have:=(h.hs (i:Int).toNat).2;omega
 ·show 0≤if (k:Int)=p.n then p.l else gi p.hs (k:Int).toNat
  split
  ·exact h.l0
  ·exact (h.hs _).1
 ·show (if (k:Int)=p.n then p.l else gi p.hs (k:Int).toNat)≤180000
  split
  ·exact h.l1
  ·have:=(h.hs (k:Int).toNat).2;omega
 ·by_cases hq:q<(zbq p i k).hs.length
  ·have e:gi (zbq p i k).hs q=gi p.hs (i+q):=by
    show gi ((p.hs.drop (i:Int).toNat).take ((k:Int)+1-(i:Int)).toNat) q=_
    rw[gi_take _ _ _ (by omega),gi_drop,Int.toNat_natCast]
   rw[e];exact h.hs _
  ·rw[gi_over _ _ (by omega)];omega
theorem iEdge_any (nu:Int) (h0:-1000000≤nu) (h1:nu≤1000000) (w:World) (L:LibW w) :
  Calls Tryz.prog 234 #[.int .i64 nu] w fun e w'=>e=.returned (.int .i64 (edgI nu))∧Below w.heap.size w w':=by
 have HE0:Hid (edgI nu=if nu≤-780 then 0 else max (6900+2*(lgI (isq ((nu-100)*(nu-100)+1000000)+(nu-100))-30000)) 0):=rfl;generalize edgI nu=EV at *;have B0:Hid (Below w.heap.size w w):=Below.refl _ _;have HB:Hid (Below w.heap.size w w):=Below.refl _ _;have CW:Hid (∀ W:World,Below w.heap.size w W→Calls Tryz.prog 74 #[.int .i64 nu,.int .i64 (-1000000),.int .i64 1000000] W fun e w'=>e=.returned (.bool true)∧Below W.heap.size W w'):=fun  W hW=>by
   have hh:=zao nu (-1000000) 1000000 W;rw[zav.2 ⟨h0,h1⟩] at hh;exact zam hh
 by_cases c:nu≤-780
 ·have HE:Hid (EV=0):=by show _=_;rw[HE0.out,if_pos c]
  go_enter Tryz.func234,Tryz.ntmps234;skip;go_wp2_with (first|(go_at_call 74;with_reducible refine (CW.out _ HB.out).mono ?_;rintro e v1 ⟨rfl,hb_⟩;replace HB:=btr HB hb_;clear hb_;skip));go_ret;exact⟨by rw[HE.out];rfl,B0.out.trans (HB.out.mono B0.out.size)⟩
 have HE:Hid (EV=max (6900+2*(lgI (isq ((nu-100)*(nu-100)+1000000)+(nu-100))-30000)) 0):=by show _=_;rw[HE0.out,if_neg c]
 obtain⟨⟨a0,a1⟩,b0,b1⟩:=edg_in (nu:=nu) (by omega) h1;have lb:=lgI_bd (n:=isq ((nu-100)*(nu-100)+1000000)+(nu-100)) (by omega);have c2:-780<nu:=by omega
 clear HE0;have CR:Hid (∀ W:World,Below w.heap.size w W→Calls Tryz.prog 225 #[.int .i64 ((nu-100)*(nu-100)+1000000)] W fun e w'=>e=.returned (.int .i64 (isq ((nu-100)*(nu-100)+1000000)))∧Below W.heap.size W w'):=fun  W hW=>rootOf_any _ (by omega) (by omega) W
 have CL:Hid (∀ W:World,Below w.heap.size w W→Calls Tryz.prog 201 #[.int .i64 (isq ((nu-100)*(nu-100)+1000000)+(nu-100))] W fun e w'=>e=.returned (.int .i64 (lgI (isq ((nu-100)*(nu-100)+1000000)+(nu-100))))∧Below W.heap.size W w'):=fun  W hW=>iLogDb_any _ (by omega) (by omega) W (L.mono (B0.out.trans hW))
 generalize lgI (isq ((nu-100)*(nu-100)+1000000)+(nu-100))=LG at *;generalize isq ((nu-100)*(nu-100)+1000000)=RQ at *;obtain⟨lb0,lb1⟩:=lb;go_enter Tryz.func234,Tryz.ntmps234;skip;go_wp2_with ((first|(go_at_call 74;with_reducible refine (CW.out _ HB.out).mono ?_)|(go_at_call 225;with_reducible refine (CR.out _ HB.out).mono ?_)|(go_at_call 201;with_reducible refine (CL.out _ HB.out).mono ?_));rintro e v1 ⟨rfl,hb_⟩;replace HB:=btr HB hb_;clear hb_;skip);go_ret;exact⟨by rw[HE.out];rfl,B0.out.trans (HB.out.mono B0.out.size)⟩
theorem l10Edge_any (nu:Int) (h0:-1000000≤nu) (h1:nu≤1000000) (w:World) :
  Calls Tryz.prog 181 #[.int .i64 nu] w fun e w'=>e=.returned (.int .i64 (edgI nu))∧Below w.heap.size w w':=by
 have HE0:Hid (edgI nu=if nu≤-780 then 0 else max (6900+2*(lgI (isq ((nu-100)*(nu-100)+1000000)+(nu-100))-30000)) 0):=rfl;generalize edgI nu=EV at *;have B0:Hid (Below w.heap.size w w):=Below.refl _ _;have HB:Hid (Below w.heap.size w w):=Below.refl _ _
 by_cases c:nu≤-780
 ·have HE:Hid (EV=0):=by show _=_;rw[HE0.out,if_pos c]
  go_enter Tryz.func181,Tryz.ntmps181;skip;go_wp2;go_ret;exact⟨by rw[HE.out];rfl,B0.out.trans (HB.out.mono B0.out.size)⟩
 have HE:Hid (EV=max (6900+2*(lgI (isq ((nu-100)*(nu-100)+1000000)+(nu-100))-30000)) 0):=by show _=_;rw[HE0.out,if_neg c]
 obtain⟨⟨a0,a1⟩,b0,b1⟩:=edg_in (nu:=nu) (by omega) h1;have lb:=lgI_bd (n:=isq ((nu-100)*(nu-100)+1000000)+(nu-100)) (by omega);have c2:-780<nu:=by omega
 clear HE0;have CR:Hid (∀ W:World,Below w.heap.size w W→Calls Tryz.prog 214 #[.int .i64 ((nu-100)*(nu-100)+1000000)] W fun e w'=>e=.returned (.int .i64 (isq ((nu-100)*(nu-100)+1000000)))∧Below W.heap.size W w'):=fun  W hW=>zam (l01Root_any _ (by omega) W)
 have CL:Hid (∀ W:World,Below w.heap.size w W→Calls Tryz.prog 173 #[.int .i64 (isq ((nu-100)*(nu-100)+1000000)+(nu-100))] W fun e w'=>e=.returned (.int .i64 (lgI (isq ((nu-100)*(nu-100)+1000000)+(nu-100))))∧Below W.heap.size W w'):=fun  W hW=>by
   have hh:=l02Log_any (isq ((nu-100)*(nu-100)+1000000)+(nu-100)) b0 (by omega) W;unfold lgI;rw[if_neg (by omega)];exact hh
 generalize lgI (isq ((nu-100)*(nu-100)+1000000)+(nu-100))=LG at *;generalize isq ((nu-100)*(nu-100)+1000000)=RQ at *;obtain⟨lb0,lb1⟩:=lb;rw[Int.max_comm] at HE;have CM:Hid (∀ W:World,Below w.heap.size w W→Calls Tryz.prog 115 #[.int .i64 0,.int .i64 (6900+2*(LG-30000))] W fun e w'=>e=.returned (.int .i64 (max 0 (6900+2*(LG-30000))))∧Below W.heap.size W w'):=fun  W hW=>zam (ze0 _ _ W)
 go_enter Tryz.func181,Tryz.ntmps181;skip;go_wp2_with ((first|(go_at_call 214;with_reducible refine (CR.out _ HB.out).mono ?_)|(go_at_call 173;with_reducible refine (CL.out _ HB.out).mono ?_)|(go_at_call 115;with_reducible refine (CM.out _ HB.out).mono ?_));rintro e v1 ⟨rfl,hb_⟩;replace HB:=btr HB hb_;clear hb_;skip);go_ret;exact⟨by rw[HE.out];rfl,B0.out.trans (HB.out.mono B0.out.size)⟩
theorem iParOf_any (h r:Int) (h0:-200000≤h) (h1:h≤200000) (r0:0≤r) (r1:r≤2000000000) (w:World) :
  Calls Tryz.prog 251 #[.int .i64 h,.int .i64 r] w fun e w'=>e=.returned (.int .i64 (nuI h r))∧Below w.heap.size w w':=by
 have HE:Hid (nuI h r=min (max (rdiv (1414*h) (max r 1)) (-1000000)) 1000000):=rfl;have rb:=zdz (a:=1414*h) (b:=max r 1) (by omega) 282800000 (by omega) (by omega);generalize nuI h r=NV at *;have B0:Hid (Below w.heap.size w w):=Below.refl _ _;have HB:Hid (Below w.heap.size w w):=Below.refl _ _;have CD:Hid (∀ W:World,Below w.heap.size w W→Calls Tryz.prog 202 #[.int .i64 (1414*h),.int .i64 (max r 1)] W fun e w'=>e=.returned (.int .i64 (rdiv (1414*h) (max r 1)))∧Below W.heap.size W w'):=fun  W hW=>zbs _ _ (by omega) (by omega) (by omega) (by omega) W
 generalize rdiv (1414*h) (max r 1)=RV at *;obtain⟨rb0,rb1⟩:=rb;go_enter Tryz.func251,Tryz.ntmps251;skip;go_wp2_with (first|(go_at_call 202;with_reducible refine (CD.out _ HB.out).mono ?_;rintro e v1 ⟨rfl,hb_⟩;replace HB:=btr HB hb_;clear hb_;skip));go_ret;exact⟨by rw[HE.out];rfl,B0.out.trans (HB.out.mono B0.out.size)⟩
theorem l10Limit_any (n:Int) (w:World) :
  Calls Tryz.prog 252 #[.int .i64 n] w fun e w'=>e=.returned (.int .i64 (min (max n (-1000000)) 1000000))∧Below w.heap.size w w':=by
 have HE:Hid (min (max n (-1000000)) 1000000=max (-1000000) (min 1000000 n)):=by show _=_;omega
 have B0:Hid (Below w.heap.size w w):=Below.refl _ _;have HB:Hid (Below w.heap.size w w):=Below.refl _ _;have CI:Hid (∀ W:World,Below w.heap.size w W→Calls Tryz.prog 116 #[.int .i64 1000000,.int .i64 n] W fun e w'=>e=.returned (.int .i64 (min 1000000 n))∧Below W.heap.size W w'):=fun  W hW=>zam (zez _ _ W)
 have CA:Hid (∀ W:World,Below w.heap.size w W→Calls Tryz.prog 115 #[.int .i64 (-1000000),.int .i64 (min 1000000 n)] W fun e w'=>e=.returned (.int .i64 (max (-1000000) (min 1000000 n)))∧Below W.heap.size W w'):=fun  W hW=>zam (ze0 _ _ W)
 generalize min 1000000 n=MV at *;generalize min (max n (-1000000)) 1000000=RV at *;go_enter Tryz.func252,Tryz.ntmps252;skip;go_wp2_with ((first|(go_at_call 116;with_reducible refine (CI.out _ HB.out).mono ?_)|(go_at_call 115;with_reducible refine (CA.out _ HB.out).mono ?_));rintro e v1 ⟨rfl,hb_⟩;replace HB:=btr HB hb_;clear hb_;skip);go_ret;exact⟨by rw[HE.out];rfl,B0.out.trans (HB.out.mono B0.out.size)⟩
theorem l10Of_any (h r:Int) (h0:-200000≤h) (h1:h≤200000) (r0:0≤r) (r1:r≤2000000000) (w:World) :
  Calls Tryz.prog 241 #[.int .i64 h,.int .i64 r] w fun e w'=>e=.returned (.int .i64 (nuI h r))∧Below w.heap.size w w':=by
 have HE:Hid (nuI h r=min (max (rdiv (1414*h) (max r 1)) (-1000000)) 1000000):=rfl;have rb:=zdz (a:=1414*h) (b:=max r 1) (by omega) 282800000 (by omega) (by omega);generalize nuI h r=NV at *;have B0:Hid (Below w.heap.size w w):=Below.refl _ _;have HB:Hid (Below w.heap.size w w):=Below.refl _ _;have CM:Hid (∀ W:World,Below w.heap.size w W→Calls Tryz.prog 115 #[.int .i64 1,.int .i64 r] W fun e w'=>e=.returned (.int .i64 (max r 1))∧Below W.heap.size W w'):=fun  W hW=>by rw[Int.max_comm];exact zam (ze0 _ _ W)
 have CD:Hid (∀ W:World,Below w.heap.size w W→Calls Tryz.prog 178 #[.int .i64 (1414*h),.int .i64 (max r 1)] W fun e w'=>e=.returned (.int .i64 (rdiv (1414*h) (max r 1)))∧Below W.heap.size W w'):=fun  W hW=>zam (zbm _ _ (by omega) (by omega) (by omega) (by omega) W)
 have CX:Hid (∀ W:World,Below w.heap.size w W→Calls Tryz.prog 252 #[.int .i64 (rdiv (1414*h) (max r 1))] W fun e w'=>e=.returned (.int .i64 (min (max (rdiv (1414*h) (max r 1)) (-1000000)) 1000000))∧Below W.heap.size W w'):=fun  W hW=>l10Limit_any _ W
 generalize rdiv (1414*h) (max r 1)=RV at *;go_enter Tryz.func241,Tryz.ntmps241;skip;go_wp2_with ((first|(go_at_call 115;with_reducible refine (CM.out _ HB.out).mono ?_)|(go_at_call 178;with_reducible refine (CD.out _ HB.out).mono ?_)|(go_at_call 252;with_reducible refine (CX.out _ HB.out).mono ?_));rintro e v1 ⟨rfl,hb_⟩;replace HB:=btr HB hb_;clear hb_;skip);go_ret;exact⟨by rw[HE.out];rfl,B0.out.trans (HB.out.mono B0.out.size)⟩
theorem iPar_any (P:Pf) (h:PfOk P) (vh:Value) (f:Int) (f0:1≤f) (f1:f≤100000000) (k:Nat) (hk:k<P.hs.length) (w:World) (r:Rd w.heap.size w (zaj P.hs) vh) :
  Calls Tryz.prog 233 #[.agg #[.int .i64 P.d,.int .i64 P.f,.int .i64 P.l,vh],.int .i64 f,.int .i64 (k:Int)] w fun e w'=>e=.returned (.int .i64 (nuP P f k))∧Below w.heap.size w w':=by
 have HE:Hid (nuP P f k=nuI (-(clrP P k)) (radP P f k)):=rfl;have hn:P.n=(P.hs.length:Int)-1:=rfl;have ki0:0≤(k:Int):=by omega
 have ki1:(k:Int)≤P.n:=by omega
 obtain⟨cb0,cb1⟩:=clrP_bd h ki0 ki1;obtain⟨rb0,rb1⟩:=radP_bd h f0 f1 ki0 ki1;obtain⟨W0,hW0,b0_,z0,k0⟩:=zat w #[.int .i64 P.d,.int .i64 P.f,.int .i64 P.l,vh] 180;have HW0:=Lib.hid hW0;have B0:=Lib.hid b0_;have HD:=Lib.hid (fun (W:World) (hW:Below W0.heap.size W0 W)=>by4 k0 hW);have HB:Hid (Below W0.heap.size W0 W0):=Below.refl _ _;clear k0 hW0 b0_;have CC:Hid (∀ W:World,Below W0.heap.size W0 W→Calls Tryz.prog 249 #[.agg #[.int .i64 P.d,.int .i64 P.f,.int .i64 P.l,vh],.int .i64 (k:Int)] W fun e w'=>e=.returned (.int .i64 (clrP P k))∧Below W.heap.size W w'):=fun  W hW=>iClear_any P h vh k hk W (zb2 r B0.out hW)
 have CR:Hid (∀ W:World,Below W0.heap.size W0 W→Calls Tryz.prog 250 #[.agg #[.int .i64 P.d,.int .i64 P.f,.int .i64 P.l,vh],.int .i64 f,.int .i64 (k:Int)] W fun e w'=>e=.returned (.int .i64 (radP P f k))∧Below W.heap.size W w'):=fun  W hW=>iRadius_any P h vh f f0 f1 k hk W (zb2 r B0.out hW)
 have CP:Hid (∀ W:World,Below W0.heap.size W0 W→Calls Tryz.prog 251 #[.int .i64 (-(clrP P k)),.int .i64 (radP P f k)] W fun e w'=>e=.returned (.int .i64 (nuI (-(clrP P k)) (radP P f k)))∧Below W.heap.size W w'):=fun  W hW=>iParOf_any _ _ (by omega) (by omega) (by omega) (by omega) W
 generalize clrP P k=cr at *;generalize radP P f k=rr at *;generalize nuP P f k=nn at *;go_enter Tryz.func233,Tryz.ntmps233;go_upto_region 1 with (fail);rw[HW0.out];obtain⟨t0,t1,t2,t3⟩:=HD.out _ HB.out;go_upto_region 1 with (fail);have o0:=zan (w0:=W0) (show w.heap.size<W0.heap.size by have:=HB.out.size;omega);refine zae W0.heap.size W0 (Below.refl _ _) (by kernel_rfl) (by kernel_rfl) ?_
 repeat (go_big_quiet_step (first|(go_at_call 249;with_reducible exact zai (Nat.le_refl _) (CC.out _ (HB.out.trans ((zaa _ _ _).mono HB.out.size))))|(go_at_call 250;with_reducible exact zai (Nat.le_refl _) (CR.out _ (HB.out.trans ((zaa _ _ _).mono HB.out.size))))|(go_at_call 251;with_reducible exact zai (Nat.le_refl _) (CP.out _ (HB.out.trans ((zaa _ _ _).mono HB.out.size))))))
 refine wpQuiet_nil ?_;rintro _ ⟨X,rfl⟩;replace HB:=btr HB (zaa W0.heap.size W0 X);clear o0
 (try clear t0 t1 t2 t3)
 generalize over W0.heap.size W0 X=u2 at *;obtain⟨t0,t1,t2,t3⟩:=HD.out _ HB.out;go_wp2;go_ret;exact⟨by rw[HE.out];rfl,B0.out.trans (HB.out.mono B0.out.size)⟩
theorem iShare_any (P:Pf) (h:PfOk P) (vh:Value) (f:Int) (f0:1≤f) (f1:f≤100000000) (k:Nat) (hk:k<P.hs.length) (w:World) (r:Rd w.heap.size w (zaj P.hs) vh) :
  Calls Tryz.prog 232 #[.agg #[.int .i64 P.d,.int .i64 P.f,.int .i64 P.l,vh],.int .i64 f,.int .i64 (k:Int)] w fun e w'=>e=.returned (.int .i64 (shrP P f k))∧Below w.heap.size w w':=by
 have HE:Hid (shrP P f k=rdiv (1000*clrP P k) (max (radP P f k) 1)):=rfl;have hn:P.n=(P.hs.length:Int)-1:=rfl;have ki0:0≤(k:Int):=by omega
 have ki1:(k:Int)≤P.n:=by omega
 obtain⟨cb0,cb1⟩:=clrP_bd h ki0 ki1;obtain⟨rb0,rb1⟩:=radP_bd h f0 f1 ki0 ki1;obtain⟨W0,hW0,b0_,z0,k0⟩:=zat w #[.int .i64 P.d,.int .i64 P.f,.int .i64 P.l,vh] 180;have HW0:=Lib.hid hW0;have B0:=Lib.hid b0_;have HD:=Lib.hid (fun (W:World) (hW:Below W0.heap.size W0 W)=>by4 k0 hW);have HB:Hid (Below W0.heap.size W0 W0):=Below.refl _ _;clear k0 hW0 b0_;have CC:Hid (∀ W:World,Below W0.heap.size W0 W→Calls Tryz.prog 249 #[.agg #[.int .i64 P.d,.int .i64 P.f,.int .i64 P.l,vh],.int .i64 (k:Int)] W fun e w'=>e=.returned (.int .i64 (clrP P k))∧Below W.heap.size W w'):=fun  W hW=>iClear_any P h vh k hk W (zb2 r B0.out hW)
 have CR:Hid (∀ W:World,Below W0.heap.size W0 W→Calls Tryz.prog 250 #[.agg #[.int .i64 P.d,.int .i64 P.f,.int .i64 P.l,vh],.int .i64 f,.int .i64 (k:Int)] W fun e w'=>e=.returned (.int .i64 (radP P f k))∧Below W.heap.size W w'):=fun  W hW=>iRadius_any P h vh f f0 f1 k hk W (zb2 r B0.out hW)
 have CP:Hid (∀ W:World,Below W0.heap.size W0 W→Calls Tryz.prog 202 #[.int .i64 (1000*clrP P k),.int .i64 (max (radP P f k) 1)] W fun e w'=>e=.returned (.int .i64 (rdiv (1000*clrP P k) (max (radP P f k) 1)))∧Below W.heap.size W w'):=fun  W hW=>zbs _ _ (by omega) (by omega) (by omega) (by omega) W
 generalize clrP P k=cr at *;generalize radP P f k=rr at *;generalize shrP P f k=nn at *;go_enter Tryz.func232,Tryz.ntmps232;go_upto_region 1 with (fail);rw[HW0.out];obtain⟨t0,t1,t2,t3⟩:=HD.out _ HB.out;go_upto_region 1 with (fail);have o0:=zan (w0:=W0) (show w.heap.size<W0.heap.size by have:=HB.out.size;omega);refine zae W0.heap.size W0 (Below.refl _ _) (by kernel_rfl) (by kernel_rfl) ?_
 repeat (go_big_quiet_step (first|(go_at_call 249;with_reducible exact zai (Nat.le_refl _) (CC.out _ (HB.out.trans ((zaa _ _ _).mono HB.out.size))))|(go_at_call 250;with_reducible exact zai (Nat.le_refl _) (CR.out _ (HB.out.trans ((zaa _ _ _).mono HB.out.size))))|(go_at_call 202;with_reducible exact zai (Nat.le_refl _) (CP.out _ (HB.out.trans ((zaa _ _ _).mono HB.out.size))))))
 refine wpQuiet_nil ?_;rintro _ ⟨X,rfl⟩;replace HB:=btr HB (zaa W0.heap.size W0 X);clear o0
 (try clear t0 t1 t2 t3)
 generalize over W0.heap.size W0 X=u2 at *;obtain⟨t0,t1,t2,t3⟩:=HD.out _ HB.out;go_wp2;go_ret;exact⟨by rw[HE.out];rfl,B0.out.trans (HB.out.mono B0.out.size)⟩
theorem l10Nu_any (P:Pf) (h:PfOk P) (vh:Value) (b off:Nat) (f:Int) (f0:1≤f) (f1:f≤100000000) (k:Nat) (hk:k<P.hs.length) (w:World) (r:Rd w.heap.size w (zaj P.hs) vh) (c0:w.cell? ⟨b,off,none⟩=some (.int .i64 P.d)) (c1:w.cell? ⟨b,off+1,none⟩=some (.int .i64 P.f)) (c2:w.cell? ⟨b,off+2,none⟩=some (.int .i64 P.l)) (c3:w.cell? ⟨b,off+3,none⟩=some (vh)) :
  Calls Tryz.prog 220 #[.pointer (some ⟨b,off,none⟩),.int .i64 f,.int .i64 (k:Int)] w fun e w'=>e=.returned (.int .i64 (nuP P f k))∧Below w.heap.size w w':=by
 have hbp:b<w.heap.size:=zbh c0;have HE:Hid (nuP P f k=nuI (-(clrP P k)) (radP P f k)):=rfl;have HR:Hid (radP P f k=freI f (offP P.d P.n k) (P.d-offP P.d P.n k)):=rfl;have hn:P.n=(P.hs.length:Int)-1:=rfl;have ki0:0≤(k:Int):=by omega
 have ki1:(k:Int)≤P.n:=by omega
 obtain⟨cb0,cb1⟩:=clrP_bd h ki0 ki1;obtain⟨rb0,rb1⟩:=radP_bd h f0 f1 ki0 ki1;obtain⟨of0,of1,of2⟩:=off_ok h ki0 ki1;have d1_:=h.d1;have B0:Hid (Below w.heap.size w w):=Below.refl _ _;have HD:Hid (∀ W:World,Below w.heap.size w W→(W.cell? ⟨b,off,none⟩=some (.int .i64 P.d)∧W.cell? ⟨b,off+1,none⟩=some (.int .i64 P.f)∧W.cell? ⟨b,off+2,none⟩=some (.int .i64 P.l)∧W.cell? ⟨b,off+3,none⟩=some (vh))):=fun W hW=>⟨(bat hW b _ (by omega)).trans c0,(bat hW b _ (by omega)).trans c1,(bat hW b _ (by omega)).trans c2,(bat hW b _ (by omega)).trans c3⟩
 have HB:Hid (Below w.heap.size w w):=Below.refl _ _;have CO:Hid (∀ W:World,Below w.heap.size w W→Calls Tryz.prog 240 #[.pointer (some ⟨b,off,none⟩),.int .i64 (k:Int)] W fun e w'=>e=.returned (.int .i64 (offP P.d P.n k))∧Below W.heap.size W w'):=fun  W hW=>by
   obtain⟨t0,t1,t2,t3⟩:=HD.out W hW;exact zdg P h vh b off k hk W (zb2 r B0.out hW) t0 t1 t2 t3
 have CC:Hid (∀ W:World,Below w.heap.size w W→Calls Tryz.prog 242 #[.pointer (some ⟨b,off,none⟩),.int .i64 (k:Int)] W fun e w'=>e=.returned (.int .i64 (clrP P k))∧Below W.heap.size W w'):=fun  W hW=>by
   obtain⟨t0,t1,t2,t3⟩:=HD.out W hW;exact l05Clear_any P h vh b off k hk W (zb2 r B0.out hW) t0 t1 t2 t3
 have CF:Hid (∀ W:World,Below w.heap.size w W→Calls Tryz.prog 243 #[.int .i64 f,.int .i64 (offP P.d P.n k),.int .i64 (P.d-offP P.d P.n k)] W fun e w'=>e=.returned (.int .i64 (radP P f k))∧Below W.heap.size W w'):=fun  W hW=>by rw[HR.out];exact l05Fresnel_any _ _ _ f0 f1 of0 of2 (by omega) (by omega) W
 have CP:Hid (∀ W:World,Below w.heap.size w W→Calls Tryz.prog 241 #[.int .i64 (-(clrP P k)),.int .i64 (radP P f k)] W fun e w'=>e=.returned (.int .i64 (nuI (-(clrP P k)) (radP P f k)))∧Below W.heap.size W w'):=fun  W hW=>l10Of_any _ _ (by omega) (by omega) (by omega) (by omega) W
 clear c0 c1 c2 c3 HR;generalize clrP P k=cr at *;generalize radP P f k=rr at *;generalize nuP P f k=nn at *;generalize offP P.d P.n k=OF at *;go_enter Tryz.func220,Tryz.ntmps220;obtain⟨t0,t1,t2,t3⟩:=HD.out _ HB.out;go_upto_region 2 with (first|(go_at_call 240;with_reducible refine (CO.out _ HB.out).mono ?_;rintro e v1 ⟨rfl,hb_⟩;(try clear t0 t1 t2 t3);replace HB:=btr HB hb_;clear hb_;obtain⟨t0,t1,t2,t3⟩:=HD.out _ HB.out));have o0:=zan (w0:=v1) (show b<v1.heap.size by have:=HB.out.size;omega);refine zae v1.heap.size v1 (Below.refl _ _) (by kernel_rfl) (by kernel_rfl) ?_
 repeat (go_big_quiet_step (first|(go_at_call 242;with_reducible exact zai (Nat.le_refl _) (CC.out _ (HB.out.trans ((zaa _ _ _).mono HB.out.size))))|(go_at_call 243;with_reducible exact zai (Nat.le_refl _) (CF.out _ (HB.out.trans ((zaa _ _ _).mono HB.out.size))))|(go_at_call 241;with_reducible exact zai (Nat.le_refl _) (CP.out _ (HB.out.trans ((zaa _ _ _).mono HB.out.size))))))
 refine wpQuiet_nil ?_;rintro _ ⟨X,rfl⟩;replace HB:=btr HB (zaa v1.heap.size v1 X);clear o0
 (try clear t0 t1 t2 t3)
 generalize over v1.heap.size v1 X=u2 at *;obtain⟨t0,t1,t2,t3⟩:=HD.out _ HB.out;go_wp2;go_ret;exact⟨by rw[HE.out];rfl,B0.out.trans (HB.out.mono B0.out.size)⟩
theorem l05Share_any (P:Pf) (h:PfOk P) (vh:Value) (b off:Nat) (f:Int) (f0:1≤f) (f1:f≤100000000) (k:Nat) (hk:k<P.hs.length) (w:World) (r:Rd w.heap.size w (zaj P.hs) vh) (c0:w.cell? ⟨b,off,none⟩=some (.int .i64 P.d)) (c1:w.cell? ⟨b,off+1,none⟩=some (.int .i64 P.f)) (c2:w.cell? ⟨b,off+2,none⟩=some (.int .i64 P.l)) (c3:w.cell? ⟨b,off+3,none⟩=some (vh)) :
  Calls Tryz.prog 223 #[.pointer (some ⟨b,off,none⟩),.int .i64 f,.int .i64 (k:Int)] w fun e w'=>e=.returned (.int .i64 (shrP P f k))∧Below w.heap.size w w':=by
 have hbp:b<w.heap.size:=zbh c0;have HE:Hid (shrP P f k=rdiv (1000*clrP P k) (max (radP P f k) 1)):=rfl;have HR:Hid (radP P f k=freI f (offP P.d P.n k) (P.d-offP P.d P.n k)):=rfl;have hn:P.n=(P.hs.length:Int)-1:=rfl;have ki0:0≤(k:Int):=by omega
 have ki1:(k:Int)≤P.n:=by omega
 obtain⟨cb0,cb1⟩:=clrP_bd h ki0 ki1;obtain⟨rb0,rb1⟩:=radP_bd h f0 f1 ki0 ki1;obtain⟨of0,of1,of2⟩:=off_ok h ki0 ki1;have d1_:=h.d1;have B0:Hid (Below w.heap.size w w):=Below.refl _ _;have HD:Hid (∀ W:World,Below w.heap.size w W→(W.cell? ⟨b,off,none⟩=some (.int .i64 P.d)∧W.cell? ⟨b,off+1,none⟩=some (.int .i64 P.f)∧W.cell? ⟨b,off+2,none⟩=some (.int .i64 P.l)∧W.cell? ⟨b,off+3,none⟩=some (vh))):=fun W hW=>⟨(bat hW b _ (by omega)).trans c0,(bat hW b _ (by omega)).trans c1,(bat hW b _ (by omega)).trans c2,(bat hW b _ (by omega)).trans c3⟩
 have HB:Hid (Below w.heap.size w w):=Below.refl _ _;have CO:Hid (∀ W:World,Below w.heap.size w W→Calls Tryz.prog 240 #[.pointer (some ⟨b,off,none⟩),.int .i64 (k:Int)] W fun e w'=>e=.returned (.int .i64 (offP P.d P.n k))∧Below W.heap.size W w'):=fun  W hW=>by
   obtain⟨t0,t1,t2,t3⟩:=HD.out W hW;exact zdg P h vh b off k hk W (zb2 r B0.out hW) t0 t1 t2 t3
 have CC:Hid (∀ W:World,Below w.heap.size w W→Calls Tryz.prog 242 #[.pointer (some ⟨b,off,none⟩),.int .i64 (k:Int)] W fun e w'=>e=.returned (.int .i64 (clrP P k))∧Below W.heap.size W w'):=fun  W hW=>by
   obtain⟨t0,t1,t2,t3⟩:=HD.out W hW;exact l05Clear_any P h vh b off k hk W (zb2 r B0.out hW) t0 t1 t2 t3
 have CF:Hid (∀ W:World,Below w.heap.size w W→Calls Tryz.prog 243 #[.int .i64 f,.int .i64 (offP P.d P.n k),.int .i64 (P.d-offP P.d P.n k)] W fun e w'=>e=.returned (.int .i64 (radP P f k))∧Below W.heap.size W w'):=fun  W hW=>by rw[HR.out];exact l05Fresnel_any _ _ _ f0 f1 of0 of2 (by omega) (by omega) W
 have CM:Hid (∀ W:World,Below w.heap.size w W→Calls Tryz.prog 115 #[.int .i64 1,.int .i64 (radP P f k)] W fun e w'=>e=.returned (.int .i64 (max (radP P f k) 1))∧Below W.heap.size W w'):=fun  W hW=>by rw[Int.max_comm];exact zam (ze0 _ _ W)
 have CP:Hid (∀ W:World,Below w.heap.size w W→Calls Tryz.prog 178 #[.int .i64 (1000*clrP P k),.int .i64 (max (radP P f k) 1)] W fun e w'=>e=.returned (.int .i64 (rdiv (1000*clrP P k) (max (radP P f k) 1)))∧Below W.heap.size W w'):=fun  W hW=>zam (zbm _ _ (by omega) (by omega) (by omega) (by omega) W)
 clear c0 c1 c2 c3 HR;generalize clrP P k=cr at *;generalize radP P f k=rr at *;generalize shrP P f k=nn at *;generalize offP P.d P.n k=OF at *;go_enter Tryz.func223,Tryz.ntmps223;obtain⟨t0,t1,t2,t3⟩:=HD.out _ HB.out;go_upto_region 2 with (first|(go_at_call 240;with_reducible refine (CO.out _ HB.out).mono ?_;rintro e v1 ⟨rfl,hb_⟩;(try clear t0 t1 t2 t3);replace HB:=btr HB hb_;clear hb_;obtain⟨t0,t1,t2,t3⟩:=HD.out _ HB.out));have o0:=zan (w0:=v1) (show b<v1.heap.size by have:=HB.out.size;omega);refine zae v1.heap.size v1 (Below.refl _ _) (by kernel_rfl) (by kernel_rfl) ?_
 repeat (go_big_quiet_step (first|(go_at_call 242;with_reducible exact zai (Nat.le_refl _) (CC.out _ (HB.out.trans ((zaa _ _ _).mono HB.out.size))))|(go_at_call 243;with_reducible exact zai (Nat.le_refl _) (CF.out _ (HB.out.trans ((zaa _ _ _).mono HB.out.size))))|(go_at_call 115;with_reducible exact zai (Nat.le_refl _) (CM.out _ (HB.out.trans ((zaa _ _ _).mono HB.out.size))))|(go_at_call 178;with_reducible exact zai (Nat.le_refl _) (CP.out _ (HB.out.trans ((zaa _ _ _).mono HB.out.size))))))
 refine wpQuiet_nil ?_;rintro _ ⟨X,rfl⟩;replace HB:=btr HB (zaa v1.heap.size v1 X);clear o0
 (try clear t0 t1 t2 t3)
 generalize over v1.heap.size v1 X=u2 at *;obtain⟨t0,t1,t2,t3⟩:=HD.out _ HB.out;go_wp2;go_ret;exact⟨by rw[HE.out];rfl,B0.out.trans (HB.out.mono B0.out.size)⟩
theorem iSingle_any (P:Pf) (h:PfOk P) (vh:Value) (f:Int) (f0:1≤f) (f1:f≤100000000) (h3:3≤P.hs.length) (w:World) (r:Rd w.heap.size w (zaj P.hs) vh) (L:LibW w) :
  Calls Tryz.prog 209 #[.agg #[.int .i64 P.d,.int .i64 P.f,.int .i64 P.l,vh],.int .i64 f] w fun e w'=>e=.returned (.tuple #[.int .i64 (wstP P f),.int .i64 (sglP P f)])∧Below w.heap.size w w':=by
 have HW:Hid (wstP P f=za1 (nuP P f) 1 (P.hs.length-3)):=rfl;have HS:Hid (sglP P f=edgI (nuP P f (wstP P f))):=rfl;have hn:P.n=(P.hs.length:Int)-1:=rfl;have n1_:=h.n1;obtain⟨N,hN⟩:∃ N,P.hs.length=N+3:=⟨P.hs.length-3,by omega⟩
 have hN2:P.hs.length-3=N:=by omega
 have hni:P.n=(N:Int)+2:=by omega
 have hNb:(N:Int)≤62:=by omega
 rw[hN2] at HW;obtain⟨W0,hW0,b0_,z0,k0⟩:=zat w #[.int .i64 P.d,.int .i64 P.f,.int .i64 P.l,vh] 180;have HW0:=Lib.hid hW0;have B0:=Lib.hid b0_;have HD:=Lib.hid (fun (W:World) (hW:Below W0.heap.size W0 W)=>by4 k0 hW);have HB:Hid (Below W0.heap.size W0 W0):=Below.refl _ _;clear k0 hW0 b0_;have CL:Hid (∀ W:World,Below W0.heap.size W0 W→Calls Tryz.prog 208 #[.agg #[.int .i64 P.d,.int .i64 P.f,.int .i64 P.l,vh]] W fun e w'=>e=.returned (.int .i64 ((N:Int)+2))∧Below W.heap.size W w'):=fun  W hW=>by rw[← hni];exact zdv P (by omega) vh W (zb2 r B0.out hW)
 have CP:Hid (∀ (x:Int) (hx:0≤x∧x<(N:Int)+3) (W:World),Below W0.heap.size W0 W→Calls Tryz.prog 233 #[.agg #[.int .i64 P.d,.int .i64 P.f,.int .i64 P.l,vh],.int .i64 f,.int .i64 x] W fun e w'=>e=.returned (.int .i64 (nuP P f x))∧Below W.heap.size W w'):=fun x hx W hW=>by
   obtain⟨k,rfl⟩:=Int.eq_ofNat_of_zero_le hx.1;exact iPar_any P h vh f f0 f1 k (by omega) W (zb2 r B0.out hW)
 have CE:Hid (∀ W:World,Below W0.heap.size W0 W→Calls Tryz.prog 234 #[.int .i64 (nuP P f (wstP P f))] W fun e w'=>e=.returned (.int .i64 (sglP P f))∧Below W.heap.size W w'):=fun  W hW=>by
   rw[HS.out];have hh:=nuP_bd P f (wstP P f);exact iEdge_any _ hh.1 hh.2 W (L.mono (B0.out.trans (hW.mono B0.out.size)))
 clear L r;generalize sglP P f=SV at *;generalize wstP P f=WV at *;generalize nuP P f=g at *;go_enter Tryz.func209,Tryz.ntmps209;go_upto_region 1 with (fail);rw[HW0.out];obtain⟨t0,t1,t2,t3⟩:=HD.out _ HB.out;go_wp2;go_loopw [6,7] (fun bs ii wr=>∃ j:Nat,j≤N∧bs=.int .i64 (za1 g 1 j)∧ii=.int .i64 (2+(j:Int))∧Below W0.heap.size W0 wr) (fun bs ii wr=>(N+2-(intOf ii)).toNat)
 case atStart=>exact⟨0,Nat.zero_le _,rfl,by simp,HB.out⟩
 case round =>
  obtain⟨j,hj,rfl,rfl,hbw⟩:=hrel;clear t0 t1 t2 t3;replace HB:=Lib.hid hbw;clear hbw;obtain⟨t0,t1,t2,t3⟩:=HD.out _ HB.out;obtain⟨bb0,bb1⟩:=zc5 g 1 j;have es:(1:Int)+((j+1:Nat):Int)=2+(j:Int):=by omega
  have hji:(j:Int)≤(N:Int):=by omega
  by_cases hlt:j<N
  ·have hjl:(j:Int)<(N:Int):=by omega
   have hp:=zfe (g:=g) (s:=1) (k:=j);have hn2:=zff (g:=g) (s:=1) (k:=j);rw[es] at hp hn2;have HP:=Lib.hid hp;have HN:=Lib.hid hn2;clear hp hn2 es HW HS CE;generalize za1 g 1 j=ob at *;go_upto_region 5 with (go_at_call 208;with_reducible refine (CL.out _ HB.out).mono ?_;rintro e v1 ⟨rfl,hb_⟩;(try clear t0 t1 t2 t3);replace HB:=btr HB hb_;clear hb_;obtain⟨t0,t1,t2,t3⟩:=HD.out _ HB.out);have o0:=zan (w0:=v1) (show w.heap.size<v1.heap.size by have:=HB.out.size;omega);refine zae v1.heap.size v1 (Below.refl _ _) (by kernel_rfl) (by kernel_rfl) ?_
   repeat (go_big_quiet_step (first|(go_at_call 233;with_reducible exact zai (Nat.le_refl _) (CP.out _ ⟨by omega,by omega⟩ _ (HB.out.trans ((zaa _ _ _).mono HB.out.size))))))
   refine wpQuiet_nil ?_;rintro _ ⟨X,rfl⟩;replace HB:=btr HB (zaa v1.heap.size v1 X);clear o0
   (try clear t0 t1 t2 t3)
   generalize over v1.heap.size v1 X=u1 at *;obtain⟨t0,t1,t2,t3⟩:=HD.out _ HB.out
   by_cases hc:g ob<g (2+(j:Int))
   ·have HE2:=Lib.hid (HP.out (by omega))
    go_wp2;go_roundw
    case rel=>exact⟨j+1,by omega,by rw[HE2.out],by go_num,HB.out⟩
    case measure=>simp[intOf];omega
   ·have HE2:=Lib.hid (HN.out (by omega))
    go_wp2;go_roundw
    case rel=>exact⟨j+1,by omega,by rw[HE2.out],by go_num,HB.out⟩
    case measure=>simp[intOf];omega
  ·obtain rfl:j=N:=by omega
   rw[← HW.out] at bb0 bb1 ⊢;go_wp2_with (first|(go_at_call 208;with_reducible refine (CL.out _ HB.out).mono ?_;rintro e v1 ⟨rfl,hb_⟩;(try clear t0 t1 t2 t3);replace HB:=btr HB hb_;clear hb_;obtain⟨t0,t1,t2,t3⟩:=HD.out _ HB.out)|(go_at_call 233;with_reducible refine (CP.out _ ⟨by omega,by omega⟩ _ HB.out).mono ?_;rintro e v1 ⟨rfl,hb_⟩;(try clear t0 t1 t2 t3);replace HB:=btr HB hb_;clear hb_;obtain⟨t0,t1,t2,t3⟩:=HD.out _ HB.out)|(go_at_call 234;with_reducible refine (CE.out _ HB.out).mono ?_;rintro e v1 ⟨rfl,hb_⟩;(try clear t0 t1 t2 t3);replace HB:=btr HB hb_;clear hb_;obtain⟨t0,t1,t2,t3⟩:=HD.out _ HB.out));go_ret2;exact⟨rfl,B0.out.trans (HB.out.mono B0.out.size)⟩
theorem zeg (P:Pf) (h:PfW P) (vh:Value) (w:World) (r:Rd w.heap.size w (zaj P.hs) vh) :
  Calls Tryz.prog 204 #[.agg #[.int .i64 P.d,.int .i64 P.f,.int .i64 P.l,vh]] w fun e w'=>e=.returned (.bool (pfB P))∧Below w.heap.size w w':=by
 have hpf:=pfB_w h;have HF:=Lib.hid hpf;have f0_:=zav.2 (show 0≤P.f∧P.f≤180000 from ⟨h.f0,h.f1⟩);have l0_:=zav.2 (show 0≤P.l∧P.l≤180000 from ⟨h.l0,h.l1⟩);have ea:(P.hs.all fun n=>inB n 0 90000)=true:=gi_allB (fun k _=>h.hs k);have n0_:=h.n0;have n1_:=h.n1;have hsi0:=h.hs 0;have hsil:=h.hs (P.hs.length-1);clear hpf;obtain⟨av,cv,ev,_,_,_⟩:=r.ints;subst ev;obtain⟨bh,oh,ea_,hbl,hat⟩:=r.intAt (by omega);subst ea_;have cl0:=hat 0 (by omega);have cl1:=hat (P.hs.length-1) (by omega);rw[Nat.add_zero] at cl0;have xl:(P.hs.length:Int)-1=((P.hs.length-1:Nat):Int):=by omega
 have xl1:(0:Int)≤((P.hs.length-1:Nat):Int):=by omega
 have xl2:((P.hs.length-1:Nat):Int)<(P.hs.length:Int):=by omega
 have ni0:(2:Int)≤(P.hs.length:Int):=by omega
 have ni1:(P.hs.length:Int)≤65:=by omega
 obtain⟨W0,hW0,b0_,z0,k0⟩:=zat w #[.int .i64 P.d,.int .i64 P.f,.int .i64 P.l,.slice (some ⟨bh,oh,none⟩) P.hs.length cv] 180;have HW0:=Lib.hid hW0;have B0:=Lib.hid b0_;have HD:=Lib.hid (fun (W:World) (hW:Below W0.heap.size W0 W)=>bx4 k0 hW <| aI ((bat hW bh _ (by omega)).trans ((bat b0_ bh _ (by omega)).trans cl0)) <| ((bat hW bh _ (by omega)).trans ((bat b0_ bh _ (by omega)).trans cl1)));have HB:Hid (Below W0.heap.size W0 W0):=Below.refl _ _;clear k0 hW0 b0_;have CF:Hid (∀ W:World,Below W0.heap.size W0 W→Calls Tryz.prog 74 #[.int .i64 P.f,.int .i64 0,.int .i64 180000] W fun e w'=>e=.returned (.bool true)∧Below W.heap.size W w'):=fun  W hW=>by
   have hh:=zao P.f 0 180000 W;rw[f0_] at hh;exact zam hh
 have CL:Hid (∀ W:World,Below W0.heap.size W0 W→Calls Tryz.prog 74 #[.int .i64 P.l,.int .i64 0,.int .i64 180000] W fun e w'=>e=.returned (.bool true)∧Below W.heap.size W w'):=fun  W hW=>by
   have hh:=zao P.l 0 180000 W;rw[l0_] at hh;exact zam hh
 have CA:Hid (∀ W:World,Below W0.heap.size W0 W→Calls Tryz.prog 102 #[.slice (some ⟨bh,oh,none⟩) P.hs.length cv,.int .i64 0,.int .i64 90000] W fun e w'=>e=.returned (.bool true)∧Below W.heap.size W w'):=fun  W hW=>by
   have hh:=zdi P.hs 0 90000 _ W.heap.size W (zb2 r B0.out hW) (Nat.le_refl _) (by omega);rw[ea] at hh;exact hh
 have CD:Hid (∀ W:World,Below W0.heap.size W0 W→Calls Tryz.prog 74 #[.int .i64 P.d,.int .i64 1,.int .i64 283000] W fun e w'=>e=.returned (.bool (inB P.d 1 283000))∧Below W.heap.size W w'):=fun  W hW=>zam (zao P.d 1 283000 W)
 clear hat r cl0 cl1 f0_ l0_ ea h;generalize gi P.hs 0=h0 at *;generalize gi P.hs (P.hs.length-1)=hz at *;generalize pfB P=PB at *
 cases hA:inB P.d 1 283000 with
 | false =>
  rw[hA] at CD HF;have HE:Hid (PB=false):=by show _=_;rw[HF.out];rfl
  go_enter Tryz.func204,Tryz.ntmps204;go_upto_region 1 with (fail);rw[HW0.out];obtain⟨t0,t1,t2,t3,t4,t5⟩:=HD.out _ HB.out;go_wp2_with ((first|(go_at_call 74;with_reducible refine (CF.out _ HB.out).mono ?_)|(go_at_call 74;with_reducible refine (CL.out _ HB.out).mono ?_)|(go_at_call 74;with_reducible refine (CD.out _ HB.out).mono ?_));rintro e v1 ⟨rfl,hb_⟩;(try clear t0 t1 t2 t3 t4 t5);replace HB:=btr HB hb_;clear hb_;obtain⟨t0,t1,t2,t3,t4,t5⟩:=HD.out _ HB.out);go_ret;exact⟨by rw[HE.out];rfl,B0.out.trans (HB.out.mono B0.out.size)⟩
 | true =>
  rw[hA] at CD HF
  by_cases hG:h0≤P.f
  case neg =>
   have hGd:decide (h0≤P.f)=false:=decide_eq_false hG;have HE:Hid (PB=false):=by show _=_;rw[HF.out,decide_eq_false hG];rfl
   go_enter Tryz.func204,Tryz.ntmps204;go_upto_region 1 with (fail);rw[HW0.out];obtain⟨t0,t1,t2,t3,t4,t5⟩:=HD.out _ HB.out;go_upto_region 4 with ((first|(go_at_call 74;with_reducible refine (CF.out _ HB.out).mono ?_)|(go_at_call 74;with_reducible refine (CL.out _ HB.out).mono ?_)|(go_at_call 74;with_reducible refine (CD.out _ HB.out).mono ?_));rintro e v1 ⟨rfl,hb_⟩;(try clear t0 t1 t2 t3 t4 t5);replace HB:=btr HB hb_;clear hb_;obtain⟨t0,t1,t2,t3,t4,t5⟩:=HD.out _ HB.out);have o0:=zan (w0:=v1) (show w.heap.size<v1.heap.size by have:=HB.out.size;omega);have o1:=zan (w0:=v1) (show bh<v1.heap.size by have:=HB.out.size;omega);refine zae v1.heap.size v1 (Below.refl _ _) (by kernel_rfl) (by kernel_rfl) ?_
   repeat (go_big_quiet_step (first|(go_at_call 102;with_reducible exact zai (Nat.le_refl _) (CA.out _ (HB.out.trans ((zaa _ _ _).mono HB.out.size))))))
   refine wpQuiet_nil ?_;rintro _ ⟨X,rfl⟩;replace HB:=btr HB (zaa v1.heap.size v1 X);clear o0 o1
   (try clear t0 t1 t2 t3 t4 t5)
   generalize over v1.heap.size v1 X=u2 at *;obtain⟨t0,t1,t2,t3,t4,t5⟩:=HD.out _ HB.out;go_wp2;go_ret;exact⟨by rw[HE.out];rfl,B0.out.trans (HB.out.mono B0.out.size)⟩
  by_cases hH:hz≤P.l
  case neg =>
   have hGd:decide (h0≤P.f)=true:=decide_eq_true hG;have hHd:decide (hz≤P.l)=false:=decide_eq_false hH;have HE:Hid (PB=false):=by show _=_;rw[HF.out,decide_eq_false hH,decide_eq_true hG];rfl
   go_enter Tryz.func204,Tryz.ntmps204;go_upto_region 1 with (fail);rw[HW0.out];obtain⟨t0,t1,t2,t3,t4,t5⟩:=HD.out _ HB.out;go_upto_region 4 with ((first|(go_at_call 74;with_reducible refine (CF.out _ HB.out).mono ?_)|(go_at_call 74;with_reducible refine (CL.out _ HB.out).mono ?_)|(go_at_call 74;with_reducible refine (CD.out _ HB.out).mono ?_));rintro e v1 ⟨rfl,hb_⟩;(try clear t0 t1 t2 t3 t4 t5);replace HB:=btr HB hb_;clear hb_;obtain⟨t0,t1,t2,t3,t4,t5⟩:=HD.out _ HB.out);have o0:=zan (w0:=v1) (show w.heap.size<v1.heap.size by have:=HB.out.size;omega);have o1:=zan (w0:=v1) (show bh<v1.heap.size by have:=HB.out.size;omega);refine zae v1.heap.size v1 (Below.refl _ _) (by kernel_rfl) (by kernel_rfl) ?_
   repeat (go_big_quiet_step (first|(go_at_call 102;with_reducible exact zai (Nat.le_refl _) (CA.out _ (HB.out.trans ((zaa _ _ _).mono HB.out.size))))))
   refine wpQuiet_nil ?_;rintro _ ⟨X,rfl⟩;replace HB:=btr HB (zaa v1.heap.size v1 X);clear o0 o1
   (try clear t0 t1 t2 t3 t4 t5)
   generalize over v1.heap.size v1 X=u2 at *;obtain⟨t0,t1,t2,t3,t4,t5⟩:=HD.out _ HB.out;go_wp2;go_ret;exact⟨by rw[HE.out];rfl,B0.out.trans (HB.out.mono B0.out.size)⟩
  have hGd:decide (h0≤P.f)=true:=decide_eq_true hG;have hHd:decide (hz≤P.l)=true:=decide_eq_true hH;have HE:Hid (PB=true):=by show _=_;rw[HF.out,decide_eq_true hH,decide_eq_true hG];rfl
  go_enter Tryz.func204,Tryz.ntmps204;go_upto_region 1 with (fail);rw[HW0.out];obtain⟨t0,t1,t2,t3,t4,t5⟩:=HD.out _ HB.out;go_upto_region 4 with ((first|(go_at_call 74;with_reducible refine (CF.out _ HB.out).mono ?_)|(go_at_call 74;with_reducible refine (CL.out _ HB.out).mono ?_)|(go_at_call 74;with_reducible refine (CD.out _ HB.out).mono ?_));rintro e v1 ⟨rfl,hb_⟩;(try clear t0 t1 t2 t3 t4 t5);replace HB:=btr HB hb_;clear hb_;obtain⟨t0,t1,t2,t3,t4,t5⟩:=HD.out _ HB.out);have o0:=zan (w0:=v1) (show w.heap.size<v1.heap.size by have:=HB.out.size;omega);have o1:=zan (w0:=v1) (show bh<v1.heap.size by have:=HB.out.size;omega);refine zae v1.heap.size v1 (Below.refl _ _) (by kernel_rfl) (by kernel_rfl) ?_
  repeat (go_big_quiet_step (first|(go_at_call 102;with_reducible exact zai (Nat.le_refl _) (CA.out _ (HB.out.trans ((zaa _ _ _).mono HB.out.size))))))
  refine wpQuiet_nil ?_;rintro _ ⟨X,rfl⟩;replace HB:=btr HB (zaa v1.heap.size v1 X);clear o0 o1
  (try clear t0 t1 t2 t3 t4 t5)
  generalize over v1.heap.size v1 X=u2 at *;obtain⟨t0,t1,t2,t3,t4,t5⟩:=HD.out _ HB.out;go_wp2;go_ret;exact⟨by rw[HE.out];rfl,B0.out.trans (HB.out.mono B0.out.size)⟩
end Go.Proofs.YtdgmgchdjlfchaaGreatDoor
