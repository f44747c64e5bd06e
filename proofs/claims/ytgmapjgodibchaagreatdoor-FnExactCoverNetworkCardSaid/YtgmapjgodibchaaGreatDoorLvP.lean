/- Contracts: worst places, clear profiles, parts of profiles, for the program. Conditions: valid profiles. -/
import Derived.Test.YtgmapjgodibchaaGreatDoorLv8
set_option linter.unusedVariables false
set_option linter.unusedSimpArgs false
namespace Go.Proofs.YtgmapjgodibchaaGreatDoor
open Go.RowKit
set_option maxHeartbeats 8000000
set_option maxRecDepth 100000
theorem l10Side_any (P:Pf) (h:PfOk P) (vh:Value) (b off:Nat) (f:Int) (f0:1≤f) (f1:f≤100000000) (i k:Nat) (hik:i<k) (hk:k<P.hs.length) (w:World) (r:Rd w w (zai P.hs) vh) (c0:w.cell? ⟨b,off,none⟩=some (I P.d)) (c1:w.cell? ⟨b,off+1,none⟩=some (I P.f)) (c2:w.cell? ⟨b,off+2,none⟩=some (I P.l)) (c3:w.cell? ⟨b,off+3,none⟩=some (vh)) :
  Calls Tryz.prog 226 #[.pointer (some ⟨b,off,none⟩),I f,I (i:Int),I (k:Int)] w fun e w'=>e=.returned (I (sidP P f i k))∧IJ w w w':=by
 have hbp:b<w.heap.size:=zbh c0;have HE0:Hid (sidP P f i k=if pfB (zbq P i k)=true then (if (zbq P i k).hs.length=2 then 0 else sglP (zbq P i k) f) else 0):=rfl;have hw:=partP_w h hik hk;have B0:Hid (IJ w w w):=Below.refl _ _;have HD:Hid (∀ W:World,IJ w w W→(W.cell? ⟨b,off,none⟩=some (I P.d)∧W.cell? ⟨b,off+1,none⟩=some (I P.f)∧W.cell? ⟨b,off+2,none⟩=some (I P.l)∧W.cell? ⟨b,off+3,none⟩=some (vh))):=fun W hW=>⟨(bat hW b _ O).trans c0,(bat hW b _ O).trans c1,(bat hW b _ O).trans c2,(bat hW b _ O).trans c3⟩
 have HB:Hid (IJ w w w):=Below.refl _ _;have CP:Hid (∀ W:World,IJ w w W→Calls Tryz.prog 253 #[.pointer (some ⟨b,off,none⟩),I (i:Int),I (k:Int)] W fun e w'=>∃ (a':Option Addr) (c':Nat),e=.returned (.agg #[I (zbq P i k).d,I (zbq P i k).f,I (zbq P i k).l,II a' (zbq P i k).hs.length c'])∧IJ W W w'∧Rd w'.heap.size w' (zai (zbq P i k).hs) (II a' (zbq P i k).hs.length c')):=fun  W hW=>by
   obtain⟨t0,t1,t2,t3⟩:=HD.out W hW;exact l10Part_any P h vh b off i k hik hk W (zb4 r B0.out hW) t0 t1 t2 t3
 clear c0 c1 c2 c3 r h;generalize zbq P i k=Q at *;generalize sidP P f i k=SV at *;go_enter Tryz.func226,Tryz.ntmps226;go_upto_region 2 with (go_at_call 253;with_reducible refine (CP.out _ HB.out).mono ?_;rintro e v1 ⟨a',c',rfl,hb_,hr_⟩);have HR:=J hr_;have B1:=btr HB hb_;clear hb_ hr_ HB CP;obtain⟨W2,hW2,b2_,z2,k2⟩:=zax v1 #[I Q.d,I Q.f,I Q.l,II a' Q.hs.length c'] 211;rw[hW2];have K2:=J k2;have RQ:Hid (Rd W2 W2 (zai Q.hs) (II a' Q.hs.length c')):=(HR.out.below b2_).mono b2_.size;have B0':=btr B1 b2_;have zg:v1.heap.size<W2.heap.size:=O
 clear hW2 b2_ k2 HR B1;have HB:Hid (IJ W2 W2 W2):=Below.refl _ _;have HD2:Hid (∀ W:World,IJ W2 W2 W→(W.cell? ⟨v1,0,none⟩=some (I Q.d)∧W.cell? ⟨v1.heap.size,0+1,none⟩=some (I Q.f)∧W.cell? ⟨v1.heap.size,0+2,none⟩=some (I Q.l)∧W.cell? ⟨v1.heap.size,0+3,none⟩=some (II a' Q.hs.length c'))):=fun W hW=>⟨(bat hW v1.heap.size _ zg).trans (bkC K2.out 0 rfl),(bat hW v1.heap.size _ zg).trans (bkC K2.out 1 rfl),(bat hW v1.heap.size _ zg).trans (bkC K2.out 2 rfl),(bat hW v1.heap.size _ zg).trans (bkC K2.out 3 rfl)⟩
 have HRQ:Hid (∀ W:World,IJ W2 W2 W→Rd W W (zai Q.hs) (II a' Q.hs.length c')):=fun W hW=>(RQ.out.below hW).mono hW.size
 have CV:Hid (∀ W:World,IJ W2 W2 W→Calls Tryz.prog 228 #[.pointer (some ⟨v1,0,none⟩)] W fun e w'=>e=.returned (.bool (pfB Q))∧IJ W W w'):=fun  W hW=>by
   obtain⟨t0,t1,t2,t3⟩:=HD2.out W hW;exact l05Ok_any Q hw _ v1.heap.size 0 W (HRQ.out W hW) t0 t1 t2 t3
 clear K2 RQ hw
 cases hB:pfB Q with
 | false =>
  rw[hB] at CV HE0;have HE:Hid (SV=0):=by show _=_;rw[HE0.out];rfl
  go_wp2_with (first|(go_at_call 228;with_reducible refine (CV.out _ HB.out).mono ?_;rintro e v1 ⟨rfl,hb_⟩;replace HB:=btr HB hb_;clear hb_;skip));go_ret;exact⟨by rw[HE.out];rfl,B0'.out.trans (HB.out.mono B0'.out.size)⟩
 | true =>
  have hok:=pfB_ok hB;have n0_:=hok.n0;have n1_:=hok.n1;rw[hB,if_pos rfl] at HE0;rw[hB] at CV
  by_cases h2:Q.hs.length=2
  case pos =>
   have CW:Hid (∀ W:World,IJ W2 W2 W→Calls Tryz.prog 224 #[.pointer (some ⟨v1,0,none⟩),I f] W fun e w'=>e=.returned (.tuple #[I (-1),I 0])∧IJ W W w'):=fun  W hW=>by
     obtain⟨t0,t1,t2,t3⟩:=HD2.out W hW;have hh:=zew Q hok _ v1.heap.size 0 f f0 f1 W (HRQ.out W hW) t0 t1 t2 t3;rw[show Q.hs.length-2=0 by omega] at hh;exact hh
   have HE:Hid (SV=0):=by show _=_;rw[HE0.out,if_pos h2]
   clear hB hok h2;go_wp2_with ((first|(go_at_call 228;with_reducible refine (CV.out _ HB.out).mono ?_)|(go_at_call 224;with_reducible refine (CW.out _ HB.out).mono ?_));rintro e v1 ⟨rfl,hb_⟩;replace HB:=btr HB hb_;clear hb_;skip);go_ret;exact⟨by rw[HE.out];rfl,B0'.out.trans (HB.out.mono B0'.out.size)⟩
  have n3:3≤Q.hs.length:=O
  have HE:Hid (SV=sglP Q f):=by show _=_;rw[HE0.out,if_neg h2]
  have nb:=nuP_bd Q f (wstP Q f);obtain⟨wb0,wb1⟩:=wstP_bd f n3;have CW:Hid (∀ W:World,IJ W2 W2 W→Calls Tryz.prog 224 #[.pointer (some ⟨v1,0,none⟩),I f] W fun e w'=>e=.returned (.tuple #[I (wstP Q f),I (nuP Q f (wstP Q f))])∧IJ W W w'):=fun  W hW=>by
    obtain⟨t0,t1,t2,t3⟩:=HD2.out W hW;have hh:=zew Q hok _ v1.heap.size 0 f f0 f1 W (HRQ.out W hW) t0 t1 t2 t3;rw[← wst_bS f n3,← wst_mS f n3] at hh;exact hh
  have CE:Hid (∀ W:World,IJ W2 W2 W→Calls Tryz.prog 225 #[I (nuP Q f (wstP Q f))] W fun e w'=>e=.returned (I (sglP Q f))∧IJ W W w'):=fun  W hW=>l10Edge_any _ nb.1 nb.2 W
  clear hB hok h2;generalize nuP Q f (wstP Q f)=nn at *;generalize wstP Q f=ww at *;generalize sglP Q f=sg at *;go_wp2_with ((first|(go_at_call 228;with_reducible refine (CV.out _ HB.out).mono ?_)|(go_at_call 224;with_reducible refine (CW.out _ HB.out).mono ?_)|(go_at_call 225;with_reducible refine (CE.out _ HB.out).mono ?_));rintro e v1 ⟨rfl,hb_⟩;replace HB:=btr HB hb_;clear hb_;skip);go_ret;exact⟨by rw[HE.out];rfl,B0'.out.trans (HB.out.mono B0'.out.size)⟩
theorem l10Dey_any (P:Pf) (h:PfOk P) (vh:Value) (b off:Nat) (f:Int) (f0:1≤f) (f1:f≤100000000)  (w:World) (r:Rd w w (zai P.hs) vh) (c0:w.cell? ⟨b,off,none⟩=some (I P.d)) (c1:w.cell? ⟨b,off+1,none⟩=some (I P.f)) (c2:w.cell? ⟨b,off+2,none⟩=some (I P.l)) (c3:w.cell? ⟨b,off+3,none⟩=some (vh)) :
  Calls Tryz.prog 179 #[.pointer (some ⟨b,off,none⟩),I f] w fun e w'=>e=.returned (I (deyP P f))∧IJ w w w':=by
 have hbp:b<w.heap.size:=zbh c0;have HE0:Hid (deyP P f=if P.hs.length=2 then 0 else if sglP P f=0 then 0 else sglP P f+sidP P f 0 (wstP P f)+sidP P f (wstP P f) P.n):=rfl;have n0_:=h.n0;have n1_:=h.n1;have ni1:(P.hs.length:Int)≤65:=O
 have ni0:2≤(P.hs.length:Int):=O
 have hpn:P.n=(P.hs.length:Int)-1:=rfl;obtain⟨av,cv,ev,_,_,_⟩:=r.ints;subst ev;have B0:Hid (IJ w w w):=Below.refl _ _;have HD:Hid (∀ W:World,IJ w w W→(W.cell? ⟨b,off,none⟩=some (I P.d)∧W.cell? ⟨b,off+1,none⟩=some (I P.f)∧W.cell? ⟨b,off+2,none⟩=some (I P.l)∧W.cell? ⟨b,off+3,none⟩=some (II av P.hs.length cv))):=fun W hW=>⟨(bat hW b _ O).trans c0,(bat hW b _ O).trans c1,(bat hW b _ O).trans c2,(bat hW b _ O).trans c3⟩
 have HB:Hid (IJ w w w):=Below.refl _ _
 by_cases h2:P.hs.length=2
 case pos =>
  have CW:Hid (∀ W:World,IJ w w W→Calls Tryz.prog 224 #[.pointer (some ⟨b,off,none⟩),I f] W fun e w'=>e=.returned (.tuple #[I (-1),I 0])∧IJ W W w'):=fun  W hW=>by
    obtain⟨t0,t1,t2,t3⟩:=HD.out W hW;have hh:=zew P h _ b off f f0 f1 W (zb4 r B0.out hW) t0 t1 t2 t3;rw[show P.hs.length-2=0 by omega] at hh;exact hh
  have HE:Hid (deyP P f=0):=by show _=_;rw[HE0.out,if_pos h2]
  clear h2 hpn c0 c1 c2 c3 r h HE0;generalize deyP P f=SV at *;go_enter Tryz.func179,Tryz.ntmps179;obtain⟨t0,t1,t2,t3⟩:=HD.out _ HB.out;go_wp2_with (first|(go_at_call 224;with_reducible refine (CW.out _ HB.out).mono ?_;rintro e v1 ⟨rfl,hb_⟩;(try clear t0 t1 t2 t3);replace HB:=btr HB hb_;clear hb_;obtain⟨t0,t1,t2,t3⟩:=HD.out _ HB.out));go_ret;exact⟨by rw[HE.out];rfl,B0.out.trans (HB.out.mono B0.out.size)⟩
 have n3:3≤P.hs.length:=O
 have nb:=nuP_bd P f (wstP P f);have sb:=sglP_bd P f;have s1:=sidP_bd P f 0 (wstP P f);have s2:=sidP_bd P f (wstP P f) P.n;obtain⟨wb0,wb1⟩:=wstP_bd f n3;obtain⟨m,hm⟩:=Int.eq_ofNat_of_zero_le (show 0≤wstP P f by omega);have CW:Hid (∀ W:World,IJ w w W→Calls Tryz.prog 224 #[.pointer (some ⟨b,off,none⟩),I f] W fun e w'=>e=.returned (.tuple #[I (wstP P f),I (nuP P f (wstP P f))])∧IJ W W w'):=fun  W hW=>by
   obtain⟨t0,t1,t2,t3⟩:=HD.out W hW;have hh:=zew P h _ b off f f0 f1 W (zb4 r B0.out hW) t0 t1 t2 t3;rw[← wst_bS f n3,← wst_mS f n3] at hh;exact hh
 have CE:Hid (∀ W:World,IJ w w W→Calls Tryz.prog 225 #[I (nuP P f (wstP P f))] W fun e w'=>e=.returned (I (sglP P f))∧IJ W W w'):=fun  W hW=>l10Edge_any _ nb.1 nb.2 W
 have CA:Hid (∀ W:World,IJ w w W→Calls Tryz.prog 226 #[.pointer (some ⟨b,off,none⟩),I f,I 0,I (wstP P f)] W fun e w'=>e=.returned (I (sidP P f 0 (wstP P f)))∧IJ W W w'):=fun  W hW=>by
   obtain⟨t0,t1,t2,t3⟩:=HD.out W hW;rw[hm];exact l10Side_any P h _ b off f f0 f1 0 m O O W (zb4 r B0.out hW) t0 t1 t2 t3
 have CB:Hid (∀ W:World,IJ w w W→Calls Tryz.prog 226 #[.pointer (some ⟨b,off,none⟩),I f,I (wstP P f),I ((P.hs.length:Int)-1)] W fun e w'=>e=.returned (I (sidP P f (wstP P f) P.n))∧IJ W W w'):=fun  W hW=>by
   obtain⟨t0,t1,t2,t3⟩:=HD.out W hW;rw[hm,hpn,show (P.hs.length:Int)-1=((P.hs.length-1:Nat):Int) by omega];exact l10Side_any P h _ b off f f0 f1 m (P.hs.length-1) O O W (zb4 r B0.out hW) t0 t1 t2 t3
 have HE1:Hid (deyP P f=if sglP P f=0 then 0 else sglP P f+sidP P f 0 (wstP P f)+sidP P f (wstP P f) P.n):=by show _=_;rw[HE0.out,if_neg h2]
 clear h2 hpn c0 c1 c2 c3 r h HE0 hm;generalize deyP P f=SV at *;generalize sidP P f 0 (wstP P f)=SA at *;generalize sidP P f (wstP P f) P.n=SB at *;generalize nuP P f (wstP P f)=nn at *;generalize wstP P f=ww at *;generalize sglP P f=sg at *;obtain⟨sb0,sb1⟩:=sb;obtain⟨s10,s11⟩:=s1;obtain⟨s20,s21⟩:=s2
 by_cases hs:sg=0
 case pos =>
  have HE:Hid (SV=0):=by show _=_;rw[HE1.out,if_pos hs]
  subst hs;go_enter Tryz.func179,Tryz.ntmps179;obtain⟨t0,t1,t2,t3⟩:=HD.out _ HB.out;go_wp2_with ((first|(go_at_call 224;with_reducible refine (CW.out _ HB.out).mono ?_)|(go_at_call 225;with_reducible refine (CE.out _ HB.out).mono ?_));rintro e v1 ⟨rfl,hb_⟩;(try clear t0 t1 t2 t3);replace HB:=btr HB hb_;clear hb_;obtain⟨t0,t1,t2,t3⟩:=HD.out _ HB.out);go_ret;exact⟨by rw[HE.out];rfl,B0.out.trans (HB.out.mono B0.out.size)⟩
 have HE:Hid (SV=sg+SA+SB):=by show _=_;rw[HE1.out,if_neg hs]
 have hsb:(sg == 0)=false:=by simp[hs]
 go_enter Tryz.func179,Tryz.ntmps179;obtain⟨t0,t1,t2,t3⟩:=HD.out _ HB.out;go_upto_region 4 with ((first|(go_at_call 224;with_reducible refine (CW.out _ HB.out).mono ?_)|(go_at_call 225;with_reducible refine (CE.out _ HB.out).mono ?_));rintro e v1 ⟨rfl,hb_⟩;(try clear t0 t1 t2 t3);replace HB:=btr HB hb_;clear hb_;obtain⟨t0,t1,t2,t3⟩:=HD.out _ HB.out);have o0:=zal (w0:=v1) (show b<v1.heap.size by have:=HB.out.size;omega);refine zad v1.heap.size v1 (Below.refl _ _) OJ OJ ?_
 repeat (go_big_quiet_step (first|(go_at_call 225;with_reducible exact zaj (Nat.le_refl _) (CE.out _ (HB.out.trans ((zaa _ _ _).mono HB.out.size))))|(go_at_call 226;with_reducible exact zaj (Nat.le_refl _) (CA.out _ (HB.out.trans ((zaa _ _ _).mono HB.out.size))))|(go_at_call 226;with_reducible exact zaj (Nat.le_refl _) (CB.out _ (HB.out.trans ((zaa _ _ _).mono HB.out.size))))))
 refine wpQuiet_nil ?_;rintro _ ⟨X,rfl⟩;replace HB:=btr HB (zaa v1.heap.size v1 X);clear o0
 (try clear t0 t1 t2 t3)
 generalize over v1.heap.size v1 X=u2 at *;obtain⟨t0,t1,t2,t3⟩:=HD.out _ HB.out;go_wp2;go_ret;exact⟨by rw[HE.out];rfl,B0.out.trans (HB.out.mono B0.out.size)⟩
theorem l05Freq_any (n:Int) (w:World):Calls Tryz.prog 229 #[I n] w fun e w'=>e=.returned (.bool (inB n 1 100000000))∧w=w':=by
 go_enter Tryz.func229,Tryz.ntmps229;go_wp2_with (go_at_call 89;refine (zaq _ _ _ _).mono ?_;rintro e w1 ⟨rfl,rfl⟩);go_ret;exact⟨rfl,rfl⟩
def clrB (p:Pf) (f s:Int):Bool:=decide (p.hs.length=2) || decide (s≤shrP p f (wrsP p f))
theorem wrs_bS {p:Pf} (f:Int) (h:3≤p.hs.length):wrsP p f=bS (fun x=>-(shrP p f x)) (p.hs.length-2):=by
 obtain⟨k,hk⟩:∃ k,p.hs.length=k+3:=⟨p.hs.length-3,O⟩
 unfold wrsP;rw[hk];rfl
theorem wrs_mS {p:Pf} (f:Int) (h:3≤p.hs.length):shrP p f (wrsP p f)=mS (fun x=>-(shrP p f x)) (shrP p f) (p.hs.length-2):=by
 obtain⟨k,hk⟩:∃ k,p.hs.length=k+3:=⟨p.hs.length-3,O⟩
 unfold wrsP;rw[hk];rfl
theorem wrsP_bd {p:Pf} (f:Int) (h:3≤p.hs.length):1≤wrsP p f∧wrsP p f≤p.n-1:=by
 have:=zdb (fun x=>-(shrP p f x)) 1 (p.hs.length-3);unfold wrsP Pf.n;omega
theorem sClear_any (P:Pf) (h:PfOk P) (vh:Value) (f:Int) (f0:1≤f) (f1:f≤100000000) (s:Int) (w:World) (r:Rd w w (zai P.hs) vh) :
  Calls Tryz.prog 182 #[.agg #[I P.d,I P.f,I P.l,vh],I f,I s] w fun e w'=>e=.returned (.bool (clrB P f s))∧IJ w w w':=by
 have HE0:Hid (clrB P f s=(decide (P.hs.length=2) || decide (s≤shrP P f (wrsP P f)))):=rfl;have n0_:=h.n0;have n1_:=h.n1;obtain⟨W0,hW0,b0_,z0,k0⟩:=zax w #[I P.d,I P.f,I P.l,vh] 211;have HW0:=J hW0;have B0:=J b0_;have HD:=J (fun (W:World) (hW:IJ W0 W0 W)=>by4 k0 hW);have HB:Hid (IJ W0 W0 W0):=Below.refl _ _;clear k0 hW0 b0_;have CV:Hid (∀ W:World,IJ W0 W0 W→Calls Tryz.prog 228 #[.pointer (some ⟨w,0,none⟩)] W fun e w'=>e=.returned (.bool true)∧IJ W W w'):=fun  W hW=>by
   obtain⟨t0,t1,t2,t3⟩:=HD.out W hW;have hh:=l05Ok_any P h.w _ w.heap.size 0 W (zb4 r B0.out hW) t0 t1 t2 t3;rw[ok_pfB h] at hh;exact hh
 have CF:Hid (∀ W:World,IJ W0 W0 W→Calls Tryz.prog 229 #[I f] W fun e w'=>e=.returned (.bool true)∧IJ W W w'):=fun  W hW=>by
   have hh:=l05Freq_any f W;rw[zat.2 ⟨f0,f1⟩] at hh;exact zam hh
 by_cases h2:P.hs.length=2
 case pos =>
  have CW:Hid (∀ W:World,IJ W0 W0 W→Calls Tryz.prog 230 #[.pointer (some ⟨w,0,none⟩),I f] W fun e w'=>e=.returned (.tuple #[I (-1),I 0])∧IJ W W w'):=fun  W hW=>by
    obtain⟨t0,t1,t2,t3⟩:=HD.out W hW;have hh:=l05Worst_any P h _ w.heap.size 0 f f0 f1 W (zb4 r B0.out hW) t0 t1 t2 t3;rw[show P.hs.length-2=0 by omega] at hh;exact hh
  have HE:Hid (clrB P f s=true):=by show _=_;rw[HE0.out,decide_eq_true h2];rfl
  clear h2 r h HE0;generalize clrB P f s=SV at *;go_enter Tryz.func182,Tryz.ntmps182;go_upto_region 1 with (fail);rw[HW0.out];obtain⟨t0,t1,t2,t3⟩:=HD.out _ HB.out;go_wp2_with ((first|(go_at_call 228;with_reducible refine (CV.out _ HB.out).mono ?_)|(go_at_call 229;with_reducible refine (CF.out _ HB.out).mono ?_)|(go_at_call 230;with_reducible refine (CW.out _ HB.out).mono ?_));rintro e v1 ⟨rfl,hb_⟩;(try clear t0 t1 t2 t3);replace HB:=btr HB hb_;clear hb_;obtain⟨t0,t1,t2,t3⟩:=HD.out _ HB.out);go_ret;exact⟨by rw[HE.out];rfl,B0.out.trans (HB.out.mono B0.out.size)⟩
 have n3:3≤P.hs.length:=O
 have HE:Hid (clrB P f s=decide (s≤shrP P f (wrsP P f))):=by show _=_;rw[HE0.out,decide_eq_false h2];rfl
 obtain⟨wb0,wb1⟩:=wrsP_bd f n3;have CW:Hid (∀ W:World,IJ W0 W0 W→Calls Tryz.prog 230 #[.pointer (some ⟨w,0,none⟩),I f] W fun e w'=>e=.returned (.tuple #[I (wrsP P f),I (shrP P f (wrsP P f))])∧IJ W W w'):=fun  W hW=>by
   obtain⟨t0,t1,t2,t3⟩:=HD.out W hW;have hh:=l05Worst_any P h _ w.heap.size 0 f f0 f1 W (zb4 r B0.out hW) t0 t1 t2 t3;rw[← wrs_bS f n3,← wrs_mS f n3] at hh;exact hh
 clear h2 r h HE0;generalize clrB P f s=SV at *;generalize shrP P f (wrsP P f)=nn at *;generalize wrsP P f=ww at *;have hww:decide (ww<0)=false:=decide_eq_false O;go_enter Tryz.func182,Tryz.ntmps182;go_upto_region 1 with (fail);rw[HW0.out];obtain⟨t0,t1,t2,t3⟩:=HD.out _ HB.out;go_wp2_with ((first|(go_at_call 228;with_reducible refine (CV.out _ HB.out).mono ?_)|(go_at_call 229;with_reducible refine (CF.out _ HB.out).mono ?_)|(go_at_call 230;with_reducible refine (CW.out _ HB.out).mono ?_));rintro e v1 ⟨rfl,hb_⟩;(try clear t0 t1 t2 t3);replace HB:=btr HB hb_;clear hb_;obtain⟨t0,t1,t2,t3⟩:=HD.out _ HB.out);go_ret;exact⟨by rw[HE.out];rfl,B0.out.trans (HB.out.mono B0.out.size)⟩
set_option maxHeartbeats 16000000
set_option maxRecDepth 100000
theorem iWorst2_any (P:Pf) (h:PfOk P) (vh:Value) (f:Int) (f0:1≤f) (f1:f≤100000000) (h2:P.hs.length=2) (w:World) (r:Rd w w (zai P.hs) vh) :
  Calls Tryz.prog 204 #[.agg #[I P.d,I P.f,I P.l,vh],I f] w fun e w'=>e=.returned (.tuple #[I 0,I 0,I 6])∧IJ w w w':=by
 obtain⟨W0,hW0,b0_,z0,k0⟩:=zax w #[I P.d,I P.f,I P.l,vh] 211;have HW0:=J hW0;have B0:=J b0_;have HD:=J (fun (W:World) (hW:IJ W0 W0 W)=>by4 k0 hW);have HB:Hid (IJ W0 W0 W0):=Below.refl _ _;clear k0 hW0 b0_;have CV:Hid (∀ W:World,IJ W0 W0 W→Calls Tryz.prog 203 #[.agg #[I P.d,I P.f,I P.l,vh]] W fun e w'=>e=.returned (.bool true)∧IJ W W w'):=fun  W hW=>by
   have hh:=zem P h.w vh W (zb4 r B0.out hW);rw[ok_pfB h] at hh;exact hh
 have CF:Hid (∀ W:World,IJ W0 W0 W→Calls Tryz.prog 53 #[I f] W fun e w'=>e=.returned (.bool true)∧IJ W W w'):=fun  W hW=>by
   have hh:=zcl f W;rw[zat.2 ⟨f0,f1⟩] at hh;exact zam hh
 have CL:Hid (∀ W:World,IJ W0 W0 W→Calls Tryz.prog 207 #[.agg #[I P.d,I P.f,I P.l,vh]] W fun e w'=>e=.returned (I 1)∧IJ W W w'):=fun  W hW=>by
   have hh:=zd1 P O vh W (zb4 r B0.out hW);rw[show P.n=1 by unfold Pf.n;omega] at hh;exact hh
 clear h2 r h;go_enter Tryz.func204,Tryz.ntmps204;go_upto_region 1 with (fail);rw[HW0.out];obtain⟨t0,t1,t2,t3⟩:=HD.out _ HB.out;go_wp2_with ((first|(go_at_call 203;with_reducible refine (CV.out _ HB.out).mono ?_)|(go_at_call 53;with_reducible refine (CF.out _ HB.out).mono ?_)|(go_at_call 207;with_reducible refine (CL.out _ HB.out).mono ?_));rintro e v1 ⟨rfl,hb_⟩;(try clear t0 t1 t2 t3);replace HB:=btr HB hb_;clear hb_;obtain⟨t0,t1,t2,t3⟩:=HD.out _ HB.out)
 go_ret3
 exact⟨rfl,B0.out.trans (HB.out.mono B0.out.size)⟩
theorem iWorst3_any (P:Pf) (h:PfOk P) (vh:Value) (f:Int) (f0:1≤f) (f1:f≤100000000) (h3:3≤P.hs.length) (w:World) (r:Rd w w (zai P.hs) vh) :
  Calls Tryz.prog 204 #[.agg #[I P.d,I P.f,I P.l,vh],I f] w fun e w'=>e=.returned (.tuple #[I (wrsP P f),I (shrP P f (wrsP P f)),I 0])∧IJ w w w':=by
 have HW:Hid (wrsP P f=zaz (fun x=>-(shrP P f x)) 1 (P.hs.length-3)):=rfl;have hwb:=wrsP_bd f h3;have hn:P.n=(P.hs.length:Int)-1:=rfl;have n1_:=h.n1;obtain⟨N,hN⟩:∃ N,P.hs.length=N+3:=⟨P.hs.length-3,O⟩
 have hN2:P.hs.length-3=N:=O
 have hni:P.n=(N:Int)+2:=O
 have hNb:(N:Int)≤62:=O
 rw[hN2] at HW;obtain⟨W0,hW0,b0_,z0,k0⟩:=zax w #[I P.d,I P.f,I P.l,vh] 211;have HW0:=J hW0;have B0:=J b0_;have HD:=J (fun (W:World) (hW:IJ W0 W0 W)=>by4 k0 hW);have HB:Hid (IJ W0 W0 W0):=Below.refl _ _;clear k0 hW0 b0_;have CV:Hid (∀ W:World,IJ W0 W0 W→Calls Tryz.prog 203 #[.agg #[I P.d,I P.f,I P.l,vh]] W fun e w'=>e=.returned (.bool true)∧IJ W W w'):=fun  W hW=>by
   have hh:=zem P h.w vh W (zb4 r B0.out hW);rw[ok_pfB h] at hh;exact hh
 have CF:Hid (∀ W:World,IJ W0 W0 W→Calls Tryz.prog 53 #[I f] W fun e w'=>e=.returned (.bool true)∧IJ W W w'):=fun  W hW=>by
   have hh:=zcl f W;rw[zat.2 ⟨f0,f1⟩] at hh;exact zam hh
 have CL:Hid (∀ W:World,IJ W0 W0 W→Calls Tryz.prog 207 #[.agg #[I P.d,I P.f,I P.l,vh]] W fun e w'=>e=.returned (I ((N:Int)+2))∧IJ W W w'):=fun  W hW=>by rw[← hni];exact zd1 P O vh W (zb4 r B0.out hW)
 have CP:Hid (∀ (x:Int) (hx:0≤x∧x<(N:Int)+3) (W:World),IJ W0 W0 W→Calls Tryz.prog 241 #[.agg #[I P.d,I P.f,I P.l,vh],I f,I x] W fun e w'=>e=.returned (I (shrP P f x))∧IJ W W w'):=fun x hx W hW=>by
   obtain⟨k,rfl⟩:=Int.eq_ofNat_of_zero_le hx.1;exact iShare_any P h vh f f0 f1 k O W (zb4 r B0.out hW)
 clear r h;generalize wrsP P f=WV at *;have HG:Hid (∀ x,(fun x=>-(shrP P f x)) x = -(shrP P f x)):=fun x=>rfl
 generalize (fun x=>-(shrP P f x))=g at *;generalize shrP P f=v at *;have hN1:((N:Int)+2 == 1)=false:=by rw[beq_eq_false_iff_ne];omega
 go_enter Tryz.func204,Tryz.ntmps204;go_upto_region 1 with (fail);rw[HW0.out];obtain⟨t0,t1,t2,t3⟩:=HD.out _ HB.out;go_wp2_with ((first|(go_at_call 203;with_reducible refine (CV.out _ HB.out).mono ?_)|(go_at_call 53;with_reducible refine (CF.out _ HB.out).mono ?_)|(go_at_call 207;with_reducible refine (CL.out _ HB.out).mono ?_));rintro e v1 ⟨rfl,hb_⟩;(try clear t0 t1 t2 t3);replace HB:=btr HB hb_;clear hb_;obtain⟨t0,t1,t2,t3⟩:=HD.out _ HB.out);go_loopw [7,8] (fun bs ii wr=>∃ j:Nat,j≤N∧bs=I (zaz g 1 j)∧ii=I (2+(j:Int))∧IJ W0 W0 wr) (fun bs ii wr=>(N+2-(intOf ii)).toNat)
 case atStart=>exact⟨0,Nat.zero_le _,rfl,by simp,HB.out⟩
 case round =>
  obtain⟨j,hj,rfl,rfl,hbw⟩:=hrel;clear t0 t1 t2 t3;replace HB:=J hbw;clear hbw;obtain⟨t0,t1,t2,t3⟩:=HD.out _ HB.out;obtain⟨bb0,bb1⟩:=zdb g 1 j;have es:(1:Int)+((j+1:Nat):Int)=2+(j:Int):=O
  have hji:(j:Int)≤(N:Int):=O
  by_cases hlt:j<N
  ·have hjl:(j:Int)<(N:Int):=O
   have hp:=zfm (g:=g) (s:=1) (k:=j);have hn2:=zfn (g:=g) (s:=1) (k:=j);rw[es] at hp hn2;have HP:=J hp;have HN:=J hn2;clear hp hn2 es HW;generalize zaz g 1 j=ob at *;have hg1:=HG.out ob;have hg2:=HG.out (2+(j:Int));have HG1:=J hg1;have HG2:=J hg2;clear hg1 hg2;go_upto_region 11 with (go_at_call 207;with_reducible refine (CL.out _ HB.out).mono ?_;rintro e v9 ⟨rfl,hb_⟩;(try clear t0 t1 t2 t3);replace HB:=btr HB hb_;clear hb_;obtain⟨t0,t1,t2,t3⟩:=HD.out _ HB.out);have o0:=zal (w0:=v9) (show w.heap.size<v9.heap.size by have:=HB.out.size;omega);refine zad v9.heap.size v9 (Below.refl _ _) OJ OJ ?_
   repeat (go_big_quiet_step (first|(go_at_call 241;with_reducible exact zaj (Nat.le_refl _) (CP.out _ ⟨O,O⟩ _ (HB.out.trans ((zaa _ _ _).mono HB.out.size))))))
   refine wpQuiet_nil ?_;rintro _ ⟨X,rfl⟩;replace HB:=btr HB (zaa v9.heap.size v9 X);clear o0
   (try clear t0 t1 t2 t3)
   generalize over v9.heap.size v9 X=u2 at *;obtain⟨t0,t1,t2,t3⟩:=HD.out _ HB.out
   by_cases hc:v (2+(j:Int))<v ob
   ·have HE2:=J (HP.out (by have a:=HG1.out;have b:=HG2.out;omega))
    go_wp2;go_roundw
    case rel=>exact⟨j+1,O,by rw[HE2.out],by go_num,HB.out⟩
    case measure=>simp[intOf];omega
   ·have HE2:=J (HN.out (by have a:=HG1.out;have b:=HG2.out;omega))
    go_wp2;go_roundw
    case rel=>exact⟨j+1,O,by rw[HE2.out],by go_num,HB.out⟩
    case measure=>simp[intOf];omega
  ·obtain rfl:j=N:=O
   rw[← HW.out] at bb0 bb1 ⊢;go_wp2_with (first|(go_at_call 207;with_reducible refine (CL.out _ HB.out).mono ?_;rintro e v9 ⟨rfl,hb_⟩;(try clear t0 t1 t2 t3);replace HB:=btr HB hb_;clear hb_;obtain⟨t0,t1,t2,t3⟩:=HD.out _ HB.out)|(go_at_call 241;with_reducible refine (CP.out _ ⟨O,O⟩ _ HB.out).mono ?_;rintro e v9 ⟨rfl,hb_⟩;(try clear t0 t1 t2 t3);replace HB:=btr HB hb_;clear hb_;obtain⟨t0,t1,t2,t3⟩:=HD.out _ HB.out))
   go_ret3
   exact⟨rfl,B0.out.trans (HB.out.mono B0.out.size)⟩
theorem iClear2_any (P:Pf) (h:PfOk P) (vh:Value) (f:Int) (f0:1≤f) (f1:f≤100000000) (s:Int) (w:World) (r:Rd w w (zai P.hs) vh) :
  Calls Tryz.prog 161 #[.agg #[I P.d,I P.f,I P.l,vh],I f,I s] w fun e w'=>e=.returned (.bool (clrB P f s))∧IJ w w w':=by
 have HE0:Hid (clrB P f s=(decide (P.hs.length=2) || decide (s≤shrP P f (wrsP P f)))):=rfl;have n0_:=h.n0;obtain⟨W0,hW0,b0_,z0,k0⟩:=zax w #[I P.d,I P.f,I P.l,vh] 211;have HW0:=J hW0;have B0:=J b0_;have HD:=J (fun (W:World) (hW:IJ W0 W0 W)=>by4 k0 hW);have HB:Hid (IJ W0 W0 W0):=Below.refl _ _;clear k0 hW0 b0_;have CV:Hid (∀ W:World,IJ W0 W0 W→Calls Tryz.prog 203 #[.agg #[I P.d,I P.f,I P.l,vh]] W fun e w'=>e=.returned (.bool true)∧IJ W W w'):=fun  W hW=>by
   have hh:=zem P h.w vh W (zb4 r B0.out hW);rw[ok_pfB h] at hh;exact hh
 have CF:Hid (∀ W:World,IJ W0 W0 W→Calls Tryz.prog 53 #[I f] W fun e w'=>e=.returned (.bool true)∧IJ W W w'):=fun  W hW=>by
   have hh:=zcl f W;rw[zat.2 ⟨f0,f1⟩] at hh;exact zam hh
 by_cases h2:P.hs.length=2
 case pos =>
  have CW:Hid (∀ W:World,IJ W0 W0 W→Calls Tryz.prog 204 #[.agg #[I P.d,I P.f,I P.l,vh],I f] W fun e w'=>e=.returned (.tuple #[I 0,I 0,I 6])∧IJ W W w'):=fun  W hW=>iWorst2_any P h vh f f0 f1 h2 W (zb4 r B0.out hW)
  have HE:Hid (clrB P f s=true):=by show _=_;rw[HE0.out,decide_eq_true h2];rfl
  clear h2 r h HE0;generalize clrB P f s=SV at *;go_enter Tryz.func161,Tryz.ntmps161;go_upto_region 1 with (fail);rw[HW0.out];obtain⟨t0,t1,t2,t3⟩:=HD.out _ HB.out;go_wp2_with ((first|(go_at_call 203;with_reducible refine (CV.out _ HB.out).mono ?_)|(go_at_call 53;with_reducible refine (CF.out _ HB.out).mono ?_)|(go_at_call 204;with_reducible refine (CW.out _ HB.out).mono ?_));rintro e v1 ⟨rfl,hb_⟩;(try clear t0 t1 t2 t3);replace HB:=btr HB hb_;clear hb_;obtain⟨t0,t1,t2,t3⟩:=HD.out _ HB.out);go_ret;exact⟨by rw[HE.out];rfl,B0.out.trans (HB.out.mono B0.out.size)⟩
 have n3:3≤P.hs.length:=O
 have HE:Hid (clrB P f s=decide (s≤shrP P f (wrsP P f))):=by show _=_;rw[HE0.out,decide_eq_false h2];rfl
 have CW:Hid (∀ W:World,IJ W0 W0 W→Calls Tryz.prog 204 #[.agg #[I P.d,I P.f,I P.l,vh],I f] W fun e w'=>e=.returned (.tuple #[I (wrsP P f),I (shrP P f (wrsP P f)),I 0])∧IJ W W w'):=fun  W hW=>iWorst3_any P h vh f f0 f1 n3 W (zb4 r B0.out hW)
 clear h2 r h HE0 n3 n0_;generalize clrB P f s=SV at *;generalize shrP P f (wrsP P f)=nn at *;generalize wrsP P f=ww at *;go_enter Tryz.func161,Tryz.ntmps161;go_upto_region 1 with (fail);rw[HW0.out];obtain⟨t0,t1,t2,t3⟩:=HD.out _ HB.out;go_wp2_with ((first|(go_at_call 203;with_reducible refine (CV.out _ HB.out).mono ?_)|(go_at_call 53;with_reducible refine (CF.out _ HB.out).mono ?_)|(go_at_call 204;with_reducible refine (CW.out _ HB.out).mono ?_));rintro e v1 ⟨rfl,hb_⟩;(try clear t0 t1 t2 t3);replace HB:=btr HB hb_;clear hb_;obtain⟨t0,t1,t2,t3⟩:=HD.out _ HB.out);go_ret;exact⟨by rw[HE.out];rfl,B0.out.trans (HB.out.mono B0.out.size)⟩
theorem iPart_any (P:Pf) (h:PfOk P) (vh:Value) (i k:Nat) (hik:i<k) (hk:k<P.hs.length) (w:World) (r:Rd w w (zai P.hs) vh) :
  Calls Tryz.prog 209 #[.agg #[I P.d,I P.f,I P.l,vh],I (i:Int),I (k:Int)] w fun e w'=>∃ (a':Option Addr) (c':Nat),e=.returned (.agg #[I (zbq P i k).d,I (zbq P i k).f,I (zbq P i k).l,II a' (zbq P i k).hs.length c'])∧IJ w w w'∧Rd w'.heap.size w' (zai (zbq P i k).hs) (II a' (zbq P i k).hs.length c'):=by
 obtain⟨i0_,hi0,hz0,hz1,hz2⟩:=info_parts infoI;have n0_:=h.n0;have n1_:=h.n1;have hn:P.n=(P.hs.length:Int)-1:=rfl;have hql:=partP_len hik hk;have hq0:(zbq P i k).hs=(P.hs.drop i).take (k+1-i):=by
  show (P.hs.drop (i:Int).toNat).take ((k:Int)+1-(i:Int)).toNat=_
  rw[Int.toNat_natCast,show ((k:Int)+1-(i:Int)).toNat=k+1-i by omega]
 have hqd:(zbq P i k).d=offP P.d P.n k-offP P.d P.n i:=rfl;have hqf:(zbq P i k).f=if (i:Int)=0 then P.f else gi P.hs i:=by
  show (if (i:Int)=0 then P.f else gi P.hs (i:Int).toNat)=_
  rw[Int.toNat_natCast]
 have hqll:(zbq P i k).l=if (k:Int)=P.n then P.l else gi P.hs k:=by
  show (if (k:Int)=P.n then P.l else gi P.hs (k:Int).toNat)=_
  rw[Int.toNat_natCast]
 have hod:=offP_diff h (i:=(i:Int)) (k:=(k:Int)) O O O O;obtain⟨av,cv,ev,hcv,hcm,_⟩:=r.ints;subst ev;have CL0:Hid (∀ W:World,Rd W W (zai P.hs) (II av P.hs.length cv)→Calls Tryz.prog 207 #[.agg #[I P.d,I P.f,I P.l,II av P.hs.length cv]] W fun e w'=>e=.returned (I P.n)∧IJ W W w'):=fun W hr=>zd1 P O _ W hr
 obtain⟨bh,oh,ea_,hbl,hat⟩:=r.intAt O;subst ea_;have ti:=hat i O;have tk:=hat k hk;have RC:=J (rd_cut r hik hk);have i0:(0:Int)≤(i:Int):=O
 have i1:(i:Int)<(P.hs.length:Int):=O
 have i2:(i:Int)≤(k:Int)+1:=O
 have i3:(0:Int)≤(k:Int):=O
 have i4:(k:Int)<(P.hs.length:Int):=O
 have i5:(k:Int)+1≤(cv:Int):=O
 have i6:(k:Int)≤64:=O
 have i7:¬ cv=i:=O
 have hw1:IntKind.i64.wrap ((k:Int)+1)=(k:Int)+1:=IntWalk.i64_in _ O;have hw2:IntKind.i64.wrap (offP P.d P.n k-offP P.d P.n i)=offP P.d P.n k-offP P.d P.n i:=IntWalk.i64_in _ O;have e0:((i:Int) == 0)=decide (i=0):=by rw[Bool.eq_iff_iff];simp
 have e1:((k:Int) == P.n)=decide (k+1=P.hs.length):=by rw[Bool.eq_iff_iff];simp<;>omega
 have e2:(if (i:Int)=0 then P.f else gi P.hs i)=if i=0 then P.f else gi P.hs i:=by by_cases hz:i=0<;>simp[hz]
 have e3:(if (k:Int)=P.n then P.l else gi P.hs k)=if k+1=P.hs.length then P.l else gi P.hs k:=by
  by_cases hz:k+1=P.hs.length
  ·rw[if_pos hz,if_pos O]
  ·rw[if_neg hz,if_neg O]
 rw[e2] at hqf;rw[e3] at hqll;have HQL:=J hql;have HQ0:=J hq0;have HQD:=J hqd;have HQF:=J hqf;have HQLL:=J hqll;have E0:=J e0;have E1:=J e1;have HODB:=J hod;have HRD:=J (Rd.reads1 (g:=Value.int .i64) (l:=(P.hs.drop i).take (k+1-i)) (by have h_:=RC.out;rw[zai] at h_;exact h_));have H1:=J (oneCell_ints ((P.hs.drop i).take (k+1-i)));clear hql hq0 hqd hqf hqll e0 e1 e2 e3 hn hat hod;obtain⟨W0,hW0,b0_,z0,k0,k1⟩:=zeb w #[I P.d,I P.f,I P.l,II (some ⟨bh,oh,none⟩) P.hs.length cv] 211 #[I 0,I 0,I 0,II none 0 0] 211;have HW0:=J hW0;have B0:=J b0_;have HD:=J (fun (W:World) (hW:IJ W0 W0 W)=>bx4 k0 hW <| bx4 k1 hW <| aI ((bat hW bh _ O).trans ((bat b0_ bh _ O).trans ti)) <| ((bat hW bh _ O).trans ((bat b0_ bh _ O).trans tk)));have HB:Hid (IJ W0 W0 W0):=Below.refl _ _;have K1:=J k1;clear k0 k1 hW0 b0_;have CK:Hid (∀ W:World,IJ W0 W0 W→Calls Tryz.prog 244 #[.agg #[I P.d,I P.f,I P.l,II (some ⟨bh,oh,none⟩) P.hs.length cv],I (k:Int)] W fun e w'=>e=.returned (I (offP P.d P.n k))∧IJ W W w'):=fun  W hW=>zfh P h _ k O W (zb4 r B0.out hW)
 have CI:Hid (∀ W:World,IJ W0 W0 W→Calls Tryz.prog 244 #[.agg #[I P.d,I P.f,I P.l,II (some ⟨bh,oh,none⟩) P.hs.length cv],I (i:Int)] W fun e w'=>e=.returned (I (offP P.d P.n i))∧IJ W W w'):=fun  W hW=>zfh P h _ i O W (zb4 r B0.out hW)
 have CL:Hid (∀ W:World,IJ W0 W0 W→Calls Tryz.prog 207 #[.agg #[I P.d,I P.f,I P.l,II (some ⟨bh,oh,none⟩) P.hs.length cv]] W fun e w'=>e=.returned (I P.n)∧IJ W W w'):=fun  W hW=>CL0.out W (zb4 r B0.out hW)
 have HRB:Hid (∀ W:World,IJ W0 W0 W→Reads W W0.heap.size 1 (some ⟨bh,oh+i,none⟩) (k+1-i) (((P.hs.drop i).take (k+1-i)).map (Value.int .i64))):=fun W hW=>by
  have h_:=HRD.out;exact ((h_.below B0.out).more B0.out.size).below hW
 clear ti tk r RC h CL0 HRD;generalize offP P.d P.n k=ok at *;generalize offP P.d P.n i=oi at *;generalize P.n=n at *;generalize zbq P i k=Q at *;generalize gi P.hs i=gI at *;generalize gi P.hs k=gK at *;generalize (P.hs.drop i).take (k+1-i)=CUT at *;go_enter Tryz.func209,Tryz.ntmps209;go_upto_region 1 with (fail);rw[HW0.out];go_cut [7] (fun s7 wx=>∃ g:Nat,s7=.pointer (some ⟨g,0,none⟩)∧wx.heap[g]? = some (.cells #[I (ok-oi),I gI,I gK,II none 0 0] 211 (0,0))∧IJ W0 W0 wx∧W0.heap.size≤g∧g<wx.heap.size)
 case first =>
  refine zap 20 (.read 0 (.read 1 (.read 3 (.read 4 (.read 7 (.read 8 (.read 9 (.read 10 (.read 11 (.read 12 (.read 13 (.read 14 (.read 15 (.read 16 (.two 2 18 (.two 5 18 (.read 6 (.read 17 (.one 18 (.one 19 .nil)))) (.one 5 (.read 6 (.read 17 (.one 19 .nil))))) (.one 2 (.one 5 (.read 6 (.read 17 (.one 19 .nil)))))))))))))))))))) (fun W=>IJ W0 W0 W) OJ OJ (HB.out.drew) ?_;have YB:=J (HB.out.drew);have Yz:W0.heap.size≤W0.drew.heap.size:=Nat.le_refl _;generalize W0.drew=Y at *
  iterate 14
   refine zag (v:=?_) rfl (fun _ _ _ h=>h) ?_ ?_
   rotate_left
   ·(intro W hSW;(try dsimp only at hSW);obtain⟨t0,t1,t2,t3,t4,t5,t6,t7,t8,t9⟩:=HD.out W hSW;(go_simp<;>with_reducible rfl))
   (try simp only[Act.put,IQ,IZ,OI])
  refine za0 ?_ ?_;refine zae rfl (fun K hK=>?_);go_simp;refine (CK.out _ YB.out).mono ?_;rintro e Y1 ⟨rfl,hb1⟩;have YB1:=btr YB hb1;refine hK.out _ _ YB1.out ?_;clear hK K;have bs1:=hb1.size;clear hb1;refine za0 ?_ ?_;refine zae rfl (fun K hK=>?_);go_simp;refine (CI.out _ YB1.out).mono ?_;rintro e Y2 ⟨rfl,hb2⟩;have YB2:=btr YB1 hb2;refine hK.out _ _ YB2.out ?_;clear hK K;have bs2:=hb2.size;clear hb2
  iterate 2
   refine zag (v:=?_) rfl (fun _ _ _ h=>h) ?_ ?_
   rotate_left
   ·(intro W hSW;(try dsimp only at hSW);obtain⟨t0,t1,t2,t3,t4,t5,t6,t7,t8,t9⟩:=HD.out W hSW;(go_simp<;>with_reducible rfl))
   (try simp only[Act.put,IQ,IZ,OI])
  refine zaf ?_;refine zae rfl (fun K hK=>?_);go_simp;obtain⟨Y3,hW3,hb3,zl3,hk3⟩:=zax Y2 #[I 0,I 0,I 0,II none 0 0] 211;rw[hW3];have Yko3:=J hk3;have YB3:=btr YB2 hb3;refine hK.out _ _ YB3.out ?_;have bs3:=hb3.size;clear hK K hW3 hk3 hb3;refine zaf ?_;refine zae rfl (fun K hK=>?_);obtain⟨g0,g1,g2,g3,fz⟩:=bz4 Yko3.out;go_simp;obtain⟨Y4,hW4,Yko4,bs4,ho4,hl4⟩:=zca Yko3 [I (ok-oi),I gI,I gK,II none 0 0] rfl;simp only[zb1] at hW4;rw[hW4];have YB4:=J (hl4.out W0 (by have:=YB3.out.size;omega) YB3.out);refine hK.out _ _ YB4.out ?_;clear hK K fz hW4 ho4 hl4 g0 g1 g2 g3;refine zak ?_;simp only[List.drop_succ_cons,List.drop_zero];go_wp2_with fail;go_meet;exact⟨_,rfl,Yko4.out,YB4.out,O,O⟩;refine zae rfl (fun K hK=>?_);go_simp;obtain⟨Y5,hW5,hb5,zl5,hk5⟩:=zax Y1 #[I 0,I 0,I 0,II none 0 0] 211;rw[hW5];have Yko5:=J hk5;have YB5:=btr YB1 hb5;refine hK.out _ _ YB5.out ?_;have bs5:=hb5.size;clear hK K hW5 hk5 hb5;refine zaf ?_;refine zae rfl (fun K hK=>?_);go_simp;refine (CI.out _ YB5.out).mono ?_;rintro e Y6 ⟨rfl,hb6⟩;have YB6:=btr YB5 hb6;refine hK.out _ _ YB6.out ?_;clear hK K;have bs6:=hb6.size;have Yko6:=bkH Yko5 hb6;clear hb6
  iterate 2
   refine zag (v:=?_) rfl (fun _ _ _ h=>h) ?_ ?_
   rotate_left
   ·(intro W hSW;(try dsimp only at hSW);obtain⟨t0,t1,t2,t3,t4,t5,t6,t7,t8,t9⟩:=HD.out W hSW;(go_simp<;>with_reducible rfl))
   (try simp only[Act.put,IQ,IZ,OI])
  refine zaf ?_;refine zae rfl (fun K hK=>?_);obtain⟨g0,g1,g2,g3,fz⟩:=bz4 Yko6.out;go_simp;obtain⟨Y7,hW7,Yko7,bs7,ho7,hl7⟩:=zca Yko6 [I (ok-oi),I gI,I gK,II none 0 0] rfl;simp only[zb1] at hW7;rw[hW7];have YB7:=J (hl7.out W0 (by have:=YB6.out.size;omega) YB6.out);refine hK.out _ _ YB7.out ?_;clear hK K fz hW7 ho7 hl7 g0 g1 g2 g3;refine zak ?_;simp only[List.drop_succ_cons,List.drop_zero];go_wp2_with fail;go_meet;exact⟨_,rfl,Yko7.out,YB7.out,O,O⟩;refine zae rfl (fun K hK=>?_);go_simp;obtain⟨Y8,hW8,hb8,zl8,hk8⟩:=zax Y #[I 0,I 0,I 0,II none 0 0] 211;rw[hW8];have Yko8:=J hk8;have YB8:=btr YB hb8;refine hK.out _ _ YB8.out ?_;have bs8:=hb8.size;clear hK K hW8 hk8 hb8;refine zaf ?_;refine zae rfl (fun K hK=>?_);go_simp;refine (CK.out _ YB8.out).mono ?_;rintro e Y9 ⟨rfl,hb9⟩;have YB9:=btr YB8 hb9;refine hK.out _ _ YB9.out ?_;clear hK K;have bs9:=hb9.size;have Yko9:=bkH Yko8 hb9;clear hb9;refine zaf ?_;refine zae rfl (fun K hK=>?_);go_simp;refine (CI.out _ YB9.out).mono ?_;rintro e Y10 ⟨rfl,hb10⟩;have YB10:=btr YB9 hb10;refine hK.out _ _ YB10.out ?_;clear hK K;have bs10:=hb10.size;have Yko10:=bkH Yko9 hb10;clear hb10
  iterate 2
   refine zag (v:=?_) rfl (fun _ _ _ h=>h) ?_ ?_
   rotate_left
   ·(intro W hSW;(try dsimp only at hSW);obtain⟨t0,t1,t2,t3,t4,t5,t6,t7,t8,t9⟩:=HD.out W hSW;(go_simp<;>with_reducible rfl))
   (try simp only[Act.put,IQ,IZ,OI])
  refine zaf ?_;refine zae rfl (fun K hK=>?_);obtain⟨g0,g1,g2,g3,fz⟩:=bz4 Yko10.out;go_simp;obtain⟨Y11,hW11,Yko11,bs11,ho11,hl11⟩:=zca Yko10 [I (ok-oi),I gI,I gK,II none 0 0] rfl;simp only[zb1] at hW11;rw[hW11];have YB11:=J (hl11.out W0 (by have:=YB10.out.size;omega) YB10.out);refine hK.out _ _ YB11.out ?_;clear hK K fz hW11 ho11 hl11 g0 g1 g2 g3;refine zak ?_;simp only[List.drop_succ_cons,List.drop_zero];go_wp2_with fail;go_meet;exact⟨_,rfl,Yko11.out,YB11.out,O,O⟩
 obtain⟨g,rfl,kg_,hbW,hg1,hg2⟩:=hcut;generalize wc=w3 at *;have KG:=J kg_;replace HB:=J hbW;clear kg_ hbW hw2 CK CI
 have HD3:Hid (∀ W:World,IJ w3 w3 W→(W.cell? ⟨g,3,none⟩=some (II none 0 0)∧W.cell? ⟨w,3,none⟩=some (II (some ⟨bh,oh,none⟩) P.hs.length cv))):=fun W hW=>⟨(bat hW g _ hg2).trans (bkC KG.out 3 rfl),by
  obtain⟨t0,t1,t2,t3,t4,t5,t6,t7,t8,t9⟩:=HD.out W (HB.out.trans (hW.mono HB.out.size))
  exact t3⟩
 have B3:Hid (IJ w3 w3 w3):=Below.refl _ _;go_upto_region 2 with (fail);refine zap 10 (.read 0 (.read 1 (.read 2 (.read 3 (.read 4 (.read 5 (.read 6 (.read 7 (.one 8 (.read 9 .nil)))))))))) (fun W=>IJ w3 w3 W) OJ OJ (B3.out.drew) ?_;have XB:=J (B3.out.drew);have Xz:w3.heap.size≤w3.drew.heap.size:=Nat.le_refl _;generalize w3.drew=X at *
 iterate 8
  refine zag (v:=?_) rfl (fun _ _ _ h=>h) ?_ ?_
  rotate_left
  ·(intro W hSW;(try dsimp only at hSW);obtain⟨y3,p3⟩:=HD3.out W hSW;(go_simp<;>with_reducible rfl))
  (try simp only[Act.put,IQ,IZ,OI])
 refine zaf ?_;refine zae rfl (fun K hK=>?_);refine zfc _ (.tmp 27) (.tmp 33) _ rfl X.heap.size 2 i0_ _ 1 8 Tryz.underlying22 hi0 hz0 hz1 hz2 rfl O (II none 0 0) 0 [] rfl ⟨rfl,Or.inl ⟨rfl,rfl⟩⟩ W0.heap.size (some ⟨bh,oh+i,none⟩) (k+1-i) (cv-i) (CUT.map (Value.int .i64)) rfl (HRB.out _ (HB.out.trans (XB.out.mono HB.out.size))) H1.out (by simp only[maxLen];omega) O (Nat.le_refl _) ?_;intro vq X1 hown1 hg1_ hat1;have hb1:IJ X X X1:=(Below.refl _ _).grown hg1_ (Nat.le_refl _) (fun k hk=>by simp[Value.ownBlock] at hk);simp only[Nat.zero_add,List.nil_append] at hown1;rw[← HQ0.out,← HQL.out] at hown1;obtain⟨a',c',fp,rfl,ho_,hi_⟩:=(grow_ints hown1).toOwn (lo:=X.heap.size) O In.nil (Nat.le_refl _);have BS1:=btr XB hb1;have zq1:X.heap.size≤X1.heap.size:=hb1.size;have OW:=J ho_;have IN0:=J hi_;refine hK.out _ _ BS1.out ?_;clear hK K hown1 hg1_ hat1 ho_ hi_ hb1
 (try simp only[Act.put,IQ,IZ,OI])
 refine zag (v:=?_) rfl (fun _ _ _ h=>h) ?_ ?_
 rotate_left
 ·(intro W hSW;(try dsimp only at hSW);obtain⟨y3,p3⟩:=HD3.out W hSW;(go_simp<;>with_reducible rfl))
 (try simp only[Act.put,IQ,IZ,OI])
 refine zak ?_;simp only[List.drop_succ_cons,List.drop_zero];skip;have IN:Hid (In (w3.heap.size) X1.heap.size fp):=IN0.out.mono O O;have B4:=J (HB.out.trans (BS1.out.mono HB.out.size));have KG4:=J (bkB KG.out BS1.out hg2);have K14:=J (bkB K1.out B4.out O);have z4:w3.heap.size≤X1.heap.size:=O
 clear IN0 KG HD3 B3 BS1 HRB H1 HB K1;generalize X1=w4 at *;obtain⟨y0,y1,y2,y3,yf⟩:=bz4 KG4.out;have hsz4:w.heap.size+1<W0.heap.size:=O
 go_upto_region 3 with (fail);clear y0 y1 y2 y3 yf;obtain⟨w5,hWQ1,hkQ1,bsQ1,hoQ1,hlQ1⟩:=zds KG4 3 (II a' Q.hs.length c');rw[hWQ1];have kgQ1:Hid (w5.heap[g]? = some (.cells #[I (ok-oi),I gI,I gK,II a' Q.hs.length c'] 211 (0,0))):=by show _=_;simpa using hkQ1.out
 clear hkQ1;have bbQ1:=J (hlQ1.out W0 (by have:=B4.out.size;omega) B4.out);have krQ1:=J ((hoQ1.out _ O).trans K14.out);have ohQ1:=J (OW.out.frame (fun x hx=>hoQ1.out x (fun e=>by subst e;have:=IN.out _ hx;omega)));clear hWQ1 hoQ1 hlQ1;have hx0:=E0.out;have hx1:=E1.out;clear E0 E1
 by_cases hz:i=0
 case pos =>
  by_cases hy:k+1=P.hs.length
  case pos =>
   have FQ:Hid (Q.f=P.f):=by show _=_;rw[HQF.out,if_pos hz]
   have LQ:Hid (Q.l=P.l):=by show _=_;rw[HQLL.out,if_pos hy]
   rw[decide_eq_true hz] at hx0;rw[decide_eq_true hy] at hx1;clear HQF HQLL hz hy;obtain⟨t0,t1,t2,t3,t4,t5,t6,t7,t8,t9⟩:=HD.out _ bbQ1.out;obtain⟨y0,y1,y2,y3,yf⟩:=bz4 kgQ1.out;go_upto_region 5 with (fail);clear y0 y1 y2 y3 yf t0 t1 t2 t3 t4 t5 t6 t7 t8 t9;obtain⟨w6,hWQ2,hkQ2,bsQ2,hoQ2,hlQ2⟩:=zds kgQ1 1 (I P.f);rw[hWQ2];have kgQ2:Hid (w6.heap[g]? = some (.cells #[I (ok-oi),I P.f,I gK,II a' Q.hs.length c'] 211 (0,0))):=by show _=_;simpa using hkQ2.out
   clear hkQ2;have bbQ2:=J (hlQ2.out W0 (by have:=bbQ1.out.size;omega) bbQ1.out);have krQ2:=J ((hoQ2.out _ O).trans krQ1.out);have ohQ2:=J (ohQ1.out.frame (fun x hx=>hoQ2.out x (fun e=>by subst e;have:=IN.out _ hx;omega)));clear hWQ2 hoQ2 hlQ2;obtain⟨t0,t1,t2,t3,t4,t5,t6,t7,t8,t9⟩:=HD.out _ bbQ2.out;go_wp2_with (go_at_call 207;with_reducible refine (CL.out _ bbQ2.out).mono ?_;rintro e w7 ⟨rfl,hb_⟩;(clear t0 t1 t2 t3 t4 t5 t6 t7 t8 t9);(have bbQ3:=btr bbQ2 hb_);(have bsQ3:=hb_.size);(have kgQ3:=bkH kgQ2 hb_);(have krQ3:=bkH krQ2 hb_);(have ohQ3:=J (ohQ2.out.below IN.out (by first|exact Nat.le_refl _|omega|(simp;done)|(simp<;>omega)) hb_));(clear hb_);(obtain⟨t0,t1,t2,t3,t4,t5,t6,t7,t8,t9⟩:=HD.out _ bbQ3.out);(have y0:=bkC (v:=I (ok-oi)) kgQ3.out 0 rfl);(have y1:=bkC (v:=I P.f) kgQ3.out 1 rfl);(have y2:=bkC (v:=I gK) kgQ3.out 2 rfl);(have y3:=bkC (v:=II a' Q.hs.length c') kgQ3.out 3 rfl);(have yf:=bkF kgQ3.out);(have q0:=bkC (v:=I 0) krQ3.out 0 rfl);(have q1:=bkC (v:=I 0) krQ3.out 1 rfl);(have q2:=bkC (v:=I 0) krQ3.out 2 rfl);(have q3:=bkC (v:=II none 0 0) krQ3.out 3 rfl);(have qf:=bkF krQ3.out));refine bodyPost_ret (v:=.agg #[I (ok-oi),I P.f,I P.l,II a' Q.hs.length c']) (by simp[results,Tryz.results209,go_sem, *]) rfl ⟨a',c',by rw[HQD.out,FQ.out,LQ.out],((((((B0.out.trans (bbQ3.out.mono B0.out.size)).setCell (p:=⟨g,2,none⟩) (by show w.heap.size≤g;omega) (I P.l)).setCell (p:=⟨w.heap.size+1,0,none⟩) (by show w.heap.size≤w.heap.size+1;omega) (I (ok-oi))).setCell (p:=⟨w.heap.size+1,1,none⟩) (by show w.heap.size≤w.heap.size+1;omega) (I P.f)).setCell (p:=⟨w.heap.size+1,2,none⟩) (by show w.heap.size≤w.heap.size+1;omega) (I P.l)).setCell (p:=⟨w.heap.size+1,3,none⟩) (by show w.heap.size≤w.heap.size+1;omega) (II a' Q.hs.length c')),?_⟩;have h_:=(((((ohQ3.out.setFar (p:=⟨g,2,none⟩) (fun e=>by have:=IN.out _ e;simp only at this;omega) (I P.l)).setFar (p:=⟨w.heap.size+1,0,none⟩) (fun e=>by have:=IN.out _ e;simp only at this;omega) (I (ok-oi))).setFar (p:=⟨w.heap.size+1,1,none⟩) (fun e=>by have:=IN.out _ e;simp only at this;omega) (I P.f)).setFar (p:=⟨w.heap.size+1,2,none⟩) (fun e=>by have:=IN.out _ e;simp only at this;omega) (I P.l)).setFar (p:=⟨w.heap.size+1,3,none⟩) (fun e=>by have:=IN.out _ e;simp only at this;omega) (II a' Q.hs.length c')).rd (IN.out.mono (Nat.le_refl _) (show _≤w7.heap.size by omega));simp only[zac];exact h_
  case neg =>
   have FQ:Hid (Q.f=P.f):=by show _=_;rw[HQF.out,if_pos hz]
   have LQ:Hid (Q.l=gK):=by show _=_;rw[HQLL.out,if_neg hy]
   rw[decide_eq_true hz] at hx0;rw[decide_eq_false hy] at hx1;clear HQF HQLL hz hy;obtain⟨t0,t1,t2,t3,t4,t5,t6,t7,t8,t9⟩:=HD.out _ bbQ1.out;obtain⟨y0,y1,y2,y3,yf⟩:=bz4 kgQ1.out;go_upto_region 5 with (fail);clear y0 y1 y2 y3 yf t0 t1 t2 t3 t4 t5 t6 t7 t8 t9;obtain⟨w6,hWQ2,hkQ2,bsQ2,hoQ2,hlQ2⟩:=zds kgQ1 1 (I P.f);rw[hWQ2];have kgQ2:Hid (w6.heap[g]? = some (.cells #[I (ok-oi),I P.f,I gK,II a' Q.hs.length c'] 211 (0,0))):=by show _=_;simpa using hkQ2.out
   clear hkQ2;have bbQ2:=J (hlQ2.out W0 (by have:=bbQ1.out.size;omega) bbQ1.out);have krQ2:=J ((hoQ2.out _ O).trans krQ1.out);have ohQ2:=J (ohQ1.out.frame (fun x hx=>hoQ2.out x (fun e=>by subst e;have:=IN.out _ hx;omega)));clear hWQ2 hoQ2 hlQ2;obtain⟨t0,t1,t2,t3,t4,t5,t6,t7,t8,t9⟩:=HD.out _ bbQ2.out;go_wp2_with (go_at_call 207;with_reducible refine (CL.out _ bbQ2.out).mono ?_;rintro e w7 ⟨rfl,hb_⟩;(clear t0 t1 t2 t3 t4 t5 t6 t7 t8 t9);(have bbQ3:=btr bbQ2 hb_);(have bsQ3:=hb_.size);(have kgQ3:=bkH kgQ2 hb_);(have krQ3:=bkH krQ2 hb_);(have ohQ3:=J (ohQ2.out.below IN.out (by first|exact Nat.le_refl _|omega|(simp;done)|(simp<;>omega)) hb_));(clear hb_);(obtain⟨t0,t1,t2,t3,t4,t5,t6,t7,t8,t9⟩:=HD.out _ bbQ3.out);(have y0:=bkC (v:=I (ok-oi)) kgQ3.out 0 rfl);(have y1:=bkC (v:=I P.f) kgQ3.out 1 rfl);(have y2:=bkC (v:=I gK) kgQ3.out 2 rfl);(have y3:=bkC (v:=II a' Q.hs.length c') kgQ3.out 3 rfl);(have yf:=bkF kgQ3.out);(have q0:=bkC (v:=I 0) krQ3.out 0 rfl);(have q1:=bkC (v:=I 0) krQ3.out 1 rfl);(have q2:=bkC (v:=I 0) krQ3.out 2 rfl);(have q3:=bkC (v:=II none 0 0) krQ3.out 3 rfl);(have qf:=bkF krQ3.out));refine bodyPost_ret (v:=.agg #[I (ok-oi),I P.f,I gK,II a' Q.hs.length c']) (by simp[results,Tryz.results209,go_sem, *]) rfl ⟨a',c',by rw[HQD.out,FQ.out,LQ.out],(((((B0.out.trans (bbQ3.out.mono B0.out.size)).setCell (p:=⟨w.heap.size+1,0,none⟩) (by show w.heap.size≤w.heap.size+1;omega) (I (ok-oi))).setCell (p:=⟨w.heap.size+1,1,none⟩) (by show w.heap.size≤w.heap.size+1;omega) (I P.f)).setCell (p:=⟨w.heap.size+1,2,none⟩) (by show w.heap.size≤w.heap.size+1;omega) (I gK)).setCell (p:=⟨w.heap.size+1,3,none⟩) (by show w.heap.size≤w.heap.size+1;omega) (II a' Q.hs.length c')),?_⟩;have h_:=((((ohQ3.out.setFar (p:=⟨w.heap.size+1,0,none⟩) (fun e=>by have:=IN.out _ e;simp only at this;omega) (I (ok-oi))).setFar (p:=⟨w.heap.size+1,1,none⟩) (fun e=>by have:=IN.out _ e;simp only at this;omega) (I P.f)).setFar (p:=⟨w.heap.size+1,2,none⟩) (fun e=>by have:=IN.out _ e;simp only at this;omega) (I gK)).setFar (p:=⟨w.heap.size+1,3,none⟩) (fun e=>by have:=IN.out _ e;simp only at this;omega) (II a' Q.hs.length c')).rd (IN.out.mono (Nat.le_refl _) (show _≤w7.heap.size by omega));simp only[zac];exact h_
 case neg =>
  by_cases hy:k+1=P.hs.length
  case pos =>
   have FQ:Hid (Q.f=gI):=by show _=_;rw[HQF.out,if_neg hz]
   have LQ:Hid (Q.l=P.l):=by show _=_;rw[HQLL.out,if_pos hy]
   rw[decide_eq_false hz] at hx0;rw[decide_eq_true hy] at hx1;clear HQF HQLL hz hy;obtain⟨t0,t1,t2,t3,t4,t5,t6,t7,t8,t9⟩:=HD.out _ bbQ1.out;obtain⟨y0,y1,y2,y3,yf⟩:=bz4 kgQ1.out;go_upto_region 5 with (fail);clear y0 y1 y2 y3 yf t0 t1 t2 t3 t4 t5 t6 t7 t8 t9;obtain⟨t0,t1,t2,t3,t4,t5,t6,t7,t8,t9⟩:=HD.out _ bbQ1.out;go_wp2_with (go_at_call 207;with_reducible refine (CL.out _ bbQ1.out).mono ?_;rintro e w7 ⟨rfl,hb_⟩;(clear t0 t1 t2 t3 t4 t5 t6 t7 t8 t9);(have bbQ2:=btr bbQ1 hb_);(have bsQ2:=hb_.size);(have kgQ2:=bkH kgQ1 hb_);(have krQ2:=bkH krQ1 hb_);(have ohQ2:=J (ohQ1.out.below IN.out (by first|exact Nat.le_refl _|omega|(simp;done)|(simp<;>omega)) hb_));(clear hb_);(obtain⟨t0,t1,t2,t3,t4,t5,t6,t7,t8,t9⟩:=HD.out _ bbQ2.out);(have y0:=bkC (v:=I (ok-oi)) kgQ2.out 0 rfl);(have y1:=bkC (v:=I gI) kgQ2.out 1 rfl);(have y2:=bkC (v:=I gK) kgQ2.out 2 rfl);(have y3:=bkC (v:=II a' Q.hs.length c') kgQ2.out 3 rfl);(have yf:=bkF kgQ2.out);(have q0:=bkC (v:=I 0) krQ2.out 0 rfl);(have q1:=bkC (v:=I 0) krQ2.out 1 rfl);(have q2:=bkC (v:=I 0) krQ2.out 2 rfl);(have q3:=bkC (v:=II none 0 0) krQ2.out 3 rfl);(have qf:=bkF krQ2.out));refine bodyPost_ret (v:=.agg #[I (ok-oi),I gI,I P.l,II a' Q.hs.length c']) (by simp[results,Tryz.results209,go_sem, *]) rfl ⟨a',c',by rw[HQD.out,FQ.out,LQ.out],((((((B0.out.trans (bbQ2.out.mono B0.out.size)).setCell (p:=⟨g,2,none⟩) (by show w.heap.size≤g;omega) (I P.l)).setCell (p:=⟨w.heap.size+1,0,none⟩) (by show w.heap.size≤w.heap.size+1;omega) (I (ok-oi))).setCell (p:=⟨w.heap.size+1,1,none⟩) (by show w.heap.size≤w.heap.size+1;omega) (I gI)).setCell (p:=⟨w.heap.size+1,2,none⟩) (by show w.heap.size≤w.heap.size+1;omega) (I P.l)).setCell (p:=⟨w.heap.size+1,3,none⟩) (by show w.heap.size≤w.heap.size+1;omega) (II a' Q.hs.length c')),?_⟩;have h_:=(((((ohQ2.out.setFar (p:=⟨g,2,none⟩) (fun e=>by have:=IN.out _ e;simp only at this;omega) (I P.l)).setFar (p:=⟨w.heap.size+1,0,none⟩) (fun e=>by have:=IN.out _ e;simp only at this;omega) (I (ok-oi))).setFar (p:=⟨w.heap.size+1,1,none⟩) (fun e=>by have:=IN.out _ e;simp only at this;omega) (I gI)).setFar (p:=⟨w.heap.size+1,2,none⟩) (fun e=>by have:=IN.out _ e;simp only at this;omega) (I P.l)).setFar (p:=⟨w.heap.size+1,3,none⟩) (fun e=>by have:=IN.out _ e;simp only at this;omega) (II a' Q.hs.length c')).rd (IN.out.mono (Nat.le_refl _) (show _≤w7.heap.size by omega));simp only[zac];exact h_
  case neg =>
   have FQ:Hid (Q.f=gI):=by show _=_;rw[HQF.out,if_neg hz]
   have LQ:Hid (Q.l=gK):=by show _=_;rw[HQLL.out,if_neg hy]
   rw[decide_eq_false hz] at hx0;rw[decide_eq_false hy] at hx1;clear HQF HQLL hz hy;obtain⟨t0,t1,t2,t3,t4,t5,t6,t7,t8,t9⟩:=HD.out _ bbQ1.out;obtain⟨y0,y1,y2,y3,yf⟩:=bz4 kgQ1.out;go_upto_region 5 with (fail);clear y0 y1 y2 y3 yf t0 t1 t2 t3 t4 t5 t6 t7 t8 t9;obtain⟨t0,t1,t2,t3,t4,t5,t6,t7,t8,t9⟩:=HD.out _ bbQ1.out;go_wp2_with (go_at_call 207;with_reducible refine (CL.out _ bbQ1.out).mono ?_;rintro e w7 ⟨rfl,hb_⟩;(clear t0 t1 t2 t3 t4 t5 t6 t7 t8 t9);(have bbQ2:=btr bbQ1 hb_);(have bsQ2:=hb_.size);(have kgQ2:=bkH kgQ1 hb_);(have krQ2:=bkH krQ1 hb_);(have ohQ2:=J (ohQ1.out.below IN.out (by first|exact Nat.le_refl _|omega|(simp;done)|(simp<;>omega)) hb_));(clear hb_);(obtain⟨t0,t1,t2,t3,t4,t5,t6,t7,t8,t9⟩:=HD.out _ bbQ2.out);(have y0:=bkC (v:=I (ok-oi)) kgQ2.out 0 rfl);(have y1:=bkC (v:=I gI) kgQ2.out 1 rfl);(have y2:=bkC (v:=I gK) kgQ2.out 2 rfl);(have y3:=bkC (v:=II a' Q.hs.length c') kgQ2.out 3 rfl);(have yf:=bkF kgQ2.out);(have q0:=bkC (v:=I 0) krQ2.out 0 rfl);(have q1:=bkC (v:=I 0) krQ2.out 1 rfl);(have q2:=bkC (v:=I 0) krQ2.out 2 rfl);(have q3:=bkC (v:=II none 0 0) krQ2.out 3 rfl);(have qf:=bkF krQ2.out));refine bodyPost_ret (v:=.agg #[I (ok-oi),I gI,I gK,II a' Q.hs.length c']) (by simp[results,Tryz.results209,go_sem, *]) rfl ⟨a',c',by rw[HQD.out,FQ.out,LQ.out],(((((B0.out.trans (bbQ2.out.mono B0.out.size)).setCell (p:=⟨w.heap.size+1,0,none⟩) (by show w.heap.size≤w.heap.size+1;omega) (I (ok-oi))).setCell (p:=⟨w.heap.size+1,1,none⟩) (by show w.heap.size≤w.heap.size+1;omega) (I gI)).setCell (p:=⟨w.heap.size+1,2,none⟩) (by show w.heap.size≤w.heap.size+1;omega) (I gK)).setCell (p:=⟨w.heap.size+1,3,none⟩) (by show w.heap.size≤w.heap.size+1;omega) (II a' Q.hs.length c')),?_⟩;have h_:=((((ohQ2.out.setFar (p:=⟨w.heap.size+1,0,none⟩) (fun e=>by have:=IN.out _ e;simp only at this;omega) (I (ok-oi))).setFar (p:=⟨w.heap.size+1,1,none⟩) (fun e=>by have:=IN.out _ e;simp only at this;omega) (I gI)).setFar (p:=⟨w.heap.size+1,2,none⟩) (fun e=>by have:=IN.out _ e;simp only at this;omega) (I gK)).setFar (p:=⟨w.heap.size+1,3,none⟩) (fun e=>by have:=IN.out _ e;simp only at this;omega) (II a' Q.hs.length c')).rd (IN.out.mono (Nat.le_refl _) (show _≤w7.heap.size by omega));simp only[zac];exact h_
end Go.Proofs.YtgmapjgodibchaaGreatDoor
