/- Contracts: losses at the sides of a profile, losses over three edges, clear profiles, for the reference. Conditions: valid profiles. -/
import Derived.Test.YtdgmgchdjlfchaaGreatDoorLv8
namespace Go.Proofs.YtdgmgchdjlfchaaGreatDoor
set_option maxHeartbeats 8000000
set_option maxRecDepth 100000
open Go.RowKit
set_option linter.unusedVariables false
set_option linter.unusedSimpArgs false
theorem l10Side_any (P:Pf) (h:PfOk P) (vh:Value) (b off:Nat) (f:Int) (f0:1≤f) (f1:f≤100000000) (i k:Nat) (hik:i<k) (hk:k<P.hs.length) (w:World) (r:Rd w.heap.size w (intsT P.hs) vh) (c0:w.cell? ⟨b,off,none⟩=some (.int .i64 P.d)) (c1:w.cell? ⟨b,off+1,none⟩=some (.int .i64 P.f)) (c2:w.cell? ⟨b,off+2,none⟩=some (.int .i64 P.l)) (c3:w.cell? ⟨b,off+3,none⟩=some (vh)) :
  Calls Tryz.prog 182 #[.pointer (some ⟨b,off,none⟩),.int .i64 f,.int .i64 (i:Int),.int .i64 (k:Int)] w fun e w'=>e=.returned (.int .i64 (sidP P f i k))∧Below w.heap.size w w':=by
 have hbp:b<w.heap.size:=cell_lt c0
 have HE0:Hid (sidP P f i k=if pfB (partP P i k)=true then (if (partP P i k).hs.length=2 then 0 else sglP (partP P i k) f) else 0):=rfl
 have hw:=partP_w h hik hk
 have B0:Hid (Below w.heap.size w w):=Below.refl _ _
 have HD:Hid (∀ W:World,Below w.heap.size w W→(W.cell? ⟨b,off,none⟩=some (.int .i64 P.d)∧W.cell? ⟨b,off+1,none⟩=some (.int .i64 P.f)∧W.cell? ⟨b,off+2,none⟩=some (.int .i64 P.l)∧W.cell? ⟨b,off+3,none⟩=some (vh))):=fun W hW=>⟨(bat hW b _ (by omega)).trans c0,(bat hW b _ (by omega)).trans c1,(bat hW b _ (by omega)).trans c2,(bat hW b _ (by omega)).trans c3⟩
 have HB:Hid (Below w.heap.size w w):=Below.refl _ _
 have CP:Hid (∀ W:World,Below w.heap.size w W→Calls Tryz.prog 221 #[.pointer (some ⟨b,off,none⟩),.int .i64 (i:Int),.int .i64 (k:Int)] W fun e w'=>∃ (a':Option Addr) (c':Nat),e=.returned (.agg #[.int .i64 (partP P i k).d,.int .i64 (partP P i k).f,.int .i64 (partP P i k).l,.slice a' (partP P i k).hs.length c'])∧Below W.heap.size W w'∧Rd w'.heap.size w' (intsT (partP P i k).hs) (.slice a' (partP P i k).hs.length c')):=fun  W hW=>by
   obtain⟨t0,t1,t2,t3⟩:=HD.out W hW
   exact l10Part_any P h vh b off i k hik hk W (rd_at r B0.out hW) t0 t1 t2 t3
 clear c0 c1 c2 c3 r h
 generalize partP P i k=Q at *
 generalize sidP P f i k=SV at *
 go_enter Tryz.func182,Tryz.ntmps182
 go_upto_region 2 with (go_at_call 221;with_reducible refine (CP.out _ HB.out).mono ?_;rintro e v1 ⟨a',c',rfl,hb_,hr_⟩)
 have HR:=Lib.hid hr_
 have B1:=Lib.hid (HB.out.trans (hb_.mono HB.out.size))
 clear hb_ hr_ HB CP
 obtain⟨W2,hW2,b2_,z2,k2⟩:=boxes1 v1 #[.int .i64 Q.d,.int .i64 Q.f,.int .i64 Q.l,.slice a' Q.hs.length c'] 180
 rw[hW2]
 have K2:=Lib.hid k2
 have RQ:Hid (Rd W2.heap.size W2 (intsT Q.hs) (.slice a' Q.hs.length c')):=(HR.out.below b2_).mono b2_.size
 have B0':=Lib.hid (B1.out.trans (b2_.mono B1.out.size))
 have zg:v1.heap.size<W2.heap.size:=by omega
 clear hW2 b2_ k2 HR B1
 have HB:Hid (Below W2.heap.size W2 W2):=Below.refl _ _
 have HD2:Hid (∀ W:World,Below W2.heap.size W2 W→(W.cell? ⟨v1.heap.size,0,none⟩=some (.int .i64 Q.d)∧W.cell? ⟨v1.heap.size,0+1,none⟩=some (.int .i64 Q.f)∧W.cell? ⟨v1.heap.size,0+2,none⟩=some (.int .i64 Q.l)∧W.cell? ⟨v1.heap.size,0+3,none⟩=some (.slice a' Q.hs.length c'))):=fun W hW=>⟨(bat hW v1.heap.size _ zg).trans (bkC K2.out 0 rfl),(bat hW v1.heap.size _ zg).trans (bkC K2.out 1 rfl),(bat hW v1.heap.size _ zg).trans (bkC K2.out 2 rfl),(bat hW v1.heap.size _ zg).trans (bkC K2.out 3 rfl)⟩
 have HRQ:Hid (∀ W:World,Below W2.heap.size W2 W→Rd W.heap.size W (intsT Q.hs) (.slice a' Q.hs.length c')):=fun W hW=>(RQ.out.below hW).mono hW.size
 have CV:Hid (∀ W:World,Below W2.heap.size W2 W→Calls Tryz.prog 184 #[.pointer (some ⟨v1.heap.size,0,none⟩)] W fun e w'=>e=.returned (.bool (pfB Q))∧Below W.heap.size W w'):=fun  W hW=>by
   obtain⟨t0,t1,t2,t3⟩:=HD2.out W hW
   exact l05Ok_any Q hw _ v1.heap.size 0 W (HRQ.out W hW) t0 t1 t2 t3
 clear K2 RQ hw
 cases hB:pfB Q with
 | false =>
  rw[hB] at CV HE0
  have HE:Hid (SV=0):=by show _=_;rw[HE0.out];rfl
  go_wp2_with (first|(go_at_call 184;with_reducible refine (CV.out _ HB.out).mono ?_;rintro e v1 ⟨rfl,hb_⟩;replace HB:=btr HB hb_;clear hb_;skip))
  go_ret
  exact⟨by rw[HE.out];rfl,B0'.out.trans (HB.out.mono B0'.out.size)⟩
 | true =>
  have hok:=pfB_ok hB
  have n0_:=hok.n0
  have n1_:=hok.n1
  rw[hB,if_pos rfl] at HE0
  rw[hB] at CV
  by_cases h2:Q.hs.length=2
  case pos =>
   have CW:Hid (∀ W:World,Below W2.heap.size W2 W→Calls Tryz.prog 180 #[.pointer (some ⟨v1.heap.size,0,none⟩),.int .i64 f] W fun e w'=>e=.returned (.tuple #[.int .i64 (-1),.int .i64 0])∧Below W.heap.size W w'):=fun  W hW=>by
     obtain⟨t0,t1,t2,t3⟩:=HD2.out W hW
     have hh:=l10Worst_any Q hok _ v1.heap.size 0 f f0 f1 W (HRQ.out W hW) t0 t1 t2 t3
     rw[show Q.hs.length-2=0 by omega] at hh
     exact hh
   have HE:Hid (SV=0):=by show _=_;rw[HE0.out,if_pos h2]
   clear hB hok h2
   go_wp2_with ((first|(go_at_call 184;with_reducible refine (CV.out _ HB.out).mono ?_)|(go_at_call 180;with_reducible refine (CW.out _ HB.out).mono ?_));rintro e v1 ⟨rfl,hb_⟩;replace HB:=btr HB hb_;clear hb_;skip)
   go_ret
   exact⟨by rw[HE.out];rfl,B0'.out.trans (HB.out.mono B0'.out.size)⟩
  have n3:3≤Q.hs.length:=by omega
  have HE:Hid (SV=sglP Q f):=by show _=_;rw[HE0.out,if_neg h2]
  have nb:=nuP_bd Q f (wstP Q f)
  obtain⟨wb0,wb1⟩:=wstP_bd f n3
  have CW:Hid (∀ W:World,Below W2.heap.size W2 W→Calls Tryz.prog 180 #[.pointer (some ⟨v1.heap.size,0,none⟩),.int .i64 f] W fun e w'=>e=.returned (.tuple #[.int .i64 (wstP Q f),.int .i64 (nuP Q f (wstP Q f))])∧Below W.heap.size W w'):=fun  W hW=>by
    obtain⟨t0,t1,t2,t3⟩:=HD2.out W hW
    have hh:=l10Worst_any Q hok _ v1.heap.size 0 f f0 f1 W (HRQ.out W hW) t0 t1 t2 t3
    rw[← wst_bS f n3,← wst_mS f n3] at hh
    exact hh
  have CE:Hid (∀ W:World,Below W2.heap.size W2 W→Calls Tryz.prog 181 #[.int .i64 (nuP Q f (wstP Q f))] W fun e w'=>e=.returned (.int .i64 (sglP Q f))∧Below W.heap.size W w'):=fun  W hW=>l10Edge_any _ nb.1 nb.2 W
  clear hB hok h2
  generalize nuP Q f (wstP Q f)=nn at *
  generalize wstP Q f=ww at *
  generalize sglP Q f=sg at *
  go_wp2_with ((first|(go_at_call 184;with_reducible refine (CV.out _ HB.out).mono ?_)|(go_at_call 180;with_reducible refine (CW.out _ HB.out).mono ?_)|(go_at_call 181;with_reducible refine (CE.out _ HB.out).mono ?_));rintro e v1 ⟨rfl,hb_⟩;replace HB:=btr HB hb_;clear hb_;skip)
  go_ret
  exact⟨by rw[HE.out];rfl,B0'.out.trans (HB.out.mono B0'.out.size)⟩
theorem l10Dey_any (P:Pf) (h:PfOk P) (vh:Value) (b off:Nat) (f:Int) (f0:1≤f) (f1:f≤100000000)  (w:World) (r:Rd w.heap.size w (intsT P.hs) vh) (c0:w.cell? ⟨b,off,none⟩=some (.int .i64 P.d)) (c1:w.cell? ⟨b,off+1,none⟩=some (.int .i64 P.f)) (c2:w.cell? ⟨b,off+2,none⟩=some (.int .i64 P.l)) (c3:w.cell? ⟨b,off+3,none⟩=some (vh)) :
  Calls Tryz.prog 139 #[.pointer (some ⟨b,off,none⟩),.int .i64 f] w fun e w'=>e=.returned (.int .i64 (deyP P f))∧Below w.heap.size w w':=by
 have hbp:b<w.heap.size:=cell_lt c0
 have HE0:Hid (deyP P f=if P.hs.length=2 then 0 else if sglP P f=0 then 0 else sglP P f+sidP P f 0 (wstP P f)+sidP P f (wstP P f) P.n):=rfl
 have n0_:=h.n0
 have n1_:=h.n1
 have ni1:(P.hs.length:Int)≤65:=by omega
 have ni0:2≤(P.hs.length:Int):=by omega
 have hpn:P.n=(P.hs.length:Int)-1:=rfl
 obtain⟨av,cv,ev,_,_,_⟩:=r.ints
 subst ev
 have B0:Hid (Below w.heap.size w w):=Below.refl _ _
 have HD:Hid (∀ W:World,Below w.heap.size w W→(W.cell? ⟨b,off,none⟩=some (.int .i64 P.d)∧W.cell? ⟨b,off+1,none⟩=some (.int .i64 P.f)∧W.cell? ⟨b,off+2,none⟩=some (.int .i64 P.l)∧W.cell? ⟨b,off+3,none⟩=some (.slice av P.hs.length cv))):=fun W hW=>⟨(bat hW b _ (by omega)).trans c0,(bat hW b _ (by omega)).trans c1,(bat hW b _ (by omega)).trans c2,(bat hW b _ (by omega)).trans c3⟩
 have HB:Hid (Below w.heap.size w w):=Below.refl _ _
 by_cases h2:P.hs.length=2
 case pos =>
  have CW:Hid (∀ W:World,Below w.heap.size w W→Calls Tryz.prog 180 #[.pointer (some ⟨b,off,none⟩),.int .i64 f] W fun e w'=>e=.returned (.tuple #[.int .i64 (-1),.int .i64 0])∧Below W.heap.size W w'):=fun  W hW=>by
    obtain⟨t0,t1,t2,t3⟩:=HD.out W hW
    have hh:=l10Worst_any P h _ b off f f0 f1 W (rd_at r B0.out hW) t0 t1 t2 t3
    rw[show P.hs.length-2=0 by omega] at hh
    exact hh
  have HE:Hid (deyP P f=0):=by show _=_;rw[HE0.out,if_pos h2]
  clear h2 hpn c0 c1 c2 c3 r h HE0
  generalize deyP P f=SV at *
  go_enter Tryz.func139,Tryz.ntmps139
  obtain⟨t0,t1,t2,t3⟩:=HD.out _ HB.out
  go_wp2_with (first|(go_at_call 180;with_reducible refine (CW.out _ HB.out).mono ?_;rintro e v1 ⟨rfl,hb_⟩;(try clear t0 t1 t2 t3);replace HB:=btr HB hb_;clear hb_;obtain⟨t0,t1,t2,t3⟩:=HD.out _ HB.out))
  go_ret
  exact⟨by rw[HE.out];rfl,B0.out.trans (HB.out.mono B0.out.size)⟩
 have n3:3≤P.hs.length:=by omega
 have nb:=nuP_bd P f (wstP P f)
 have sb:=sglP_bd P f
 have s1:=sidP_bd P f 0 (wstP P f)
 have s2:=sidP_bd P f (wstP P f) P.n
 obtain⟨wb0,wb1⟩:=wstP_bd f n3
 obtain⟨m,hm⟩:=Int.eq_ofNat_of_zero_le (show 0≤wstP P f by omega)
 have CW:Hid (∀ W:World,Below w.heap.size w W→Calls Tryz.prog 180 #[.pointer (some ⟨b,off,none⟩),.int .i64 f] W fun e w'=>e=.returned (.tuple #[.int .i64 (wstP P f),.int .i64 (nuP P f (wstP P f))])∧Below W.heap.size W w'):=fun  W hW=>by
   obtain⟨t0,t1,t2,t3⟩:=HD.out W hW
   have hh:=l10Worst_any P h _ b off f f0 f1 W (rd_at r B0.out hW) t0 t1 t2 t3
   rw[← wst_bS f n3,← wst_mS f n3] at hh
   exact hh
 have CE:Hid (∀ W:World,Below w.heap.size w W→Calls Tryz.prog 181 #[.int .i64 (nuP P f (wstP P f))] W fun e w'=>e=.returned (.int .i64 (sglP P f))∧Below W.heap.size W w'):=fun  W hW=>l10Edge_any _ nb.1 nb.2 W
 have CA:Hid (∀ W:World,Below w.heap.size w W→Calls Tryz.prog 182 #[.pointer (some ⟨b,off,none⟩),.int .i64 f,.int .i64 0,.int .i64 (wstP P f)] W fun e w'=>e=.returned (.int .i64 (sidP P f 0 (wstP P f)))∧Below W.heap.size W w'):=fun  W hW=>by
   obtain⟨t0,t1,t2,t3⟩:=HD.out W hW
   rw[hm]
   exact l10Side_any P h _ b off f f0 f1 0 m (by omega) (by omega) W (rd_at r B0.out hW) t0 t1 t2 t3
 have CB:Hid (∀ W:World,Below w.heap.size w W→Calls Tryz.prog 182 #[.pointer (some ⟨b,off,none⟩),.int .i64 f,.int .i64 (wstP P f),.int .i64 ((P.hs.length:Int)-1)] W fun e w'=>e=.returned (.int .i64 (sidP P f (wstP P f) P.n))∧Below W.heap.size W w'):=fun  W hW=>by
   obtain⟨t0,t1,t2,t3⟩:=HD.out W hW
   rw[hm,hpn,show (P.hs.length:Int)-1=((P.hs.length-1:Nat):Int) by omega]
   exact l10Side_any P h _ b off f f0 f1 m (P.hs.length-1) (by omega) (by omega) W (rd_at r B0.out hW) t0 t1 t2 t3
 have HE1:Hid (deyP P f=if sglP P f=0 then 0 else sglP P f+sidP P f 0 (wstP P f)+sidP P f (wstP P f) P.n):=by show _=_;rw[HE0.out,if_neg h2]
 clear h2 hpn c0 c1 c2 c3 r h HE0 hm
 generalize deyP P f=SV at *
 generalize sidP P f 0 (wstP P f)=SA at *
 generalize sidP P f (wstP P f) P.n=SB at *
 generalize nuP P f (wstP P f)=nn at *
 generalize wstP P f=ww at *
 generalize sglP P f=sg at *
 obtain⟨sb0,sb1⟩:=sb
 obtain⟨s10,s11⟩:=s1
 obtain⟨s20,s21⟩:=s2
 by_cases hs:sg=0
 case pos =>
  have HE:Hid (SV=0):=by show _=_;rw[HE1.out,if_pos hs]
  subst hs
  go_enter Tryz.func139,Tryz.ntmps139
  obtain⟨t0,t1,t2,t3⟩:=HD.out _ HB.out
  go_wp2_with ((first|(go_at_call 180;with_reducible refine (CW.out _ HB.out).mono ?_)|(go_at_call 181;with_reducible refine (CE.out _ HB.out).mono ?_));rintro e v1 ⟨rfl,hb_⟩;(try clear t0 t1 t2 t3);replace HB:=btr HB hb_;clear hb_;obtain⟨t0,t1,t2,t3⟩:=HD.out _ HB.out)
  go_ret
  exact⟨by rw[HE.out];rfl,B0.out.trans (HB.out.mono B0.out.size)⟩
 have HE:Hid (SV=sg+SA+SB):=by show _=_;rw[HE1.out,if_neg hs]
 have hsb:(sg == 0)=false:=by simp[hs]
 go_enter Tryz.func139,Tryz.ntmps139
 obtain⟨t0,t1,t2,t3⟩:=HD.out _ HB.out
 go_upto_region 4 with ((first|(go_at_call 180;with_reducible refine (CW.out _ HB.out).mono ?_)|(go_at_call 181;with_reducible refine (CE.out _ HB.out).mono ?_));rintro e v1 ⟨rfl,hb_⟩;(try clear t0 t1 t2 t3);replace HB:=btr HB hb_;clear hb_;obtain⟨t0,t1,t2,t3⟩:=HD.out _ HB.out)
 have o0:=overC (w0:=v1) (show b<v1.heap.size by have:=HB.out.size;omega)
 refine wp_region_over v1.heap.size v1 (Below.refl _ _) (by kernel_rfl) (by kernel_rfl) ?_
 repeat (go_big_quiet_step (first|(go_at_call 181;with_reducible exact over_left (Nat.le_refl _) (CE.out _ (HB.out.trans ((over_below _ _ _).mono HB.out.size))))|(go_at_call 182;with_reducible exact over_left (Nat.le_refl _) (CA.out _ (HB.out.trans ((over_below _ _ _).mono HB.out.size))))|(go_at_call 182;with_reducible exact over_left (Nat.le_refl _) (CB.out _ (HB.out.trans ((over_below _ _ _).mono HB.out.size))))))
 refine wpQuiet_nil ?_
 rintro _ ⟨X,rfl⟩
 replace HB:=btr HB (over_below v1.heap.size v1 X)
 clear o0
 (try clear t0 t1 t2 t3)
 generalize over v1.heap.size v1 X=u2 at *
 obtain⟨t0,t1,t2,t3⟩:=HD.out _ HB.out
 go_wp2
 go_ret
 exact⟨by rw[HE.out];rfl,B0.out.trans (HB.out.mono B0.out.size)⟩
theorem l05Freq_any (n:Int) (w:World):Calls Tryz.prog 42 #[.int .i64 n] w fun e w'=>e=.returned (.bool (inB n 1 100000000))∧w=w':=by
 go_enter Tryz.func42,Tryz.ntmps42
 go_wp2_with (go_at_call 77;refine (l00In_any _ _ _ _).mono ?_;rintro e w1 ⟨rfl,rfl⟩)
 go_ret
 exact⟨rfl,rfl⟩
def clrB (p:Pf) (f s:Int):Bool:=decide (p.hs.length=2) || decide (s≤shrP p f (wrsP p f))
theorem wrs_bS {p:Pf} (f:Int) (h:3≤p.hs.length):wrsP p f=bS (fun x=>-(shrP p f x)) (p.hs.length-2):=by
 obtain⟨k,hk⟩:∃ k,p.hs.length=k+3:=⟨p.hs.length-3,by omega⟩
 unfold wrsP
 rw[hk];rfl
theorem wrs_mS {p:Pf} (f:Int) (h:3≤p.hs.length):shrP p f (wrsP p f)=mS (fun x=>-(shrP p f x)) (shrP p f) (p.hs.length-2):=by
 obtain⟨k,hk⟩:∃ k,p.hs.length=k+3:=⟨p.hs.length-3,by omega⟩
 unfold wrsP
 rw[hk];rfl
theorem wrsP_bd {p:Pf} (f:Int) (h:3≤p.hs.length):1≤wrsP p f∧wrsP p f≤p.n-1:=by
 have:=bestF_bd (fun x=>-(shrP p f x)) 1 (p.hs.length-3)
 unfold wrsP Pf.n;omega
theorem sClear_any (P:Pf) (h:PfOk P) (vh:Value) (f:Int) (f0:1≤f) (f1:f≤100000000) (s:Int) (w:World) (r:Rd w.heap.size w (intsT P.hs) vh) :
  Calls Tryz.prog 142 #[.agg #[.int .i64 P.d,.int .i64 P.f,.int .i64 P.l,vh],.int .i64 f,.int .i64 s] w fun e w'=>e=.returned (.bool (clrB P f s))∧Below w.heap.size w w':=by
 have HE0:Hid (clrB P f s=(decide (P.hs.length=2) || decide (s≤shrP P f (wrsP P f)))):=rfl
 have n0_:=h.n0
 have n1_:=h.n1
 obtain⟨W0,hW0,b0_,z0,k0⟩:=boxes1 w #[.int .i64 P.d,.int .i64 P.f,.int .i64 P.l,vh] 180
 have e0_0:=bkC (v:=.int .i64 P.d) k0 0 rfl
 have e0_1:=bkC (v:=.int .i64 P.f) k0 1 rfl
 have e0_2:=bkC (v:=.int .i64 P.l) k0 2 rfl
 have e0_3:=bkC (v:=vh) k0 3 rfl
 have HW0:=Lib.hid hW0
 have B0:=Lib.hid b0_
 have HD:Hid (∀ W:World,Below W0.heap.size W0 W→(W.cell? ⟨w.heap.size,0,none⟩=some (.int .i64 P.d)∧W.cell? ⟨w.heap.size,1,none⟩=some (.int .i64 P.f)∧W.cell? ⟨w.heap.size,2,none⟩=some (.int .i64 P.l)∧W.cell? ⟨w.heap.size,3,none⟩=some (vh))):=fun W hW=>⟨(bat hW w.heap.size _ (by omega)).trans e0_0,(bat hW w.heap.size _ (by omega)).trans e0_1,(bat hW w.heap.size _ (by omega)).trans e0_2,(bat hW w.heap.size _ (by omega)).trans e0_3⟩
 have HB:Hid (Below W0.heap.size W0 W0):=Below.refl _ _
 clear k0 e0_0 e0_1 e0_2 e0_3 hW0 b0_
 have CV:Hid (∀ W:World,Below W0.heap.size W0 W→Calls Tryz.prog 184 #[.pointer (some ⟨w.heap.size,0,none⟩)] W fun e w'=>e=.returned (.bool true)∧Below W.heap.size W w'):=fun  W hW=>by
   obtain⟨t0,t1,t2,t3⟩:=HD.out W hW
   have hh:=l05Ok_any P h.w _ w.heap.size 0 W (rd_at r B0.out hW) t0 t1 t2 t3
   rw[ok_pfB h] at hh
   exact hh
 have CF:Hid (∀ W:World,Below W0.heap.size W0 W→Calls Tryz.prog 42 #[.int .i64 f] W fun e w'=>e=.returned (.bool true)∧Below W.heap.size W w'):=fun  W hW=>by
   have hh:=l05Freq_any f W
   rw[inB_true.2 ⟨f0,f1⟩] at hh
   exact same_below hh
 by_cases h2:P.hs.length=2
 case pos =>
  have CW:Hid (∀ W:World,Below W0.heap.size W0 W→Calls Tryz.prog 185 #[.pointer (some ⟨w.heap.size,0,none⟩),.int .i64 f] W fun e w'=>e=.returned (.tuple #[.int .i64 (-1),.int .i64 0])∧Below W.heap.size W w'):=fun  W hW=>by
    obtain⟨t0,t1,t2,t3⟩:=HD.out W hW
    have hh:=l05Worst_any P h _ w.heap.size 0 f f0 f1 W (rd_at r B0.out hW) t0 t1 t2 t3
    rw[show P.hs.length-2=0 by omega] at hh
    exact hh
  have HE:Hid (clrB P f s=true):=by show _=_;rw[HE0.out,decide_eq_true h2];rfl
  clear h2 r h HE0
  generalize clrB P f s=SV at *
  go_enter Tryz.func142,Tryz.ntmps142
  go_upto_region 1 with (fail)
  rw[HW0.out]
  obtain⟨t0,t1,t2,t3⟩:=HD.out _ HB.out
  go_wp2_with ((first|(go_at_call 184;with_reducible refine (CV.out _ HB.out).mono ?_)|(go_at_call 42;with_reducible refine (CF.out _ HB.out).mono ?_)|(go_at_call 185;with_reducible refine (CW.out _ HB.out).mono ?_));rintro e v1 ⟨rfl,hb_⟩;(try clear t0 t1 t2 t3);replace HB:=btr HB hb_;clear hb_;obtain⟨t0,t1,t2,t3⟩:=HD.out _ HB.out)
  go_ret
  exact⟨by rw[HE.out];rfl,B0.out.trans (HB.out.mono B0.out.size)⟩
 have n3:3≤P.hs.length:=by omega
 have HE:Hid (clrB P f s=decide (s≤shrP P f (wrsP P f))):=by show _=_;rw[HE0.out,decide_eq_false h2];rfl
 obtain⟨wb0,wb1⟩:=wrsP_bd f n3
 have CW:Hid (∀ W:World,Below W0.heap.size W0 W→Calls Tryz.prog 185 #[.pointer (some ⟨w.heap.size,0,none⟩),.int .i64 f] W fun e w'=>e=.returned (.tuple #[.int .i64 (wrsP P f),.int .i64 (shrP P f (wrsP P f))])∧Below W.heap.size W w'):=fun  W hW=>by
   obtain⟨t0,t1,t2,t3⟩:=HD.out W hW
   have hh:=l05Worst_any P h _ w.heap.size 0 f f0 f1 W (rd_at r B0.out hW) t0 t1 t2 t3
   rw[← wrs_bS f n3,← wrs_mS f n3] at hh
   exact hh
 clear h2 r h HE0
 generalize clrB P f s=SV at *
 generalize shrP P f (wrsP P f)=nn at *
 generalize wrsP P f=ww at *
 have hww:decide (ww<0)=false:=decide_eq_false (by omega)
 go_enter Tryz.func142,Tryz.ntmps142
 go_upto_region 1 with (fail)
 rw[HW0.out]
 obtain⟨t0,t1,t2,t3⟩:=HD.out _ HB.out
 go_wp2_with ((first|(go_at_call 184;with_reducible refine (CV.out _ HB.out).mono ?_)|(go_at_call 42;with_reducible refine (CF.out _ HB.out).mono ?_)|(go_at_call 185;with_reducible refine (CW.out _ HB.out).mono ?_));rintro e v1 ⟨rfl,hb_⟩;(try clear t0 t1 t2 t3);replace HB:=btr HB hb_;clear hb_;obtain⟨t0,t1,t2,t3⟩:=HD.out _ HB.out)
 go_ret
 exact⟨by rw[HE.out];rfl,B0.out.trans (HB.out.mono B0.out.size)⟩
end Go.Proofs.YtdgmgchdjlfchaaGreatDoor
