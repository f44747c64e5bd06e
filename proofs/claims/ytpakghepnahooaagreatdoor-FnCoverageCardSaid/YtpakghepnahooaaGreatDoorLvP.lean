/- Contracts: worst places, clear profiles, parts of profiles, for the program. Conditions: valid profiles. -/
import Derived.Test.YtpakghepnahooaaGreatDoorLv7
import Derived.Test.YtpakghepnahooaaGreatDoorNet9
set_option linter.unusedVariables false
set_option linter.unusedSimpArgs false
namespace Go.Proofs.YtpakghepnahooaaGreatDoor
open Go.RowKit
theorem Q33 {p:Prop} (h:p:=by simp[results,Tryz.results188,go_sem, *]):p:=h
theorem Q3b {p:Prop} (h:p:=by show w.heap.size≤w.heap.size+1;omega):p:=h
theorem Q27 {p:Prop} (h:p:=by
 go_enter Tryz.func132,Tryz.ntmps132
 go_upto_region 1 with (fail)
 rw[HW0.out]
 obtain⟨t0,t1,t2,t3⟩:=HD.out _ HB.out
 go_wp2_with ((first|(go_at_call 182;with_reducible refine (CV.out _ HB.out).mono ?_)|(go_at_call 33;with_reducible refine (CF.out _ HB.out).mono ?_)|(go_at_call 183;with_reducible refine (CW.out _ HB.out).mono ?_));rintro e v1 ⟨rfl,hb_⟩;(try clear t0 t1 t2 t3);replace HB:=btr HB hb_;clear hb_;obtain⟨t0,t1,t2,t3⟩:=HD.out _ HB.out)
 exact Q09):p:=h
theorem rd_cut {B:Nat} {w:World} {l:List Int} {bh oh cv:Nat} (r:Rd B w (zam l) (IZ (some ⟨bh,oh,none⟩) l.length cv)) {i k:Nat} (hik:i<k) (hk:k<l.length) :
  Rd B w (zam ((l.drop i).take (k+1-i))) (IZ (some ⟨bh,oh+i,none⟩) (k+1-i) (cv-i)):=by
 obtain⟨a,c,e,h1,h2,h3⟩:=r.ints;injection e with ea _ ec;subst ec;obtain⟨b',o',e',hb,hat⟩:=h3 II;rw[e'] at ea;injection ea with ea;injection ea with e1 e2;subst e1 e2;have hl:((l.drop i).take (k+1-i)).length=k+1-i:=by rw[List.length_take,List.length_drop];omega
 refine⟨[bh],zb7.2 ⟨_,k+1-i,cv-i,rfl,by rw[List.length_map,hl,Nat.mul_one],II,II,Or.inr ⟨bh,oh+i,[],?_,rfl,rfl,?_⟩⟩,fun x hx=>by simp at hx;omega⟩
 ·intro e
  have:=congrArg List.length e;rw[List.length_map,hl] at this;simp at this;omega
 ·have e2:((l.drop i).take (k+1-i)).map intT=(((l.drop i).take (k+1-i)).map (Value.int .i64)).map .lit:=by rw[List.map_map];rfl
  rw[e2];refine Reps.lits _ _ _ (fun j hj=>?_);rw[List.length_map,hl] at hj;rw[Nat.add_assoc,hat (i+j) II];simp
def clrB (p:Pf) (f s:Int):Bool:=decide (p.hs.length=2) || decide (s≤shrP p f (wrsP p f))
theorem wrsP_bd {p:Pf} (f:Int) (h:3≤p.hs.length):1≤wrsP p f∧wrsP p f≤p.n-1:=by
 have:=zek (fun x=>-(shrP p f x)) 1 (p.hs.length-3);unfold wrsP Pf.n;omega
set_option maxHeartbeats 16000000
set_option maxRecDepth 100000
theorem iWorst2_any (P:Pf) (h:PfOk P) (vh:Value) (f:Int) (f0:1≤f) (f1:f≤100000000) (h2:P.hs.length=2) (w:World) (r:Rd w w (zam P.hs) vh) :
  Calls Tryz.prog 183 #[.agg #[J P.d,J P.f,J P.l,vh],J f] w fun e w'=>e=.returned (.tuple #[J 0,J 0,J 6])∧OI w w w':=by
 obtain⟨W0,hW0,b0_,z0,k0⟩:=zav w #[J P.d,J P.f,J P.l,vh] 149;have HW0:=IJ hW0;have B0:=IJ b0_;have HD:=IJ (fun (W:World) (hW:OI W0 W0 W)=>by4 k0 hW);have HB:Hid (OI W0 W0 W0):=Below.refl _ _;clear k0 hW0 b0_;have CV:Hid (∀ W:World,OI W0 W0 W→Calls Tryz.prog 182 #[.agg #[J P.d,J P.f,J P.l,vh]] W fun e w'=>e=.returned (.bool true)∧OI W W w'):=fun  W hW=>by
   have hh:=zes P h.w vh W (zdr r B0.out hW);rw[ok_pfB h] at hh;exact hh
 have CF:Hid (∀ W:World,OI W0 W0 W→Calls Tryz.prog 33 #[J f] W fun e w'=>e=.returned (.bool true)∧OI W W w'):=fun  W hW=>by
   have hh:=zcg f W;rw[zaq.2 ⟨f0,f1⟩] at hh;exact zbm hh
 have CL:Hid (∀ W:World,OI W0 W0 W→Calls Tryz.prog 186 #[.agg #[J P.d,J P.f,J P.l,vh]] W fun e w'=>e=.returned (J 1)∧OI W W w'):=fun  W hW=>by
   have hh:=zd8 P II vh W (zdr r B0.out hW);rw[show P.n=1 by unfold Pf.n;omega] at hh;exact hh
 clear h2 r h;go_enter Tryz.func183,Tryz.ntmps183;go_upto_region 1 with (fail);rw[HW0.out];obtain⟨t0,t1,t2,t3⟩:=HD.out _ HB.out;go_wp2_with ((first|(go_at_call 182;with_reducible refine (CV.out _ HB.out).mono ?_)|(go_at_call 33;with_reducible refine (CF.out _ HB.out).mono ?_)|(go_at_call 186;with_reducible refine (CL.out _ HB.out).mono ?_));rintro e v1 ⟨rfl,hb_⟩;(try clear t0 t1 t2 t3);replace HB:=btr HB hb_;clear hb_;obtain⟨t0,t1,t2,t3⟩:=HD.out _ HB.out)
 go_ret3
 exact Q1d
theorem iWorst3_any (P:Pf) (h:PfOk P) (vh:Value) (f:Int) (f0:1≤f) (f1:f≤100000000) (h3:3≤P.hs.length) (w:World) (r:Rd w w (zam P.hs) vh) :
  Calls Tryz.prog 183 #[.agg #[J P.d,J P.f,J P.l,vh],J f] w fun e w'=>e=.returned (.tuple #[J (wrsP P f),J (shrP P f (wrsP P f)),J 0])∧OI w w w':=by
 have HW:Hid (wrsP P f=zdo (fun x=>-(shrP P f x)) 1 (P.hs.length-3)):=rfl;have hwb:=wrsP_bd f h3;have hn:P.n=(P.hs.length:Int)-1:=rfl;have n1_:=h.n1;obtain⟨N,hN⟩:∃ N,P.hs.length=N+3:=⟨P.hs.length-3,II⟩
 have hN2:P.hs.length-3=N:=II
 have hni:P.n=(N:Int)+2:=II
 have hNb:(N:Int)≤62:=II
 rw[hN2] at HW;obtain⟨W0,hW0,b0_,z0,k0⟩:=zav w #[J P.d,J P.f,J P.l,vh] 149;have HW0:=IJ hW0;have B0:=IJ b0_;have HD:=IJ (fun (W:World) (hW:OI W0 W0 W)=>by4 k0 hW);have HB:Hid (OI W0 W0 W0):=Below.refl _ _;clear k0 hW0 b0_;have CV:Hid (∀ W:World,OI W0 W0 W→Calls Tryz.prog 182 #[.agg #[J P.d,J P.f,J P.l,vh]] W fun e w'=>e=.returned (.bool true)∧OI W W w'):=fun  W hW=>by
   have hh:=zes P h.w vh W (zdr r B0.out hW);rw[ok_pfB h] at hh;exact hh
 have CF:Hid (∀ W:World,OI W0 W0 W→Calls Tryz.prog 33 #[J f] W fun e w'=>e=.returned (.bool true)∧OI W W w'):=fun  W hW=>by
   have hh:=zcg f W;rw[zaq.2 ⟨f0,f1⟩] at hh;exact zbm hh
 have CL:Hid (∀ W:World,OI W0 W0 W→Calls Tryz.prog 186 #[.agg #[J P.d,J P.f,J P.l,vh]] W fun e w'=>e=.returned (J ((N:Int)+2))∧OI W W w'):=fun  W hW=>by rw[← hni];exact zd8 P II vh W (zdr r B0.out hW)
 have CP:Hid (∀ (x:Int) (hx:0≤x∧x<(N:Int)+3) (W:World),OI W0 W0 W→Calls Tryz.prog 215 #[.agg #[J P.d,J P.f,J P.l,vh],J f,J x] W fun e w'=>e=.returned (J (shrP P f x))∧OI W W w'):=fun x hx W hW=>by
   obtain⟨k,rfl⟩:=Int.eq_ofNat_of_zero_le hx.1;exact iShare_any P h vh f f0 f1 k II W (zdr r B0.out hW)
 clear r h;generalize wrsP P f=WV at *;have HG:Hid (∀ x,(fun x=>-(shrP P f x)) x = -(shrP P f x)):=fun x=>rfl
 generalize (fun x=>-(shrP P f x))=g at *;generalize shrP P f=v at *;have hN1:((N:Int)+2 == 1)=false:=by rw[beq_eq_false_iff_ne];omega
 go_enter Tryz.func183,Tryz.ntmps183;go_upto_region 1 with (fail);rw[HW0.out];obtain⟨t0,t1,t2,t3⟩:=HD.out _ HB.out;go_wp2_with ((first|(go_at_call 182;with_reducible refine (CV.out _ HB.out).mono ?_)|(go_at_call 33;with_reducible refine (CF.out _ HB.out).mono ?_)|(go_at_call 186;with_reducible refine (CL.out _ HB.out).mono ?_));rintro e v1 ⟨rfl,hb_⟩;(try clear t0 t1 t2 t3);replace HB:=btr HB hb_;clear hb_;obtain⟨t0,t1,t2,t3⟩:=HD.out _ HB.out);go_loopw [7,8] (fun bs ii wr=>∃ j:Nat,j≤N∧bs=J (zdo g 1 j)∧ii=J (2+(j:Int))∧OI W0 W0 wr) (fun bs ii wr=>(N+2-(intOf ii)).toNat)
 case atStart=>exact⟨0,Nat.zero_le _,rfl,by simp,HB.out⟩
 case round =>
  obtain⟨j,hj,rfl,rfl,hbw⟩:=hrel;clear t0 t1 t2 t3;replace HB:=IJ hbw;clear hbw;obtain⟨t0,t1,t2,t3⟩:=HD.out _ HB.out;obtain⟨bb0,bb1⟩:=zek g 1 j;have es:(1:Int)+((j+1:Nat):Int)=2+(j:Int):=II
  have hji:(j:Int)≤(N:Int):=II
  by_cases hlt:j<N
  ·have hjl:(j:Int)<(N:Int):=II
   have hp:=best_pos (g:=g) (s:=1) (k:=j);have hn2:=best_neg (g:=g) (s:=1) (k:=j);rw[es] at hp hn2;have HP:=IJ hp;have HN:=IJ hn2;clear hp hn2 es HW;generalize zdo g 1 j=ob at *;have hg1:=HG.out ob;have hg2:=HG.out (2+(j:Int));have HG1:=IJ hg1;have HG2:=IJ hg2;clear hg1 hg2;go_upto_region 11 with (go_at_call 186;with_reducible refine (CL.out _ HB.out).mono ?_;rintro e v9 ⟨rfl,hb_⟩;(try clear t0 t1 t2 t3);replace HB:=btr HB hb_;clear hb_;obtain⟨t0,t1,t2,t3⟩:=HD.out _ HB.out);have o0:=zai (w0:=v9) (show w.heap.size<v9.heap.size by have:=HB.out.size;omega);refine zab v9.heap.size v9 (Below.refl _ _) JI JI ?_
   repeat (go_big_quiet_step (first|(go_at_call 215;with_reducible exact zah (Nat.le_refl _) (CP.out _ ⟨II,II⟩ _ (HB.out.trans ((zaa _ _ _).mono HB.out.size))))))
   refine wpQuiet_nil ?_;rintro _ ⟨X,rfl⟩;replace HB:=btr HB (zaa v9.heap.size v9 X);clear o0
   (try clear t0 t1 t2 t3)
   generalize over v9.heap.size v9 X=u2 at *;obtain⟨t0,t1,t2,t3⟩:=HD.out _ HB.out
   by_cases hc:v (2+(j:Int))<v ob
   ·have HE2:=IJ (HP.out (by have a:=HG1.out;have b:=HG2.out;omega))
    go_wp2;exact Q0r
   ·have HE2:=IJ (HN.out (by have a:=HG1.out;have b:=HG2.out;omega))
    go_wp2;exact Q0r
  ·obtain rfl:j=N:=II
   rw[← HW.out] at bb0 bb1 ⊢;go_wp2_with (first|(go_at_call 186;with_reducible refine (CL.out _ HB.out).mono ?_;rintro e v9 ⟨rfl,hb_⟩;(try clear t0 t1 t2 t3);replace HB:=btr HB hb_;clear hb_;obtain⟨t0,t1,t2,t3⟩:=HD.out _ HB.out)|(go_at_call 215;with_reducible refine (CP.out _ ⟨II,II⟩ _ HB.out).mono ?_;rintro e v9 ⟨rfl,hb_⟩;(try clear t0 t1 t2 t3);replace HB:=btr HB hb_;clear hb_;obtain⟨t0,t1,t2,t3⟩:=HD.out _ HB.out))
   go_ret3
   exact Q1d
theorem iClear2_any (P:Pf) (h:PfOk P) (vh:Value) (f:Int) (f0:1≤f) (f1:f≤100000000) (s:Int) (w:World) (r:Rd w w (zam P.hs) vh) :
  Calls Tryz.prog 132 #[.agg #[J P.d,J P.f,J P.l,vh],J f,J s] w fun e w'=>e=.returned (.bool (clrB P f s))∧OI w w w':=by
 have HE0:Hid (clrB P f s=(decide (P.hs.length=2) || decide (s≤shrP P f (wrsP P f)))):=rfl;have n0_:=h.n0;obtain⟨W0,hW0,b0_,z0,k0⟩:=zav w #[J P.d,J P.f,J P.l,vh] 149;have HW0:=IJ hW0;have B0:=IJ b0_;have HD:=IJ (fun (W:World) (hW:OI W0 W0 W)=>by4 k0 hW);have HB:Hid (OI W0 W0 W0):=Below.refl _ _;clear k0 hW0 b0_;have CV:Hid (∀ W:World,OI W0 W0 W→Calls Tryz.prog 182 #[.agg #[J P.d,J P.f,J P.l,vh]] W fun e w'=>e=.returned (.bool true)∧OI W W w'):=fun  W hW=>by
   have hh:=zes P h.w vh W (zdr r B0.out hW);rw[ok_pfB h] at hh;exact hh
 have CF:Hid (∀ W:World,OI W0 W0 W→Calls Tryz.prog 33 #[J f] W fun e w'=>e=.returned (.bool true)∧OI W W w'):=fun  W hW=>by
   have hh:=zcg f W;rw[zaq.2 ⟨f0,f1⟩] at hh;exact zbm hh
 by_cases h2:P.hs.length=2
 case pos =>
  have CW:Hid (∀ W:World,OI W0 W0 W→Calls Tryz.prog 183 #[.agg #[J P.d,J P.f,J P.l,vh],J f] W fun e w'=>e=.returned (.tuple #[J 0,J 0,J 6])∧OI W W w'):=fun  W hW=>iWorst2_any P h vh f f0 f1 h2 W (zdr r B0.out hW)
  have HE:Hid (clrB P f s=true):=by show _=_;rw[HE0.out,decide_eq_true h2];rfl
  clear h2 r h HE0;generalize clrB P f s=SV at *;exact Q27
 have n3:3≤P.hs.length:=II
 have HE:Hid (clrB P f s=decide (s≤shrP P f (wrsP P f))):=by show _=_;rw[HE0.out,decide_eq_false h2];rfl
 have CW:Hid (∀ W:World,OI W0 W0 W→Calls Tryz.prog 183 #[.agg #[J P.d,J P.f,J P.l,vh],J f] W fun e w'=>e=.returned (.tuple #[J (wrsP P f),J (shrP P f (wrsP P f)),J 0])∧OI W W w'):=fun  W hW=>iWorst3_any P h vh f f0 f1 n3 W (zdr r B0.out hW)
 clear h2 r h HE0 n3 n0_;generalize clrB P f s=SV at *;generalize shrP P f (wrsP P f)=nn at *;generalize wrsP P f=ww at *;exact Q27
theorem iPart_any (P:Pf) (h:PfOk P) (vh:Value) (i k:Nat) (hik:i<k) (hk:k<P.hs.length) (w:World) (r:Rd w w (zam P.hs) vh) :
  Calls Tryz.prog 188 #[.agg #[J P.d,J P.f,J P.l,vh],J (i:Int),J (k:Int)] w fun e w'=>∃ (a':Option Addr) (c':Nat),e=.returned (.agg #[J (zc3 P i k).d,J (zc3 P i k).f,J (zc3 P i k).l,IZ a' (zc3 P i k).hs.length c'])∧OI w w w'∧Rd w'.heap.size w' (zam (zc3 P i k).hs) (IZ a' (zc3 P i k).hs.length c'):=by
 obtain⟨i0_,hi0,hz0,hz1,hz2⟩:=info_parts infoI;have n0_:=h.n0;have n1_:=h.n1;have hn:P.n=(P.hs.length:Int)-1:=rfl;have hql:=partP_len hik hk;have hq0:(zc3 P i k).hs=(P.hs.drop i).take (k+1-i):=by
  show (P.hs.drop (i:Int).toNat).take ((k:Int)+1-(i:Int)).toNat=_
  rw[Int.toNat_natCast,show ((k:Int)+1-(i:Int)).toNat=k+1-i by omega]
 have hqd:(zc3 P i k).d=offP P.d P.n k-offP P.d P.n i:=rfl;have hqf:(zc3 P i k).f=if (i:Int)=0 then P.f else gi P.hs i:=by
  show (if (i:Int)=0 then P.f else gi P.hs (i:Int).toNat)=_
  rw[Int.toNat_natCast]
 have hqll:(zc3 P i k).l=if (k:Int)=P.n then P.l else gi P.hs k:=by
  show (if (k:Int)=P.n then P.l else gi P.hs (k:Int).toNat)=_
  rw[Int.toNat_natCast]
 have hod:=offP_diff h (i:=(i:Int)) (k:=(k:Int)) II II II II;obtain⟨av,cv,ev,hcv,hcm,_⟩:=r.ints;subst ev;have CL0:Hid (∀ W:World,Rd W W (zam P.hs) (IZ av P.hs.length cv)→Calls Tryz.prog 186 #[.agg #[J P.d,J P.f,J P.l,IZ av P.hs.length cv]] W fun e w'=>e=.returned (J P.n)∧OI W W w'):=fun W hr=>zd8 P II _ W hr
 obtain⟨bh,oh,ea_,hbl,hat⟩:=r.intAt II;subst ea_;have ti:=hat i II;have tk:=hat k hk;have RC:=IJ (rd_cut r hik hk);have i0:(0:Int)≤(i:Int):=II
 have i1:(i:Int)<(P.hs.length:Int):=II
 have i2:(i:Int)≤(k:Int)+1:=II
 have i3:(0:Int)≤(k:Int):=II
 have i4:(k:Int)<(P.hs.length:Int):=II
 have i5:(k:Int)+1≤(cv:Int):=II
 have i6:(k:Int)≤64:=II
 have i7:¬ cv=i:=II
 have hw1:IntKind.i64.wrap ((k:Int)+1)=(k:Int)+1:=IntWalk.i64_in _ II;have hw2:IntKind.i64.wrap (offP P.d P.n k-offP P.d P.n i)=offP P.d P.n k-offP P.d P.n i:=IntWalk.i64_in _ II;have e0:((i:Int) == 0)=decide (i=0):=by rw[Bool.eq_iff_iff];simp
 have e1:((k:Int) == P.n)=decide (k+1=P.hs.length):=by rw[Bool.eq_iff_iff];simp<;>omega
 have e2:(if (i:Int)=0 then P.f else gi P.hs i)=if i=0 then P.f else gi P.hs i:=by by_cases hz:i=0<;>simp[hz]
 have e3:(if (k:Int)=P.n then P.l else gi P.hs k)=if k+1=P.hs.length then P.l else gi P.hs k:=by
  by_cases hz:k+1=P.hs.length
  ·rw[if_pos hz,if_pos II]
  ·rw[if_neg hz,if_neg II]
 rw[e2] at hqf;rw[e3] at hqll;have HQL:=IJ hql;have HQ0:=IJ hq0;have HQD:=IJ hqd;have HQF:=IJ hqf;have HQLL:=IJ hqll;have E0:=IJ e0;have E1:=IJ e1;have HODB:=IJ hod;have HRD:=IJ (Rd.reads1 (g:=Value.int .i64) (l:=(P.hs.drop i).take (k+1-i)) (by have h_:=RC.out;rw[zam] at h_;exact h_));have H1:=IJ (oneCell_ints ((P.hs.drop i).take (k+1-i)));clear hql hq0 hqd hqf hqll e0 e1 e2 e3 hn hat hod;obtain⟨W0,hW0,b0_,z0,k0,k1⟩:=zdv w #[J P.d,J P.f,J P.l,IZ (some ⟨bh,oh,none⟩) P.hs.length cv] 149 #[J 0,J 0,J 0,IZ none 0 0] 149;have HW0:=IJ hW0;have B0:=IJ b0_;have HD:=IJ (fun (W:World) (hW:OI W0 W0 W)=>bx4 k0 hW <| bx4 k1 hW <| aI ((bat hW bh _ II).trans ((bat b0_ bh _ II).trans ti)) <| ((bat hW bh _ II).trans ((bat b0_ bh _ II).trans tk)));have HB:Hid (OI W0 W0 W0):=Below.refl _ _;have K1:=IJ k1;clear k0 k1 hW0 b0_;have CK:Hid (∀ W:World,OI W0 W0 W→Calls Tryz.prog 218 #[.agg #[J P.d,J P.f,J P.l,IZ (some ⟨bh,oh,none⟩) P.hs.length cv],J (k:Int)] W fun e w'=>e=.returned (J (offP P.d P.n k))∧OI W W w'):=fun  W hW=>zff P h _ k II W (zdr r B0.out hW)
 have CI:Hid (∀ W:World,OI W0 W0 W→Calls Tryz.prog 218 #[.agg #[J P.d,J P.f,J P.l,IZ (some ⟨bh,oh,none⟩) P.hs.length cv],J (i:Int)] W fun e w'=>e=.returned (J (offP P.d P.n i))∧OI W W w'):=fun  W hW=>zff P h _ i II W (zdr r B0.out hW)
 have CL:Hid (∀ W:World,OI W0 W0 W→Calls Tryz.prog 186 #[.agg #[J P.d,J P.f,J P.l,IZ (some ⟨bh,oh,none⟩) P.hs.length cv]] W fun e w'=>e=.returned (J P.n)∧OI W W w'):=fun  W hW=>CL0.out W (zdr r B0.out hW)
 have HRB:Hid (∀ W:World,OI W0 W0 W→Reads W W0.heap.size 1 (some ⟨bh,oh+i,none⟩) (k+1-i) (((P.hs.drop i).take (k+1-i)).map (Value.int .i64))):=fun W hW=>by
  have h_:=HRD.out;exact ((h_.below B0.out).more B0.out.size).below hW
 clear ti tk r RC h CL0 HRD;generalize offP P.d P.n k=ok at *;generalize offP P.d P.n i=oi at *;generalize P.n=n at *;generalize zc3 P i k=Q at *;generalize gi P.hs i=gI at *;generalize gi P.hs k=gK at *;generalize (P.hs.drop i).take (k+1-i)=CUT at *;go_enter Tryz.func188,Tryz.ntmps188;go_upto_region 1 with (fail);rw[HW0.out];go_cut [7] (fun s7 wx=>∃ g:Nat,s7=.pointer (some ⟨g,0,none⟩)∧wx.heap[g]? = some (.cells #[J (ok-oi),J gI,J gK,IZ none 0 0] 149 (0,0))∧OI W0 W0 wx∧W0.heap.size≤g∧g<wx.heap.size)
 case first =>
  refine zas 20 (.read 0 (.read 1 (.read 3 (.read 4 (.read 7 (.read 8 (.read 9 (.read 10 (.read 11 (.read 12 (.read 13 (.read 14 (.read 15 (.read 16 (.two 2 18 (.two 5 18 (.read 6 (.read 17 (.one 18 (.one 19 .nil)))) (.one 5 (.read 6 (.read 17 (.one 19 .nil))))) (.one 2 (.one 5 (.read 6 (.read 17 (.one 19 .nil)))))))))))))))))))) (fun W=>OI W0 W0 W) JI JI (HB.out.drew) ?_;have YB:=IJ (HB.out.drew);have Yz:W0.heap.size≤W0.drew.heap.size:=Nat.le_refl _;generalize W0.drew=Y at *
  iterate 14
   refine zak (v:=?_) rfl (fun _ _ _ h=>h) ?_ ?_
   rotate_left
   ·(intro W hSW;(try dsimp only at hSW);obtain⟨t0,t1,t2,t3,t4,t5,t6,t7,t8,t9⟩:=HD.out W hSW;(go_simp<;>with_reducible rfl))
   (try simp only[Act.put,OO,OJ,OQ])
  refine zbv ?_ ?_;refine zae rfl (fun K hK=>?_);go_simp;refine (CK.out _ YB.out).mono ?_;rintro e Y1 ⟨rfl,hb1⟩;have YB1:=btr YB hb1;refine hK.out _ _ YB1.out ?_;clear hK K;have bs1:=hb1.size;clear hb1;refine zbv ?_ ?_;refine zae rfl (fun K hK=>?_);go_simp;refine (CI.out _ YB1.out).mono ?_;rintro e Y2 ⟨rfl,hb2⟩;have YB2:=btr YB1 hb2;refine hK.out _ _ YB2.out ?_;clear hK K;have bs2:=hb2.size;clear hb2
  iterate 2
   refine zak (v:=?_) rfl (fun _ _ _ h=>h) ?_ ?_
   rotate_left
   ·(intro W hSW;(try dsimp only at hSW);obtain⟨t0,t1,t2,t3,t4,t5,t6,t7,t8,t9⟩:=HD.out W hSW;(go_simp<;>with_reducible rfl))
   (try simp only[Act.put,OO,OJ,OQ])
  refine zaf ?_;refine zae rfl (fun K hK=>?_);go_simp;obtain⟨Y3,hW3,hb3,zl3,hk3⟩:=zav Y2 #[J 0,J 0,J 0,IZ none 0 0] 149;rw[hW3];have Yko3:=IJ hk3;have YB3:=btr YB2 hb3;refine hK.out _ _ YB3.out ?_;have bs3:=hb3.size;clear hK K hW3 hk3 hb3;refine zaf ?_;refine zae rfl (fun K hK=>?_);obtain⟨g0,g1,g2,g3,fz⟩:=bz4 Yko3.out;go_simp;obtain⟨Y4,hW4,Yko4,bs4,ho4,hl4⟩:=zea Yko3 [J (ok-oi),J gI,J gK,IZ none 0 0] rfl;simp only[zbq] at hW4;rw[hW4];have YB4:=IJ (hl4.out W0 (by have:=YB3.out.size;omega) YB3.out);refine hK.out _ _ YB4.out ?_;clear hK K fz hW4 ho4 hl4 g0 g1 g2 g3;refine zat ?_;simp only[List.drop_succ_cons,List.drop_zero];go_wp2_with fail;go_meet;exact⟨_,rfl,Yko4.out,YB4.out,II,II⟩;refine zae rfl (fun K hK=>?_);go_simp;obtain⟨Y5,hW5,hb5,zl5,hk5⟩:=zav Y1 #[J 0,J 0,J 0,IZ none 0 0] 149;rw[hW5];have Yko5:=IJ hk5;have YB5:=btr YB1 hb5;refine hK.out _ _ YB5.out ?_;have bs5:=hb5.size;clear hK K hW5 hk5 hb5;refine zaf ?_;refine zae rfl (fun K hK=>?_);go_simp;refine (CI.out _ YB5.out).mono ?_;rintro e Y6 ⟨rfl,hb6⟩;have YB6:=btr YB5 hb6;refine hK.out _ _ YB6.out ?_;clear hK K;have bs6:=hb6.size;have Yko6:=bkH Yko5 hb6;clear hb6
  iterate 2
   refine zak (v:=?_) rfl (fun _ _ _ h=>h) ?_ ?_
   rotate_left
   ·(intro W hSW;(try dsimp only at hSW);obtain⟨t0,t1,t2,t3,t4,t5,t6,t7,t8,t9⟩:=HD.out W hSW;(go_simp<;>with_reducible rfl))
   (try simp only[Act.put,OO,OJ,OQ])
  refine zaf ?_;refine zae rfl (fun K hK=>?_);obtain⟨g0,g1,g2,g3,fz⟩:=bz4 Yko6.out;go_simp;obtain⟨Y7,hW7,Yko7,bs7,ho7,hl7⟩:=zea Yko6 [J (ok-oi),J gI,J gK,IZ none 0 0] rfl;simp only[zbq] at hW7;rw[hW7];have YB7:=IJ (hl7.out W0 (by have:=YB6.out.size;omega) YB6.out);refine hK.out _ _ YB7.out ?_;clear hK K fz hW7 ho7 hl7 g0 g1 g2 g3;refine zat ?_;simp only[List.drop_succ_cons,List.drop_zero];go_wp2_with fail;go_meet;exact⟨_,rfl,Yko7.out,YB7.out,II,II⟩;refine zae rfl (fun K hK=>?_);go_simp;obtain⟨Y8,hW8,hb8,zl8,hk8⟩:=zav Y #[J 0,J 0,J 0,IZ none 0 0] 149;rw[hW8];have Yko8:=IJ hk8;have YB8:=btr YB hb8;refine hK.out _ _ YB8.out ?_;have bs8:=hb8.size;clear hK K hW8 hk8 hb8;refine zaf ?_;refine zae rfl (fun K hK=>?_);go_simp;refine (CK.out _ YB8.out).mono ?_;rintro e Y9 ⟨rfl,hb9⟩;have YB9:=btr YB8 hb9;refine hK.out _ _ YB9.out ?_;clear hK K;have bs9:=hb9.size;have Yko9:=bkH Yko8 hb9;clear hb9;refine zaf ?_;refine zae rfl (fun K hK=>?_);go_simp;refine (CI.out _ YB9.out).mono ?_;rintro e Y10 ⟨rfl,hb10⟩;have YB10:=btr YB9 hb10;refine hK.out _ _ YB10.out ?_;clear hK K;have bs10:=hb10.size;have Yko10:=bkH Yko9 hb10;clear hb10
  iterate 2
   refine zak (v:=?_) rfl (fun _ _ _ h=>h) ?_ ?_
   rotate_left
   ·(intro W hSW;(try dsimp only at hSW);obtain⟨t0,t1,t2,t3,t4,t5,t6,t7,t8,t9⟩:=HD.out W hSW;(go_simp<;>with_reducible rfl))
   (try simp only[Act.put,OO,OJ,OQ])
  refine zaf ?_;refine zae rfl (fun K hK=>?_);obtain⟨g0,g1,g2,g3,fz⟩:=bz4 Yko10.out;go_simp;obtain⟨Y11,hW11,Yko11,bs11,ho11,hl11⟩:=zea Yko10 [J (ok-oi),J gI,J gK,IZ none 0 0] rfl;simp only[zbq] at hW11;rw[hW11];have YB11:=IJ (hl11.out W0 (by have:=YB10.out.size;omega) YB10.out);refine hK.out _ _ YB11.out ?_;clear hK K fz hW11 ho11 hl11 g0 g1 g2 g3;refine zat ?_;simp only[List.drop_succ_cons,List.drop_zero];go_wp2_with fail;go_meet;exact⟨_,rfl,Yko11.out,YB11.out,II,II⟩
 obtain⟨g,rfl,kg_,hbW,hg1,hg2⟩:=hcut;generalize wc=w3 at *;have KG:=IJ kg_;replace HB:=IJ hbW;clear kg_ hbW hw2 CK CI
 have HD3:Hid (∀ W:World,OI w3 w3 W→((W,g,3,IZ none 0 0)∧(W,w.heap.size,3,IZ (some ⟨bh,oh,none⟩) P.hs.length cv))):=fun W hW=>⟨(bat hW g _ hg2).trans (bkC KG.out 3 rfl),by
  obtain⟨t0,t1,t2,t3,t4,t5,t6,t7,t8,t9⟩:=HD.out W (HB.out.trans (hW.mono HB.out.size))
  exact t3⟩
 have B3:Hid (OI w3 w3 w3):=Below.refl _ _;go_upto_region 2 with (fail);refine zas 10 (.read 0 (.read 1 (.read 2 (.read 3 (.read 4 (.read 5 (.read 6 (.read 7 (.one 8 (.read 9 .nil)))))))))) (fun W=>OI w3 w3 W) JI JI (B3.out.drew) ?_;have XB:=IJ (B3.out.drew);have Xz:w3.heap.size≤w3.drew.heap.size:=Nat.le_refl _;generalize w3.drew=X at *
 iterate 8
  refine zak (v:=?_) rfl (fun _ _ _ h=>h) ?_ ?_
  rotate_left
  ·(intro W hSW;(try dsimp only at hSW);obtain⟨y3,p3⟩:=HD3.out W hSW;(go_simp<;>with_reducible rfl))
  (try simp only[Act.put,OO,OJ,OQ])
 refine zaf ?_;refine zae rfl (fun K hK=>?_);refine zeg _ (.tmp 27) (.tmp 33) _ rfl X.heap.size 2 i0_ _ 1 8 Tryz.underlying24 hi0 hz0 hz1 hz2 rfl II (IZ none 0 0) 0 [] rfl ⟨rfl,Or.inl ⟨rfl,rfl⟩⟩ W0.heap.size (some ⟨bh,oh+i,none⟩) (k+1-i) (cv-i) (CUT.map (Value.int .i64)) rfl (HRB.out _ (HB.out.trans (XB.out.mono HB.out.size))) H1.out Q3u II (Nat.le_refl _) ?_;intro vq X1 hown1 hg1_ hat1;have hb1:OI X X X1:=(Below.refl _ _).grown hg1_ (Nat.le_refl _) (fun k hk=>by simp[Value.ownBlock] at hk);simp only[Nat.zero_add,List.nil_append] at hown1;rw[← HQ0.out,← HQL.out] at hown1;obtain⟨a',c',fp,rfl,ho_,hi_⟩:=(grow_ints hown1).toOwn (lo:=X.heap.size) II In.nil (Nat.le_refl _);have BS1:=btr XB hb1;have zq1:X.heap.size≤X1.heap.size:=hb1.size;have OW:=IJ ho_;have IN0:=IJ hi_;refine hK.out _ _ BS1.out ?_;clear hK K hown1 hg1_ hat1 ho_ hi_ hb1
 (try simp only[Act.put,OO,OJ,OQ])
 refine zak (v:=?_) rfl (fun _ _ _ h=>h) ?_ ?_
 rotate_left
 ·(intro W hSW;(try dsimp only at hSW);obtain⟨y3,p3⟩:=HD3.out W hSW;(go_simp<;>with_reducible rfl))
 (try simp only[Act.put,OO,OJ,OQ])
 refine zat ?_;simp only[List.drop_succ_cons,List.drop_zero];skip;have IN:Hid (In (w3.heap.size) X1.heap.size fp):=IN0.out.mono II II;have B4:=IJ (HB.out.trans (BS1.out.mono HB.out.size));have KG4:=IJ (bkB KG.out BS1.out hg2);have K14:=IJ (bkB K1.out B4.out II);have z4:w3.heap.size≤X1.heap.size:=II
 clear IN0 KG HD3 B3 BS1 HRB H1 HB K1;generalize X1=w4 at *;obtain⟨y0,y1,y2,y3,yf⟩:=bz4 KG4.out;have hsz4:w.heap.size+1<W0.heap.size:=II
 go_upto_region 3 with (fail);clear y0 y1 y2 y3 yf;obtain⟨w5,hWQ1,hkQ1,bsQ1,hoQ1,hlQ1⟩:=zfd KG4 3 (IZ a' Q.hs.length c');rw[hWQ1];have kgQ1:Hid (w5.heap[g]? = some (.cells #[J (ok-oi),J gI,J gK,IZ a' Q.hs.length c'] 149 (0,0))):=by show _=_;simpa using hkQ1.out
 clear hkQ1;have bbQ1:=IJ (hlQ1.out W0 (by have:=B4.out.size;omega) B4.out);have krQ1:=IJ ((hoQ1.out _ II).trans K14.out);have ohQ1:=IJ (OW.out.frame (fun x hx=>hoQ1.out x (fun e=>by subst e;have:=IN.out _ hx;omega)));clear hWQ1 hoQ1 hlQ1;have hx0:=E0.out;have hx1:=E1.out;clear E0 E1
 by_cases hz:i=0
 case pos =>
  by_cases hy:k+1=P.hs.length
  case pos =>
   have FQ:Hid (Q.f=P.f):=by show _=_;rw[HQF.out,if_pos hz]
   have LQ:Hid (Q.l=P.l):=by show _=_;rw[HQLL.out,if_pos hy]
   rw[decide_eq_true hz] at hx0;rw[decide_eq_true hy] at hx1;clear HQF HQLL hz hy;obtain⟨t0,t1,t2,t3,t4,t5,t6,t7,t8,t9⟩:=HD.out _ bbQ1.out;obtain⟨y0,y1,y2,y3,yf⟩:=bz4 kgQ1.out;go_upto_region 5 with (fail);clear y0 y1 y2 y3 yf t0 t1 t2 t3 t4 t5 t6 t7 t8 t9;obtain⟨w6,hWQ2,hkQ2,bsQ2,hoQ2,hlQ2⟩:=zfd kgQ1 1 (J P.f);rw[hWQ2];have kgQ2:Hid (w6.heap[g]? = some (.cells #[J (ok-oi),J P.f,J gK,IZ a' Q.hs.length c'] 149 (0,0))):=by show _=_;simpa using hkQ2.out
   clear hkQ2;have bbQ2:=IJ (hlQ2.out W0 (by have:=bbQ1.out.size;omega) bbQ1.out);have krQ2:=IJ ((hoQ2.out _ II).trans krQ1.out);have ohQ2:=IJ (ohQ1.out.frame (fun x hx=>hoQ2.out x (fun e=>by subst e;have:=IN.out _ hx;omega)));clear hWQ2 hoQ2 hlQ2;obtain⟨t0,t1,t2,t3,t4,t5,t6,t7,t8,t9⟩:=HD.out _ bbQ2.out;go_wp2_with (go_at_call 186;with_reducible refine (CL.out _ bbQ2.out).mono ?_;rintro e w7 ⟨rfl,hb_⟩;(clear t0 t1 t2 t3 t4 t5 t6 t7 t8 t9);(have bbQ3:=btr bbQ2 hb_);(have bsQ3:=hb_.size);(have kgQ3:=bkH kgQ2 hb_);(have krQ3:=bkH krQ2 hb_);(have ohQ3:=IJ (ohQ2.out.below IN.out Q2k hb_));(clear hb_);(obtain⟨t0,t1,t2,t3,t4,t5,t6,t7,t8,t9⟩:=HD.out _ bbQ3.out);(have y0:=bkC (v:=J (ok-oi)) kgQ3.out 0 rfl);(have y1:=bkC (v:=J P.f) kgQ3.out 1 rfl);(have y2:=bkC (v:=J gK) kgQ3.out 2 rfl);(have y3:=bkC (v:=IZ a' Q.hs.length c') kgQ3.out 3 rfl);(have yf:=bkF kgQ3.out);(have q0:=bkC (v:=J 0) krQ3.out 0 rfl);(have q1:=bkC (v:=J 0) krQ3.out 1 rfl);(have q2:=bkC (v:=J 0) krQ3.out 2 rfl);(have q3:=bkC (v:=IZ none 0 0) krQ3.out 3 rfl);(have qf:=bkF krQ3.out));refine bodyPost_ret (v:=.agg #[J (ok-oi),J P.f,J P.l,IZ a' Q.hs.length c']) Q33 rfl ⟨a',c',by rw[HQD.out,FQ.out,LQ.out],((((((B0.out.trans (bbQ3.out.mono B0.out.size)).setCell (p:=⟨g,2,none⟩) (by show w.heap.size≤g;omega) (J P.l)).setCell (p:=⟨w.heap.size+1,0,none⟩) Q3b (J (ok-oi))).setCell (p:=⟨w.heap.size+1,1,none⟩) Q3b (J P.f)).setCell (p:=⟨w.heap.size+1,2,none⟩) Q3b (J P.l)).setCell (p:=⟨w.heap.size+1,3,none⟩) Q3b (IZ a' Q.hs.length c')),?_⟩;have h_:=(((((ohQ3.out.setFar (p:=⟨g,2,none⟩) (fun e=>by have:=IN.out _ e;simp only at this;omega) (J P.l)).setFar (p:=⟨w.heap.size+1,0,none⟩) (fun e=>by have:=IN.out _ e;simp only at this;omega) (J (ok-oi))).setFar (p:=⟨w.heap.size+1,1,none⟩) (fun e=>by have:=IN.out _ e;simp only at this;omega) (J P.f)).setFar (p:=⟨w.heap.size+1,2,none⟩) (fun e=>by have:=IN.out _ e;simp only at this;omega) (J P.l)).setFar (p:=⟨w.heap.size+1,3,none⟩) (fun e=>by have:=IN.out _ e;simp only at this;omega) (IZ a' Q.hs.length c')).rd (IN.out.mono (Nat.le_refl _) (show _≤w7.heap.size by omega));simp only[zac];exact h_
  case neg =>
   have FQ:Hid (Q.f=P.f):=by show _=_;rw[HQF.out,if_pos hz]
   have LQ:Hid (Q.l=gK):=by show _=_;rw[HQLL.out,if_neg hy]
   rw[decide_eq_true hz] at hx0;rw[decide_eq_false hy] at hx1;clear HQF HQLL hz hy;obtain⟨t0,t1,t2,t3,t4,t5,t6,t7,t8,t9⟩:=HD.out _ bbQ1.out;obtain⟨y0,y1,y2,y3,yf⟩:=bz4 kgQ1.out;go_upto_region 5 with (fail);clear y0 y1 y2 y3 yf t0 t1 t2 t3 t4 t5 t6 t7 t8 t9;obtain⟨w6,hWQ2,hkQ2,bsQ2,hoQ2,hlQ2⟩:=zfd kgQ1 1 (J P.f);rw[hWQ2];have kgQ2:Hid (w6.heap[g]? = some (.cells #[J (ok-oi),J P.f,J gK,IZ a' Q.hs.length c'] 149 (0,0))):=by show _=_;simpa using hkQ2.out
   clear hkQ2;have bbQ2:=IJ (hlQ2.out W0 (by have:=bbQ1.out.size;omega) bbQ1.out);have krQ2:=IJ ((hoQ2.out _ II).trans krQ1.out);have ohQ2:=IJ (ohQ1.out.frame (fun x hx=>hoQ2.out x (fun e=>by subst e;have:=IN.out _ hx;omega)));clear hWQ2 hoQ2 hlQ2;obtain⟨t0,t1,t2,t3,t4,t5,t6,t7,t8,t9⟩:=HD.out _ bbQ2.out;go_wp2_with (go_at_call 186;with_reducible refine (CL.out _ bbQ2.out).mono ?_;rintro e w7 ⟨rfl,hb_⟩;(clear t0 t1 t2 t3 t4 t5 t6 t7 t8 t9);(have bbQ3:=btr bbQ2 hb_);(have bsQ3:=hb_.size);(have kgQ3:=bkH kgQ2 hb_);(have krQ3:=bkH krQ2 hb_);(have ohQ3:=IJ (ohQ2.out.below IN.out Q2k hb_));(clear hb_);(obtain⟨t0,t1,t2,t3,t4,t5,t6,t7,t8,t9⟩:=HD.out _ bbQ3.out);(have y0:=bkC (v:=J (ok-oi)) kgQ3.out 0 rfl);(have y1:=bkC (v:=J P.f) kgQ3.out 1 rfl);(have y2:=bkC (v:=J gK) kgQ3.out 2 rfl);(have y3:=bkC (v:=IZ a' Q.hs.length c') kgQ3.out 3 rfl);(have yf:=bkF kgQ3.out);(have q0:=bkC (v:=J 0) krQ3.out 0 rfl);(have q1:=bkC (v:=J 0) krQ3.out 1 rfl);(have q2:=bkC (v:=J 0) krQ3.out 2 rfl);(have q3:=bkC (v:=IZ none 0 0) krQ3.out 3 rfl);(have qf:=bkF krQ3.out));refine bodyPost_ret (v:=.agg #[J (ok-oi),J P.f,J gK,IZ a' Q.hs.length c']) Q33 rfl ⟨a',c',by rw[HQD.out,FQ.out,LQ.out],(((((B0.out.trans (bbQ3.out.mono B0.out.size)).setCell (p:=⟨w.heap.size+1,0,none⟩) Q3b (J (ok-oi))).setCell (p:=⟨w.heap.size+1,1,none⟩) Q3b (J P.f)).setCell (p:=⟨w.heap.size+1,2,none⟩) Q3b (J gK)).setCell (p:=⟨w.heap.size+1,3,none⟩) Q3b (IZ a' Q.hs.length c')),?_⟩;have h_:=((((ohQ3.out.setFar (p:=⟨w.heap.size+1,0,none⟩) (fun e=>by have:=IN.out _ e;simp only at this;omega) (J (ok-oi))).setFar (p:=⟨w.heap.size+1,1,none⟩) (fun e=>by have:=IN.out _ e;simp only at this;omega) (J P.f)).setFar (p:=⟨w.heap.size+1,2,none⟩) (fun e=>by have:=IN.out _ e;simp only at this;omega) (J gK)).setFar (p:=⟨w.heap.size+1,3,none⟩) (fun e=>by have:=IN.out _ e;simp only at this;omega) (IZ a' Q.hs.length c')).rd (IN.out.mono (Nat.le_refl _) (show _≤w7.heap.size by omega));simp only[zac];exact h_
 case neg =>
  by_cases hy:k+1=P.hs.length
  case pos =>
   have FQ:Hid (Q.f=gI):=by show _=_;rw[HQF.out,if_neg hz]
   have LQ:Hid (Q.l=P.l):=by show _=_;rw[HQLL.out,if_pos hy]
   rw[decide_eq_false hz] at hx0;rw[decide_eq_true hy] at hx1;clear HQF HQLL hz hy;obtain⟨t0,t1,t2,t3,t4,t5,t6,t7,t8,t9⟩:=HD.out _ bbQ1.out;obtain⟨y0,y1,y2,y3,yf⟩:=bz4 kgQ1.out;go_upto_region 5 with (fail);clear y0 y1 y2 y3 yf t0 t1 t2 t3 t4 t5 t6 t7 t8 t9;obtain⟨t0,t1,t2,t3,t4,t5,t6,t7,t8,t9⟩:=HD.out _ bbQ1.out;go_wp2_with (go_at_call 186;with_reducible refine (CL.out _ bbQ1.out).mono ?_;rintro e w7 ⟨rfl,hb_⟩;(clear t0 t1 t2 t3 t4 t5 t6 t7 t8 t9);(have bbQ2:=btr bbQ1 hb_);(have bsQ2:=hb_.size);(have kgQ2:=bkH kgQ1 hb_);(have krQ2:=bkH krQ1 hb_);(have ohQ2:=IJ (ohQ1.out.below IN.out Q2k hb_));(clear hb_);(obtain⟨t0,t1,t2,t3,t4,t5,t6,t7,t8,t9⟩:=HD.out _ bbQ2.out);(have y0:=bkC (v:=J (ok-oi)) kgQ2.out 0 rfl);(have y1:=bkC (v:=J gI) kgQ2.out 1 rfl);(have y2:=bkC (v:=J gK) kgQ2.out 2 rfl);(have y3:=bkC (v:=IZ a' Q.hs.length c') kgQ2.out 3 rfl);(have yf:=bkF kgQ2.out);(have q0:=bkC (v:=J 0) krQ2.out 0 rfl);(have q1:=bkC (v:=J 0) krQ2.out 1 rfl);(have q2:=bkC (v:=J 0) krQ2.out 2 rfl);(have q3:=bkC (v:=IZ none 0 0) krQ2.out 3 rfl);(have qf:=bkF krQ2.out));refine bodyPost_ret (v:=.agg #[J (ok-oi),J gI,J P.l,IZ a' Q.hs.length c']) Q33 rfl ⟨a',c',by rw[HQD.out,FQ.out,LQ.out],((((((B0.out.trans (bbQ2.out.mono B0.out.size)).setCell (p:=⟨g,2,none⟩) (by show w.heap.size≤g;omega) (J P.l)).setCell (p:=⟨w.heap.size+1,0,none⟩) Q3b (J (ok-oi))).setCell (p:=⟨w.heap.size+1,1,none⟩) Q3b (J gI)).setCell (p:=⟨w.heap.size+1,2,none⟩) Q3b (J P.l)).setCell (p:=⟨w.heap.size+1,3,none⟩) Q3b (IZ a' Q.hs.length c')),?_⟩;have h_:=(((((ohQ2.out.setFar (p:=⟨g,2,none⟩) (fun e=>by have:=IN.out _ e;simp only at this;omega) (J P.l)).setFar (p:=⟨w.heap.size+1,0,none⟩) (fun e=>by have:=IN.out _ e;simp only at this;omega) (J (ok-oi))).setFar (p:=⟨w.heap.size+1,1,none⟩) (fun e=>by have:=IN.out _ e;simp only at this;omega) (J gI)).setFar (p:=⟨w.heap.size+1,2,none⟩) (fun e=>by have:=IN.out _ e;simp only at this;omega) (J P.l)).setFar (p:=⟨w.heap.size+1,3,none⟩) (fun e=>by have:=IN.out _ e;simp only at this;omega) (IZ a' Q.hs.length c')).rd (IN.out.mono (Nat.le_refl _) (show _≤w7.heap.size by omega));simp only[zac];exact h_
  case neg =>
   have FQ:Hid (Q.f=gI):=by show _=_;rw[HQF.out,if_neg hz]
   have LQ:Hid (Q.l=gK):=by show _=_;rw[HQLL.out,if_neg hy]
   rw[decide_eq_false hz] at hx0;rw[decide_eq_false hy] at hx1;clear HQF HQLL hz hy;obtain⟨t0,t1,t2,t3,t4,t5,t6,t7,t8,t9⟩:=HD.out _ bbQ1.out;obtain⟨y0,y1,y2,y3,yf⟩:=bz4 kgQ1.out;go_upto_region 5 with (fail);clear y0 y1 y2 y3 yf t0 t1 t2 t3 t4 t5 t6 t7 t8 t9;obtain⟨t0,t1,t2,t3,t4,t5,t6,t7,t8,t9⟩:=HD.out _ bbQ1.out;go_wp2_with (go_at_call 186;with_reducible refine (CL.out _ bbQ1.out).mono ?_;rintro e w7 ⟨rfl,hb_⟩;(clear t0 t1 t2 t3 t4 t5 t6 t7 t8 t9);(have bbQ2:=btr bbQ1 hb_);(have bsQ2:=hb_.size);(have kgQ2:=bkH kgQ1 hb_);(have krQ2:=bkH krQ1 hb_);(have ohQ2:=IJ (ohQ1.out.below IN.out Q2k hb_));(clear hb_);(obtain⟨t0,t1,t2,t3,t4,t5,t6,t7,t8,t9⟩:=HD.out _ bbQ2.out);(have y0:=bkC (v:=J (ok-oi)) kgQ2.out 0 rfl);(have y1:=bkC (v:=J gI) kgQ2.out 1 rfl);(have y2:=bkC (v:=J gK) kgQ2.out 2 rfl);(have y3:=bkC (v:=IZ a' Q.hs.length c') kgQ2.out 3 rfl);(have yf:=bkF kgQ2.out);(have q0:=bkC (v:=J 0) krQ2.out 0 rfl);(have q1:=bkC (v:=J 0) krQ2.out 1 rfl);(have q2:=bkC (v:=J 0) krQ2.out 2 rfl);(have q3:=bkC (v:=IZ none 0 0) krQ2.out 3 rfl);(have qf:=bkF krQ2.out));refine bodyPost_ret (v:=.agg #[J (ok-oi),J gI,J gK,IZ a' Q.hs.length c']) Q33 rfl ⟨a',c',by rw[HQD.out,FQ.out,LQ.out],(((((B0.out.trans (bbQ2.out.mono B0.out.size)).setCell (p:=⟨w.heap.size+1,0,none⟩) Q3b (J (ok-oi))).setCell (p:=⟨w.heap.size+1,1,none⟩) Q3b (J gI)).setCell (p:=⟨w.heap.size+1,2,none⟩) Q3b (J gK)).setCell (p:=⟨w.heap.size+1,3,none⟩) Q3b (IZ a' Q.hs.length c')),?_⟩;have h_:=((((ohQ2.out.setFar (p:=⟨w.heap.size+1,0,none⟩) (fun e=>by have:=IN.out _ e;simp only at this;omega) (J (ok-oi))).setFar (p:=⟨w.heap.size+1,1,none⟩) (fun e=>by have:=IN.out _ e;simp only at this;omega) (J gI)).setFar (p:=⟨w.heap.size+1,2,none⟩) (fun e=>by have:=IN.out _ e;simp only at this;omega) (J gK)).setFar (p:=⟨w.heap.size+1,3,none⟩) (fun e=>by have:=IN.out _ e;simp only at this;omega) (IZ a' Q.hs.length c')).rd (IN.out.mono (Nat.le_refl _) (show _≤w7.heap.size by omega));simp only[zac];exact h_
end Go.Proofs.YtpakghepnahooaaGreatDoor
