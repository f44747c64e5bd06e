/- Contracts: a profile turned round, losses over three edges, for the program. Conditions: valid profiles. -/
import Derived.Test.YtgmapjgodibchaaGreatDoorLvP
set_option linter.unusedVariables false
set_option linter.unusedSimpArgs false
namespace Go.Proofs.YtgmapjgodibchaaGreatDoor
open Go.RowKit
set_option maxHeartbeats 16000000
set_option maxRecDepth 100000
theorem iTurned_any (P:Pf) (h:PfOk P) (vh:Value) (w:World) (r:Rd w w (zai P.hs) vh) :
  Calls Tryz.prog 162 #[.agg #[I P.d,I P.f,I P.l,vh]] w fun e w'=>∃ (a':Option Addr) (c':Nat),e=.returned (.agg #[I P.d,I P.l,I P.f,II a' P.hs.length c'])∧IJ w w w'∧Rd w'.heap.size w' (zai P.hs.reverse) (II a' P.hs.length c'):=by
 have n0_:=h.n0;have n1_:=h.n1;obtain⟨W0,hW0,b0_,z0,k0,k1⟩:=zeb w #[I P.d,I P.f,I P.l,vh] 211 #[I 0,I 0,I 0,II none 0 0] 211;have HW0:=J hW0;have B0:=J b0_;have HD:=J (fun (W:World) (hW:IJ W0 W0 W)=>bx4 k0 hW <| by4 k1 hW);have HB:Hid (IJ W0 W0 W0):=Below.refl _ _;have K0:=J k0;have K1:=J k1;clear k0 k1 hW0 b0_;have CC:Hid (∀ W:World,IJ w w W→Calls Tryz.prog 205 #[vh] W fun e w'=>∃ a' c' fp,e=.returned (II a' P.hs.length c')∧IJ W W w'∧Own w' (zai P.hs) (II a' P.hs.length c') fp∧In W w'.heap.size fp):=fun W hW=>cloneI_any P.hs vh W ((r.below hW).mono hW.size) O
 have hz2:w.heap.size+2≤W0.heap.size:=O
 obtain⟨av,cv,ev,_,_,_⟩:=r.ints;subst ev;clear r h;go_enter Tryz.func162,Tryz.ntmps162;go_upto_region 1 with (fail);rw[HW0.out];refine zcj 13 8 (.pure 0 (.read 1 (.pure 2 (.read 3 (.pure 4 (.read 5 (.pure 7 (.one 6 (.one 8 (.pure 9 (.one 10 (.pure 11 (.one 12 .nil))))))))))))) (fun W=>IJ W0 W0 W) (fun W=>IJ w w W) OJ OJ (zci W0) (B0.out.drew) ?_;have YC:=J (zci W0);have YB:=J (B0.out.drew);have Yz:W0.heap.size≤W0.drew.heap.size:=Nat.le_refl _;have Ykp:Hid (W0.drew.heap[w.heap.size]? = some (.cells #[I P.d,I P.f,I P.l,II av P.hs.length cv] 211 (0,0))):=K0.out;have Ykr:Hid (W0.drew.heap[w.heap.size+1]? = some (.cells #[I 0,I 0,I 0,II none 0 0] 211 (0,0))):=K1.out;generalize W0.drew=Y at *;refine za8 (v:=?_) rfl (fun _ _ _ h=>h) ?_ ?_
 rotate_left
 ·(intro W hSW2;(go_simp<;>with_reducible rfl))
 (try simp only[Act.put,IQ,IZ,OI])
 refine zb7 (v:=?_) rfl (fun _ _ _ h=>h) ?_ ?_
 rotate_left
 ·(intro W hSW2 hSW;(try dsimp only at hSW);obtain⟨t0,t1,t2,t3,t4,t5,t6,t7⟩:=HD.out W hSW;(go_simp<;>with_reducible rfl))
 (try simp only[Act.put,IQ,IZ,OI])
 refine za8 (v:=?_) rfl (fun _ _ _ h=>h) ?_ ?_
 rotate_left
 ·(intro W hSW2;(go_simp<;>with_reducible rfl))
 (try simp only[Act.put,IQ,IZ,OI])
 refine zb7 (v:=?_) rfl (fun _ _ _ h=>h) ?_ ?_
 rotate_left
 ·(intro W hSW2 hSW;(try dsimp only at hSW);obtain⟨t0,t1,t2,t3,t4,t5,t6,t7⟩:=HD.out W hSW;(go_simp<;>with_reducible rfl))
 (try simp only[Act.put,IQ,IZ,OI])
 refine za8 (v:=?_) rfl (fun _ _ _ h=>h) ?_ ?_
 rotate_left
 ·(intro W hSW2;(go_simp<;>with_reducible rfl))
 (try simp only[Act.put,IQ,IZ,OI])
 refine zb7 (v:=?_) rfl (fun _ _ _ h=>h) ?_ ?_
 rotate_left
 ·(intro W hSW2 hSW;(try dsimp only at hSW);obtain⟨t0,t1,t2,t3,t4,t5,t6,t7⟩:=HD.out W hSW;(go_simp<;>with_reducible rfl))
 (try simp only[Act.put,IQ,IZ,OI])
 refine za8 (v:=?_) rfl (fun _ _ _ h=>h) ?_ ?_
 rotate_left
 ·(intro W hSW2;(go_simp<;>with_reducible rfl))
 (try simp only[Act.put,IQ,IZ,OI])
 refine zbl false rfl ?_;refine za9 rfl (fun K hK=>?_);go_simp;refine (CC.out _ YB.out).mono ?_;rintro e Y1 ⟨a_,c_,p_,rfl,hb1,ho1,hi1⟩;have YB1:=btr YB hb1;have YC1:=btr YC hb1;refine hK.out _ _ ⟨YB1.out,fun _=>YC1.out⟩ ?_;clear hK K;have bs1:=hb1.size;have Yoq1:=J ho1;have Yiq1:=J hi1;clear ho1 hi1;have Ykp1:=bkH Ykp hb1;have Ykr1:=bkH Ykr hb1;clear hb1;refine zbl true rfl ?_;refine za9 rfl (fun K hK=>?_);have g0:=bkC (v:=I P.f) Ykp1.out 1 rfl;have fz:=bkF Ykp1.out;go_simp;obtain⟨Y2,hW2,hk2,bs2,ho2,hl2⟩:=zds Ykp1 1 (I P.l);rw[hW2];have Ykp2:Hid (Y2.heap[w.heap.size]? = some (.cells #[I P.d,I P.l,I P.l,II av P.hs.length cv] 211 (0,0))):=by show _=_;simpa using hk2.out
 clear hk2;have YB2:=J (hl2.out w (by have:=YB1.out.size;omega) YB1.out);have Yoq2:=J (Yoq1.out.frame (fun x hx=>ho2.out x (fun e=>by subst e;have:=Yiq1.out _ hx;omega)));have Ykr2:=J ((ho2.out _ O).trans Ykr1.out);refine hK.out _ _ ⟨YB2.out,fun h=>by cases h⟩ ?_;clear hK K fz hW2 ho2 hl2 g0;refine za8 (v:=?_) rfl (fun _ _ _ h=>h) ?_ ?_
 rotate_left
 ·(intro W hSW2;(go_simp<;>with_reducible rfl))
 (try simp only[Act.put,IQ,IZ,OI])
 refine zbl true rfl ?_;refine za9 rfl (fun K hK=>?_);have g0:=bkC (v:=I P.l) Ykp2.out 2 rfl;have fz:=bkF Ykp2.out;go_simp;obtain⟨Y3,hW3,hk3,bs3,ho3,hl3⟩:=zds Ykp2 2 (I P.f);rw[hW3];have Ykp3:Hid (Y3.heap[w.heap.size]? = some (.cells #[I P.d,I P.l,I P.f,II av P.hs.length cv] 211 (0,0))):=by show _=_;simpa using hk3.out
 clear hk3;have YB3:=J (hl3.out w (by have:=YB2.out.size;omega) YB2.out);have Yoq3:=J (Yoq2.out.frame (fun x hx=>ho3.out x (fun e=>by subst e;have:=Yiq1.out _ hx;omega)));have Ykr3:=J ((ho3.out _ O).trans Ykr2.out);refine hK.out _ _ ⟨YB3.out,fun h=>by cases h⟩ ?_;clear hK K fz hW3 ho3 hl3 g0;refine za8 (v:=?_) rfl (fun _ _ _ h=>h) ?_ ?_
 rotate_left
 ·(intro W hSW2;(go_simp<;>with_reducible rfl))
 (try simp only[Act.put,IQ,IZ,OI])
 refine zbl true rfl ?_;refine za9 rfl (fun K hK=>?_);have g0:=bkC (v:=II av P.hs.length cv) Ykp3.out 3 rfl;have fz:=bkF Ykp3.out;go_simp;obtain⟨Y4,hW4,hk4,bs4,ho4,hl4⟩:=zds Ykp3 3 (II a_ P.hs.length c_);rw[hW4];have Ykp4:Hid (Y4.heap[w.heap.size]? = some (.cells #[I P.d,I P.l,I P.f,II a_ P.hs.length c_] 211 (0,0))):=by show _=_;simpa using hk4.out
 clear hk4;have YB4:=J (hl4.out w (by have:=YB3.out.size;omega) YB3.out);have Yoq4:=J (Yoq3.out.frame (fun x hx=>ho4.out x (fun e=>by subst e;have:=Yiq1.out _ hx;omega)));have Ykr4:=J ((ho4.out _ O).trans Ykr3.out);refine hK.out _ _ ⟨YB4.out,fun h=>by cases h⟩ ?_;clear hK K fz hW4 ho4 hl4 g0;refine zes ?_;simp only[List.drop_succ_cons,List.drop_zero];skip;obtain⟨hnc,hcm,bq,oq,ea_,ef_,hrow⟩:=own_row Yoq4.out O;subst ea_ ef_;have hbq:=Yiq1.out bq (by simp);have hbq1:w.heap.size+2≤bq:=O
 have hbq2:bq<Y4.heap.size:=O
 have HROW:=J hrow;clear hrow hbq HB HD CC;obtain⟨y0,y1,y2,y3,yf⟩:=bz4 Ykp4.out;go_upto_region 3 with (go_at_call 206;with_reducible refine (revI_any P.hs.length bq oq c_ (gi P.hs) _ O O hnc hcm (fun q hq=>HROW.out.gi q hq) HROW.out.free).mono ?_;rintro e v1 ⟨rfl,hch_,hcl_,hfz_⟩);clear y0 y1 y2 y3 yf;have HRV:=J (rowV_rev hcl_ hfz_);have hv1:Y4.heap.size≤v1.heap.size:=hch_.size;have HP:=J ((hch_.block w.heap.size O (by simp<;>omega)).trans Ykp4.out);have HR:=J ((hch_.block (w.heap.size+1) O (by simp<;>omega)).trans Ykr4.out);have HBV:=J (YB4.out.trans (hch_.below (B:=w.heap.size) O (fun x hx=>by simp at hx;omega)));clear hch_ hcl_ hfz_ HROW;obtain⟨y0,y1,y2,y3,yf⟩:=bz4 HP.out;obtain⟨q0,q1,q2,q3,qf⟩:=bz4 HR.out;go_wp2;refine bodyPost_ret (v:=.agg #[I P.d,I P.l,I P.f,II (some ⟨bq,oq,none⟩) P.hs.length c_]) (by simp[results,Tryz.results162,go_sem, *]) rfl ⟨_,_,rfl,((((HBV.out.setCell (p:=⟨w.heap.size+1,0,none⟩) (by show w.heap.size≤w.heap.size+1;omega) (I P.d)).setCell (p:=⟨w.heap.size+1,1,none⟩) (by show w.heap.size≤w.heap.size+1;omega) (I P.l)).setCell (p:=⟨w.heap.size+1,2,none⟩) (by show w.heap.size≤w.heap.size+1;omega) (I P.f)).setCell (p:=⟨w.heap.size+1,3,none⟩) (by show w.heap.size≤w.heap.size+1;omega) (II (some ⟨bq,oq,none⟩) P.hs.length c_)),?_⟩;have h_:=rd_row (B:=v1.heap.size) ((((HRV.out.frame (Below.heap_setCell _ ⟨w.heap.size+1,0,none⟩ (I P.d) bq (by show bq≠w.heap.size+1;omega))).frame (Below.heap_setCell _ ⟨w.heap.size+1,1,none⟩ (I P.l) bq (by show bq≠w.heap.size+1;omega))).frame (Below.heap_setCell _ ⟨w.heap.size+1,2,none⟩ (I P.f) bq (by show bq≠w.heap.size+1;omega))).frame (Below.heap_setCell _ ⟨w.heap.size+1,3,none⟩ (II (some ⟨bq,oq,none⟩) P.hs.length c_) bq (by show bq≠w.heap.size+1;omega))) (by rw[List.length_reverse];exact hnc) hcm O;rw[List.length_reverse] at h_;simp only[zac];exact h_
def sdQ (Q:Pf) (f:Int):Int:=if pfB Q=true then (if Q.hs.length=2 then 0 else sglP Q f) else 0
theorem sdQ_bd (Q:Pf) (f:Int):0≤sdQ Q f∧sdQ Q f≤400000:=by
 have:=sglP_bd Q f;unfold sdQ
 split
 ·split<;>omega
 ·omega
theorem iDey_any (P:Pf) (h:PfOk P) (vh:Value) (f:Int) (f0:1≤f) (f1:f≤100000000)  (w:World) (r:Rd w w (zai P.hs) vh) (L:LibW w) :
  Calls Tryz.prog 163 #[.agg #[I P.d,I P.f,I P.l,vh],I f] w fun e w'=>e=.returned (.tuple #[I (deyP P f),I 0])∧IJ w w w':=by
 have HE0:Hid (deyP P f=if P.hs.length=2 then 0 else if sglP P f=0 then 0 else sglP P f+sidP P f 0 (wstP P f)+sidP P f (wstP P f) P.n):=rfl;have n0_:=h.n0;have n1_:=h.n1;have hpn:P.n=(P.hs.length:Int)-1:=rfl;obtain⟨W0,hW0,b0_,z0,k0⟩:=zax w #[I P.d,I P.f,I P.l,vh] 211;have HW0:=J hW0;have B0:=J b0_;have HD:=J (fun (W:World) (hW:IJ W0 W0 W)=>by4 k0 hW);have HB:Hid (IJ W0 W0 W0):=Below.refl _ _;clear k0 hW0 b0_;have CV:Hid (∀ W:World,IJ W0 W0 W→Calls Tryz.prog 203 #[.agg #[I P.d,I P.f,I P.l,vh]] W fun e w'=>e=.returned (.bool true)∧IJ W W w'):=fun  W hW=>by
   have hh:=zem P h.w vh W (zb4 r B0.out hW);rw[ok_pfB h] at hh;exact hh
 have CF:Hid (∀ W:World,IJ W0 W0 W→Calls Tryz.prog 53 #[I f] W fun e w'=>e=.returned (.bool true)∧IJ W W w'):=fun  W hW=>by
   have hh:=zcl f W;rw[zat.2 ⟨f0,f1⟩] at hh;exact zam hh
 have CL:Hid (∀ W:World,IJ W0 W0 W→Calls Tryz.prog 207 #[.agg #[I P.d,I P.f,I P.l,vh]] W fun e w'=>e=.returned (I ((P.hs.length:Int)-1))∧IJ W W w'):=fun  W hW=>by rw[← hpn];exact zd1 P O vh W (zb4 r B0.out hW)
 by_cases h2:P.hs.length=2
 case pos =>
  have HE:Hid (deyP P f=0):=by show _=_;rw[HE0.out,if_pos h2]
  have hlb:((P.hs.length:Int)-1 == 1)=true:=by rw[beq_iff_eq];omega
  clear h2 hpn r h HE0 L;generalize deyP P f=SV at *;go_enter Tryz.func163,Tryz.ntmps163;go_upto_region 1 with (fail);rw[HW0.out];obtain⟨t0,t1,t2,t3⟩:=HD.out _ HB.out;go_wp2_with ((first|(go_at_call 203;with_reducible refine (CV.out _ HB.out).mono ?_)|(go_at_call 53;with_reducible refine (CF.out _ HB.out).mono ?_)|(go_at_call 207;with_reducible refine (CL.out _ HB.out).mono ?_));rintro e v1 ⟨rfl,hb_⟩;(try clear t0 t1 t2 t3);replace HB:=btr HB hb_;clear hb_;obtain⟨t0,t1,t2,t3⟩:=HD.out _ HB.out);go_ret2;exact⟨by rw[HE.out];rfl,B0.out.trans (HB.out.mono B0.out.size)⟩
 have n3:3≤P.hs.length:=O
 have hlb:((P.hs.length:Int)-1 == 1)=false:=by rw[beq_eq_false_iff_ne];omega
 have HE1:Hid (deyP P f=if sglP P f=0 then 0 else sglP P f+sidP P f 0 (wstP P f)+sidP P f (wstP P f) P.n):=by show _=_;rw[HE0.out,if_neg h2]
 have sb:=sglP_bd P f;obtain⟨wb0,wb1⟩:=wstP_bd f n3;have CS:Hid (∀ W:World,IJ W0 W0 W→Calls Tryz.prog 208 #[.agg #[I P.d,I P.f,I P.l,vh],I f] W fun e w'=>e=.returned (.tuple #[I (wstP P f),I (sglP P f)])∧IJ W W w'):=fun  W hW=>iSingle_any P h vh f f0 f1 n3 W (zb4 r B0.out hW) (L.mono (B0.out.trans (hW.mono B0.out.size)))
 by_cases hs:sglP P f=0
 case pos =>
  have HE:Hid (deyP P f=0):=by show _=_;rw[HE1.out,if_pos hs]
  rw[hs] at CS;clear h2 hpn r h HE0 HE1 hs L;generalize deyP P f=SV at *;generalize wstP P f=ww at *;go_enter Tryz.func163,Tryz.ntmps163;go_upto_region 1 with (fail);rw[HW0.out];obtain⟨t0,t1,t2,t3⟩:=HD.out _ HB.out;go_wp2_with ((first|(go_at_call 203;with_reducible refine (CV.out _ HB.out).mono ?_)|(go_at_call 53;with_reducible refine (CF.out _ HB.out).mono ?_)|(go_at_call 207;with_reducible refine (CL.out _ HB.out).mono ?_)|(go_at_call 208;with_reducible refine (CS.out _ HB.out).mono ?_));rintro e v1 ⟨rfl,hb_⟩;(try clear t0 t1 t2 t3);replace HB:=btr HB hb_;clear hb_;obtain⟨t0,t1,t2,t3⟩:=HD.out _ HB.out);go_ret2;exact⟨by rw[HE.out];rfl,B0.out.trans (HB.out.mono B0.out.size)⟩
 obtain⟨m,hm⟩:=Int.eq_ofNat_of_zero_le (show 0≤wstP P f by omega);have HE:Hid (deyP P f=sglP P f+sdQ (zbq P 0 m) f+sdQ (zbq P m (P.hs.length-1:Nat)) f):=by
  show _=_
  rw[HE1.out,if_neg hs,hm,hpn,show (P.hs.length:Int)-1=((P.hs.length-1:Nat):Int) by omega]
  rfl
 have hw0:=partP_w h (i:=0) (k:=m) O O;have hw1:=partP_w h (i:=m) (k:=P.hs.length-1) O O;have hsb:(sglP P f == 0)=false:=by rw[beq_eq_false_iff_ne];exact hs
 rw[hm] at CS wb0 wb1;have CA:Hid (∀ W:World,IJ W0 W0 W→Calls Tryz.prog 209 #[.agg #[I P.d,I P.f,I P.l,vh],I 0,I (m:Int)] W fun e w'=>∃ (a':Option Addr) (c':Nat),e=.returned (.agg #[I (zbq P 0 m).d,I (zbq P 0 m).f,I (zbq P 0 m).l,II a' (zbq P 0 m).hs.length c'])∧IJ W W w'∧Rd w'.heap.size w' (zai (zbq P 0 m).hs) (II a' (zbq P 0 m).hs.length c')):=fun  W hW=>iPart_any P h vh 0 m O O W (zb4 r B0.out hW)
 have CB:Hid (∀ W:World,IJ W0 W0 W→Calls Tryz.prog 209 #[.agg #[I P.d,I P.f,I P.l,vh],I (m:Int),I ((P.hs.length:Int)-1)] W fun e w'=>∃ (a':Option Addr) (c':Nat),e=.returned (.agg #[I (zbq P m (P.hs.length-1:Nat)).d,I (zbq P m (P.hs.length-1:Nat)).f,I (zbq P m (P.hs.length-1:Nat)).l,II a' (zbq P m (P.hs.length-1:Nat)).hs.length c'])∧IJ W W w'∧Rd w'.heap.size w' (zai (zbq P m (P.hs.length-1:Nat)).hs) (II a' (zbq P m (P.hs.length-1:Nat)).hs.length c')):=fun  W hW=>by
   rw[show (P.hs.length:Int)-1=((P.hs.length-1:Nat):Int) by omega];exact iPart_any P h vh m (P.hs.length-1) O O W (zb4 r B0.out hW)
 have HL:Hid (∀ W:World,IJ W0 W0 W→LibW W):=fun W hW=>L.mono (B0.out.trans (hW.mono B0.out.size))
 clear h2 hpn r h HE0 HE1 hs L hm n3;generalize deyP P f=SV at *;generalize sglP P f=sg at *;generalize zbq P m (P.hs.length-1:Nat)=Q1 at *;generalize zbq P 0 m=Q0 at *;obtain⟨sb0,sb1⟩:=sb;have sq0:=sdQ_bd Q0 f;have sq1:=sdQ_bd Q1 f;go_enter Tryz.func163,Tryz.ntmps163;go_upto_region 1 with (fail);rw[HW0.out];obtain⟨t0,t1,t2,t3⟩:=HD.out _ HB.out;go_upto_region 10 with ((first|(go_at_call 203;with_reducible refine (CV.out _ HB.out).mono ?_)|(go_at_call 53;with_reducible refine (CF.out _ HB.out).mono ?_)|(go_at_call 207;with_reducible refine (CL.out _ HB.out).mono ?_)|(go_at_call 208;with_reducible refine (CS.out _ HB.out).mono ?_));rintro e v1 ⟨rfl,hb_⟩;(try clear t0 t1 t2 t3);replace HB:=btr HB hb_;clear hb_;obtain⟨t0,t1,t2,t3⟩:=HD.out _ HB.out);clear t0 t1 t2 t3;have zc:=HB.out.size;have BC:Hid (IJ v1 v1 v1):=Below.refl _ _;have HDC:Hid (∀ W:World,IJ v1 v1 W→_):=fun W hW=>HD.out W (HB.out.trans (hW.mono HB.out.size))
 refine zap 11 (.read 0 (.read 1 (.read 3 (.read 4 (.read 5 (.read 10 (.one 2 (.one 6 (.one 7 (.one 8 (.read 9 .nil))))))))))) (fun W=>IJ v1 v1 W) OJ OJ (BC.out.drew) ?_;have YB:=J (BC.out.drew);have Yz:v1.heap.size≤v1.drew.heap.size:=Nat.le_refl _;generalize v1.drew=Y at *
 iterate 6
  refine zag (v:=?_) rfl (fun _ _ _ h=>h) ?_ ?_
  rotate_left
  ·(intro W hSW;(try dsimp only at hSW);obtain⟨t0,t1,t2,t3⟩:=HDC.out W hSW;(go_simp<;>with_reducible rfl))
  (try simp only[Act.put,IQ,IZ,OI])
 refine zaf ?_;refine zae rfl (fun K hK=>?_);go_simp;refine ((fun W (hW:IJ v1 v1 W)=>CA.out W (HB.out.trans (hW.mono HB.out.size))) _ YB.out).mono ?_;rintro e Y1 ⟨a0,c0,rfl,hb1,hr1⟩;have YB1:=btr YB hb1;refine hK.out _ _ YB1.out ?_;clear hK K;have bs1:=hb1.size;have YrA1:=J hr1;clear hr1;clear hb1;refine zaf ?_;refine zae rfl (fun K hK=>?_);go_simp;refine ((fun W (hW:IJ v1 v1 W)=>CL.out W (HB.out.trans (hW.mono HB.out.size))) _ YB1.out).mono ?_;rintro e Y2 ⟨rfl,hb2⟩;have YB2:=btr YB1 hb2;refine hK.out _ _ YB2.out ?_;clear hK K;have bs2:=hb2.size;have YrA2:=J ((YrA1.out.below hb2).mono hb2.size);clear hb2;refine zaf ?_;refine zae rfl (fun K hK=>?_);go_simp;refine ((fun W (hW:IJ v1 v1 W)=>CB.out W (HB.out.trans (hW.mono HB.out.size))) _ YB2.out).mono ?_;rintro e Y3 ⟨a1,c1,rfl,hb3,hr3⟩;have YB3:=btr YB2 hb3;refine hK.out _ _ YB3.out ?_;clear hK K;have bs3:=hb3.size;have YrA3:=J ((YrA2.out.below hb3).mono hb3.size);have YrB3:=J hr3;clear hr3;clear hb3;refine zaf ?_;refine zae rfl (fun K hK=>?_);go_simp;obtain⟨Y4,hW4,hb4,zl4,hk4⟩:=zax Y3 #[I Q0.d,I Q0.f,I Q0.l,II a0 Q0.hs.length c0,I Q1.d,I Q1.f,I Q1.l,II a1 Q1.hs.length c1] 211;rw[hW4];have Ykarr4:=J hk4;have YB4:=btr YB3 hb4;have YrA4:=J ((YrA3.out.below hb4).mono hb4.size);have YrB4:=J ((YrB3.out.below hb4).mono hb4.size);refine hK.out _ _ YB4.out ?_;have bs4:=hb4.size;clear hK K hW4 hk4 hb4;refine zag (v:=?_) rfl (fun _ _ _ h=>h) ?_ ?_
 rotate_left
 ·(intro W hSW;(try dsimp only at hSW);obtain⟨t0,t1,t2,t3⟩:=HDC.out W hSW;(go_simp<;>with_reducible rfl))
 (try simp only[Act.put,IQ,IZ,OI])
 refine zak ?_;simp only[List.drop_succ_cons,List.drop_zero];skip;have HB3:=J (HB.out.trans (YB4.out.mono HB.out.size));have KA:=J Ykarr4.out;have RA:=J YrA4.out;have RB_:=J YrB4.out;have hba:Y3.heap.size<Y4.heap.size:=O
 generalize Y3.heap.size=ba at *;clear BC HDC CA CB CL CS;generalize hLS:(fun k:Nat=>if k=0 then sg else if k=1 then sg+sdQ Q0 f else sg+sdQ Q0 f+sdQ Q1 f)=LS at *;have HLS0:Hid (LS 0=sg):=by show _=_;rw[← hLS];rfl
 have HLS2:Hid (LS 2=sg+sdQ Q0 f+sdQ Q1 f):=by show _=_;rw[← hLS];rfl
 have HQ:Hid (∀ k:Nat,k<2→∃ (Q:Pf) (a':Option Addr) (c':Nat),PfW Q∧Y4.cell? ⟨ba,k*4,none⟩=some (I Q.d)∧Y4.cell? ⟨ba,k*4+1,none⟩=some (I Q.f)∧Y4.cell? ⟨ba,k*4+2,none⟩=some (I Q.l)∧Y4.cell? ⟨ba,k*4+3,none⟩=some (II a' Q.hs.length c')∧Rd Y4 Y4 (zai Q.hs) (II a' Q.hs.length c')∧LS (k+1)=LS k+sdQ Q f∧0≤LS k∧LS k≤1000000):=fun k hk=>by
  have hk2:k=0∨k=1:=O
  rcases hk2 with rfl|rfl
  ·exact⟨Q0,a0,c0,hw0,bkC KA.out 0 rfl,bkC KA.out 1 rfl,bkC KA.out 2 rfl,bkC KA.out 3 rfl,RA.out,by rw[← hLS];rfl,by rw[← hLS];show 0≤sg;omega,by rw[← hLS];show sg≤1000000;omega⟩
  ·exact⟨Q1,a1,c1,hw1,bkC KA.out 4 rfl,bkC KA.out 5 rfl,bkC KA.out 6 rfl,bkC KA.out 7 rfl,RB_.out,by rw[← hLS];rfl,by rw[← hLS];show 0≤sg+sdQ Q0 f;omega,by rw[← hLS];show sg+sdQ Q0 f≤1000000;omega⟩
 clear hLS KA RA RB_ hw0 hw1 sq0 sq1 HD;go_wp2;rw[← HLS0.out];go_loopw [7,42] (fun ls ki wr=>∃ k:Nat,k≤2∧ls=I (LS k)∧ki=I (k:Int)∧IJ Y4 Y4 wr) (fun ls ki wr=>2-(intOf ki).toNat)
 case atStart=>exact⟨0,Nat.zero_le _,rfl,rfl,Below.refl _ _⟩
 case round =>
  obtain⟨k,hk,rfl,rfl,hbw⟩:=hrel;have HW:=J hbw;clear hbw HLS0;have k0:(0:Int)≤(k:Int):=O
  by_cases hlt:k<2
  ·have k1:(k:Int)<2:=O
   obtain⟨Q,a',c',hwQ,x0,x1,x2,x3,hrQ,hls,ls0,ls1⟩:=HQ.out k hlt;have HLS:=J hls;have g0:=(bat HW.out ba _ hba).trans x0;have g1:=(bat HW.out ba _ hba).trans x1;have g2:=(bat HW.out ba _ hba).trans x2;have g3:=(bat HW.out ba _ hba).trans x3;have RQ:=J ((hrQ.below HW.out).mono HW.out.size);clear x0 x1 x2 x3 hrQ hls HQ;go_upto_region 13 with (fail);clear g0 g1 g2 g3;obtain⟨W5,hW5,b5_,z5,k5⟩:=zax wr #[I Q.d,I Q.f,I Q.l,II a' Q.hs.length c'] 211;rw[hW5];have K5:=J k5;have RQ5:Hid (∀ W:World,IJ W5 W5 W→Rd W W (zai Q.hs) (II a' Q.hs.length c')):=fun W hW=>(RQ.out.below (b5_.trans (hW.mono b5_.size))).mono (b5_.trans (hW.mono b5_.size)).size
   have HW5:=btr HW b5_;have zz5:wr.heap.size<W5.heap.size:=O
   clear hW5 b5_ k5 RQ HW;have HB:Hid (IJ W5 W5 W5):=Below.refl _ _;have HD:Hid (∀ W:World,IJ W5 W5 W→(W.cell? ⟨wr,0,none⟩=some (I Q.d)∧W.cell? ⟨wr,1,none⟩=some (I Q.f)∧W.cell? ⟨wr,2,none⟩=some (I Q.l)∧W.cell? ⟨wr,3,none⟩=some (II a' Q.hs.length c'))):=fun W hW=>⟨(bat hW wr.heap.size _ zz5).trans (bkC K5.out 0 rfl),(bat hW wr.heap.size _ zz5).trans (bkC K5.out 1 rfl),(bat hW wr.heap.size _ zz5).trans (bkC K5.out 2 rfl),(bat hW wr.heap.size _ zz5).trans (bkC K5.out 3 rfl)⟩
   clear K5;have CV:Hid (∀ W:World,IJ W5 W5 W→Calls Tryz.prog 203 #[.agg #[I Q.d,I Q.f,I Q.l,II a' Q.hs.length c']] W fun e w'=>e=.returned (.bool (pfB Q))∧IJ W W w'):=fun  W hW=>zem Q hwQ _ W (RQ5.out W hW)
   have nq0:=hwQ.n0;have nq1:=hwQ.n1
   cases hB:pfB Q with
   | false =>
    have HSD:Hid (sdQ Q f=0):=by show _=_;unfold sdQ;rw[hB];rfl
    rw[hB] at CV;clear hB;obtain⟨t0,t1,t2,t3⟩:=HD.out _ HB.out;go_wp2_with (first|(go_at_call 203;with_reducible refine (CV.out _ HB.out).mono ?_;rintro e v2 ⟨rfl,hb_⟩;(try clear t0 t1 t2 t3);replace HB:=btr HB hb_;clear hb_;obtain⟨t0,t1,t2,t3⟩:=HD.out _ HB.out));go_roundw
    case rel=>exact⟨k+1,O,by rw[HLS.out,HSD.out,Int.add_zero],by go_num,HW5.out.trans (HB.out.mono HW5.out.size)⟩
    case measure=>simp[intOf];omega
   | true =>
    have hok:=pfB_ok hB;have CL:Hid (∀ W:World,IJ W5 W5 W→Calls Tryz.prog 207 #[.agg #[I Q.d,I Q.f,I Q.l,II a' Q.hs.length c']] W fun e w'=>e=.returned (I ((Q.hs.length:Int)-1))∧IJ W W w'):=fun  W hW=>zd1 Q O _ W (RQ5.out W hW)
    by_cases h2:Q.hs.length=2
    case pos =>
     have HSD:Hid (sdQ Q f=0):=by show _=_;unfold sdQ;rw[hB,if_pos rfl,if_pos h2]
     have hl2:decide (1<(Q.hs.length:Int)-1)=false:=decide_eq_false O;rw[hB] at CV;clear hB h2 hok;obtain⟨t0,t1,t2,t3⟩:=HD.out _ HB.out;go_wp2_with ((first|(go_at_call 203;with_reducible refine (CV.out _ HB.out).mono ?_)|(go_at_call 207;with_reducible refine (CL.out _ HB.out).mono ?_));rintro e v2 ⟨rfl,hb_⟩;(try clear t0 t1 t2 t3);replace HB:=btr HB hb_;clear hb_;obtain⟨t0,t1,t2,t3⟩:=HD.out _ HB.out);go_roundw
     case rel=>exact⟨k+1,O,by rw[HLS.out,HSD.out,Int.add_zero],by go_num,HW5.out.trans (HB.out.mono HW5.out.size)⟩
     case measure=>simp[intOf];omega
    have HSD:Hid (sdQ Q f=sglP Q f):=by show _=_;unfold sdQ;rw[hB,if_pos rfl,if_neg h2]
    have sgb:=sglP_bd Q f;have CS:Hid (∀ W:World,IJ W5 W5 W→Calls Tryz.prog 208 #[.agg #[I Q.d,I Q.f,I Q.l,II a' Q.hs.length c'],I f] W fun e w'=>e=.returned (.tuple #[I (wstP Q f),I (sglP Q f)])∧IJ W W w'):=fun  W hW=>iSingle_any Q hok _ f f0 f1 O W (RQ5.out W hW) (HL.out W (HB3.out.trans ((HW5.out.trans (hW.mono HW5.out.size)).mono HB3.out.size)))
    have hl2:decide (1<(Q.hs.length:Int)-1)=true:=decide_eq_true O;obtain⟨sgb0,sgb1⟩:=sgb;generalize sglP Q f=sgq at *;generalize wstP Q f=wq at *;rw[hB] at CV;clear hB h2 hok;obtain⟨t0,t1,t2,t3⟩:=HD.out _ HB.out;go_wp2_with ((first|(go_at_call 203;with_reducible refine (CV.out _ HB.out).mono ?_)|(go_at_call 207;with_reducible refine (CL.out _ HB.out).mono ?_)|(go_at_call 208;with_reducible refine (CS.out _ HB.out).mono ?_));rintro e v2 ⟨rfl,hb_⟩;(try clear t0 t1 t2 t3);replace HB:=btr HB hb_;clear hb_;obtain⟨t0,t1,t2,t3⟩:=HD.out _ HB.out);go_roundw
    case rel=>exact⟨k+1,O,by rw[HLS.out,HSD.out],by go_num,HW5.out.trans (HB.out.mono HW5.out.size)⟩
    case measure=>simp[intOf];omega
  ·obtain rfl:k=2:=O
   go_wp2;go_ret2;exact⟨by rw[HE.out,← HLS2.out];rfl,B0.out.trans ((HB3.out.trans (HW.out.mono HB3.out.size)).mono B0.out.size)⟩
end Go.Proofs.YtgmapjgodibchaaGreatDoor
