/- Contracts: an empty raster; one more sector in a raster, for the reference. Conditions: bounded sizes. -/
import Derived.Test.YtgmapjgodibchaaGreatDoorLzE
set_option linter.unusedVariables false
set_option linter.unusedSimpArgs false
namespace Go.Proofs.YtgmapjgodibchaaGreatDoor
open Go.RowKit
set_option maxHeartbeats 16000000
set_option maxRecDepth 100000
theorem l20Empty_any (st wd ht:Int) (N:Nat) (hN:(N:Int)=wd*ht) (h576:N≤576) (w:World) :
  Calls Tryz.prog 43 #[I st,I wd,I ht] w fun e w'=>∃ (a0:Option Addr) (c0:Nat) (a1:Option Addr) (c1:Nat) (fp:List Nat),e=.returned (.agg #[I st,I wd,I ht,II a0 N c0,II a1 N c1])∧IJ w w w'∧OwnV w' [zai (List.replicate N (-1)),zai (List.replicate N (-300000))] [II a0 N c0,II a1 N c1] fp∧In w w'.heap.size fp:=by
 obtain⟨i0,hi0,hz0,hz1,hz2⟩:=info_parts infoI;have m0:0≤wd*ht:=O
 have m1:wd*ht≤576:=O
 obtain⟨W0,hW0,b0_,z0,k0,k1⟩:=zeb w #[I 0,I 0,I 0,II none 0 0,II none 0 0] 34 #[I st,I wd,I ht,II none 0 0,II none 0 0] 34;have HW0:=J hW0;have B0:=J b0_;have HD:=J (fun (W:World) (hW:IJ W0 W0 W)=>bx5 k0 hW <| by5 k1 hW);have HB:Hid (IJ W0 W0 W0):=Below.refl _ _;have K0:=J k0;have K1:=J k1;clear k0 k1 hW0 b0_;go_enter Tryz.func43,Tryz.ntmps43;go_upto_region 2 with (fail);rw[HW0.out];go_wp2;go_loopw [8] (fun iv wr=>∃ (k:Nat) (v0 v1:Value),k≤N∧iv=I (k:Int)∧IJ w w wr∧wr.heap[w.heap.size]? = some (.cells #[I 0,I 0,I 0,II none 0 0,II none 0 0] 34 (0,0))∧wr.heap[w.heap.size+1]? = some (.cells #[I st,I wd,I ht,v0,v1] 34 (0,0))∧TwoI wr W0.heap.size 2 v0 v1 (List.replicate k (-1)) (List.replicate k (-300000))∧W0.heap.size≤wr.heap.size) (fun iv _=>N-(intOf iv).toNat)
 case atStart=>exact⟨0,_,_,Nat.zero_le _,rfl,B0.out,K0.out,K1.out,TwoI.start _ _ _,Nat.le_refl _⟩
 case round =>
  clear HB HD K0 K1;obtain⟨k,v0,v1,hk,rfl,hbw,hk0,hk1,ht,zr⟩:=hrel;have HB:=J hbw;have K0:=J hk0;have K1:=J hk1;have HT:=J ht;clear hbw hk0 hk1 ht;have k0:(0:Int)≤(k:Int):=O
  by_cases hlt:k<N
  ·have d1:decide ((k:Int)<wd*ht)=true:=decide_eq_true O
   have l0:(List.replicate k (-1:Int)).length=k:=List.length_replicate;have l1:(List.replicate k (-300000:Int)).length=k:=List.length_replicate;obtain⟨g0,g1,g2,g3,g4,fz⟩:=bz5 K1.out;go_upto_region 6 with (at_builtin;refine zbe rfl (.tmp 21) (.tmp 22) _ rfl W0.heap.size 2 i0 _ 1 8 Tryz.underlying22 hi0 hz0 hz1 hz2 rfl O _ _ _ [] rfl HT.out.g0 [I (-1)] [intT (-1)] [] rfl 1 rfl (fun u hu=>by simp at hu;subst hu;rfl) (RepV.lits [I (-1)]) List.nodup_nil (fun b h=>by simp at h) 0 In.nil In.nil (by simp) (by simp) (by unfold maxLen;omega) O O ?_;intro v2 w2 hgn;(have HT2:=J (HT.out.app hgn.grow hgn.keep hgn.row));(obtain⟨p2,n2,c2,ev_⟩:=HT2.out.sl);subst ev_;(have z2:=hgn.size);(have HK2:Hid (∀ y,y<W0.heap.size→w2.heap[y]? = wr.heap[y]?):=fun y hy=>hgn.keep y O (fun e=>by have:=(HT.out.g0.block e).1;omega));(have HB2:=J (HB.out.trans (hgn.below.mono (by have:=B0.out.size;omega))));clear hgn g0 g1 g2 g3 g4 fz;(have KK1:=J ((HK2.out _ O).trans K1.out));obtain⟨g0,g1,g2,g3,g4,fz⟩:=bz5 KK1.out);have KK0:=J ((HK2.out w.heap.size O).trans K0.out);clear g0 g1 g2 g3 g4 fz;obtain⟨w3,hW3,hk3,bs3,ho3,hl3⟩:=zds KK1 3 (II p2 n2 c2);rw[hW3];have HT3:=J (HT2.out.frame (w':=w3) (fun y h1 _=>ho3.out y O));have K13:Hid (w3.heap[w.heap.size+1]? = some (.cells #[I st,I wd,I ht,II p2 n2 c2,v1] 34 (0,0))):=by show _=_;simpa using hk3.out
   have K03:=J ((ho3.out w.heap.size O).trans KK0.out);have HB3:=J (hl3.out w O HB2.out);clear hW3 hk3 ho3 hl3 HB2 KK0 KK1 HT2 HK2 K0 K1 HB;have HT4:=J HT3.out.swap;obtain⟨g0,g1,g2,g3,g4,fz⟩:=bz5 K13.out;go_upto_region 4 with (at_builtin;refine zbe rfl (.tmp 26) (.tmp 27) _ rfl W0.heap.size 2 i0 _ 1 8 Tryz.underlying22 hi0 hz0 hz1 hz2 rfl O _ _ _ [] rfl HT4.out.g0 [I (-300000)] [intT (-300000)] [] rfl 1 rfl (fun u hu=>by simp at hu;subst hu;rfl) (RepV.lits [I (-300000)]) List.nodup_nil (fun b h=>by simp at h) 0 In.nil In.nil (by simp) (by simp) (by unfold maxLen;omega) O O ?_;intro v5 w5 hgn;(have HT5:=J (HT4.out.app hgn.grow hgn.keep hgn.row));(obtain⟨p5,n5,c5,ev_⟩:=HT5.out.sl);subst ev_;(have z5:=hgn.size);(have HK5:Hid (∀ y,y<W0.heap.size→w5.heap[y]? = w3.heap[y]?):=fun y hy=>hgn.keep y O (fun e=>by have:=(HT4.out.g0.block e).1;omega));(have HB5:=J (HB3.out.trans (hgn.below.mono (by have:=B0.out.size;omega))));clear hgn g0 g1 g2 g3 g4 fz;(have KK1:=J ((HK5.out _ O).trans K13.out));obtain⟨g0,g1,g2,g3,g4,fz⟩:=bz5 KK1.out);have KK0:=J ((HK5.out w.heap.size O).trans K03.out);clear g0 g1 g2 g3 g4 fz;obtain⟨w6,hW6,hk6,bs6,ho6,hl6⟩:=zds KK1 4 (II p5 n5 c5);rw[hW6];have HT6:=J (HT5.out.frame (w':=w6) (fun y h1 _=>ho6.out y O)).swap;have K16:Hid (w6.heap[w.heap.size+1]? = some (.cells #[I st,I wd,I ht,II p2 n2 c2,II p5 n5 c5] 34 (0,0))):=by show _=_;simpa using hk6.out
   have K06:=J ((ho6.out w.heap.size O).trans KK0.out);have HB6:=J (hl6.out w O HB5.out);clear hW6 hk6 ho6 hl6 HB5 KK0 KK1 HT5 HK5 K03 K13 HB3 HT3 HT4;go_wp2;go_roundw
   case rel=>exact⟨k+1,_,_,O,by go_num,HB6.out,K06.out,K16.out,by rw[List.replicate_succ',List.replicate_succ'];exact HT6.out,O⟩
   case measure=>simp[intOf];omega
  ·obtain rfl:k=N:=O
   have d1:decide ((k:Int)<wd*ht)=false:=decide_eq_false O;obtain⟨a0,c0,a1,c1,fp,e0,e1,ho,hi⟩:=HT.out.own;simp only[List.length_replicate] at e0 e1 ho;subst e0 e1;have OV:=J ho;have IV:=J (hi.mono (lo':=w.heap.size) O (Nat.le_refl _));have hnf:w.heap.size ∉ fp:=fun hm=>by have:=hi _ hm;omega
   clear ho hi HT;obtain⟨g0,g1,g2,g3,g4,fz⟩:=bz5 K1.out;obtain⟨r0,r1,r2,r3,r4,rf⟩:=bz5 K0.out;go_wp2;refine bodyPost_ret (v:=.agg #[I st,I wd,I ht,II a0 k c0,II a1 k c1]) (by simp[results,Tryz.results43,go_sem, *]) rfl ⟨_,_,_,_,_,rfl,(((((HB.out.setCell (p:=⟨w,0,none⟩) (by show w.heap.size≤w.heap.size;omega) (I st)).setCell (p:=⟨w,1,none⟩) (by show w.heap.size≤w.heap.size;omega) (I wd)).setCell (p:=⟨w,2,none⟩) (by show w.heap.size≤w.heap.size;omega) (I ht)).setCell (p:=⟨w,3,none⟩) (by show w.heap.size≤w.heap.size;omega) (II a0 k c0)).setCell (p:=⟨w,4,none⟩) (by show w.heap.size≤w.heap.size;omega) (II a1 k c1)),(((((OV.out.setFar (p:=⟨w,0,none⟩) hnf (I st)).setFar (p:=⟨w,1,none⟩) hnf (I wd)).setFar (p:=⟨w,2,none⟩) hnf (I ht)).setFar (p:=⟨w,3,none⟩) hnf (II a0 k c0)).setFar (p:=⟨w,4,none⟩) hnf (II a1 k c1)),by simpa only[zac] using IV.out⟩
theorem l20Add_any (st wd ht sv least:Int) (a b m a2 b2:List Int) (hab:a.length=b.length) (ha2:a2.length=a.length) (hb2:b2.length=a.length) (hm:m.length=a.length) (h0:0<a.length) (h576:a.length≤576) (hst:∀ c,c<a.length→(gi a2 c,gi b2 c)=stepC least sv (gi m c) (gi a c,gi b c)) (rp:Nat) (va vb vm:Value) (w:World) (ra:Rd w w (zai a) va) (rb:Rd w w (zai b) vb) (rm:Rd w w (zai m) vm) (p0:w.cell? ⟨rp,0,none⟩=some (I st)) (p1:w.cell? ⟨rp,1,none⟩=some (I wd)) (p2:w.cell? ⟨rp,2,none⟩=some (I ht)) (p3:w.cell? ⟨rp,3,none⟩=some (va)) (p4:w.cell? ⟨rp,4,none⟩=some (vb)) :
  Calls Tryz.prog 44 #[.pointer (some ⟨rp,0,none⟩),I sv,vm,I least] w fun e w'=>∃ (a0:Option Addr) (c0:Nat) (a1:Option Addr) (c1:Nat) (fp:List Nat),e=.returned (.agg #[I st,I wd,I ht,II a0 a.length c0,II a1 a.length c1])∧IJ w w w'∧OwnV w' [zai a2,zai b2] [II a0 a.length c0,II a1 a.length c1] fp∧In w w'.heap.size fp:=by
 have hrp:rp<w.heap.size:=zbh p0;have hni:(a.length:Int)≤576:=O
 obtain⟨am,cm,em,_,_,hcm⟩:=rm.ints;subst em;obtain⟨bm,om,rfl,hbm,hcm⟩:=hcm O;have HM:Hid (∀ c,c<a.length→∀ W:World,IJ w w W→W.cell? ⟨bm,om+c,none⟩=some (I (gi m c))):=fun c hc W hW=>by
  have h:=hcm c O;rw[gi_eq O] at h;exact (bat hW bm _ hbm).trans h
 rw[hm];clear hcm;obtain⟨W0,hW0,b0_,z0,k0⟩:=zax w #[I 0,I 0,I 0,II none 0 0,II none 0 0] 34;have HW0:=J hW0;have B0:=J b0_;have HD:=J (fun (W:World) (hW:IJ W0 W0 W)=>bx5 k0 hW <| aI ((bat hW rp _ O).trans ((bat b0_ rp _ O).trans p0)) <| aI ((bat hW rp _ O).trans ((bat b0_ rp _ O).trans p1)) <| aI ((bat hW rp _ O).trans ((bat b0_ rp _ O).trans p2)) <| aI ((bat hW rp _ O).trans ((bat b0_ rp _ O).trans p3)) <| ((bat hW rp _ O).trans ((bat b0_ rp _ O).trans p4)));have HB:Hid (IJ W0 W0 W0):=Below.refl _ _;have K0:=J k0;clear k0 hW0 b0_;have CA:Hid (∀ W:World,IJ W0 W0 W→Calls Tryz.prog 92 #[va] W fun e w'=>∃ (a':Option Addr) (c':Nat) (fp:List Nat),e=.returned (II a' a.length c')∧IJ W W w'∧Own w' (zai a) (II a' a.length c') fp∧In W w'.heap.size fp):=fun W hW=>l00Own_any a va W ((ra.below (B0.out.trans (hW.mono B0.out.size))).mono (B0.out.trans (hW.mono B0.out.size)).size) O
 have CB:Hid (∀ W:World,IJ W0 W0 W→Calls Tryz.prog 92 #[vb] W fun e w'=>∃ (a':Option Addr) (c':Nat) (fp:List Nat),e=.returned (II a' a.length c')∧IJ W W w'∧Own w' (zai b) (II a' a.length c') fp∧In W w'.heap.size fp):=fun W hW=>by have h:=l00Own_any b vb W ((rb.below (B0.out.trans (hW.mono B0.out.size))).mono (B0.out.trans (hW.mono B0.out.size)).size) O;rw[← hab] at h;exact h
 have HL:Hid (b.length=a.length∧a2.length=a.length∧b2.length=a.length∧m.length=a.length):=⟨hab.symm,ha2,hb2,hm⟩
 clear hab ha2 hb2 hm;clear ra rb rm p0 p1 p2 p3 p4;go_enter Tryz.func44,Tryz.ntmps44;go_upto_region 1 with (fail);rw[HW0.out];go_cut [9] (fun s9 wx=>∃ (g:Nat) (a0:Option Addr) (c0:Nat) (a1:Option Addr) (c1:Nat) (f0 f1:List Nat),s9=.pointer (some ⟨g,0,none⟩)∧IJ W0 W0 wx∧wx.heap[g]? = some (.cells #[I st,I wd,I ht,II a0 a.length c0,II a1 a.length c1] 34 (0,0))∧W0.heap.size≤g∧g<wx.heap.size∧Own wx (zai a) (II a0 a.length c0) f0∧Own wx (zai b) (II a1 a.length c1) f1∧In W0 wx f0∧In W0 wx f1∧(∀ y ∈ f0,y ∉ f1)∧g ∉ f0∧g ∉ f1)
 case first =>
  refine zap 25 (.read 0 (.read 1 (.read 2 (.read 3 (.read 4 (.read 5 (.read 6 (.read 7 (.read 8 (.read 9 (.read 10 (.read 11 (.read 12 (.read 13 (.read 14 (.read 15 (.read 17 (.read 18 (.read 19 (.read 20 (.two 16 23 (.two 21 23 (.read 22 (.one 23 (.one 24 .nil))) (.one 21 (.read 22 (.one 24 .nil)))) (.one 16 (.one 21 (.read 22 (.one 24 .nil))))))))))))))))))))))))) (fun W=>IJ W0 W0 W) OJ OJ (HB.out.drew) ?_;have YB:=J (HB.out.drew);have Yz:W0.heap.size≤W0.drew.heap.size:=Nat.le_refl _;generalize W0.drew=Y at *
  iterate 20
   refine zag (v:=?_) rfl (fun _ _ _ h=>h) ?_ ?_
   rotate_left
   ·(intro W hSW;(try dsimp only at hSW);obtain⟨t0,t1,t2,t3,t4,t5,t6,t7,t8,t9⟩:=HD.out W hSW;(go_simp<;>with_reducible rfl))
   (try simp only[Act.put,IQ,IZ,OI])
  refine za0 ?_ ?_;refine zae rfl (fun K hK=>?_);go_simp;refine (CA.out _ YB.out).mono ?_;rintro e Y1 ⟨a0,c0,f0,rfl,hb1,ho1,hi1⟩;have YB1:=btr YB hb1;refine hK.out _ _ YB1.out ?_;clear hK K;have bs1:=hb1.size;have Yoa1:=J ho1;have Yia1:=J hi1;clear ho1 hi1;clear hb1;refine za0 ?_ ?_;refine zae rfl (fun K hK=>?_);go_simp;refine (CB.out _ YB1.out).mono ?_;rintro e Y2 ⟨a1,c1,f1,rfl,hb2,ho2,hi2⟩;have YB2:=btr YB1 hb2;refine hK.out _ _ YB2.out ?_;clear hK K;have bs2:=hb2.size;have Yoa2:=J (Yoa1.out.below Yia1.out O hb2);have Yob2:=J ho2;have Yib2:=J hi2;clear ho2 hi2;clear hb2;refine zag (v:=?_) rfl (fun _ _ _ h=>h) ?_ ?_
  rotate_left
  ·(intro W hSW;(try dsimp only at hSW);obtain⟨t0,t1,t2,t3,t4,t5,t6,t7,t8,t9⟩:=HD.out W hSW;(go_simp<;>with_reducible rfl))
  (try simp only[Act.put,IQ,IZ,OI])
  refine zaf ?_;refine zae rfl (fun K hK=>?_);go_simp;obtain⟨Y3,hW3,hb3,zl3,hk3⟩:=zax Y2 #[I 0,I 0,I 0,II none 0 0,II none 0 0] 34;rw[hW3];have Ykr3:=J hk3;have YB3:=btr YB2 hb3;have Yoa3:=J (Yoa2.out.below Yia1.out O hb3);have Yob3:=J (Yob2.out.below Yib2.out O hb3);refine hK.out _ _ YB3.out ?_;have bs3:=hb3.size;clear hK K hW3 hk3 hb3;refine zaf ?_;refine zae rfl (fun K hK=>?_);obtain⟨g0,g1,g2,g3,g4,fz⟩:=bz5 Ykr3.out;go_simp;obtain⟨Y4,hW4,Ykr4,bs4,ho4,hl4⟩:=zca Ykr3 [I st,I wd,I ht,II a0 a.length c0,II a1 a.length c1] rfl;simp only[zb1] at hW4;rw[hW4];have YB4:=J (hl4.out W0 (by have:=YB3.out.size;omega) YB3.out);have Yoa4:=J (Yoa3.out.frame (fun x hx=>ho4.out x (fun e=>by subst e;have:=Yia1.out _ hx;omega)));have Yob4:=J (Yob3.out.frame (fun x hx=>ho4.out x (fun e=>by subst e;have:=Yib2.out _ hx;omega)));refine hK.out _ _ YB4.out ?_;clear hK K fz hW4 ho4 hl4 g0 g1 g2 g3 g4;refine zak ?_;simp only[List.drop_succ_cons,List.drop_zero];go_wp2_with fail;go_meet;exact⟨_,_,_,_,_,_,_,rfl,YB4.out,Ykr4.out,O,O,Yoa4.out,Yob4.out,Yia1.out.mono O O,Yib2.out.mono O O,fun y h1 h2=>by have:=Yia1.out y h1;have:=Yib2.out y h2;omega,fun h1=>by have:=Yia1.out _ h1;omega,fun h1=>by have:=Yib2.out _ h1;omega⟩;refine zae rfl (fun K hK=>?_);go_simp;obtain⟨Y5,hW5,hb5,zl5,hk5⟩:=zax Y1 #[I 0,I 0,I 0,II none 0 0,II none 0 0] 34;rw[hW5];have Ykr5:=J hk5;have YB5:=btr YB1 hb5;have Yoa5:=J (Yoa1.out.below Yia1.out O hb5);refine hK.out _ _ YB5.out ?_;have bs5:=hb5.size;clear hK K hW5 hk5 hb5;refine zaf ?_;refine zae rfl (fun K hK=>?_);go_simp;refine (CB.out _ YB5.out).mono ?_;rintro e Y6 ⟨a1,c1,f1,rfl,hb6,ho6,hi6⟩;have YB6:=btr YB5 hb6;refine hK.out _ _ YB6.out ?_;clear hK K;have bs6:=hb6.size;have Yoa6:=J (Yoa5.out.below Yia1.out O hb6);have Yob6:=J ho6;have Yib6:=J hi6;clear ho6 hi6;have Ykr6:=bkH Ykr5 hb6;clear hb6;refine zag (v:=?_) rfl (fun _ _ _ h=>h) ?_ ?_
  rotate_left
  ·(intro W hSW;(try dsimp only at hSW);obtain⟨t0,t1,t2,t3,t4,t5,t6,t7,t8,t9⟩:=HD.out W hSW;(go_simp<;>with_reducible rfl))
  (try simp only[Act.put,IQ,IZ,OI])
  refine zaf ?_;refine zae rfl (fun K hK=>?_);obtain⟨g0,g1,g2,g3,g4,fz⟩:=bz5 Ykr6.out;go_simp;obtain⟨Y7,hW7,Ykr7,bs7,ho7,hl7⟩:=zca Ykr6 [I st,I wd,I ht,II a0 a.length c0,II a1 a.length c1] rfl;simp only[zb1] at hW7;rw[hW7];have YB7:=J (hl7.out W0 (by have:=YB6.out.size;omega) YB6.out);have Yoa7:=J (Yoa6.out.frame (fun x hx=>ho7.out x (fun e=>by subst e;have:=Yia1.out _ hx;omega)));have Yob7:=J (Yob6.out.frame (fun x hx=>ho7.out x (fun e=>by subst e;have:=Yib6.out _ hx;omega)));refine hK.out _ _ YB7.out ?_;clear hK K fz hW7 ho7 hl7 g0 g1 g2 g3 g4;refine zak ?_;simp only[List.drop_succ_cons,List.drop_zero];go_wp2_with fail;go_meet;exact⟨_,_,_,_,_,_,_,rfl,YB7.out,Ykr7.out,O,O,Yoa7.out,Yob7.out,Yia1.out.mono O O,Yib6.out.mono O O,fun y h1 h2=>by have:=Yia1.out y h1;have:=Yib6.out y h2;omega,fun h1=>by have:=Yia1.out _ h1;omega,fun h1=>by have:=Yib6.out _ h1;omega⟩;refine zae rfl (fun K hK=>?_);go_simp;obtain⟨Y8,hW8,hb8,zl8,hk8⟩:=zax Y #[I 0,I 0,I 0,II none 0 0,II none 0 0] 34;rw[hW8];have Ykr8:=J hk8;have YB8:=btr YB hb8;refine hK.out _ _ YB8.out ?_;have bs8:=hb8.size;clear hK K hW8 hk8 hb8;refine zaf ?_;refine zae rfl (fun K hK=>?_);go_simp;refine (CA.out _ YB8.out).mono ?_;rintro e Y9 ⟨a0,c0,f0,rfl,hb9,ho9,hi9⟩;have YB9:=btr YB8 hb9;refine hK.out _ _ YB9.out ?_;clear hK K;have bs9:=hb9.size;have Yoa9:=J ho9;have Yia9:=J hi9;clear ho9 hi9;have Ykr9:=bkH Ykr8 hb9;clear hb9;refine zaf ?_;refine zae rfl (fun K hK=>?_);go_simp;refine (CB.out _ YB9.out).mono ?_;rintro e Y10 ⟨a1,c1,f1,rfl,hb10,ho10,hi10⟩;have YB10:=btr YB9 hb10;refine hK.out _ _ YB10.out ?_;clear hK K;have bs10:=hb10.size;have Yoa10:=J (Yoa9.out.below Yia9.out O hb10);have Yob10:=J ho10;have Yib10:=J hi10;clear ho10 hi10;have Ykr10:=bkH Ykr9 hb10;clear hb10;refine zag (v:=?_) rfl (fun _ _ _ h=>h) ?_ ?_
  rotate_left
  ·(intro W hSW;(try dsimp only at hSW);obtain⟨t0,t1,t2,t3,t4,t5,t6,t7,t8,t9⟩:=HD.out W hSW;(go_simp<;>with_reducible rfl))
  (try simp only[Act.put,IQ,IZ,OI])
  refine zaf ?_;refine zae rfl (fun K hK=>?_);obtain⟨g0,g1,g2,g3,g4,fz⟩:=bz5 Ykr10.out;go_simp;obtain⟨Y11,hW11,Ykr11,bs11,ho11,hl11⟩:=zca Ykr10 [I st,I wd,I ht,II a0 a.length c0,II a1 a.length c1] rfl;simp only[zb1] at hW11;rw[hW11];have YB11:=J (hl11.out W0 (by have:=YB10.out.size;omega) YB10.out);have Yoa11:=J (Yoa10.out.frame (fun x hx=>ho11.out x (fun e=>by subst e;have:=Yia9.out _ hx;omega)));have Yob11:=J (Yob10.out.frame (fun x hx=>ho11.out x (fun e=>by subst e;have:=Yib10.out _ hx;omega)));refine hK.out _ _ YB11.out ?_;clear hK K fz hW11 ho11 hl11 g0 g1 g2 g3 g4;refine zak ?_;simp only[List.drop_succ_cons,List.drop_zero];go_wp2_with fail;go_meet;exact⟨_,_,_,_,_,_,_,rfl,YB11.out,Ykr11.out,O,O,Yoa11.out,Yob11.out,Yia9.out.mono O O,Yib10.out.mono O O,fun y h1 h2=>by have:=Yia9.out y h1;have:=Yib10.out y h2;omega,fun h1=>by have:=Yia9.out _ h1;omega,fun h1=>by have:=Yib10.out _ h1;omega⟩
 obtain⟨g,a0,c0,a1,c1,f0,f1,rfl,hbW,hg,hgl,hgs,hoa,hob,hia,hib,hd,hga,hgb⟩:=hcut;generalize wc=w3 at *;have K9:=J hg;have BW:=J hbW;have K08:=J (bkB K0.out hbW (by have:=z0;omega));obtain⟨ba,oa,rfl,-,hma,hca,hca2,hra,hfa⟩:=own_rowF hoa hia h0;obtain⟨bb,ob,rfl,-,hmb,hcb,hcb2,hrb,hfb⟩:=own_rowF hob hib (by have:=HL.out;omega);have hba:=hia ba hma;have hbb:=hib bb hmb;have n1:ba≠bb:=fun e=>hd ba hma (e ▸ hmb)
 have n2:g≠ba:=fun e=>hga (e ▸ hma)
 have n3:g≠bb:=fun e=>hgb (e ▸ hmb)
 have HRA:=J hra;have HRB:=J hrb;have HFA:=J hfa;have HFB:=J hfb;have HST:=J hst;clear hg hbW hoa hob hia hib hd hga hgb hma hmb hra hrb hfa hfb hst CA CB HB HD K0;have BWW:=J (B0.out.trans (BW.out.mono B0.out.size));go_wp2;go_loopw [10] (fun iv wr=>∃ k:Nat,k≤a.length∧iv=I (k:Int)∧IJ w w wr∧w3.heap.size≤wr.heap.size∧wr.heap[w.heap.size]? = some (.cells #[I 0,I 0,I 0,II none 0 0,II none 0 0] 34 (0,0))∧wr.heap[g]? = some (.cells #[I st,I wd,I ht,II (some ⟨ba,oa,none⟩) a.length c0,II (some ⟨bb,ob,none⟩) a.length c1] 34 (0,0))∧RowF wr ba oa a.length (gi (mixI a a2 k))∧RowF wr bb ob a.length (gi (mixI b b2 k))∧(∀ i,wr.frozen? ⟨ba,i,none⟩=false)∧(∀ i,wr.frozen? ⟨bb,i,none⟩=false)) (fun iv _=>a.length-(intOf iv).toNat)
 case atStart=>exact⟨0,Nat.zero_le _,rfl,BWW.out,Nat.le_refl _,K08.out,K9.out,by rw[mixI_zero];exact HRA.out,by rw[mixI_zero];exact HRB.out,HFA.out,HFB.out⟩
 case round =>
  clear K08 K9 HRA HRB HFA HFB;obtain⟨k,hk,rfl,hbw,zr,hk0,hk1,hra,hrb,hfa,hfb⟩:=hrel;have HB:=J hbw;have K0:=J hk0;have K1:=J hk1;have HRA:=J hra;have HRB:=J hrb;have HFA:=J hfa;have HFB:=J hfb;clear hbw hk0 hk1 hra hrb hfa hfb;have k0:(0:Int)≤(k:Int):=O
  obtain⟨g0,g1,g2,g3,g4,fz⟩:=bz5 K1.out
  by_cases hlt:k<a.length
  ·have k1:(k:Int)<(a.length:Int):=O
   have xm:=HM.out k hlt wr HB.out;have xa:=HRA.out k hlt;have xb:=HRB.out k hlt;rw[mixI_at (by have:=HL.out;omega) (by have:=HL.out;omega)] at xa;rw[mixI_at (by have:=HL.out;omega) (by have:=HL.out;omega)] at xb;have hs:=HST.out k hlt;have HSA:Hid (gi (mixI a a2 k) k=gi a k):=mixI_at (by have:=HL.out;omega) (by have:=HL.out;omega);have y1:g<wr.heap.size:=O
   have y2:ba<wr.heap.size:=O
   have y3:bb<wr.heap.size:=O
   have y4:bm<wr.heap.size:=by have:=HB.out.size;omega
   by_cases hon:least≤gi m k∧(gi a k<0∨gi b k<gi m k)
   ·rw[stepC_on hon.1 hon.2] at hs
    injection hs with hs1 hs2;have HS1:=J hs1;have HS2:=J hs2;clear hs1 hs2;obtain⟨hon1,hon2⟩:=hon;have d1:decide (least≤gi m k)=true:=decide_eq_true hon1;generalize hma_:gi a k=xav at *;generalize hmb_:gi b k=xbv at *;generalize hmm_:gi m k=xmv at *
    rcases Classical.em (xav<0) with e1|e1
    ·have d2:decide (xav<0)=true:=decide_eq_true e1
     go_upto_region 5 with (fail);have o0:=zal (w0:=wr) (show g<wr.heap.size by omega);have o1:=zal (w0:=wr) (show ba<wr.heap.size by omega);have o2:=zal (w0:=wr) (show bb<wr.heap.size by omega);have o3:=zal (w0:=wr) (show bm<wr.heap.size by omega);refine zad wr.heap.size wr (Below.refl _ _) OJ OJ ?_
     repeat (go_big_quiet_step (fail))
     refine wpQuiet_nil ?_;rintro _ ⟨X,rfl⟩;clear o0 o1 o2 o3 g0 g1 g2 g3 g4 fz xa xb xm;have hx_:=zaa wr.heap.size wr X;generalize over wr.heap.size wr X=U at *;have zu:=hx_.size;have KU0:=bkH K0 hx_;have KU1:=bkH K1 hx_;have RU0:=J (HRA.out.below hx_ y2);have RU1:=J (HRB.out.below hx_ y3);have FU0:Hid (∀ i,U.frozen? ⟨ba,i,none⟩=false):=fun i=>(hx_.frozen (p:=⟨ba,i,none⟩) y2).trans (HFA.out i)
     have FU1:Hid (∀ i,U.frozen? ⟨bb,i,none⟩=false):=fun i=>(hx_.frozen (p:=⟨bb,i,none⟩) y3).trans (HFB.out i)
     have HBU:=btr HB hx_;clear hx_ K0 K1 HRA HRB HFA HFB HB;obtain⟨g0,g1,g2,g3,g4,fz⟩:=bz5 KU1.out;have ra_:=RU0.out k hlt;have rf_:=FU0.out (oa+k);go_upto_region 7 with (fail);clear g0 g1 g2 g3 g4 fz ra_ rf_;obtain⟨V,hV,hra,hfa,hzv,hkv,hlv⟩:=RU0.out.store FU0.out k hlt sv;rw[hV];have HV0:=J (RowF.mix hra (by have:=HL.out;omega) (by have:=HL.out;omega) HS1.out);have GV0:=J hfa;have HV1:=J (RU1.out.frame (hkv bb O));have GV1:Hid (∀ i,V.frozen? ⟨bb,i,none⟩=false):=fun i=>by rw[World.frozen?_of_block (w:=U) (hkv bb O)];exact FU1.out i
     have KV0:=J ((hkv w.heap.size (by have:=z0;omega)).trans KU0.out);have KV1:=J ((hkv g O).trans KU1.out);have HBV:=J (hlv w O HBU.out);have HDV:Hid (∀ W:World,IJ V V W→(W.cell? ⟨g,4,none⟩=some (II (some ⟨bb,ob,none⟩) a.length c1)∧W.cell? ⟨bm,om+k,none⟩=some (I xmv))):=fun W hW=>⟨bkW KV1.out hW 4 rfl,by have h:=HM.out k hlt W (HBV.out.trans (hW.mono HBV.out.size));rw[hmm_] at h;exact h⟩
     clear hV hra hfa hkv hlv KU0 KU1 RU0 RU1 FU0 FU1 HBU;refine zcj 9 8 (.pure 0 (.read 1 (.pure 2 (.pure 3 (.pure 4 (.pure 5 (.read 6 (.pure 7 (.one 8 .nil))))))))) (fun W=>IJ V V W) (fun W=>IJ w w W) OJ OJ (zci V) (HBV.out.drew) ?_;have YC:=J (zci V);have YB:=J (HBV.out.drew);have Yz:V.heap.size≤V.drew.heap.size:=Nat.le_refl _;have YE:Hid (∀ b:Nat,V.drew.heap[b]? = V.heap[b]?):=fun _=>rfl
     generalize V.drew=Y at *;refine za8 (v:=?_) rfl (fun _ _ _ h=>h) ?_ ?_
     rotate_left
     ·(intro W hSW2;(go_simp<;>with_reducible rfl))
     (try simp only[Act.put,IQ,IZ,OI])
     refine zb7 (v:=?_) rfl (fun _ _ _ h=>h) ?_ ?_
     rotate_left
     ·(intro W hSW2 hSW;(try dsimp only at hSW);obtain⟨q4,qm⟩:=HDV.out W hSW;(go_simp<;>with_reducible rfl))
     (try simp only[Act.put,IQ,IZ,OI])
     iterate 4
      refine za8 (v:=?_) rfl (fun _ _ _ h=>h) ?_ ?_
      rotate_left
      ·(intro W hSW2;(go_simp<;>with_reducible rfl))
      (try simp only[Act.put,IQ,IZ,OI])
     refine zb7 (v:=?_) rfl (fun _ _ _ h=>h) ?_ ?_
     rotate_left
     ·(intro W hSW2 hSW;(try dsimp only at hSW);obtain⟨q4,qm⟩:=HDV.out W hSW;(go_simp<;>with_reducible rfl))
     (try simp only[Act.put,IQ,IZ,OI])
     refine za8 (v:=?_) rfl (fun _ _ _ h=>h) ?_ ?_
     rotate_left
     ·(intro W hSW2;(go_simp<;>with_reducible rfl))
     (try simp only[Act.put,IQ,IZ,OI])
     refine zbl true rfl ?_;refine za9 rfl (fun K hK=>?_);have RY:=J (RowF.frame (w:=V) HV1.out (YE.out bb));have FY:Hid (∀ i,Y.frozen? ⟨bb,i,none⟩=false):=fun i=>by rw[World.frozen?_of_block (w:=V) (YE.out bb)];exact GV1.out i
     have rb_:=RY.out k hlt;have rf_:=FY.out (ob+k);go_simp;obtain⟨Y1,hW1,hr1,hf1,hz1,hk1,hl1⟩:=RY.out.store FY.out k hlt xmv;rw[hW1];have YB1:=J (hl1 w O YB.out);refine hK.out _ _ ⟨YB1.out,fun h=>by cases h⟩ ?_;clear hK K rb_ rf_ hW1;refine zes ?_;simp only[List.drop_succ_cons,List.drop_zero];skip;have HRE:=J (RowF.mix hr1 (by have:=HL.out;omega) (by have:=HL.out;omega) HS2.out);have HR0:=J (RowF.frame (w:=V) HV0.out ((hk1 ba O).trans (YE.out ba)));have GR0:Hid (∀ i,Y1.frozen? ⟨ba,i,none⟩=false):=fun i=>by rw[World.frozen?_of_block (w:=V) ((hk1 ba O).trans (YE.out ba))];exact GV0.out i
     have KW0:=J (((hk1 w.heap.size (by have:=z0;omega)).trans (YE.out _)).trans KV0.out);have KW1:=J (((hk1 g O).trans (YE.out _)).trans KV1.out);go_wp2_with (fail);go_roundw
     case rel=>exact⟨k+1,O,by go_num,YB1.out,O,KW0.out,KW1.out,HR0.out,HRE.out,GR0.out,hf1⟩
     case measure=>simp[intOf];omega
    ·have d2:decide (xav<0)=false:=decide_eq_false e1
     have d3:decide (xbv<xmv)=true:=decide_eq_true O;go_upto_region 5 with (fail);have o0:=zal (w0:=wr) (show g<wr.heap.size by omega);have o1:=zal (w0:=wr) (show ba<wr.heap.size by omega);have o2:=zal (w0:=wr) (show bb<wr.heap.size by omega);have o3:=zal (w0:=wr) (show bm<wr.heap.size by omega);refine zad wr.heap.size wr (Below.refl _ _) OJ OJ ?_
     repeat (go_big_quiet_step (fail))
     refine wpQuiet_nil ?_;rintro _ ⟨X,rfl⟩;clear o0 o1 o2 o3 g0 g1 g2 g3 g4 fz xa xb xm;have hx_:=zaa wr.heap.size wr X;generalize over wr.heap.size wr X=U at *;have zu:=hx_.size;have KU0:=bkH K0 hx_;have KU1:=bkH K1 hx_;have RU0:=J (HRA.out.below hx_ y2);have RU1:=J (HRB.out.below hx_ y3);have FU0:Hid (∀ i,U.frozen? ⟨ba,i,none⟩=false):=fun i=>(hx_.frozen (p:=⟨ba,i,none⟩) y2).trans (HFA.out i)
     have FU1:Hid (∀ i,U.frozen? ⟨bb,i,none⟩=false):=fun i=>(hx_.frozen (p:=⟨bb,i,none⟩) y3).trans (HFB.out i)
     have HBU:=btr HB hx_;clear hx_ K0 K1 HRA HRB HFA HFB HB;obtain⟨g0,g1,g2,g3,g4,fz⟩:=bz5 KU1.out;have ra_:=RU0.out k hlt;have rf_:=FU0.out (oa+k);go_upto_region 7 with (fail);clear g0 g1 g2 g3 g4 fz ra_ rf_;obtain⟨V,hV,hra,hfa,hzv,hkv,hlv⟩:=RU0.out.store FU0.out k hlt sv;rw[hV];have HV0:=J (RowF.mix hra (by have:=HL.out;omega) (by have:=HL.out;omega) HS1.out);have GV0:=J hfa;have HV1:=J (RU1.out.frame (hkv bb O));have GV1:Hid (∀ i,V.frozen? ⟨bb,i,none⟩=false):=fun i=>by rw[World.frozen?_of_block (w:=U) (hkv bb O)];exact FU1.out i
     have KV0:=J ((hkv w.heap.size (by have:=z0;omega)).trans KU0.out);have KV1:=J ((hkv g O).trans KU1.out);have HBV:=J (hlv w O HBU.out);have HDV:Hid (∀ W:World,IJ V V W→(W.cell? ⟨g,4,none⟩=some (II (some ⟨bb,ob,none⟩) a.length c1)∧W.cell? ⟨bm,om+k,none⟩=some (I xmv))):=fun W hW=>⟨bkW KV1.out hW 4 rfl,by have h:=HM.out k hlt W (HBV.out.trans (hW.mono HBV.out.size));rw[hmm_] at h;exact h⟩
     clear hV hra hfa hkv hlv KU0 KU1 RU0 RU1 FU0 FU1 HBU;refine zcj 9 8 (.pure 0 (.read 1 (.pure 2 (.pure 3 (.pure 4 (.pure 5 (.read 6 (.pure 7 (.one 8 .nil))))))))) (fun W=>IJ V V W) (fun W=>IJ w w W) OJ OJ (zci V) (HBV.out.drew) ?_;have YC:=J (zci V);have YB:=J (HBV.out.drew);have Yz:V.heap.size≤V.drew.heap.size:=Nat.le_refl _;have YE:Hid (∀ b:Nat,V.drew.heap[b]? = V.heap[b]?):=fun _=>rfl
     generalize V.drew=Y at *;refine za8 (v:=?_) rfl (fun _ _ _ h=>h) ?_ ?_
     rotate_left
     ·(intro W hSW2;(go_simp<;>with_reducible rfl))
     (try simp only[Act.put,IQ,IZ,OI])
     refine zb7 (v:=?_) rfl (fun _ _ _ h=>h) ?_ ?_
     rotate_left
     ·(intro W hSW2 hSW;(try dsimp only at hSW);obtain⟨q4,qm⟩:=HDV.out W hSW;(go_simp<;>with_reducible rfl))
     (try simp only[Act.put,IQ,IZ,OI])
     iterate 4
      refine za8 (v:=?_) rfl (fun _ _ _ h=>h) ?_ ?_
      rotate_left
      ·(intro W hSW2;(go_simp<;>with_reducible rfl))
      (try simp only[Act.put,IQ,IZ,OI])
     refine zb7 (v:=?_) rfl (fun _ _ _ h=>h) ?_ ?_
     rotate_left
     ·(intro W hSW2 hSW;(try dsimp only at hSW);obtain⟨q4,qm⟩:=HDV.out W hSW;(go_simp<;>with_reducible rfl))
     (try simp only[Act.put,IQ,IZ,OI])
     refine za8 (v:=?_) rfl (fun _ _ _ h=>h) ?_ ?_
     rotate_left
     ·(intro W hSW2;(go_simp<;>with_reducible rfl))
     (try simp only[Act.put,IQ,IZ,OI])
     refine zbl true rfl ?_;refine za9 rfl (fun K hK=>?_);have RY:=J (RowF.frame (w:=V) HV1.out (YE.out bb));have FY:Hid (∀ i,Y.frozen? ⟨bb,i,none⟩=false):=fun i=>by rw[World.frozen?_of_block (w:=V) (YE.out bb)];exact GV1.out i
     have rb_:=RY.out k hlt;have rf_:=FY.out (ob+k);go_simp;obtain⟨Y1,hW1,hr1,hf1,hz1,hk1,hl1⟩:=RY.out.store FY.out k hlt xmv;rw[hW1];have YB1:=J (hl1 w O YB.out);refine hK.out _ _ ⟨YB1.out,fun h=>by cases h⟩ ?_;clear hK K rb_ rf_ hW1;refine zes ?_;simp only[List.drop_succ_cons,List.drop_zero];skip;have HRE:=J (RowF.mix hr1 (by have:=HL.out;omega) (by have:=HL.out;omega) HS2.out);have HR0:=J (RowF.frame (w:=V) HV0.out ((hk1 ba O).trans (YE.out ba)));have GR0:Hid (∀ i,Y1.frozen? ⟨ba,i,none⟩=false):=fun i=>by rw[World.frozen?_of_block (w:=V) ((hk1 ba O).trans (YE.out ba))];exact GV0.out i
     have KW0:=J (((hk1 w.heap.size (by have:=z0;omega)).trans (YE.out _)).trans KV0.out);have KW1:=J (((hk1 g O).trans (YE.out _)).trans KV1.out);go_wp2_with (fail);go_roundw
     case rel=>exact⟨k+1,O,by go_num,YB1.out,O,KW0.out,KW1.out,HR0.out,HRE.out,GR0.out,hf1⟩
     case measure=>simp[intOf];omega
   ·rw[stepC_off hon] at hs
    injection hs with hs1 hs2;have HS1:=J (mixI_same (a:=a) (b:=a2) (c:=k) (by have:=HL.out;omega) (by have:=HL.out;omega) hs1);have HS2:=J (mixI_same (a:=b) (b:=b2) (c:=k) (by have:=HL.out;omega) (by have:=HL.out;omega) hs2);clear hs1 hs2;generalize gi a k=xav at *;generalize gi b k=xbv at *;generalize gi m k=xmv at *
    by_cases e0:least≤xmv
    ·have d1:decide (least≤xmv)=true:=decide_eq_true e0
     have d2:decide (xav<0)=false:=decide_eq_false (fun h=>hon ⟨e0,Or.inl h⟩);have d3:decide (xbv<xmv)=false:=decide_eq_false (fun h=>hon ⟨e0,Or.inr h⟩);clear hon;go_upto_region 5 with (fail);have o0:=zal (w0:=wr) (show g<wr.heap.size by omega);have o1:=zal (w0:=wr) (show ba<wr.heap.size by omega);have o2:=zal (w0:=wr) (show bb<wr.heap.size by omega);have o3:=zal (w0:=wr) (show bm<wr.heap.size by omega);refine zad wr.heap.size wr (Below.refl _ _) OJ OJ ?_
     repeat (go_big_quiet_step (fail))
     refine wpQuiet_nil ?_;rintro _ ⟨X,rfl⟩;clear o0 o1 o2 o3 g0 g1 g2 g3 g4 fz xa xb xm;have hx_:=zaa wr.heap.size wr X;generalize over wr.heap.size wr X=U at *;have zu:=hx_.size;have KU0:=bkH K0 hx_;have KU1:=bkH K1 hx_;have RU0:=J (HRA.out.below hx_ y2);have RU1:=J (HRB.out.below hx_ y3);have FU0:Hid (∀ i,U.frozen? ⟨ba,i,none⟩=false):=fun i=>(hx_.frozen (p:=⟨ba,i,none⟩) y2).trans (HFA.out i)
     have FU1:Hid (∀ i,U.frozen? ⟨bb,i,none⟩=false):=fun i=>(hx_.frozen (p:=⟨bb,i,none⟩) y3).trans (HFB.out i)
     have HBU:=btr HB hx_;clear hx_ K0 K1 HRA HRB HFA HFB HB;go_wp2_with (fail);go_roundw
     case rel=>exact⟨k+1,O,by go_num,HBU.out,O,KU0.out,KU1.out,by rw[HS1.out];exact RU0.out,by rw[HS2.out];exact RU1.out,FU0.out,FU1.out⟩
     case measure=>simp[intOf];omega
    ·have d1:decide (least≤xmv)=false:=decide_eq_false e0
     clear hon;go_upto_region 5 with (fail);have o0:=zal (w0:=wr) (show g<wr.heap.size by omega);have o1:=zal (w0:=wr) (show ba<wr.heap.size by omega);have o2:=zal (w0:=wr) (show bb<wr.heap.size by omega);have o3:=zal (w0:=wr) (show bm<wr.heap.size by omega);refine zad wr.heap.size wr (Below.refl _ _) OJ OJ ?_
     repeat (go_big_quiet_step (fail))
     refine wpQuiet_nil ?_;rintro _ ⟨X,rfl⟩;clear o0 o1 o2 o3 g0 g1 g2 g3 g4 fz xa xb xm;have hx_:=zaa wr.heap.size wr X;generalize over wr.heap.size wr X=U at *;have zu:=hx_.size;have KU0:=bkH K0 hx_;have KU1:=bkH K1 hx_;have RU0:=J (HRA.out.below hx_ y2);have RU1:=J (HRB.out.below hx_ y3);have FU0:Hid (∀ i,U.frozen? ⟨ba,i,none⟩=false):=fun i=>(hx_.frozen (p:=⟨ba,i,none⟩) y2).trans (HFA.out i)
     have FU1:Hid (∀ i,U.frozen? ⟨bb,i,none⟩=false):=fun i=>(hx_.frozen (p:=⟨bb,i,none⟩) y3).trans (HFB.out i)
     have HBU:=btr HB hx_;clear hx_ K0 K1 HRA HRB HFA HFB HB;go_wp2_with (fail);go_roundw
     case rel=>exact⟨k+1,O,by go_num,HBU.out,O,KU0.out,KU1.out,by rw[HS1.out];exact RU0.out,by rw[HS2.out];exact RU1.out,FU0.out,FU1.out⟩
     case measure=>simp[intOf];omega
  ·obtain rfl:k=a.length:=O
   have hqa:=HRA.out;have hqb:=HRB.out;rw[show a.length=a2.length from HL.out.2.1.symm,mixI_all (by have:=HL.out;omega)] at hqa;rw[show a.length=b2.length from HL.out.2.2.1.symm,mixI_all (by have:=HL.out;omega)] at hqb;obtain⟨p0,oA,hA⟩:=RowF.own hqa rfl (Nat.le_refl _) (by have:=HL.out;omega) hca2 (fun q hq=>(gi_eq hq).symm) HFA.out;obtain⟨p1,oB,hB⟩:=RowF.own hqb rfl (Nat.le_refl _) (by have:=HL.out;omega) hcb2 (fun q hq=>(gi_eq hq).symm) HFB.out;rw[HL.out.2.1] at oA;rw[HL.out.2.2.1] at oB;have OV:Hid (OwnV wr [zai a2,zai b2] [II (some ⟨ba,oa,none⟩) a.length c0,II (some ⟨bb,ob,none⟩) a.length c1] (p0++(p1++[]))):=OwnV.cons oA (OwnV.cons oB OwnV.nil (fun y _=>by simp)) (fun y hy hn=>by rw[List.append_nil] at hn;exact n1 ((hA y hy).symm.trans (hB y hn)));have IV:Hid (In w wr (p0++(p1++[]))):=fun y hy=>by
    rcases List.mem_append.1 hy with h|h
    ·rw[hA y h];have:=B0.out.size;omega
    ·rw[List.append_nil] at h
     rw[hB y h];have:=B0.out.size;omega
   have hnf:w.heap.size ∉ (p0++(p1++[])):=fun hm=>by
    rcases List.mem_append.1 hm with h|h
    ·have:=hA _ h;have:=z0;omega
    ·rw[List.append_nil] at h
     have:=hB _ h;have:=z0;omega
   clear hqa hqb oA oB hA hB;obtain⟨r0,r1,r2,r3,r4,rf⟩:=bz5 K0.out;go_wp2;refine bodyPost_ret (v:=.agg #[I st,I wd,I ht,II (some ⟨ba,oa,none⟩) a.length c0,II (some ⟨bb,ob,none⟩) a.length c1]) (by simp[results,Tryz.results44,go_sem, *]) rfl ⟨_,_,_,_,_,rfl,(((((HB.out.setCell (p:=⟨w,0,none⟩) (by show w.heap.size≤w.heap.size;omega) (I st)).setCell (p:=⟨w,1,none⟩) (by show w.heap.size≤w.heap.size;omega) (I wd)).setCell (p:=⟨w,2,none⟩) (by show w.heap.size≤w.heap.size;omega) (I ht)).setCell (p:=⟨w,3,none⟩) (by show w.heap.size≤w.heap.size;omega) (II (some ⟨ba,oa,none⟩) a.length c0)).setCell (p:=⟨w,4,none⟩) (by show w.heap.size≤w.heap.size;omega) (II (some ⟨bb,ob,none⟩) a.length c1)),(((((OV.out.setFar (p:=⟨w,0,none⟩) hnf (I st)).setFar (p:=⟨w,1,none⟩) hnf (I wd)).setFar (p:=⟨w,2,none⟩) hnf (I ht)).setFar (p:=⟨w,3,none⟩) hnf (II (some ⟨ba,oa,none⟩) a.length c0)).setFar (p:=⟨w,4,none⟩) hnf (II (some ⟨bb,ob,none⟩) a.length c1)),by simpa only[zac] using IV.out⟩
end Go.Proofs.YtgmapjgodibchaaGreatDoor
