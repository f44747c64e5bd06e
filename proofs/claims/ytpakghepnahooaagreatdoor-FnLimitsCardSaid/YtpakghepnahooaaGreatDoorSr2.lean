/- Contracts: check values (the program), numbers in decimal, written by the reference. Conditions: bounded sizes. -/
import Derived.Test.YtpakghepnahooaaGreatDoorLv9
set_option linter.unusedVariables false
set_option linter.unusedSimpArgs false
namespace Go.Proofs.YtpakghepnahooaaGreatDoor
open Go.RowKit
set_option maxHeartbeats 16000000
set_option maxRecDepth 100000
theorem infoPt:(Tryz.prog.info? 53).map (fun i=>(i.zero,i.size,i.bytes))=some (some (.agg #[J 0,J 0]),2,16):=by kernel_rfl
theorem befB_back (a b:DPoint):(decide (b.x<a.x) || (decide (a.x=b.x)&&decide (b.y<a.y))) = !befB a b:=by
 unfold befB;rw[Bool.eq_iff_iff];simp;omega
def atK (r:Bool) (k:Nat):Nat:=if r=true then 16-k else k
def listK (r:Bool) (p q:DPoint):List DPoint:=(List.range 17).map fun k=>zdf p q (atK r k)
theorem listK_len (r:Bool) (p q:DPoint):(listK r p q).length=17:=by simp[listK]
theorem listK_at (r:Bool) (p q:DPoint) (k:Nat) (h:k<(listK r p q).length):(listK r p q)[k]=zdf p q (atK r k):=by simp[listK]
def plK (a b:DPoint) (j:Nat):DPoint:=if befB a b=true then zdf a b j else zdf b a (16-j)
theorem plK_at (a b:DPoint) (j:Nat) (h:j<(zdb a b).length):(zdb a b)[j]=plK a b j:=by
 have hj:j<17:=by rw[zdi] at h;exact h
 have key:(zdb a b)[j]? = some (plK a b j):=by
  unfold zdb plK
  by_cases hB:befB a b=true
  ·rw[if_pos hB,if_pos hB]
   unfold zeu;rw[List.getElem?_map,List.getElem?_range hj];rfl
  ·rw[if_neg hB,if_neg hB,List.getElem?_reverse (by rw[zdh];exact hj),zdh]
   unfold zeu;rw[List.getElem?_map,List.getElem?_range II]
   rfl
 rw[List.getElem?_eq_getElem h] at key;exact Option.some.inj key
theorem flatv_get {α:Type} (g:α→List Value) (k:Nat) (hg:∀ x,(g x).length=k):(l:List α)→(i:Nat)→(hi:i<l.length)→(j:Nat)→(hj:j<k)→(l.flatMap g)[i*k+j]? = (g l[i])[j]?:=by
 intro l
 induction l with
 | nil=>intro i hi;simp at hi
 | cons x l ih =>
  intro i hi j hj;rw[List.flatMap_cons]
  cases i with
  | zero=>rw[List.getElem?_append_left (by rw[hg];omega)];simp
  | succ i =>
   have e:(i+1)*k+j=k+(i*k+j):=by rw[Nat.succ_mul];omega
   rw[List.getElem?_append_right (by rw[hg];omega),hg,e,Nat.add_sub_cancel_left]
   simpa using ih i (by simpa using hi) j hj
def ptVs (x:DPoint):List Value:=[J x.x,J x.y]
theorem ptVs_len (x:DPoint):(ptVs x).length=2:=rfl
theorem listK_own {w:World} {R:Bool} {p q:DPoint} {v:Option Addr} {c:Nat} {fp:List Nat} {lo hi:Nat} (h:Own w (.sl 2 ((listK R p q).flatMap DPoint.tr)) (IZ v 17 c) fp) (hin:In lo hi fp) :
  17≤c∧c≤maxLen∧∃ b o,v=some ⟨b,o,none⟩∧lo≤b∧b<hi∧(∀ j,w.frozen? ⟨b,j,none⟩=false)∧∀ j,j<17→w.cell? ⟨b,o+j*2,none⟩=some (J (zdf p q (atK R j)).x)∧w.cell? ⟨b,o+j*2+1,none⟩=some (J (zdf p q (atK R j)).y):=by
 have e1:(listK R p q).flatMap DPoint.tr=((listK R p q).flatMap ptVs).map .lit:=by
  rw[List.map_flatMap];rfl
 rw[e1] at h;obtain⟨hl,h1,h2,h3⟩:=h.rowV;obtain⟨b,o,ea,ef,hr⟩:=h3 (fun e=>by have h_:=congrArg List.length e;rw[hl] at h_;simp at h_);subst ea ef;have hb:=hin b (by simp);refine⟨h1,h2,b,o,rfl,hb.1,hb.2,hr.free,fun j hj=>?_⟩;have hlj:j<(listK R p q).length:=by rw[listK_len];exact hj
 have k0:=flatv_get ptVs 2 ptVs_len (listK R p q) j hlj 0 II;have k1:=flatv_get ptVs 2 ptVs_len (listK R p q) j hlj 1 II;rw[listK_at] at k0 k1;exact⟨hr.cell _ _ (by rw[Nat.add_zero] at k0;exact k0),by rw[Nat.add_assoc];exact hr.cell _ _ k1⟩
theorem flat_take1 {α β:Type} (g:α→List β) (l:List α) (k:Nat) (h:k<l.length):(l.take (k+1)).flatMap g=(l.take k).flatMap g++g l[k]:=by
 rw[List.take_succ_eq_append_getElem h,List.flatMap_append];simp
theorem iPlaces_any (a b:DPoint) (ha:ptB a) (hb:ptB b) (w:World) :
  Calls Tryz.prog 173 #[.agg #[J a.x,J a.y],.agg #[J b.x,J b.y],J 17] w fun e w'=>∃ b' o' c':Nat,e=.returned (IZ (some ⟨b',o',none⟩) 17 c')∧OI w w w'∧17≤c'∧c'≤maxLen∧w.heap.size≤b'∧b' < w'.heap.size∧∀ j:Nat,j<17→w'.cell? ⟨b',o' + j*2,none⟩=some (J (plK a b j).x)∧w'.cell? ⟨b',o' + j*2+1,none⟩=some (J (plK a b j).y):=by
 obtain⟨i0,hi0,hz0,hz1,hz2⟩:=info_parts infoPt;unfold ptB at ha hb;obtain⟨⟨ax0,ax1⟩,ay0,ay1⟩:=ha;obtain⟨⟨bx0,bx1⟩,by0,by1⟩:=hb;obtain⟨W0,hW0,b0_,z0,k0,k1⟩:=zfe w #[J a.x,J a.y] 53 #[J b.x,J b.y] 53;have HW0:=IJ hW0;have B0:=IJ b0_;have HD:=IJ (fun (W:World) (hW:OI W0 W0 W)=>bx2 k0 hW <| by2 k1 hW);have HB:Hid (OI W0 W0 W0):=Below.refl _ _;have K0:=IJ k0;have K1:=IJ k1;clear k0 k1 hW0 b0_;go_enter Tryz.func173,Tryz.ntmps173;go_upto_region 1 with (fail);rw[HW0.out];obtain⟨t0,t1,t2,t3⟩:=HD.out _ HB.out;go_cut [7] (fun s7 wx=>s7=.bool (befB a b)∧W0=wx)
 case first =>
  by_cases c1:a.x<b.x
  ·have C1:=IJ c1
   have e1:decide (a.x<b.x)=true:=decide_eq_true c1;clear c1;go_wp2_with fail;go_meet;exact⟨by rw[befB,decide_eq_true C1.out,Bool.true_or],rfl⟩
  have C1:=IJ c1;have e1:decide (a.x<b.x)=false:=decide_eq_false c1;clear c1
  by_cases c2:a.x=b.x
  ·have e2:(a.x == b.x)=true:=beq_iff_eq.2 c2
   have C2:=IJ c2;clear c2;go_wp2_with fail;go_meet;exact⟨by rw[befB,decide_eq_false (p:=a.x<b.x) (by have:=C1.out;omega),decide_eq_true C2.out,Bool.true_and,Bool.false_or],rfl⟩
  ·have e2:(a.x == b.x)=false:=beq_eq_false_iff_ne.2 c2
   have C2:=IJ c2;clear c2;go_wp2_with fail;go_meet;exact⟨by rw[befB,decide_eq_false (p:=a.x<b.x) (by have:=C1.out;omega),decide_eq_false C2.out,Bool.false_and,Bool.false_or],rfl⟩
 obtain⟨rfl,rfl⟩:=hcut;obtain⟨t0,t1,t2,t3⟩:=HD.out _ HB.out;go_upto_if 30 with (fail);go_cut [7] (fun s7 wx=>s7=.bool (befB a b)∧∃ p q:DPoint,(∀ j,plK a b j=zdf p q (atK (!befB a b) j))∧wx.heap[w.heap.size]? = some (.cells #[J p.x,J p.y] 53 (0,0))∧wx.heap[w.heap.size+1]? = some (.cells #[J q.x,J q.y] 53 (0,0))∧OI w w wx∧w.heap.size+2≤wx.heap.size∧((0≤p.x∧p.x≤200000)∧(0≤p.y∧p.y≤200000))∧((0≤q.x∧q.x≤200000)∧(0≤q.y∧q.y≤200000)))
 case first =>
  cases hB:befB a b with
  | true =>
   have HBB:=IJ hB;go_wp2_with fail;go_meet;exact⟨by rw[HBB.out],a,b,fun j=>by unfold plK;rw[HBB.out];rfl,K0.out,K1.out,B0.out,z0,⟨⟨ax0,ax1⟩,ay0,ay1⟩,⟨bx0,bx1⟩,by0,by1⟩
  | false =>
   have HPB:Hid (∀ j,plK a b j=zdf b a (atK (!befB a b) j)):=fun j=>by unfold plK;rw[hB];rfl
   have HBB:=IJ hB;clear hB;obtain⟨y0,y1,yf⟩:=bz2 K0.out;obtain⟨u0,u1,uf⟩:=bz2 K1.out;have kf_:(((W0.setCell ⟨w,0,none⟩ (J b.x)).setCell ⟨w,1,none⟩ (J b.y))).heap[w.heap.size]? = some (.cells #[J b.x,J b.y] 53 (0,0)):=by
    have h_:=(bkS (bkS K0.out 0 (J b.x)) 1 (J b.y))
    simpa using h_
   have kpQ1:=IJ kf_;clear kf_;have bbQ1:=IJ ((B0.out.setCell (p:=⟨w,0,none⟩) (by show w.heap.size≤w.heap.size;have:=B0.out.size;omega) (J b.x)).setCell (p:=⟨w,1,none⟩) (by show w.heap.size≤w.heap.size;have:=B0.out.size;omega) (J b.y));have bsQ1:W0.heap.size≤(((W0.setCell ⟨w,0,none⟩ (J b.x)).setCell ⟨w,1,none⟩ (J b.y))).heap.size:=by simp only[zac];exact Nat.le_refl _
   have kqQ1:=IJ (bkO (bkO K1.out (p:=⟨w,0,none⟩) (by show w.heap.size+1≠w.heap.size;omega) (J b.x)) (p:=⟨w,1,none⟩) (by show w.heap.size+1≠w.heap.size;omega) (J b.y));have kf_:(((((W0.setCell ⟨w,0,none⟩ (J b.x)).setCell ⟨w,1,none⟩ (J b.y)).setCell ⟨w.heap.size+1,0,none⟩ (J a.x)).setCell ⟨w.heap.size+1,1,none⟩ (J a.y))).heap[w.heap.size+1]? = some (.cells #[J a.x,J a.y] 53 (0,0)):=by
    have h_:=(bkS (bkS kqQ1.out 0 (J a.x)) 1 (J a.y))
    simpa using h_
   have kqQ2:=IJ kf_;clear kf_;have bbQ2:=IJ ((bbQ1.out.setCell (p:=⟨w.heap.size+1,0,none⟩) (by show w.heap.size≤w.heap.size+1;have:=bbQ1.out.size;omega) (J a.x)).setCell (p:=⟨w.heap.size+1,1,none⟩) (by show w.heap.size≤w.heap.size+1;have:=bbQ1.out.size;omega) (J a.y));have bsQ2:((W0.setCell ⟨w,0,none⟩ (J b.x)).setCell ⟨w,1,none⟩ (J b.y)).heap.size≤(((((W0.setCell ⟨w,0,none⟩ (J b.x)).setCell ⟨w,1,none⟩ (J b.y)).setCell ⟨w.heap.size+1,0,none⟩ (J a.x)).setCell ⟨w.heap.size+1,1,none⟩ (J a.y))).heap.size:=by simp only[zac];exact Nat.le_refl _
   have kpQ2:=IJ (bkO (bkO kpQ1.out (p:=⟨w.heap.size+1,0,none⟩) (by show w.heap.size≠w.heap.size+1;omega) (J a.x)) (p:=⟨w.heap.size+1,1,none⟩) (by show w.heap.size≠w.heap.size+1;omega) (J a.y));have hzz:w.heap.size+2≤((((W0.setCell ⟨w,0,none⟩ (J b.x)).setCell ⟨w,1,none⟩ (J b.y)).setCell ⟨w.heap.size+1,0,none⟩ (J a.x)).setCell ⟨w.heap.size+1,1,none⟩ (J a.y)).heap.size:=by simp only[zac];omega
   go_wp2_with fail;go_meet;exact⟨by rw[HBB.out],b,a,HPB.out,kpQ2.out,kqQ2.out,bbQ2.out,hzz,⟨⟨bx0,bx1⟩,by0,by1⟩,⟨ax0,ax1⟩,ay0,ay1⟩
 obtain⟨rfl,p,q,hpl,kp_,kq_,hbW,hz4,⟨⟨px0,px1⟩,py0,py1⟩,⟨qx0,qx1⟩,qy0,qy1⟩:=hcut;generalize wc=w4 at *;have HPL:=IJ hpl;have KP:=IJ kp_;have KQ:=IJ kq_;have B4:=IJ hbW;clear hpl kp_ kq_ hbW K0 K1 HD HB B0 HW0 ax0 ax1 ay0 ay1 bx0 bx1 by0 by1;have HD:Hid (∀ W:World,OI w4 w4 W→(W.cell? ⟨w,0,none⟩=some (J p.x)∧W.cell? ⟨w,1,none⟩=some (J p.y)∧W.cell? ⟨w.heap.size+1,0,none⟩=some (J q.x)∧W.cell? ⟨w.heap.size+1,1,none⟩=some (J q.y))):=fun W hW=>⟨(bat hW w.heap.size _ II).trans (bkC KP.out 0 rfl),(bat hW w.heap.size _ II).trans (bkC KP.out 1 rfl),(bat hW (w.heap.size+1) _ II).trans (bkC KQ.out 0 rfl),(bat hW (w.heap.size+1) _ II).trans (bkC KQ.out 1 rfl)⟩
 clear KP KQ t0 t1 t2 t3;generalize hRB:(befB a b)=rb at *;have HRB:=IJ hRB;clear hRB;go_wp2;go_loopw [8,34] (fun ps ki wr=>∃ k:Nat,k≤17∧ki=J (k:Int)∧OI w4 w4 wr∧Grow wr w4.heap.size 53 2 ps k (((listK false p q).take k).flatMap DPoint.tr) []) (fun ps ki wr=>17-(intOf ki).toNat)
 case atStart=>exact⟨0,II,rfl,Below.refl _ _,Grow.nil⟩
 case round =>
  obtain⟨k,hk,rfl,hbw,hgr⟩:=hrel;have HB:=IJ hbw;have HG:=IJ hgr;clear hbw hgr;have k0:(0:Int)≤(k:Int):=II
  have hzr:w4.heap.size≤wr.heap.size:=HB.out.size
  by_cases hlt:k<17
  ·have k1:(k:Int)<17:=II
   have hnx:=listK_at false p q k (by rw[listK_len];exact hlt);have hfl:=flat_take1 DPoint.tr (listK false p q) k (by rw[listK_len];exact hlt);rw[hnx] at hfl;have HFL:=IJ hfl;clear hnx hfl;rw[show atK false k=k from rfl] at HFL;go_upto_region 8 with (fail);have mx:=ze8 (a:=(k:Int)) (b:=q.x-p.x) 16 200000 II II II II II II;have my:=ze8 (a:=(k:Int)) (b:=q.y-p.y) 16 200000 II II II II II II;have rx:=rdiv_bd (a:=(k:Int)*(q.x-p.x)) (b:=16) II 3200000 II II;have ry:=rdiv_bd (a:=(k:Int)*(q.y-p.y)) (b:=16) II 3200000 II II;have h1:IntKind.i64.wrap (q.x-p.x)=q.x-p.x:=IntWalk.i64_in _ II;have h2:IntKind.i64.wrap (q.y-p.y)=q.y-p.y:=IntWalk.i64_in _ II;have h3:IntKind.i64.wrap ((k:Int)*(q.x-p.x))=(k:Int)*(q.x-p.x):=IntWalk.i64_in _ II;have h4:IntKind.i64.wrap ((k:Int)*(q.y-p.y))=(k:Int)*(q.y-p.y):=IntWalk.i64_in _ II;have h5:IntKind.i64.wrap (p.x+rdiv ((k:Int)*(q.x-p.x)) 16)=p.x+rdiv ((k:Int)*(q.x-p.x)) 16:=IntWalk.i64_in _ II;have h6:IntKind.i64.wrap (p.y+rdiv ((k:Int)*(q.y-p.y)) 16)=p.y+rdiv ((k:Int)*(q.y-p.y)) 16:=IntWalk.i64_in _ II;have HPK:Hid (zdf p q k=⟨p.x+rdiv ((k:Int)*(q.x-p.x)) 16,p.y+rdiv ((k:Int)*(q.y-p.y)) 16⟩):=rfl;have CX:Hid (∀ W:World,Calls Tryz.prog 180 #[J ((k:Int)*(q.x-p.x)),J 16] W fun e w'=>e=.returned (J (rdiv ((k:Int)*(q.x-p.x)) 16))∧OI W W w'):=fun W=>zbx _ _ II II II II W
   have CY:Hid (∀ W:World,Calls Tryz.prog 180 #[J ((k:Int)*(q.y-p.y)),J 16] W fun e w'=>e=.returned (J (rdiv ((k:Int)*(q.y-p.y)) 16))∧OI W W w'):=fun W=>zbx _ _ II II II II W
   clear mx my rx ry;have HDR:Hid (∀ W:World,OI wr wr W→_):=fun W hW=>HD.out W (HB.out.trans (hW.mono HB.out.size))
   have HBR:Hid (OI wr wr wr):=Below.refl _ _;refine zaz 29 (.read 0 (.read 1 (.read 2 (.read 3 (.read 4 (.read 5 (.read 6 (.read 7 (.read 8 (.read 9 (.read 10 (.read 11 (.read 14 (.read 15 (.read 16 (.read 17 (.read 18 (.read 19 (.read 20 (.read 21 (.read 22 (.read 23 (.read 24 (.one 12 (.read 13 (.one 25 (.read 26 (.read 27 (.one 28 .nil))))))))))))))))))))))))))))) (fun W=>OI wr wr W) JI JI (HBR.out.drew) ?_;have YB:=IJ (HBR.out.drew);have Yz:wr.heap.size≤wr.drew.heap.size:=Nat.le_refl _;generalize wr.drew=Y at *
   iterate 23
    refine zap (v:=?_) rfl (fun _ _ _ h=>h) ?_ ?_
    rotate_left
    ·(intro W hSW;(try dsimp only at hSW);obtain⟨t0,t1,t2,t3⟩:=HDR.out W hSW;(go_simp<;>with_reducible rfl))
    (try simp only[Act.put,OO,OJ,OQ])
   refine zah ?_;refine zaf rfl (fun K hK=>?_);go_simp;refine ((fun W (_:OI wr wr W)=>CX.out W) _ YB.out).mono ?_;rintro e Y1 ⟨rfl,hb1⟩;have YB1:=btr YB hb1;refine hK.out _ _ YB1.out ?_;clear hK K;have bs1:=hb1.size;clear hb1;refine zap (v:=?_) rfl (fun _ _ _ h=>h) ?_ ?_
   rotate_left
   ·(intro W hSW;(try dsimp only at hSW);obtain⟨t0,t1,t2,t3⟩:=HDR.out W hSW;(go_simp<;>with_reducible rfl))
   (try simp only[Act.put,OO,OJ,OQ])
   refine zah ?_;refine zaf rfl (fun K hK=>?_);go_simp;refine ((fun W (_:OI wr wr W)=>CY.out W) _ YB1.out).mono ?_;rintro e Y2 ⟨rfl,hb2⟩;have YB2:=btr YB1 hb2;refine hK.out _ _ YB2.out ?_;clear hK K;have bs2:=hb2.size;clear hb2
   iterate 2
    refine zap (v:=?_) rfl (fun _ _ _ h=>h) ?_ ?_
    rotate_left
    ·(intro W hSW;(try dsimp only at hSW);obtain⟨t0,t1,t2,t3⟩:=HDR.out W hSW;(go_simp<;>with_reducible rfl))
    (try simp only[Act.put,OO,OJ,OQ])
   refine zah ?_;refine zaf rfl (fun K hK=>?_);go_simp;refine hK.out _ _ (YB2.out.trans ((zak Y2 _).mono YB2.out.size)) ?_;clear hK K
   (try simp only[Act.put,OO,OJ,OQ])
   refine zax ?_;simp only[List.drop_succ_cons,List.drop_zero];have hX:=YB2.out;have HG5:=IJ (HG.out.below (lo:=0) In.nil hX);have HB5:=btr HB hX;have hz5:w4.heap.size≤Y2.heap.size:=HB5.out.size;clear hX CX CY h1 h2 h3 h4 h5 h6;refine zao rfl (.tmp 37) (.tmp 65) _ rfl w4.heap.size 53 i0 _ 2 16 Tryz.underlying197 hi0 hz0 hz1 hz2 rfl II _ _ _ [] rfl HG5.out [J (p.x+rdiv ((k:Int)*(q.x-p.x)) 16),J (p.y+rdiv ((k:Int)*(q.y-p.y)) 16)] (DPoint.tr ⟨p.x+rdiv ((k:Int)*(q.x-p.x)) 16,p.y+rdiv ((k:Int)*(q.y-p.y)) 16⟩) [] rfl 1 rfl (fun u hu=>by simp at hu;rcases hu with rfl|rfl<;>rfl) (RepV_lits _ [J (p.x+rdiv ((k:Int)*(q.x-p.x)) 16),J (p.y+rdiv ((k:Int)*(q.y-p.y)) 16)]) List.nodup_nil (fun b h=>by simp at h) 0 In.nil In.nil (by simp) (by simp) (by unfold maxLen;omega) II II ?_;intro v2 w6 hgn;have HGN:=IJ hgn;clear hgn;go_wp2;go_roundw
   case rel =>
    refine⟨k+1,II,by go_num,HB5.out.trans HGN.out.below,?_⟩;rw[HFL.out,HPK.out]
    simpa using HGN.out.grow
   case measure=>simp[intOf];omega
  ·obtain rfl:k=17:=II
   rw[List.take_of_length_le (by rw[listK_len];omega)] at HG;obtain⟨av,cv,fv,ev,ov,iv⟩:=HG.out.toOwn (lo:=w4.heap.size) II In.nil II;subst ev;obtain⟨hnc,hcm,bq,oq,ea_,hb1,hb2,hfz,hcl⟩:=listK_own ov iv;subst ea_;have HFZ:=IJ hfz;have HCL:=IJ hcl;clear HG ov iv hfz hcl
   cases rb with
   | true =>
    go_wp2;go_ret
    exact⟨bq,oq,cv,rfl,B4.out.trans (HB.out.mono B4.out.size),hnc,hcm,Nat.le_trans B4.out.size hb1,hb2,fun j hj=>by
     have h_:=HCL.out j hj
     rw[HPL.out j];exact h_⟩
   | false =>
    go_wp2_with (go_at_call 209;with_reducible refine (revP_any 17 bq oq cv (fun j=>(zdf p q j).x) (fun j=>(zdf p q j).y) _ II II hnc hcm (fun j hj=>HCL.out j hj) HFZ.out).mono ?_;rintro e v1 ⟨rfl,hch_,hcl_,hfz_⟩);have HC2:=IJ hcl_;have HBV:=IJ (HB.out.trans (hch_.below (B:=w4.heap.size) II (fun x hx=>by simp at hx;omega)));have hv1:wr.heap.size≤v1.heap.size:=hch_.size;clear hch_ hcl_ hfz_;go_ret
    exact⟨bq,oq,cv,rfl,B4.out.trans (HBV.out.mono B4.out.size),hnc,hcm,Nat.le_trans B4.out.size hb1,II,fun j hj=>by
     have h_:=HC2.out j hj
     rw[HPL.out j];exact h_⟩
set_option maxHeartbeats 8000000
set_option maxRecDepth 100000
def byteT (b:UInt8):Tr:=.lit (.int .u8 (b.toNat:Int))
def bytesT (l:List UInt8):Tr:=.sl 1 (l.map byteT)
theorem Rd.bytes {B:Nat} {w:World} {l:List UInt8} {v:Value} (h:Rd B w (bytesT l) v) :
  ∃ a c,v=IZ a l.length c∧l.length≤c∧c≤maxLen∧(0<l.length→∃ b off,a=some ⟨b,off,none⟩∧b<B∧∀ (i:Nat) (hi:i<l.length),w.cell? ⟨b,off+i,none⟩=some (.int .u8 (l[i].toNat:Int))):=by
 obtain⟨a,c,hv,h1,h2,h3⟩:=Rd.slAt1 h;refine⟨a,c,hv,h1,h2,fun hn=>?_⟩;obtain⟨b,off,ha,hb,hat⟩:=h3 hn;refine⟨b,off,ha,hb,fun i hi=>?_⟩;obtain⟨u,hu,hr⟩:=hat i hi;rw[hu,Rd.lit.1 hr]
theorem infoB:(Tryz.prog.info? 5).map (fun i=>(i.zero,i.size,i.bytes))=some (some (.int .u8 0),1,1):=by kernel_rfl
theorem own_empty1 (w:World) (E:Nat):(w.alloc (.cells #[] E)).ownsRow w.heap.size E 1 (IZ (some ⟨w,0,none⟩) 0 0) 0 [] :=
 ⟨rfl,Or.inr ⟨w.heap.size,0,#[],rfl,Nat.le_refl _,by show (w.heap.push _)[w.heap.size]? = _;simp,Nat.le_refl _,Nat.zero_le _,rfl,by simp⟩⟩
theorem grow_none1 (w:World) (E B:Nat) (hB:B≤w.heap.size):Grow (w.alloc (.cells #[] E)) w.heap.size E 1 (IZ (some ⟨w,0,none⟩) 0 0) 0 [] []:=⟨⟨[],own_empty1 w E,rfl⟩,List.nodup_nil,fun b h=>by simp at h,fun g _=>by simp⟩
def decR (m:Int):List UInt8:=if m=0 then [] else Go.Lib.decDigits m.natAbs
theorem dec_step (u:Nat) (h:0<u):Go.Lib.decDigits u=(if u / 10=0 then [] else Go.Lib.decDigits (u / 10))++[UInt8.ofNat (48+u % 10)]:=by
 rw[Go.Lib.decDigits]
 split
 ·rename_i h10
  rw[if_pos II,List.nil_append]
  congr 3;omega
 ·rw[if_neg II]
theorem decR_step (m:Int) (h:m≠0):decR m=decR (m.tdiv 10)++[UInt8.ofNat (48+m.natAbs % 10)]:=by
 unfold decR;rw[if_neg h,dec_step m.natAbs II];have h1:(m.tdiv 10).natAbs=m.natAbs / 10:=by rw[Int.natAbs_tdiv];rfl
 rw[h1]
 by_cases h2:m.natAbs / 10=0
 ·rw[if_pos h2,if_pos II]
 ·rw[if_neg h2,if_neg (by intro e;rw[e] at h1;simp at h1;omega)]
theorem digit_val (e:Nat) (h:e<10):((UInt8.ofNat (48+e)).toNat:Int)=48+(e:Int):=by
 rw[UInt8.toNat_ofNat'];have:(48+e) % 256=48+e:=Nat.mod_eq_of_lt II;show (((48+e) % 2 ^ 8:Nat):Int)=_
 rw[show (2:Nat) ^ 8=256 from rfl,this];omega
theorem tdiv_pos10 {m:Int} (h:0≤m):m.tdiv 10=m / 10∧m.tmod 10=m % 10:=⟨Int.tdiv_eq_ediv_of_nonneg h,Int.tmod_eq_emod_of_nonneg h⟩
theorem tdiv_neg10 {m:Int} (h:m<0):m.tdiv 10 = -((-m) / 10)∧m.tmod 10 = -((-m) % 10):=by
 have h2:=tdiv_pos10 (m:=-m) II;rw[← h2.1,← h2.2,Int.neg_tdiv,Int.neg_tmod,Int.neg_neg,Int.neg_neg];exact⟨rfl,rfl⟩
theorem tmod_natAbs (m:Int):(0≤m→m.tmod 10=((m.natAbs % 10:Nat):Int))∧(m<0→m.tmod 10 = -((m.natAbs % 10:Nat):Int)):=by
 constructor<;>intro h
 ·rw[(tdiv_pos10 h).2];omega
 ·rw[(tdiv_neg10 h).2];omega
theorem tdiv_facts (m:Int) (h1:-9223372036854775808≤m) (h2:m≤9223372036854775807):-9223372036854775808≤m.tdiv 10∧m.tdiv 10≤9223372036854775807∧(0≤m→0≤m.tdiv 10)∧(m≤0→m.tdiv 10≤0)∧(m≠0→(m.tdiv 10).natAbs<m.natAbs):=by
 by_cases h:0≤m
 ·rw[(tdiv_pos10 h).1];omega
 ·rw[(tdiv_neg10 II).1];omega
theorem addr_add (b off j:Nat):(⟨b,off,none⟩:Addr).add j=⟨b,off+j,none⟩:=by
 unfold Addr.add
 split
 ·rename_i h;subst h;rfl
 ·rfl
theorem itoa_zero:Go.Lib.itoa 0 = [48]:=by unfold Go.Lib.itoa;rw[if_neg II,show (0:Int).toNat=0 from rfl,Go.Lib.decDigits];rfl
theorem itoa_dec (n:Int):Go.Lib.itoa n=if n<0 then 45::Go.Lib.decDigits n.natAbs else Go.Lib.decDigits n.natAbs:=by
 unfold Go.Lib.itoa
 split
 ·rfl
 ·congr 1;omega
theorem l01Dec_any (n:Int) (hn:I64 n) (w:World):Calls Tryz.prog 124 #[J n] w fun e w'=>e=.returned (IQ (ofL (Go.Lib.itoa n)))∧OI w w w':=by
 by_cases h0:n=0
 ·subst h0
  have HE:=IJ itoa_zero;go_enter Tryz.func124,Tryz.ntmps124;go_wp2;go_ret;exact⟨by rw[HE.out];rfl,Below.refl _ _⟩
 have hn1:=hn.1;have hn2:=hn.2;have hlen:=Go.Lib.itoa_length_le n hn1 hn2;have HIT:=IJ (itoa_dec n);have hdl:(Go.Lib.decDigits n.natAbs).length≤21:=by
  rw[itoa_dec] at hlen
  split at hlen
  ·rw[List.length_cons] at hlen;omega
  ·exact hlen
 have hdr:decR n=Go.Lib.decDigits n.natAbs:=by unfold decR;rw[if_neg h0]
 have hne:0<(Go.Lib.decDigits n.natAbs).length:=by
  rw[← hdr,decR_step n h0];simp
 have hq:(n == 0)=false:=by simpa using h0
 obtain⟨i0,hi0,hz0,hz1,hz2⟩:=info_parts infoB;have b0:OI w w (w.alloc (.cells #[] 5)):=zak _ _;have HB0:=IJ b0;clear b0 hlen;generalize Go.Lib.decDigits n.natAbs=dn at *;have HDR:=IJ hdr;clear hdr;go_enter Tryz.func124,Tryz.ntmps124;go_wp2;go_loopw [3,4] (fun v i wr=>∃ (m:Int) (ds:List UInt8),i=J m∧decR m++ds.reverse=dn∧((0≤n∧0≤m)∨(n<0∧m≤0))∧-9223372036854775808≤m∧m≤9223372036854775807∧OI w w wr∧Grow wr w.heap.size 5 1 v ds.length (ds.map byteT) []) (fun _ i wr=>(intOf i).natAbs)
 case atStart=>exact⟨n,[],rfl,by rw[HDR.out];simp,II,hn1,hn2,HB0.out,by simpa using grow_none1 w 5 0 (Nat.zero_le _)⟩
 case round =>
  obtain⟨m,ds,rfl,heq,hsg,hm1,hm2,hb,hgr⟩:=hrel;have HEQ:=IJ heq;have HB:=IJ hb;have HG:=IJ hgr;have zr:=hb.size;have hdsl:ds.length≤21:=by
   have:=congrArg List.length heq;rw[List.length_append,List.length_reverse] at this;omega
  clear hb hgr heq
  by_cases hm:m=0
  case neg =>
   have hmq:(m != 0)=true:=by simpa using hm
   have HS:=IJ (decR_step m hm);have hel:m.natAbs % 10<10:=Nat.mod_lt _ II;obtain⟨e,he⟩:∃ e,e=m.natAbs % 10:=⟨_,rfl⟩
   rw[← he] at hel;have HDV:=IJ (digit_val e hel);have htm:=tmod_natAbs m;rw[← he] at htm HS;have hdiv:=tdiv_facts m hm1 hm2;have HDI:=IJ hdiv;obtain⟨q,hqq⟩:∃ q,m.tmod 10=q:=⟨_,rfl⟩
   obtain⟨p,hpp⟩:∃ p,m.tdiv 10=p:=⟨_,rfl⟩
   rw[hqq] at htm;rw[hpp] at HS HDI;have hrange:(0≤q∧q≤9∧q=(e:Int))∨(q<0∧-9≤q∧-q=(e:Int)):=II
   have HSG:=IJ hsg;have HM:=IJ hm;have hp1:=HDI.out.1;have hp2:=HDI.out.2.1;clear hdiv htm he hm hsg
   rcases hrange with ⟨hr1,hr2,hr3⟩|⟨hr1,hr2,hr3⟩
   ·have hqe:=IJ hr3
    clear hr3;have w1:(48+q) % 256=48+q:=II
    go_wp2_with (at_builtin;refine zao rfl (.tmp 22) (.tmp 26) _ rfl (w.heap.size) 5 i0 _ 1 1 Tryz.underlying22 hi0 hz0 hz1 hz2 rfl II _ _ _ [] rfl HG.out [_] [.lit _] [] rfl 1 rfl (fun u hu=>by simp at hu;subst hu;rfl) (RepV.lits [_]) List.nodup_nil (fun b h=>by simp at h) 0 In.nil In.nil (by simp) (by simp) (by unfold maxLen;omega) II II ?_;intro v2 w3 hgn);have HGN:=IJ hgn;clear hgn;go_wp2;go_roundw
    case rel =>
     refine⟨p,ds++[UInt8.ofNat (48+e)],by first|assumption|rfl,?_,?_,HDI.out.1,HDI.out.2.1,HB.out.trans HGN.out.below,?_⟩
     ·rw[← HEQ.out,HS.out];simp
     ·have:=HDI.out;have:=HSG.out;omega
     ·rw[List.length_append,List.map_append]
      have hx:=HGN.out.grow;have hd:=HDV.out;have he2:=hqe.out;simp only[List.map_cons,List.map_nil,byteT,hd];rw[← he2];exact hx
    case measure=>have:=HDI.out;have:=HM.out;simp only[intOf];omega
   ·have hqe:=IJ hr3
    clear hr3;have w1:(48 + -q) % 256=48 + -q:=II
    go_wp2_with (at_builtin;refine zao rfl (.tmp 22) (.tmp 26) _ rfl (w.heap.size) 5 i0 _ 1 1 Tryz.underlying22 hi0 hz0 hz1 hz2 rfl II _ _ _ [] rfl HG.out [_] [.lit _] [] rfl 1 rfl (fun u hu=>by simp at hu;subst hu;rfl) (RepV.lits [_]) List.nodup_nil (fun b h=>by simp at h) 0 In.nil In.nil (by simp) (by simp) (by unfold maxLen;omega) II II ?_;intro v2 w3 hgn);have HGN:=IJ hgn;clear hgn;go_wp2;go_roundw
    case rel =>
     refine⟨p,ds++[UInt8.ofNat (48+e)],by first|assumption|rfl,?_,?_,HDI.out.1,HDI.out.2.1,HB.out.trans HGN.out.below,?_⟩
     ·rw[← HEQ.out,HS.out];simp
     ·have:=HDI.out;have:=HSG.out;omega
     ·rw[List.length_append,List.map_append]
      have hx:=HGN.out.grow;have hd:=HDV.out;have he2:=hqe.out;simp only[List.map_cons,List.map_nil,byteT,hd];rw[← he2];exact hx
    case measure=>have:=HDI.out;have:=HM.out;simp only[intOf];omega
  case pos =>
   subst hm;have hrv:ds.reverse=dn:=by have:=HEQ.out;unfold decR at this;simpa using this
   have HRV:=IJ hrv;have hdl2:ds.length=dn.length:=by rw[← hrv,List.length_reverse]
   have hpos:0<ds.length:=II
   clear hsg hm1 hm2 hrv hdl2
   by_cases hneg:n<0
   ·go_upto_region 13 with (at_builtin;refine zao rfl (.tmp 30) (.tmp 31) _ rfl (w.heap.size) 5 i0 _ 1 1 Tryz.underlying22 hi0 hz0 hz1 hz2 rfl II _ _ _ [] rfl HG.out [_] [.lit _] [] rfl 1 rfl (fun u hu=>by simp at hu;subst hu;rfl) (RepV.lits [_]) List.nodup_nil (fun b h=>by simp at h) 0 In.nil In.nil (by simp) (by simp) (by unfold maxLen;omega) II II ?_;intro v2 w3 hgn)
    have HX:Hid ((ds++[45]).reverse=Go.Lib.itoa n):=by show _=_;rw[HIT.out,if_pos hneg,List.reverse_append,HRV.out];rfl
    have hG2:Grow w3 w.heap.size 5 1 v2 (ds++[45]).length ((ds++[45]).map byteT) []:=by
     rw[List.length_append,List.map_append];exact hgn.grow
    have HB3:=IJ (HB.out.trans hgn.below);have z3:=hgn.below.size;have hL1:0<(ds++[45]).length:=by simp
    have hL2:(ds++[45]).length≤22:=by simp<;>omega
    clear hgn;generalize ds++[45]=es at *;clear hneg;obtain⟨av,cv,fv,ev,ov,iv⟩:=hG2.toOwn (lo:=w.heap.size) II In.nil II;subst ev;have hr:=ov.rd iv;obtain⟨a2,c2,e2,h3,h4,hcl2⟩:=Rd.bytes (l:=es) hr;injection e2 with e3 e4 e5;subst e3 e5;obtain⟨b2,off2,ea2,hb2,hat2⟩:=hcl2 hL1;subst ea2;have HAT:=IJ hat2;clear hat2 hcl2 hr ov iv hG2 e4;have bE:=zak w3 (.cells #[] 5);have HBE:=IJ bE;have HGE:=IJ (grow_none1 w3 5 0 (Nat.zero_le _));have hLi:(es.length:Int)≤22:=II
    clear bE;go_wp2;go_loopw [6,7] (fun v i wq=>∃ (k:Nat),k≤es.length∧i=J ((es.length:Int)-1-(k:Int))∧OI w3 w3 wq∧Grow wq w3.heap.size 5 1 v k ((es.reverse.take k).map byteT) []) (fun _ i wq=>(intOf i+1).toNat)
    case atStart=>exact⟨0,Nat.zero_le _,by simp,HBE.out,by simpa using HGE.out⟩
    case round =>
     obtain⟨k,hk,rfl,hb,hgr⟩:=hrel;have HB4:=IJ hb;have HG4:=IJ hgr;have z4:=hb.size;clear hb hgr
     by_cases hlt:k<es.length
     ·have hj:es.length-1-k<es.length:=II
      have hc:=HAT.out (es.length-1-k) hj;rw[← bat HB4.out b2 _ hb2] at hc;have HTK:Hid (es.reverse.take (k+1)=es.reverse.take k++[es[es.length-1-k]]):=by
       show _=_
       rw[List.take_succ_eq_append_getElem (by rw[List.length_reverse];exact hlt),List.getElem_reverse]
      have hji:(es.length:Int)-1-(k:Int)=((es.length-1-k:Nat):Int):=II
      rw[hji];have hjl:((es.length-1-k:Nat):Int)<(es.length:Int):=II
      generalize es[es.length-1-k]=y at *;generalize es.length-1-k=j at *;go_wp2_with (at_builtin;refine zao rfl (.tmp 41) (.tmp 46) _ rfl (w3.heap.size) 5 i0 _ 1 1 Tryz.underlying22 hi0 hz0 hz1 hz2 rfl II _ _ _ [] rfl HG4.out [_] [.lit _] [] rfl 1 rfl (fun u hu=>by simp at hu;subst hu;rfl) (RepV.lits [_]) List.nodup_nil (fun b h=>by simp at h) 0 In.nil In.nil (by simp) (by simp) (by unfold maxLen;omega) II II ?_;intro v5 w5 hgn);have HGN:=IJ hgn;clear hgn;go_wp2;go_roundw
      case rel =>
       refine⟨k+1,II,?_,HB4.out.trans HGN.out.below,?_⟩
       ·congr 1;omega
       ·rw[HTK.out,List.map_append]
        exact HGN.out.grow
      case measure=>simp only[intOf];omega
     ·obtain rfl:k=es.length:=II
      rw[List.take_of_length_le (by rw[List.length_reverse];exact Nat.le_refl _),HX.out] at HG4;have hxl:(Go.Lib.itoa n).length=es.length:=by rw[← HX.out,List.length_reverse]
      rw[← hxl] at HG4;obtain⟨aw,cw,fw,ew,ow,iw⟩:=HG4.out.toOwn (lo:=w3.heap.size) II In.nil II;subst ew;have hr:=ow.rd iw;obtain⟨a5,c5,e5,h5,h6,hcl5⟩:=Rd.bytes (l:=Go.Lib.itoa n) hr;injection e5 with e6 e7 e8;subst e6 e8;obtain⟨b5,off5,ea5,hb5,hat5⟩:=hcl5 II;subst ea5;have hcv:=run_convert_bytes_back (P:=Tryz.prog) wr 22 9 5 ⟨b5,off5,none⟩ cw (Go.Lib.itoa n) Tryz.underlying22 Tryz.underlying5 Tryz.underlying9 (fun j hj=>by rw[addr_add];exact hat5 j hj);have BE:=IJ (HB3.out.trans (HB4.out.mono II));clear hat5 hcl5 hr ow iw HG4 h5 h6 hb5 e7;generalize hit:Go.Lib.itoa n=it at *;rw[hxl];rw[hxl] at hcv;have hki:((es.length:Int)-1-(es.length:Int)<0):=II
      go_wp2;go_ret;exact⟨by first|rfl|(rw[hit];rfl)|(rw[← hit];rfl),BE.out⟩
   ·have HX:Hid (ds.reverse=Go.Lib.itoa n):=by show _=_;rw[HIT.out,if_neg hneg,HRV.out]
    have hG2:=HG.out;have HB3:=HB;have z3:=zr;have hL1:0<ds.length:=II
    have hL2:ds.length≤22:=II
    have hng:¬ n<0:=hneg;have hnn:(0:Int)≤n:=II
    clear hneg hng HEQ HRV;generalize wr=w3 at *;generalize ds=es at *;obtain⟨av,cv,fv,ev,ov,iv⟩:=hG2.toOwn (lo:=w.heap.size) II In.nil II;subst ev;have hr:=ov.rd iv;obtain⟨a2,c2,e2,h3,h4,hcl2⟩:=Rd.bytes (l:=es) hr;injection e2 with e3 e4 e5;subst e3 e5;obtain⟨b2,off2,ea2,hb2,hat2⟩:=hcl2 hL1;subst ea2;have HAT:=IJ hat2;clear hat2 hcl2 hr ov iv hG2 e4;have bE:=zak w3 (.cells #[] 5);have HBE:=IJ bE;have HGE:=IJ (grow_none1 w3 5 0 (Nat.zero_le _));have hLi:(es.length:Int)≤22:=II
    clear bE;go_wp2;go_loopw [6,7] (fun v i wq=>∃ (k:Nat),k≤es.length∧i=J ((es.length:Int)-1-(k:Int))∧OI w3 w3 wq∧Grow wq w3.heap.size 5 1 v k ((es.reverse.take k).map byteT) []) (fun _ i wq=>(intOf i+1).toNat)
    case atStart=>exact⟨0,Nat.zero_le _,by simp,HBE.out,by simpa using HGE.out⟩
    case round =>
     obtain⟨k,hk,rfl,hb,hgr⟩:=hrel;have HB4:=IJ hb;have HG4:=IJ hgr;have z4:=hb.size;clear hb hgr
     by_cases hlt:k<es.length
     ·have hj:es.length-1-k<es.length:=II
      have hc:=HAT.out (es.length-1-k) hj;rw[← bat HB4.out b2 _ hb2] at hc;have HTK:Hid (es.reverse.take (k+1)=es.reverse.take k++[es[es.length-1-k]]):=by
       show _=_
       rw[List.take_succ_eq_append_getElem (by rw[List.length_reverse];exact hlt),List.getElem_reverse]
      have hji:(es.length:Int)-1-(k:Int)=((es.length-1-k:Nat):Int):=II
      rw[hji];have hjl:((es.length-1-k:Nat):Int)<(es.length:Int):=II
      generalize es[es.length-1-k]=y at *;generalize es.length-1-k=j at *;go_wp2_with (at_builtin;refine zao rfl (.tmp 41) (.tmp 46) _ rfl (w3.heap.size) 5 i0 _ 1 1 Tryz.underlying22 hi0 hz0 hz1 hz2 rfl II _ _ _ [] rfl HG4.out [_] [.lit _] [] rfl 1 rfl (fun u hu=>by simp at hu;subst hu;rfl) (RepV.lits [_]) List.nodup_nil (fun b h=>by simp at h) 0 In.nil In.nil (by simp) (by simp) (by unfold maxLen;omega) II II ?_;intro v5 w5 hgn);have HGN:=IJ hgn;clear hgn;go_wp2;go_roundw
      case rel =>
       refine⟨k+1,II,?_,HB4.out.trans HGN.out.below,?_⟩
       ·congr 1;omega
       ·rw[HTK.out,List.map_append]
        exact HGN.out.grow
      case measure=>simp only[intOf];omega
     ·obtain rfl:k=es.length:=II
      rw[List.take_of_length_le (by rw[List.length_reverse];exact Nat.le_refl _),HX.out] at HG4;have hxl:(Go.Lib.itoa n).length=es.length:=by rw[← HX.out,List.length_reverse]
      rw[← hxl] at HG4;obtain⟨aw,cw,fw,ew,ow,iw⟩:=HG4.out.toOwn (lo:=w3.heap.size) II In.nil II;subst ew;have hr:=ow.rd iw;obtain⟨a5,c5,e5,h5,h6,hcl5⟩:=Rd.bytes (l:=Go.Lib.itoa n) hr;injection e5 with e6 e7 e8;subst e6 e8;obtain⟨b5,off5,ea5,hb5,hat5⟩:=hcl5 II;subst ea5;have hcv:=run_convert_bytes_back (P:=Tryz.prog) wr 22 9 5 ⟨b5,off5,none⟩ cw (Go.Lib.itoa n) Tryz.underlying22 Tryz.underlying5 Tryz.underlying9 (fun j hj=>by rw[addr_add];exact hat5 j hj);have BE:=IJ (HB3.out.trans (HB4.out.mono II));clear hat5 hcl5 hr ow iw HG4 h5 h6 hb5 e7;generalize hit:Go.Lib.itoa n=it at *;rw[hxl];rw[hxl] at hcv;have hki:((es.length:Int)-1-(es.length:Int)<0):=II
      go_wp2;go_ret;exact⟨by first|rfl|(rw[hit];rfl)|(rw[← hit];rfl),BE.out⟩
end Go.Proofs.YtpakghepnahooaaGreatDoor
