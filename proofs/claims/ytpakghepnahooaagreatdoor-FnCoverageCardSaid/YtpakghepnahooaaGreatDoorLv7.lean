/- Contracts: losses over one edge, valid profiles, worst places, for the program and for the reference. Conditions: valid profiles. -/
import Derived.Test.YtpakghepnahooaaGreatDoorLv9
set_option linter.unusedVariables false
set_option linter.unusedSimpArgs false
namespace Go.Proofs.YtpakghepnahooaaGreatDoor
open Go.RowKit
set_option maxHeartbeats 16000000
set_option maxRecDepth 100000
theorem infoPt:(Tryz.prog.info? 53).map (fun i=>(i.zero,i.size,i.bytes))=some (some (.agg #[J 0,J 0]),2,16):=by kernel_rfl
theorem befB_back (a b:DPoint):(decide (b.x<a.x) || (decide (a.x=b.x)&&decide (b.y<a.y))) = !befB a b:=by
 unfold befB;rw[Bool.eq_iff_iff];simp;omega
def atK (r:Bool) (k:Nat):Nat:=if r=true then 16-k else k
def listK (r:Bool) (p q:DPoint):List DPoint:=(List.range 17).map fun k=>zdj p q (atK r k)
theorem listK_len (r:Bool) (p q:DPoint):(listK r p q).length=17:=by simp[listK]
theorem listK_at (r:Bool) (p q:DPoint) (k:Nat) (h:k<(listK r p q).length):(listK r p q)[k]=zdj p q (atK r k):=by simp[listK]
def plK (a b:DPoint) (j:Nat):DPoint:=if befB a b=true then zdj a b j else zdj b a (16-j)
theorem plK_at (a b:DPoint) (j:Nat) (h:j<(zdf a b).length):(zdf a b)[j]=plK a b j:=by
 have hj:j<17:=by rw[zdm] at h;exact h
 have key:(zdf a b)[j]? = some (plK a b j):=by
  unfold zdf plK
  by_cases hB:befB a b=true
  ·rw[if_pos hB,if_pos hB]
   unfold zep;rw[List.getElem?_map,List.getElem?_range hj];rfl
  ·rw[if_neg hB,if_neg hB,List.getElem?_reverse (by rw[zdl];exact hj),zdl]
   unfold zep;rw[List.getElem?_map,List.getElem?_range II]
   rfl
 rw[List.getElem?_eq_getElem h] at key;exact Option.some.inj key
theorem flatv_get {α:Type} (g:α→List Value) (k:Nat) (hg:∀ x,(g x).length=k):(l:List α)→(i:Nat)→(hi:i<l.length)→(j:Nat)→(hj:j<k)→(l.flatMap g)[i*k+j]? = (g l[i])[j]?:=by
 intro l
 induction l with
 | nil=>intro i hi;simp at hi
 | cons x l ih =>
  intro i hi j hj;rw[List.flatMap_cons]
  cases i with
  | zero=>rw[List.getElem?_append_left (by rw[hg];omega)];simp
  | succ i =>
   have e:(i+1)*k+j=k+(i*k+j):=by rw[Nat.succ_mul];omega
   rw[List.getElem?_append_right (by rw[hg];omega),hg,e,Nat.add_sub_cancel_left]
   simpa using ih i (by simpa using hi) j hj
def ptVs (x:DPoint):List Value:=[J x.x,J x.y]
theorem ptVs_len (x:DPoint):(ptVs x).length=2:=rfl
theorem listK_own {w:World} {R:Bool} {p q:DPoint} {v:Option Addr} {c:Nat} {fp:List Nat} {lo hi:Nat} (h:Own w (.sl 2 ((listK R p q).flatMap DPoint.tr)) (IZ v 17 c) fp) (hin:In lo hi fp) :
  17≤c∧c≤maxLen∧∃ b o,v=some ⟨b,o,none⟩∧lo≤b∧b<hi∧(∀ j,w.frozen? ⟨b,j,none⟩=false)∧∀ j,j<17→(w,b,o+j*2,J (zdj p q (atK R j)).x)∧(w,b,o+j*2+1,J (zdj p q (atK R j)).y):=by
 have e1:(listK R p q).flatMap DPoint.tr=((listK R p q).flatMap ptVs).map .lit:=by
  rw[List.map_flatMap];rfl
 rw[e1] at h;obtain⟨hl,h1,h2,h3⟩:=h.rowV;obtain⟨b,o,ea,ef,hr⟩:=h3 (fun e=>by have h_:=congrArg List.length e;rw[hl] at h_;simp at h_);subst ea ef;have hb:=hin b Q4a;refine⟨h1,h2,b,o,rfl,hb.1,hb.2,hr.free,fun j hj=>?_⟩;have hlj:j<(listK R p q).length:=by rw[listK_len];exact hj
 have k0:=flatv_get ptVs 2 ptVs_len (listK R p q) j hlj 0 II;have k1:=flatv_get ptVs 2 ptVs_len (listK R p q) j hlj 1 II;rw[listK_at] at k0 k1;exact⟨hr.cell _ _ (by rw[Nat.add_zero] at k0;exact k0),by rw[Nat.add_assoc];exact hr.cell _ _ k1⟩
theorem flat_take1 {α β:Type} (g:α→List β) (l:List α) (k:Nat) (h:k<l.length):(l.take (k+1)).flatMap g=(l.take k).flatMap g++g l[k]:=by
 rw[List.take_succ_eq_append_getElem h,List.flatMap_append];simp
theorem iPlaces_any (a b:DPoint) (ha:ptB a) (hb:ptB b) (w:World) :
  Calls Tryz.prog 173 #[.agg #[J a.x,J a.y],.agg #[J b.x,J b.y],J 17] w fun e w'=>∃ b' o' c':Nat,e=.returned (IZ (some ⟨b',o',none⟩) 17 c')∧OI w w w'∧17≤c'∧c'≤maxLen∧w.heap.size≤b'∧b' < w'.heap.size∧∀ j:Nat,j<17→w'.cell? ⟨b',o' + j*2,none⟩=some (J (plK a b j).x)∧w'.cell? ⟨b',o' + j*2+1,none⟩=some (J (plK a b j).y):=by
 obtain⟨i0,hi0,hz0,hz1,hz2⟩:=info_parts infoPt;unfold ptB at ha hb;obtain⟨⟨ax0,ax1⟩,ay0,ay1⟩:=ha;obtain⟨⟨bx0,bx1⟩,by0,by1⟩:=hb;obtain⟨W0,hW0,b0_,z0,k0,k1⟩:=zdv w #[J a.x,J a.y] 53 #[J b.x,J b.y] 53;have HW0:=IJ hW0;have B0:=IJ b0_;have HD:=IJ (fun (W:World) (hW:OI W0 W0 W)=>bx2 k0 hW <| by2 k1 hW);have HB:Hid (OI W0 W0 W0):=Below.refl _ _;have K0:=IJ k0;have K1:=IJ k1;clear k0 k1 hW0 b0_;go_enter Tryz.func173,Tryz.ntmps173;go_upto_region 1 with (fail);rw[HW0.out];obtain⟨t0,t1,t2,t3⟩:=HD.out _ HB.out;go_cut [7] (fun s7 wx=>s7=.bool (befB a b)∧W0=wx)
 case first =>
  by_cases c1:a.x<b.x
  ·have C1:=IJ c1
   have e1:decide (a.x<b.x)=true:=decide_eq_true c1;clear c1;go_wp2_with fail;go_meet;exact⟨by rw[befB,decide_eq_true C1.out,Bool.true_or],rfl⟩
  have C1:=IJ c1;have e1:decide (a.x<b.x)=false:=decide_eq_false c1;clear c1
  by_cases c2:a.x=b.x
  ·have e2:(a.x == b.x)=true:=beq_iff_eq.2 c2
   have C2:=IJ c2;clear c2;go_wp2_with fail;go_meet;exact⟨by rw[befB,decide_eq_false (p:=a.x<b.x) (by have:=C1.out;omega),decide_eq_true C2.out,Bool.true_and,Bool.false_or],rfl⟩
  ·have e2:(a.x == b.x)=false:=beq_eq_false_iff_ne.2 c2
   have C2:=IJ c2;clear c2;go_wp2_with fail;go_meet;exact⟨by rw[befB,decide_eq_false (p:=a.x<b.x) (by have:=C1.out;omega),decide_eq_false C2.out,Bool.false_and,Bool.false_or],rfl⟩
 obtain⟨rfl,rfl⟩:=hcut;obtain⟨t0,t1,t2,t3⟩:=HD.out _ HB.out;go_upto_if 30 with (fail);go_cut [7] (fun s7 wx=>s7=.bool (befB a b)∧∃ p q:DPoint,(∀ j,plK a b j=zdj p q (atK (!befB a b) j))∧wx.heap[w.heap.size]? = some (.cells #[J p.x,J p.y] 53 (0,0))∧wx.heap[w.heap.size+1]? = some (.cells #[J q.x,J q.y] 53 (0,0))∧OI w w wx∧w.heap.size+2≤wx.heap.size∧((0≤p.x∧p.x≤200000)∧(0≤p.y∧p.y≤200000))∧((0≤q.x∧q.x≤200000)∧(0≤q.y∧q.y≤200000)))
 case first =>
  cases hB:befB a b with
  | true =>
   have HBB:=IJ hB;go_wp2_with fail;go_meet;exact⟨by rw[HBB.out],a,b,fun j=>by unfold plK;rw[HBB.out];rfl,K0.out,K1.out,B0.out,z0,⟨⟨ax0,ax1⟩,ay0,ay1⟩,⟨bx0,bx1⟩,by0,by1⟩
  | false =>
   have HPB:Hid (∀ j,plK a b j=zdj b a (atK (!befB a b) j)):=fun j=>by unfold plK;rw[hB];rfl
   have HBB:=IJ hB;clear hB;obtain⟨y0,y1,yf⟩:=bz2 K0.out;obtain⟨u0,u1,uf⟩:=bz2 K1.out;have kf_:(((W0.setCell ⟨w,0,none⟩ (J b.x)).setCell ⟨w,1,none⟩ (J b.y))).heap[w.heap.size]? = some (.cells #[J b.x,J b.y] 53 (0,0)):=by
    have h_:=(bkS (bkS K0.out 0 (J b.x)) 1 (J b.y))
    simpa using h_
   have kpQ1:=IJ kf_;clear kf_;have bbQ1:=IJ ((B0.out.setCell (p:=⟨w,0,none⟩) (by show w.heap.size≤w.heap.size;have:=B0.out.size;omega) (J b.x)).setCell (p:=⟨w,1,none⟩) (by show w.heap.size≤w.heap.size;have:=B0.out.size;omega) (J b.y));have bsQ1:W0.heap.size≤(((W0.setCell ⟨w,0,none⟩ (J b.x)).setCell ⟨w,1,none⟩ (J b.y))).heap.size:=by simp only[zac];exact Nat.le_refl _
   have kqQ1:=IJ (bkO (bkO K1.out (p:=⟨w,0,none⟩) (by show w.heap.size+1≠w.heap.size;omega) (J b.x)) (p:=⟨w,1,none⟩) (by show w.heap.size+1≠w.heap.size;omega) (J b.y));have kf_:(((((W0.setCell ⟨w,0,none⟩ (J b.x)).setCell ⟨w,1,none⟩ (J b.y)).setCell ⟨w.heap.size+1,0,none⟩ (J a.x)).setCell ⟨w.heap.size+1,1,none⟩ (J a.y))).heap[w.heap.size+1]? = some (.cells #[J a.x,J a.y] 53 (0,0)):=by
    have h_:=(bkS (bkS kqQ1.out 0 (J a.x)) 1 (J a.y))
    simpa using h_
   have kqQ2:=IJ kf_;clear kf_;have bbQ2:=IJ ((bbQ1.out.setCell (p:=⟨w.heap.size+1,0,none⟩) (by show w.heap.size≤w.heap.size+1;have:=bbQ1.out.size;omega) (J a.x)).setCell (p:=⟨w.heap.size+1,1,none⟩) (by show w.heap.size≤w.heap.size+1;have:=bbQ1.out.size;omega) (J a.y));have bsQ2:((W0.setCell ⟨w,0,none⟩ (J b.x)).setCell ⟨w,1,none⟩ (J b.y)).heap.size≤(((((W0.setCell ⟨w,0,none⟩ (J b.x)).setCell ⟨w,1,none⟩ (J b.y)).setCell ⟨w.heap.size+1,0,none⟩ (J a.x)).setCell ⟨w.heap.size+1,1,none⟩ (J a.y))).heap.size:=by simp only[zac];exact Nat.le_refl _
   have kpQ2:=IJ (bkO (bkO kpQ1.out (p:=⟨w.heap.size+1,0,none⟩) (by show w.heap.size≠w.heap.size+1;omega) (J a.x)) (p:=⟨w.heap.size+1,1,none⟩) (by show w.heap.size≠w.heap.size+1;omega) (J a.y));have hzz:w.heap.size+2≤((((W0.setCell ⟨w,0,none⟩ (J b.x)).setCell ⟨w,1,none⟩ (J b.y)).setCell ⟨w.heap.size+1,0,none⟩ (J a.x)).setCell ⟨w.heap.size+1,1,none⟩ (J a.y)).heap.size:=by simp only[zac];omega
   go_wp2_with fail;go_meet;exact⟨by rw[HBB.out],b,a,HPB.out,kpQ2.out,kqQ2.out,bbQ2.out,hzz,⟨⟨bx0,bx1⟩,by0,by1⟩,⟨ax0,ax1⟩,ay0,ay1⟩
 obtain⟨rfl,p,q,hpl,kp_,kq_,hbW,hz4,⟨⟨px0,px1⟩,py0,py1⟩,⟨qx0,qx1⟩,qy0,qy1⟩:=hcut;generalize wc=w4 at *;have HPL:=IJ hpl;have KP:=IJ kp_;have KQ:=IJ kq_;have B4:=IJ hbW;clear hpl kp_ kq_ hbW K0 K1 HD HB B0 HW0 ax0 ax1 ay0 ay1 bx0 bx1 by0 by1;have HD:Hid (∀ W:World,OI w4 w4 W→((W,w.heap.size,0,J p.x)∧(W,w.heap.size,1,J p.y)∧(W,w.heap.size+1,0,J q.x)∧(W,w.heap.size+1,1,J q.y))):=fun W hW=>⟨(bat hW w.heap.size _ II).trans (bkC KP.out 0 rfl),(bat hW w.heap.size _ II).trans (bkC KP.out 1 rfl),(bat hW (w.heap.size+1) _ II).trans (bkC KQ.out 0 rfl),(bat hW (w.heap.size+1) _ II).trans (bkC KQ.out 1 rfl)⟩
 clear KP KQ t0 t1 t2 t3;generalize hRB:(befB a b)=rb at *;have HRB:=IJ hRB;clear hRB;go_wp2;go_loopw [8,34] (fun ps ki wr=>∃ k:Nat,k≤17∧ki=J (k:Int)∧OI w4 w4 wr∧Grow wr w4.heap.size 53 2 ps k (((listK false p q).take k).flatMap DPoint.tr) []) (fun ps ki wr=>17-(intOf ki).toNat)
 case atStart=>exact⟨0,II,rfl,Below.refl _ _,Grow.nil⟩
 case round =>
  obtain⟨k,hk,rfl,hbw,hgr⟩:=hrel;have HB:=IJ hbw;have HG:=IJ hgr;clear hbw hgr;have k0:(0:Int)≤(k:Int):=II
  have hzr:w4.heap.size≤wr.heap.size:=HB.out.size
  by_cases hlt:k<17
  ·have k1:(k:Int)<17:=II
   have hnx:=listK_at false p q k (by rw[listK_len];exact hlt);have hfl:=flat_take1 DPoint.tr (listK false p q) k (by rw[listK_len];exact hlt);rw[hnx] at hfl;have HFL:=IJ hfl;clear hnx hfl;rw[show atK false k=k from rfl] at HFL;go_upto_region 8 with (fail);have mx:=ze1 (a:=(k:Int)) (b:=q.x-p.x) 16 200000 II II II II II II;have my:=ze1 (a:=(k:Int)) (b:=q.y-p.y) 16 200000 II II II II II II;have rx:=rdiv_bd (a:=(k:Int)*(q.x-p.x)) (b:=16) II 3200000 II II;have ry:=rdiv_bd (a:=(k:Int)*(q.y-p.y)) (b:=16) II 3200000 II II;have h1:IntKind.i64.wrap (q.x-p.x)=q.x-p.x:=IntWalk.i64_in _ II;have h2:IntKind.i64.wrap (q.y-p.y)=q.y-p.y:=IntWalk.i64_in _ II;have h3:IntKind.i64.wrap ((k:Int)*(q.x-p.x))=(k:Int)*(q.x-p.x):=IntWalk.i64_in _ II;have h4:IntKind.i64.wrap ((k:Int)*(q.y-p.y))=(k:Int)*(q.y-p.y):=IntWalk.i64_in _ II;have h5:IntKind.i64.wrap (p.x+rdiv ((k:Int)*(q.x-p.x)) 16)=p.x+rdiv ((k:Int)*(q.x-p.x)) 16:=IntWalk.i64_in _ II;have h6:IntKind.i64.wrap (p.y+rdiv ((k:Int)*(q.y-p.y)) 16)=p.y+rdiv ((k:Int)*(q.y-p.y)) 16:=IntWalk.i64_in _ II;have HPK:Hid (zdj p q k=⟨p.x+rdiv ((k:Int)*(q.x-p.x)) 16,p.y+rdiv ((k:Int)*(q.y-p.y)) 16⟩):=rfl;have CX:Hid (∀ W:World,Calls Tryz.prog 180 #[J ((k:Int)*(q.x-p.x)),J 16] W fun e w'=>e=.returned (J (rdiv ((k:Int)*(q.x-p.x)) 16))∧OI W W w'):=fun W=>zbx _ _ II II II II W
   have CY:Hid (∀ W:World,Calls Tryz.prog 180 #[J ((k:Int)*(q.y-p.y)),J 16] W fun e w'=>e=.returned (J (rdiv ((k:Int)*(q.y-p.y)) 16))∧OI W W w'):=fun W=>zbx _ _ II II II II W
   clear mx my rx ry;have HDR:Hid (∀ W:World,OI wr wr W→_):=fun W hW=>HD.out W (HB.out.trans (hW.mono HB.out.size))
   have HBR:Hid (OI wr wr wr):=Below.refl _ _;refine zas 29 (.read 0 (.read 1 (.read 2 (.read 3 (.read 4 (.read 5 (.read 6 (.read 7 (.read 8 (.read 9 (.read 10 (.read 11 (.read 14 (.read 15 (.read 16 (.read 17 (.read 18 (.read 19 (.read 20 (.read 21 (.read 22 (.read 23 (.read 24 (.one 12 (.read 13 (.one 25 (.read 26 (.read 27 (.one 28 .nil))))))))))))))))))))))))))))) (fun W=>OI wr wr W) JI JI (HBR.out.drew) ?_;have YB:=IJ (HBR.out.drew);have Yz:wr.heap.size≤wr.drew.heap.size:=Nat.le_refl _;generalize wr.drew=Y at *
   iterate 23
    refine zak (v:=?_) rfl (fun _ _ _ h=>h) ?_ ?_
    rotate_left
    ·(intro W hSW;(try dsimp only at hSW);obtain⟨t0,t1,t2,t3⟩:=HDR.out W hSW;(go_simp<;>with_reducible rfl))
    (try simp only[Act.put,OO,OJ,OQ])
   refine zaf ?_;refine zae rfl (fun K hK=>?_);go_simp;refine ((fun W (_:OI wr wr W)=>CX.out W) _ YB.out).mono ?_;rintro e Y1 ⟨rfl,hb1⟩;have YB1:=btr YB hb1;refine hK.out _ _ YB1.out ?_;clear hK K;have bs1:=hb1.size;clear hb1;refine zak (v:=?_) rfl (fun _ _ _ h=>h) ?_ ?_
   rotate_left
   ·(intro W hSW;(try dsimp only at hSW);obtain⟨t0,t1,t2,t3⟩:=HDR.out W hSW;(go_simp<;>with_reducible rfl))
   (try simp only[Act.put,OO,OJ,OQ])
   refine zaf ?_;refine zae rfl (fun K hK=>?_);go_simp;refine ((fun W (_:OI wr wr W)=>CY.out W) _ YB1.out).mono ?_;rintro e Y2 ⟨rfl,hb2⟩;have YB2:=btr YB1 hb2;refine hK.out _ _ YB2.out ?_;clear hK K;have bs2:=hb2.size;clear hb2
   iterate 2
    refine zak (v:=?_) rfl (fun _ _ _ h=>h) ?_ ?_
    rotate_left
    ·(intro W hSW;(try dsimp only at hSW);obtain⟨t0,t1,t2,t3⟩:=HDR.out W hSW;(go_simp<;>with_reducible rfl))
    (try simp only[Act.put,OO,OJ,OQ])
   refine zaf ?_;refine zae rfl (fun K hK=>?_);go_simp;refine hK.out _ _ (YB2.out.trans ((zao Y2 _).mono YB2.out.size)) ?_;clear hK K
   (try simp only[Act.put,OO,OJ,OQ])
   refine zat ?_;simp only[List.drop_succ_cons,List.drop_zero];have hX:=YB2.out;have HG5:=IJ (HG.out.below (lo:=0) In.nil hX);have HB5:=btr HB hX;have hz5:w4.heap.size≤Y2.heap.size:=HB5.out.size;clear hX CX CY h1 h2 h3 h4 h5 h6;refine zax rfl (.tmp 37) (.tmp 65) _ rfl w4.heap.size 53 i0 _ 2 16 Tryz.underlying197 hi0 hz0 hz1 hz2 rfl II _ _ _ [] rfl HG5.out [J (p.x+rdiv ((k:Int)*(q.x-p.x)) 16),J (p.y+rdiv ((k:Int)*(q.y-p.y)) 16)] (DPoint.tr ⟨p.x+rdiv ((k:Int)*(q.x-p.x)) 16,p.y+rdiv ((k:Int)*(q.y-p.y)) 16⟩) [] rfl 1 rfl (fun u hu=>by simp at hu;rcases hu with rfl|rfl<;>rfl) (RepV_lits _ [J (p.x+rdiv ((k:Int)*(q.x-p.x)) 16),J (p.y+rdiv ((k:Int)*(q.y-p.y)) 16)]) List.nodup_nil (fun b h=>by simp at h) 0 In.nil In.nil Q4a Q4a Q3v II II ?_;intro v2 w6 hgn;have HGN:=IJ hgn;clear hgn;go_wp2;go_roundw
   case rel =>
    refine⟨k+1,II,by go_num,HB5.out.trans HGN.out.below,?_⟩;rw[HFL.out,HPK.out]
    simpa using HGN.out.grow
   case measure=>simp[intOf];omega
  ·obtain rfl:k=17:=II
   rw[List.take_of_length_le (by rw[listK_len];omega)] at HG;obtain⟨av,cv,fv,ev,ov,iv⟩:=HG.out.toOwn (lo:=w4.heap.size) II In.nil II;subst ev;obtain⟨hnc,hcm,bq,oq,ea_,hb1,hb2,hfz,hcl⟩:=listK_own ov iv;subst ea_;have HFZ:=IJ hfz;have HCL:=IJ hcl;clear HG ov iv hfz hcl
   cases rb with
   | true =>
    go_wp2;go_ret
    exact⟨bq,oq,cv,rfl,B4.out.trans (HB.out.mono B4.out.size),hnc,hcm,Nat.le_trans B4.out.size hb1,hb2,fun j hj=>by
     have h_:=HCL.out j hj
     rw[HPL.out j];exact h_⟩
   | false =>
    go_wp2_with (go_at_call 209;with_reducible refine (revP_any 17 bq oq cv (fun j=>(zdj p q j).x) (fun j=>(zdj p q j).y) _ II II hnc hcm (fun j hj=>HCL.out j hj) HFZ.out).mono ?_;rintro e v1 ⟨rfl,hch_,hcl_,hfz_⟩);have HC2:=IJ hcl_;have HBV:=IJ (HB.out.trans (hch_.below (B:=w4.heap.size) II (fun x hx=>by simp at hx;omega)));have hv1:wr.heap.size≤v1.heap.size:=hch_.size;clear hch_ hcl_ hfz_;go_ret
    exact⟨bq,oq,cv,rfl,B4.out.trans (HBV.out.mono B4.out.size),hnc,hcm,Nat.le_trans B4.out.size hb1,II,fun j hj=>by
     have h_:=HC2.out j hj
     rw[HPL.out j];exact h_⟩
set_option maxHeartbeats 8000000
set_option maxRecDepth 100000
def shrP (p:Pf) (f i:Int):Int:=rdiv (1000*clrP p i) (max (radP p f i) 1)
def wrsP (p:Pf) (f:Int):Int:=zdo (fun x=>-(shrP p f x)) 1 (p.hs.length-3)
structure PfW (p:Pf):Prop where
 d0:-283000≤p.d
 d1:p.d≤283000
 f0:0≤p.f
 f1:p.f≤180000
 l0:0≤p.l
 l1:p.l≤180000
 n0:2≤p.hs.length
 n1:p.hs.length≤65
 hs:∀ k,0≤gi p.hs k∧gi p.hs k≤90000
theorem PfOk.w {p:Pf} (h:PfOk p):PfW p:=⟨by have:=h.d0;omega,h.d1,h.f0,h.f1,h.l0,h.l1,h.n0,h.n1,h.hs⟩
theorem pfB_w {p:Pf} (h:PfW p):pfB p=(inB p.d 1 283000&&(decide (gi p.hs 0≤p.f)&&decide (gi p.hs (p.hs.length-1)≤p.l))):=by
 have a:=zaq.2 (show 0≤p.f∧p.f≤180000 from ⟨h.f0,h.f1⟩);have b:=zaq.2 (show 0≤p.l∧p.l≤180000 from ⟨h.l0,h.l1⟩);have c:decide (2≤(p.hs.length:Int))=true:=decide_eq_true (by have:=h.n0;omega);have d:decide ((p.hs.length:Int)≤65)=true:=decide_eq_true (by have:=h.n1;omega);have e:(p.hs.all fun n=>inB n 0 90000)=true:=gi_allB (fun k _=>h.hs k);unfold pfB;rw[a,b,c,d,e];simp only[Bool.true_and]
theorem offP_diff {p:Pf} (h:PfOk p) {i k:Int} (i0:0≤i) (i1:i≤p.n) (k0:0≤k) (k1:k≤p.n):-283000≤offP p.d p.n k-offP p.d p.n i∧offP p.d p.n k-offP p.d p.n i≤283000:=by
 have a:=off_ok h i0 i1;have b:=off_ok h k0 k1;omega
theorem gi_take (l:List Int) (n k:Nat) (h:k<n):gi (l.take n) k=gi l k:=by
 unfold gi;rw[List.getD_eq_getElem?_getD,List.getD_eq_getElem?_getD,List.getElem?_take_of_lt h]
theorem gi_drop (l:List Int) (n k:Nat):gi (l.drop n) k=gi l (n+k):=by
 unfold gi;rw[List.getD_eq_getElem?_getD,List.getD_eq_getElem?_getD,List.getElem?_drop]
theorem gi_over (l:List Int) (k:Nat) (h:l.length≤k):gi l k=0:=by
 unfold gi;rw[List.getD_eq_getElem?_getD,List.getElem?_eq_none h];rfl
theorem partP_len {p:Pf} {i k:Nat} (hik:i<k) (hk:k<p.hs.length):(zc3 p i k).hs.length=k+1-i:=by
 show ((p.hs.drop (i:Int).toNat).take ((k:Int)+1-(i:Int)).toNat).length=_
 rw[List.length_take,List.length_drop,Int.toNat_natCast];omega
theorem partP_w {p:Pf} (h:PfOk p) {i k:Nat} (hik:i<k) (hk:k<p.hs.length):PfW (zc3 p i k):=by
 have hn:p.n=(p.hs.length:Int)-1:=rfl;have hd:=offP_diff h (i:=i) (k:=k) II II II II;have hl:=partP_len hik hk;have:=h.n1;refine⟨hd.1,hd.2,?_,?_,?_,?_,II,II,fun q=>?_⟩
 ·show 0≤if (i:Int)=0 then p.f else gi p.hs (i:Int).toNat
  split
  ·exact h.f0
  ·exact (h.hs _).1
 ·show (if (i:Int)=0 then p.f else gi p.hs (i:Int).toNat)≤180000
  split
  ·exact h.f1
  ·have:=(h.hs (i:Int).toNat).2;omega
 ·show 0≤if (k:Int)=p.n then p.l else gi p.hs (k:Int).toNat
  split
  ·exact h.l0
  ·exact (h.hs _).1
 ·show (if (k:Int)=p.n then p.l else gi p.hs (k:Int).toNat)≤180000
  split
  ·exact h.l1
  ·have:=(h.hs (k:Int).toNat).2;omega
 ·by_cases hq:q<(zc3 p i k).hs.length
  ·have e:gi (zc3 p i k).hs q=gi p.hs (i+q):=by
    show gi ((p.hs.drop (i:Int).toNat).take ((k:Int)+1-(i:Int)).toNat) q=_
    rw[gi_take _ _ _ II,gi_drop,Int.toNat_natCast]
   rw[e];exact h.hs _
  ·rw[gi_over _ _ II];omega
theorem iEdge_any (nu:Int) (h0:-1000000≤nu) (h1:nu≤1000000) (w:World) (L:LibW w) :
  Calls Tryz.prog 217 #[J nu] w fun e w'=>e=.returned (J (edgI nu))∧OI w w w':=by
 have HE0:Hid (edgI nu=if nu≤-780 then 0 else max (6900+2*(lgI (isq ((nu-100)*(nu-100)+1000000)+(nu-100))-30000)) 0):=rfl;generalize edgI nu=EV at *;have B0:Hid (OI w w w):=Below.refl _ _;have HB:Hid (OI w w w):=Below.refl _ _;have CW:Hid (∀ W:World,OI w w W→Calls Tryz.prog 34 #[J nu,J (-1000000),J 1000000] W fun e w'=>e=.returned (.bool true)∧OI W W w'):=fun  W hW=>by
   have hh:=zal nu (-1000000) 1000000 W;rw[zaq.2 ⟨h0,h1⟩] at hh;exact zbm hh
 by_cases c:nu≤-780
 ·have HE:Hid (EV=0):=by show _=_;rw[HE0.out,if_pos c]
  go_enter Tryz.func217,Tryz.ntmps217;skip;go_wp2_with (first|(go_at_call 34;with_reducible refine (CW.out _ HB.out).mono ?_;rintro e v1 ⟨rfl,hb_⟩;replace HB:=btr HB hb_;clear hb_;skip));exact Q09
 have HE:Hid (EV=max (6900+2*(lgI (isq ((nu-100)*(nu-100)+1000000)+(nu-100))-30000)) 0):=by show _=_;rw[HE0.out,if_neg c]
 obtain⟨⟨a0,a1⟩,b0,b1⟩:=edg_in (nu:=nu) II h1;have lb:=lgI_bd (n:=isq ((nu-100)*(nu-100)+1000000)+(nu-100)) II;have c2:-780<nu:=II
 clear HE0;have CR:Hid (∀ W:World,OI w w W→Calls Tryz.prog 208 #[J ((nu-100)*(nu-100)+1000000)] W fun e w'=>e=.returned (J (isq ((nu-100)*(nu-100)+1000000)))∧OI W W w'):=fun  W hW=>rootOf_any _ II II W
 have CL:Hid (∀ W:World,OI w w W→Calls Tryz.prog 179 #[J (isq ((nu-100)*(nu-100)+1000000)+(nu-100))] W fun e w'=>e=.returned (J (lgI (isq ((nu-100)*(nu-100)+1000000)+(nu-100))))∧OI W W w'):=fun  W hW=>iLogDb_any _ II II W (L.mono (B0.out.trans hW))
 generalize lgI (isq ((nu-100)*(nu-100)+1000000)+(nu-100))=LG at *;generalize isq ((nu-100)*(nu-100)+1000000)=RQ at *;obtain⟨lb0,lb1⟩:=lb;go_enter Tryz.func217,Tryz.ntmps217;skip;go_wp2_with ((first|(go_at_call 34;with_reducible refine (CW.out _ HB.out).mono ?_)|(go_at_call 208;with_reducible refine (CR.out _ HB.out).mono ?_)|(go_at_call 179;with_reducible refine (CL.out _ HB.out).mono ?_));rintro e v1 ⟨rfl,hb_⟩;replace HB:=btr HB hb_;clear hb_;skip);exact Q09
theorem iParOf_any (h r:Int) (h0:-200000≤h) (h1:h≤200000) (r0:0≤r) (r1:r≤2000000000) (w:World) :
  Calls Tryz.prog 237 #[J h,J r] w fun e w'=>e=.returned (J (nuI h r))∧OI w w w':=by
 have HE:Hid (nuI h r=min (max (rdiv (1414*h) (max r 1)) (-1000000)) 1000000):=rfl;have rb:=rdiv_bd (a:=1414*h) (b:=max r 1) II 282800000 II II;generalize nuI h r=NV at *;have B0:Hid (OI w w w):=Below.refl _ _;have HB:Hid (OI w w w):=Below.refl _ _;have CD:Hid (∀ W:World,OI w w W→Calls Tryz.prog 180 #[J (1414*h),J (max r 1)] W fun e w'=>e=.returned (J (rdiv (1414*h) (max r 1)))∧OI W W w'):=fun  W hW=>zbx _ _ II II II II W
 generalize rdiv (1414*h) (max r 1)=RV at *;obtain⟨rb0,rb1⟩:=rb;go_enter Tryz.func237,Tryz.ntmps237;skip;go_wp2_with (first|(go_at_call 180;with_reducible refine (CD.out _ HB.out).mono ?_;rintro e v1 ⟨rfl,hb_⟩;replace HB:=btr HB hb_;clear hb_;skip));exact Q09
theorem iPar_any (P:Pf) (h:PfOk P) (vh:Value) (f:Int) (f0:1≤f) (f1:f≤100000000) (k:Nat) (hk:k<P.hs.length) (w:World) (r:Rd w w (zam P.hs) vh) :
  Calls Tryz.prog 216 #[.agg #[J P.d,J P.f,J P.l,vh],J f,J (k:Int)] w fun e w'=>e=.returned (J (nuP P f k))∧OI w w w':=by
 have HE:Hid (nuP P f k=nuI (-(clrP P k)) (radP P f k)):=rfl;have hn:P.n=(P.hs.length:Int)-1:=rfl;have ki0:0≤(k:Int):=II
 have ki1:(k:Int)≤P.n:=II
 obtain⟨cb0,cb1⟩:=clrP_bd h ki0 ki1;obtain⟨rb0,rb1⟩:=radP_bd h f0 f1 ki0 ki1;obtain⟨W0,hW0,b0_,z0,k0⟩:=zav w #[J P.d,J P.f,J P.l,vh] 149;have HW0:=IJ hW0;have B0:=IJ b0_;have HD:=IJ (fun (W:World) (hW:OI W0 W0 W)=>by4 k0 hW);have HB:Hid (OI W0 W0 W0):=Below.refl _ _;clear k0 hW0 b0_;have CC:Hid (∀ W:World,OI W0 W0 W→Calls Tryz.prog 235 #[.agg #[J P.d,J P.f,J P.l,vh],J (k:Int)] W fun e w'=>e=.returned (J (clrP P k))∧OI W W w'):=fun  W hW=>iClear_any P h vh k hk W (zdr r B0.out hW)
 have CR:Hid (∀ W:World,OI W0 W0 W→Calls Tryz.prog 236 #[.agg #[J P.d,J P.f,J P.l,vh],J f,J (k:Int)] W fun e w'=>e=.returned (J (radP P f k))∧OI W W w'):=fun  W hW=>iRadius_any P h vh f f0 f1 k hk W (zdr r B0.out hW)
 have CP:Hid (∀ W:World,OI W0 W0 W→Calls Tryz.prog 237 #[J (-(clrP P k)),J (radP P f k)] W fun e w'=>e=.returned (J (nuI (-(clrP P k)) (radP P f k)))∧OI W W w'):=fun  W hW=>iParOf_any _ _ II II II II W
 generalize clrP P k=cr at *;generalize radP P f k=rr at *;generalize nuP P f k=nn at *;go_enter Tryz.func216,Tryz.ntmps216;go_upto_region 1 with (fail);rw[HW0.out];obtain⟨t0,t1,t2,t3⟩:=HD.out _ HB.out;go_upto_region 1 with (fail);have o0:=zai (w0:=W0) (show w.heap.size<W0.heap.size by have:=HB.out.size;omega);refine zab W0.heap.size W0 (Below.refl _ _) JI JI ?_
 repeat (go_big_quiet_step (first|(go_at_call 235;with_reducible exact zah (Nat.le_refl _) (CC.out _ (HB.out.trans ((zaa _ _ _).mono HB.out.size))))|(go_at_call 236;with_reducible exact zah (Nat.le_refl _) (CR.out _ (HB.out.trans ((zaa _ _ _).mono HB.out.size))))|(go_at_call 237;with_reducible exact zah (Nat.le_refl _) (CP.out _ (HB.out.trans ((zaa _ _ _).mono HB.out.size))))))
 exact Q28
theorem iShare_any (P:Pf) (h:PfOk P) (vh:Value) (f:Int) (f0:1≤f) (f1:f≤100000000) (k:Nat) (hk:k<P.hs.length) (w:World) (r:Rd w w (zam P.hs) vh) :
  Calls Tryz.prog 215 #[.agg #[J P.d,J P.f,J P.l,vh],J f,J (k:Int)] w fun e w'=>e=.returned (J (shrP P f k))∧OI w w w':=by
 have HE:Hid (shrP P f k=rdiv (1000*clrP P k) (max (radP P f k) 1)):=rfl;have hn:P.n=(P.hs.length:Int)-1:=rfl;have ki0:0≤(k:Int):=II
 have ki1:(k:Int)≤P.n:=II
 obtain⟨cb0,cb1⟩:=clrP_bd h ki0 ki1;obtain⟨rb0,rb1⟩:=radP_bd h f0 f1 ki0 ki1;obtain⟨W0,hW0,b0_,z0,k0⟩:=zav w #[J P.d,J P.f,J P.l,vh] 149;have HW0:=IJ hW0;have B0:=IJ b0_;have HD:=IJ (fun (W:World) (hW:OI W0 W0 W)=>by4 k0 hW);have HB:Hid (OI W0 W0 W0):=Below.refl _ _;clear k0 hW0 b0_;have CC:Hid (∀ W:World,OI W0 W0 W→Calls Tryz.prog 235 #[.agg #[J P.d,J P.f,J P.l,vh],J (k:Int)] W fun e w'=>e=.returned (J (clrP P k))∧OI W W w'):=fun  W hW=>iClear_any P h vh k hk W (zdr r B0.out hW)
 have CR:Hid (∀ W:World,OI W0 W0 W→Calls Tryz.prog 236 #[.agg #[J P.d,J P.f,J P.l,vh],J f,J (k:Int)] W fun e w'=>e=.returned (J (radP P f k))∧OI W W w'):=fun  W hW=>iRadius_any P h vh f f0 f1 k hk W (zdr r B0.out hW)
 have CP:Hid (∀ W:World,OI W0 W0 W→Calls Tryz.prog 180 #[J (1000*clrP P k),J (max (radP P f k) 1)] W fun e w'=>e=.returned (J (rdiv (1000*clrP P k) (max (radP P f k) 1)))∧OI W W w'):=fun  W hW=>zbx _ _ II II II II W
 generalize clrP P k=cr at *;generalize radP P f k=rr at *;generalize shrP P f k=nn at *;go_enter Tryz.func215,Tryz.ntmps215;go_upto_region 1 with (fail);rw[HW0.out];obtain⟨t0,t1,t2,t3⟩:=HD.out _ HB.out;go_upto_region 1 with (fail);have o0:=zai (w0:=W0) (show w.heap.size<W0.heap.size by have:=HB.out.size;omega);refine zab W0.heap.size W0 (Below.refl _ _) JI JI ?_
 repeat (go_big_quiet_step (first|(go_at_call 235;with_reducible exact zah (Nat.le_refl _) (CC.out _ (HB.out.trans ((zaa _ _ _).mono HB.out.size))))|(go_at_call 236;with_reducible exact zah (Nat.le_refl _) (CR.out _ (HB.out.trans ((zaa _ _ _).mono HB.out.size))))|(go_at_call 180;with_reducible exact zah (Nat.le_refl _) (CP.out _ (HB.out.trans ((zaa _ _ _).mono HB.out.size))))))
 exact Q28
theorem iSingle_any (P:Pf) (h:PfOk P) (vh:Value) (f:Int) (f0:1≤f) (f1:f≤100000000) (h3:3≤P.hs.length) (w:World) (r:Rd w w (zam P.hs) vh) (L:LibW w) :
  Calls Tryz.prog 187 #[.agg #[J P.d,J P.f,J P.l,vh],J f] w fun e w'=>e=.returned (.tuple #[J (wstP P f),J (sglP P f)])∧OI w w w':=by
 have HW:Hid (wstP P f=zdo (nuP P f) 1 (P.hs.length-3)):=rfl;have HS:Hid (sglP P f=edgI (nuP P f (wstP P f))):=rfl;have hn:P.n=(P.hs.length:Int)-1:=rfl;have n1_:=h.n1;obtain⟨N,hN⟩:∃ N,P.hs.length=N+3:=⟨P.hs.length-3,II⟩
 have hN2:P.hs.length-3=N:=II
 have hni:P.n=(N:Int)+2:=II
 have hNb:(N:Int)≤62:=II
 rw[hN2] at HW;obtain⟨W0,hW0,b0_,z0,k0⟩:=zav w #[J P.d,J P.f,J P.l,vh] 149;have HW0:=IJ hW0;have B0:=IJ b0_;have HD:=IJ (fun (W:World) (hW:OI W0 W0 W)=>by4 k0 hW);have HB:Hid (OI W0 W0 W0):=Below.refl _ _;clear k0 hW0 b0_;have CL:Hid (∀ W:World,OI W0 W0 W→Calls Tryz.prog 186 #[.agg #[J P.d,J P.f,J P.l,vh]] W fun e w'=>e=.returned (J ((N:Int)+2))∧OI W W w'):=fun  W hW=>by rw[← hni];exact zd8 P II vh W (zdr r B0.out hW)
 have CP:Hid (∀ (x:Int) (hx:0≤x∧x<(N:Int)+3) (W:World),OI W0 W0 W→Calls Tryz.prog 216 #[.agg #[J P.d,J P.f,J P.l,vh],J f,J x] W fun e w'=>e=.returned (J (nuP P f x))∧OI W W w'):=fun x hx W hW=>by
   obtain⟨k,rfl⟩:=Int.eq_ofNat_of_zero_le hx.1;exact iPar_any P h vh f f0 f1 k II W (zdr r B0.out hW)
 have CE:Hid (∀ W:World,OI W0 W0 W→Calls Tryz.prog 217 #[J (nuP P f (wstP P f))] W fun e w'=>e=.returned (J (sglP P f))∧OI W W w'):=fun  W hW=>by
   rw[HS.out];have hh:=nuP_bd P f (wstP P f);exact iEdge_any _ hh.1 hh.2 W (L.mono (B0.out.trans (hW.mono B0.out.size)))
 clear L r;generalize sglP P f=SV at *;generalize wstP P f=WV at *;generalize nuP P f=g at *;go_enter Tryz.func187,Tryz.ntmps187;go_upto_region 1 with (fail);rw[HW0.out];obtain⟨t0,t1,t2,t3⟩:=HD.out _ HB.out;go_wp2;go_loopw [6,7] (fun bs ii wr=>∃ j:Nat,j≤N∧bs=J (zdo g 1 j)∧ii=J (2+(j:Int))∧OI W0 W0 wr) (fun bs ii wr=>(N+2-(intOf ii)).toNat)
 case atStart=>exact⟨0,Nat.zero_le _,rfl,by simp,HB.out⟩
 case round =>
  obtain⟨j,hj,rfl,rfl,hbw⟩:=hrel;clear t0 t1 t2 t3;replace HB:=IJ hbw;clear hbw;obtain⟨t0,t1,t2,t3⟩:=HD.out _ HB.out;obtain⟨bb0,bb1⟩:=zek g 1 j;have es:(1:Int)+((j+1:Nat):Int)=2+(j:Int):=II
  have hji:(j:Int)≤(N:Int):=II
  by_cases hlt:j<N
  ·have hjl:(j:Int)<(N:Int):=II
   have hp:=best_pos (g:=g) (s:=1) (k:=j);have hn2:=best_neg (g:=g) (s:=1) (k:=j);rw[es] at hp hn2;have HP:=IJ hp;have HN:=IJ hn2;clear hp hn2 es HW HS CE;generalize zdo g 1 j=ob at *;go_upto_region 5 with (go_at_call 186;with_reducible refine (CL.out _ HB.out).mono ?_;rintro e v1 ⟨rfl,hb_⟩;(try clear t0 t1 t2 t3);replace HB:=btr HB hb_;clear hb_;obtain⟨t0,t1,t2,t3⟩:=HD.out _ HB.out);have o0:=zai (w0:=v1) (show w.heap.size<v1.heap.size by have:=HB.out.size;omega);refine zab v1.heap.size v1 (Below.refl _ _) JI JI ?_
   repeat (go_big_quiet_step (first|(go_at_call 216;with_reducible exact zah (Nat.le_refl _) (CP.out _ ⟨II,II⟩ _ (HB.out.trans ((zaa _ _ _).mono HB.out.size))))))
   refine wpQuiet_nil ?_;rintro _ ⟨X,rfl⟩;replace HB:=btr HB (zaa v1.heap.size v1 X);clear o0
   (try clear t0 t1 t2 t3)
   generalize over v1.heap.size v1 X=u1 at *;obtain⟨t0,t1,t2,t3⟩:=HD.out _ HB.out
   by_cases hc:g ob<g (2+(j:Int))
   ·have HE2:=IJ (HP.out II)
    go_wp2;exact Q0r
   ·have HE2:=IJ (HN.out II)
    go_wp2;exact Q0r
  ·obtain rfl:j=N:=II
   rw[← HW.out] at bb0 bb1 ⊢;go_wp2_with (first|(go_at_call 186;with_reducible refine (CL.out _ HB.out).mono ?_;rintro e v1 ⟨rfl,hb_⟩;(try clear t0 t1 t2 t3);replace HB:=btr HB hb_;clear hb_;obtain⟨t0,t1,t2,t3⟩:=HD.out _ HB.out)|(go_at_call 216;with_reducible refine (CP.out _ ⟨II,II⟩ _ HB.out).mono ?_;rintro e v1 ⟨rfl,hb_⟩;(try clear t0 t1 t2 t3);replace HB:=btr HB hb_;clear hb_;obtain⟨t0,t1,t2,t3⟩:=HD.out _ HB.out)|(go_at_call 217;with_reducible refine (CE.out _ HB.out).mono ?_;rintro e v1 ⟨rfl,hb_⟩;(try clear t0 t1 t2 t3);replace HB:=btr HB hb_;clear hb_;obtain⟨t0,t1,t2,t3⟩:=HD.out _ HB.out));go_ret2;exact Q1d
theorem zes (P:Pf) (h:PfW P) (vh:Value) (w:World) (r:Rd w w (zam P.hs) vh) :
  Calls Tryz.prog 182 #[.agg #[J P.d,J P.f,J P.l,vh]] w fun e w'=>e=.returned (.bool (pfB P))∧OI w w w':=by
 have hpf:=pfB_w h;have HF:=IJ hpf;have f0_:=zaq.2 (show 0≤P.f∧P.f≤180000 from ⟨h.f0,h.f1⟩);have l0_:=zaq.2 (show 0≤P.l∧P.l≤180000 from ⟨h.l0,h.l1⟩);have ea:(P.hs.all fun n=>inB n 0 90000)=true:=gi_allB (fun k _=>h.hs k);have n0_:=h.n0;have n1_:=h.n1;have hsi0:=h.hs 0;have hsil:=h.hs (P.hs.length-1);clear hpf;obtain⟨av,cv,ev,_,_,_⟩:=r.ints;subst ev;obtain⟨bh,oh,ea_,hbl,hat⟩:=r.intAt II;subst ea_;have cl0:=hat 0 II;have cl1:=hat (P.hs.length-1) II;rw[Nat.add_zero] at cl0;have xl:(P.hs.length:Int)-1=((P.hs.length-1:Nat):Int):=II
 have xl1:(0:Int)≤((P.hs.length-1:Nat):Int):=II
 have xl2:((P.hs.length-1:Nat):Int)<(P.hs.length:Int):=II
 have ni0:(2:Int)≤(P.hs.length:Int):=II
 have ni1:(P.hs.length:Int)≤65:=II
 obtain⟨W0,hW0,b0_,z0,k0⟩:=zav w #[J P.d,J P.f,J P.l,IZ (some ⟨bh,oh,none⟩) P.hs.length cv] 149;have HW0:=IJ hW0;have B0:=IJ b0_;have HD:=IJ (fun (W:World) (hW:OI W0 W0 W)=>bx4 k0 hW <| aI ((bat hW bh _ II).trans ((bat b0_ bh _ II).trans cl0)) <| ((bat hW bh _ II).trans ((bat b0_ bh _ II).trans cl1)));have HB:Hid (OI W0 W0 W0):=Below.refl _ _;clear k0 hW0 b0_;have CF:Hid (∀ W:World,OI W0 W0 W→Calls Tryz.prog 34 #[J P.f,J 0,J 180000] W fun e w'=>e=.returned (.bool true)∧OI W W w'):=fun  W hW=>by
   have hh:=zal P.f 0 180000 W;rw[f0_] at hh;exact zbm hh
 have CL:Hid (∀ W:World,OI W0 W0 W→Calls Tryz.prog 34 #[J P.l,J 0,J 180000] W fun e w'=>e=.returned (.bool true)∧OI W W w'):=fun  W hW=>by
   have hh:=zal P.l 0 180000 W;rw[l0_] at hh;exact zbm hh
 have CA:Hid (∀ W:World,OI W0 W0 W→Calls Tryz.prog 43 #[IZ (some ⟨bh,oh,none⟩) P.hs.length cv,J 0,J 90000] W fun e w'=>e=.returned (.bool true)∧OI W W w'):=fun  W hW=>by
   have hh:=zck P.hs 0 90000 _ W.heap.size W (zdr r B0.out hW) (Nat.le_refl _) II;rw[ea] at hh;exact hh
 have CD:Hid (∀ W:World,OI W0 W0 W→Calls Tryz.prog 34 #[J P.d,J 1,J 283000] W fun e w'=>e=.returned (.bool (inB P.d 1 283000))∧OI W W w'):=fun  W hW=>zbm (zal P.d 1 283000 W)
 clear hat r cl0 cl1 f0_ l0_ ea h;generalize gi P.hs 0=h0 at *;generalize gi P.hs (P.hs.length-1)=hz at *;generalize pfB P=PB at *
 cases hA:inB P.d 1 283000 with
 | false =>
  rw[hA] at CD HF;have HE:Hid (PB=false):=by show _=_;rw[HF.out];rfl
  go_enter Tryz.func182,Tryz.ntmps182;go_upto_region 1 with (fail);rw[HW0.out];obtain⟨t0,t1,t2,t3,t4,t5⟩:=HD.out _ HB.out;go_wp2_with ((first|(go_at_call 34;with_reducible refine (CF.out _ HB.out).mono ?_)|(go_at_call 34;with_reducible refine (CL.out _ HB.out).mono ?_)|(go_at_call 34;with_reducible refine (CD.out _ HB.out).mono ?_));rintro e v1 ⟨rfl,hb_⟩;(try clear t0 t1 t2 t3 t4 t5);replace HB:=btr HB hb_;clear hb_;obtain⟨t0,t1,t2,t3,t4,t5⟩:=HD.out _ HB.out);go_ret;exact⟨by rw[HE.out];rfl,B0.out.trans (HB.out.mono B0.out.size)⟩
 | true =>
  rw[hA] at CD HF
  by_cases hG:h0≤P.f
  case neg =>
   have hGd:decide (h0≤P.f)=false:=decide_eq_false hG;have HE:Hid (PB=false):=by show _=_;rw[HF.out,decide_eq_false hG];rfl
   go_enter Tryz.func182,Tryz.ntmps182;go_upto_region 1 with (fail);rw[HW0.out];obtain⟨t0,t1,t2,t3,t4,t5⟩:=HD.out _ HB.out;go_upto_region 4 with ((first|(go_at_call 34;with_reducible refine (CF.out _ HB.out).mono ?_)|(go_at_call 34;with_reducible refine (CL.out _ HB.out).mono ?_)|(go_at_call 34;with_reducible refine (CD.out _ HB.out).mono ?_));rintro e v1 ⟨rfl,hb_⟩;(try clear t0 t1 t2 t3 t4 t5);replace HB:=btr HB hb_;clear hb_;obtain⟨t0,t1,t2,t3,t4,t5⟩:=HD.out _ HB.out);have o0:=zai (w0:=v1) (show w.heap.size<v1.heap.size by have:=HB.out.size;omega);have o1:=zai (w0:=v1) (show bh<v1.heap.size by have:=HB.out.size;omega);refine zab v1.heap.size v1 (Below.refl _ _) JI JI ?_
   repeat (go_big_quiet_step (first|(go_at_call 43;with_reducible exact zah (Nat.le_refl _) (CA.out _ (HB.out.trans ((zaa _ _ _).mono HB.out.size))))))
   refine wpQuiet_nil ?_;rintro _ ⟨X,rfl⟩;replace HB:=btr HB (zaa v1.heap.size v1 X);clear o0 o1
   (try clear t0 t1 t2 t3 t4 t5)
   generalize over v1.heap.size v1 X=u2 at *;obtain⟨t0,t1,t2,t3,t4,t5⟩:=HD.out _ HB.out;go_wp2;go_ret;exact⟨by rw[HE.out];rfl,B0.out.trans (HB.out.mono B0.out.size)⟩
  by_cases hH:hz≤P.l
  case neg =>
   have hGd:decide (h0≤P.f)=true:=decide_eq_true hG;have hHd:decide (hz≤P.l)=false:=decide_eq_false hH;have HE:Hid (PB=false):=by show _=_;rw[HF.out,decide_eq_false hH,decide_eq_true hG];rfl
   go_enter Tryz.func182,Tryz.ntmps182;go_upto_region 1 with (fail);rw[HW0.out];obtain⟨t0,t1,t2,t3,t4,t5⟩:=HD.out _ HB.out;go_upto_region 4 with ((first|(go_at_call 34;with_reducible refine (CF.out _ HB.out).mono ?_)|(go_at_call 34;with_reducible refine (CL.out _ HB.out).mono ?_)|(go_at_call 34;with_reducible refine (CD.out _ HB.out).mono ?_));rintro e v1 ⟨rfl,hb_⟩;(try clear t0 t1 t2 t3 t4 t5);replace HB:=btr HB hb_;clear hb_;obtain⟨t0,t1,t2,t3,t4,t5⟩:=HD.out _ HB.out);have o0:=zai (w0:=v1) (show w.heap.size<v1.heap.size by have:=HB.out.size;omega);have o1:=zai (w0:=v1) (show bh<v1.heap.size by have:=HB.out.size;omega);refine zab v1.heap.size v1 (Below.refl _ _) JI JI ?_
   repeat (go_big_quiet_step (first|(go_at_call 43;with_reducible exact zah (Nat.le_refl _) (CA.out _ (HB.out.trans ((zaa _ _ _).mono HB.out.size))))))
   refine wpQuiet_nil ?_;rintro _ ⟨X,rfl⟩;replace HB:=btr HB (zaa v1.heap.size v1 X);clear o0 o1
   (try clear t0 t1 t2 t3 t4 t5)
   generalize over v1.heap.size v1 X=u2 at *;obtain⟨t0,t1,t2,t3,t4,t5⟩:=HD.out _ HB.out;go_wp2;go_ret;exact⟨by rw[HE.out];rfl,B0.out.trans (HB.out.mono B0.out.size)⟩
  have hGd:decide (h0≤P.f)=true:=decide_eq_true hG;have hHd:decide (hz≤P.l)=true:=decide_eq_true hH;have HE:Hid (PB=true):=by show _=_;rw[HF.out,decide_eq_true hH,decide_eq_true hG];rfl
  go_enter Tryz.func182,Tryz.ntmps182;go_upto_region 1 with (fail);rw[HW0.out];obtain⟨t0,t1,t2,t3,t4,t5⟩:=HD.out _ HB.out;go_upto_region 4 with ((first|(go_at_call 34;with_reducible refine (CF.out _ HB.out).mono ?_)|(go_at_call 34;with_reducible refine (CL.out _ HB.out).mono ?_)|(go_at_call 34;with_reducible refine (CD.out _ HB.out).mono ?_));rintro e v1 ⟨rfl,hb_⟩;(try clear t0 t1 t2 t3 t4 t5);replace HB:=btr HB hb_;clear hb_;obtain⟨t0,t1,t2,t3,t4,t5⟩:=HD.out _ HB.out);have o0:=zai (w0:=v1) (show w.heap.size<v1.heap.size by have:=HB.out.size;omega);have o1:=zai (w0:=v1) (show bh<v1.heap.size by have:=HB.out.size;omega);refine zab v1.heap.size v1 (Below.refl _ _) JI JI ?_
  repeat (go_big_quiet_step (first|(go_at_call 43;with_reducible exact zah (Nat.le_refl _) (CA.out _ (HB.out.trans ((zaa _ _ _).mono HB.out.size))))))
  refine wpQuiet_nil ?_;rintro _ ⟨X,rfl⟩;replace HB:=btr HB (zaa v1.heap.size v1 X);clear o0 o1
  (try clear t0 t1 t2 t3 t4 t5)
  generalize over v1.heap.size v1 X=u2 at *;obtain⟨t0,t1,t2,t3,t4,t5⟩:=HD.out _ HB.out;go_wp2;go_ret;exact⟨by rw[HE.out];rfl,B0.out.trans (HB.out.mono B0.out.size)⟩
end Go.Proofs.YtpakghepnahooaaGreatDoor
