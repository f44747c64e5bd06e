/- Contracts: losses in free space, by gases, by clutter, for the program and for the reference. Conditions: bounded numbers; the tables hold what they hold at the start. -/
import Derived.Test.YtgmapjgodibchaaGreatDoorLv3
import Derived.Test.YtgmapjgodibchaaGreatDoorLv6
set_option linter.unusedVariables false
set_option linter.unusedSimpArgs false
namespace Go.Proofs.YtgmapjgodibchaaGreatDoor
open Go.RowKit
set_option maxHeartbeats 16000000
set_option maxRecDepth 100000
theorem infoPt:(Tryz.prog.info? 66).map (fun i=>(i.zero,i.size,i.bytes))=some (some (.agg #[I 0,I 0]),2,16):=by kernel_rfl
theorem zfb (a b:DPoint):(decide (b.x<a.x) || (decide (a.x=b.x)&&decide (b.y<a.y))) = !befB a b:=by
 unfold befB;rw[Bool.eq_iff_iff];simp;omega
def atK (r:Bool) (k:Nat):Nat:=if r=true then 16-k else k
def listK (r:Bool) (p q:DPoint):List DPoint:=(List.range 17).map fun k=>zcn p q (atK r k)
theorem zek (r:Bool) (p q:DPoint):(listK r p q).length=17:=by simp[listK]
theorem listK_at (r:Bool) (p q:DPoint) (k:Nat) (h:k<(listK r p q).length):(listK r p q)[k]=zcn p q (atK r k):=by simp[listK]
def plK (a b:DPoint) (j:Nat):DPoint:=if befB a b=true then zcn a b j else zcn b a (16-j)
theorem plK_at (a b:DPoint) (j:Nat) (h:j<(zc4 a b).length):(zc4 a b)[j]=plK a b j:=by
 have hj:j<17:=by rw[zdd] at h;exact h
 have key:(zc4 a b)[j]? = some (plK a b j):=by
  unfold zc4 plK
  by_cases hB:befB a b=true
  ·rw[if_pos hB,if_pos hB]
   unfold zej;rw[List.getElem?_map,List.getElem?_range hj];rfl
  ·rw[if_neg hB,if_neg hB,List.getElem?_reverse (by rw[zdc];exact hj),zdc]
   unfold zej;rw[List.getElem?_map,List.getElem?_range O]
   rfl
 rw[List.getElem?_eq_getElem h] at key;exact Option.some.inj key
theorem flatv_get {α:Type} (g:α→List Value) (k:Nat) (hg:∀ x,(g x).length=k):(l:List α)→(i:Nat)→(hi:i<l.length)→(j:Nat)→(hj:j<k)→(l.flatMap g)[i*k+j]? = (g l[i])[j]?:=by
 intro l
 induction l with
 | nil=>intro i hi;simp at hi
 | cons x l ih =>
  intro i hi j hj;rw[List.flatMap_cons]
  cases i with
  | zero=>rw[List.getElem?_append_left (by rw[hg];omega)];simp
  | succ i =>
   have e:(i+1)*k+j=k+(i*k+j):=by rw[Nat.succ_mul];omega
   rw[List.getElem?_append_right (by rw[hg];omega),hg,e,Nat.add_sub_cancel_left]
   simpa using ih i (by simpa using hi) j hj
def ptVs (x:DPoint):List Value:=[I x.x,I x.y]
theorem ptVs_len (x:DPoint):(ptVs x).length=2:=rfl
theorem listK_own {w:World} {R:Bool} {p q:DPoint} {v:Option Addr} {c:Nat} {fp:List Nat} {lo hi:Nat} (h:Own w (.sl 2 ((listK R p q).flatMap DPoint.tr)) (II v 17 c) fp) (hin:In lo hi fp) :
  17≤c∧c≤maxLen∧∃ b o,v=some ⟨b,o,none⟩∧lo≤b∧b<hi∧(∀ j,w.frozen? ⟨b,j,none⟩=false)∧∀ j,j<17→w.cell? ⟨b,o+j*2,none⟩=some (I (zcn p q (atK R j)).x)∧w.cell? ⟨b,o+j*2+1,none⟩=some (I (zcn p q (atK R j)).y):=by
 have e1:(listK R p q).flatMap DPoint.tr=((listK R p q).flatMap ptVs).map .lit:=by
  rw[List.map_flatMap];rfl
 rw[e1] at h;obtain⟨hl,h1,h2,h3⟩:=h.rowV;obtain⟨b,o,ea,ef,hr⟩:=h3 (fun e=>by have h_:=congrArg List.length e;rw[hl] at h_;simp at h_);subst ea ef;have hb:=hin b (by simp);refine⟨h1,h2,b,o,rfl,hb.1,hb.2,hr.free,fun j hj=>?_⟩;have hlj:j<(listK R p q).length:=by rw[zek];exact hj
 have k0:=flatv_get ptVs 2 ptVs_len (listK R p q) j hlj 0 O;have k1:=flatv_get ptVs 2 ptVs_len (listK R p q) j hlj 1 O;rw[listK_at] at k0 k1;exact⟨hr.cell _ _ (by rw[Nat.add_zero] at k0;exact k0),by rw[Nat.add_assoc];exact hr.cell _ _ k1⟩
theorem flat_take1 {α β:Type} (g:α→List β) (l:List α) (k:Nat) (h:k<l.length):(l.take (k+1)).flatMap g=(l.take k).flatMap g++g l[k]:=by
 rw[List.take_succ_eq_append_getElem h,List.flatMap_append];simp
theorem iPlaces_any (a b:DPoint) (ha:ptB a) (hb:ptB b) (w:World) :
  Calls Tryz.prog 194 #[.agg #[I a.x,I a.y],.agg #[I b.x,I b.y],I 17] w fun e w'=>∃ b' o' c':Nat,e=.returned (II (some ⟨b',o',none⟩) 17 c')∧IJ w w w'∧17≤c'∧c'≤maxLen∧w.heap.size≤b'∧b' < w'.heap.size∧∀ j:Nat,j<17→w'.cell? ⟨b',o' + j*2,none⟩=some (I (plK a b j).x)∧w'.cell? ⟨b',o' + j*2+1,none⟩=some (I (plK a b j).y):=by
 obtain⟨i0,hi0,hz0,hz1,hz2⟩:=info_parts infoPt;unfold ptB at ha hb;obtain⟨⟨ax0,ax1⟩,ay0,ay1⟩:=ha;obtain⟨⟨bx0,bx1⟩,by0,by1⟩:=hb;obtain⟨W0,hW0,b0_,z0,k0,k1⟩:=zeb w #[I a.x,I a.y] 66 #[I b.x,I b.y] 66;have HW0:=J hW0;have B0:=J b0_;have HD:=J (fun (W:World) (hW:IJ W0 W0 W)=>bx2 k0 hW <| by2 k1 hW);have HB:Hid (IJ W0 W0 W0):=Below.refl _ _;have K0:=J k0;have K1:=J k1;clear k0 k1 hW0 b0_;go_enter Tryz.func194,Tryz.ntmps194;go_upto_region 1 with (fail);rw[HW0.out];obtain⟨t0,t1,t2,t3⟩:=HD.out _ HB.out;go_cut [7] (fun s7 wx=>s7=.bool (befB a b)∧W0=wx)
 case first =>
  by_cases c1:a.x<b.x
  ·have C1:=J c1
   have e1:decide (a.x<b.x)=true:=decide_eq_true c1;clear c1;go_wp2_with fail;go_meet;exact⟨by rw[befB,decide_eq_true C1.out,Bool.true_or],rfl⟩
  have C1:=J c1;have e1:decide (a.x<b.x)=false:=decide_eq_false c1;clear c1
  by_cases c2:a.x=b.x
  ·have e2:(a.x == b.x)=true:=beq_iff_eq.2 c2
   have C2:=J c2;clear c2;go_wp2_with fail;go_meet;exact⟨by rw[befB,decide_eq_false (p:=a.x<b.x) (by have:=C1.out;omega),decide_eq_true C2.out,Bool.true_and,Bool.false_or],rfl⟩
  ·have e2:(a.x == b.x)=false:=beq_eq_false_iff_ne.2 c2
   have C2:=J c2;clear c2;go_wp2_with fail;go_meet;exact⟨by rw[befB,decide_eq_false (p:=a.x<b.x) (by have:=C1.out;omega),decide_eq_false C2.out,Bool.false_and,Bool.false_or],rfl⟩
 obtain⟨rfl,rfl⟩:=hcut;obtain⟨t0,t1,t2,t3⟩:=HD.out _ HB.out;go_upto_if 30 with (fail);go_cut [7] (fun s7 wx=>s7=.bool (befB a b)∧∃ p q:DPoint,(∀ j,plK a b j=zcn p q (atK (!befB a b) j))∧wx.heap[w.heap.size]? = some (.cells #[I p.x,I p.y] 66 (0,0))∧wx.heap[w.heap.size+1]? = some (.cells #[I q.x,I q.y] 66 (0,0))∧IJ w w wx∧w.heap.size+2≤wx.heap.size∧((0≤p.x∧p.x≤200000)∧(0≤p.y∧p.y≤200000))∧((0≤q.x∧q.x≤200000)∧(0≤q.y∧q.y≤200000)))
 case first =>
  cases hB:befB a b with
  | true =>
   have HBB:=J hB;go_wp2_with fail;go_meet;exact⟨by rw[HBB.out],a,b,fun j=>by unfold plK;rw[HBB.out];rfl,K0.out,K1.out,B0.out,z0,⟨⟨ax0,ax1⟩,ay0,ay1⟩,⟨bx0,bx1⟩,by0,by1⟩
  | false =>
   have HPB:Hid (∀ j,plK a b j=zcn b a (atK (!befB a b) j)):=fun j=>by unfold plK;rw[hB];rfl
   have HBB:=J hB;clear hB;obtain⟨y0,y1,yf⟩:=bz2 K0.out;obtain⟨u0,u1,uf⟩:=bz2 K1.out;have kf_:(((W0.setCell ⟨w,0,none⟩ (I b.x)).setCell ⟨w,1,none⟩ (I b.y))).heap[w.heap.size]? = some (.cells #[I b.x,I b.y] 66 (0,0)):=by
    have h_:=(bkS (bkS K0.out 0 (I b.x)) 1 (I b.y))
    simpa using h_
   have kpQ1:=J kf_;clear kf_;have bbQ1:=J ((B0.out.setCell (p:=⟨w,0,none⟩) (by show w.heap.size≤w.heap.size;have:=B0.out.size;omega) (I b.x)).setCell (p:=⟨w,1,none⟩) (by show w.heap.size≤w.heap.size;have:=B0.out.size;omega) (I b.y));have bsQ1:W0.heap.size≤(((W0.setCell ⟨w,0,none⟩ (I b.x)).setCell ⟨w,1,none⟩ (I b.y))).heap.size:=by simp only[zac];exact Nat.le_refl _
   have kqQ1:=J (bkO (bkO K1.out (p:=⟨w,0,none⟩) (by show w.heap.size+1≠w.heap.size;omega) (I b.x)) (p:=⟨w,1,none⟩) (by show w.heap.size+1≠w.heap.size;omega) (I b.y));have kf_:(((((W0.setCell ⟨w,0,none⟩ (I b.x)).setCell ⟨w,1,none⟩ (I b.y)).setCell ⟨w.heap.size+1,0,none⟩ (I a.x)).setCell ⟨w.heap.size+1,1,none⟩ (I a.y))).heap[w.heap.size+1]? = some (.cells #[I a.x,I a.y] 66 (0,0)):=by
    have h_:=(bkS (bkS kqQ1.out 0 (I a.x)) 1 (I a.y))
    simpa using h_
   have kqQ2:=J kf_;clear kf_;have bbQ2:=J ((bbQ1.out.setCell (p:=⟨w.heap.size+1,0,none⟩) (by show w.heap.size≤w.heap.size+1;have:=bbQ1.out.size;omega) (I a.x)).setCell (p:=⟨w.heap.size+1,1,none⟩) (by show w.heap.size≤w.heap.size+1;have:=bbQ1.out.size;omega) (I a.y));have bsQ2:((W0.setCell ⟨w,0,none⟩ (I b.x)).setCell ⟨w,1,none⟩ (I b.y)).heap.size≤(((((W0.setCell ⟨w,0,none⟩ (I b.x)).setCell ⟨w,1,none⟩ (I b.y)).setCell ⟨w.heap.size+1,0,none⟩ (I a.x)).setCell ⟨w.heap.size+1,1,none⟩ (I a.y))).heap.size:=by simp only[zac];exact Nat.le_refl _
   have kpQ2:=J (bkO (bkO kpQ1.out (p:=⟨w.heap.size+1,0,none⟩) (by show w.heap.size≠w.heap.size+1;omega) (I a.x)) (p:=⟨w.heap.size+1,1,none⟩) (by show w.heap.size≠w.heap.size+1;omega) (I a.y));have hzz:w.heap.size+2≤((((W0.setCell ⟨w,0,none⟩ (I b.x)).setCell ⟨w,1,none⟩ (I b.y)).setCell ⟨w.heap.size+1,0,none⟩ (I a.x)).setCell ⟨w.heap.size+1,1,none⟩ (I a.y)).heap.size:=by simp only[zac];omega
   go_wp2_with fail;go_meet;exact⟨by rw[HBB.out],b,a,HPB.out,kpQ2.out,kqQ2.out,bbQ2.out,hzz,⟨⟨bx0,bx1⟩,by0,by1⟩,⟨ax0,ax1⟩,ay0,ay1⟩
 obtain⟨rfl,p,q,hpl,kp_,kq_,hbW,hz4,⟨⟨px0,px1⟩,py0,py1⟩,⟨qx0,qx1⟩,qy0,qy1⟩:=hcut;generalize wc=w4 at *;have HPL:=J hpl;have KP:=J kp_;have KQ:=J kq_;have B4:=J hbW;clear hpl kp_ kq_ hbW K0 K1 HD HB B0 HW0 ax0 ax1 ay0 ay1 bx0 bx1 by0 by1;have HD:Hid (∀ W:World,IJ w4 w4 W→(W.cell? ⟨w,0,none⟩=some (I p.x)∧W.cell? ⟨w,1,none⟩=some (I p.y)∧W.cell? ⟨w.heap.size+1,0,none⟩=some (I q.x)∧W.cell? ⟨w.heap.size+1,1,none⟩=some (I q.y))):=fun W hW=>⟨(bat hW w.heap.size _ O).trans (bkC KP.out 0 rfl),(bat hW w.heap.size _ O).trans (bkC KP.out 1 rfl),(bat hW (w.heap.size+1) _ O).trans (bkC KQ.out 0 rfl),(bat hW (w.heap.size+1) _ O).trans (bkC KQ.out 1 rfl)⟩
 clear KP KQ t0 t1 t2 t3;generalize hRB:(befB a b)=rb at *;have HRB:=J hRB;clear hRB;go_wp2;go_loopw [8,34] (fun ps ki wr=>∃ k:Nat,k≤17∧ki=I (k:Int)∧IJ w4 w4 wr∧Grow wr w4.heap.size 66 2 ps k (((listK false p q).take k).flatMap DPoint.tr) []) (fun ps ki wr=>17-(intOf ki).toNat)
 case atStart=>exact⟨0,O,rfl,Below.refl _ _,Grow.nil⟩
 case round =>
  obtain⟨k,hk,rfl,hbw,hgr⟩:=hrel;have HB:=J hbw;have HG:=J hgr;clear hbw hgr;have k0:(0:Int)≤(k:Int):=O
  have hzr:w4.heap.size≤wr.heap.size:=HB.out.size
  by_cases hlt:k<17
  ·have k1:(k:Int)<17:=O
   have hnx:=listK_at false p q k (by rw[zek];exact hlt);have hfl:=flat_take1 DPoint.tr (listK false p q) k (by rw[zek];exact hlt);rw[hnx] at hfl;have HFL:=J hfl;clear hnx hfl;rw[show atK false k=k from rfl] at HFL;go_upto_region 8 with (fail);have mx:=zdl (a:=(k:Int)) (b:=q.x-p.x) 16 200000 O O O O O O;have my:=zdl (a:=(k:Int)) (b:=q.y-p.y) 16 200000 O O O O O O;have rx:=zd6 (a:=(k:Int)*(q.x-p.x)) (b:=16) O 3200000 O O;have ry:=zd6 (a:=(k:Int)*(q.y-p.y)) (b:=16) O 3200000 O O;have h1:IntKind.i64.wrap (q.x-p.x)=q.x-p.x:=IntWalk.i64_in _ O;have h2:IntKind.i64.wrap (q.y-p.y)=q.y-p.y:=IntWalk.i64_in _ O;have h3:IntKind.i64.wrap ((k:Int)*(q.x-p.x))=(k:Int)*(q.x-p.x):=IntWalk.i64_in _ O;have h4:IntKind.i64.wrap ((k:Int)*(q.y-p.y))=(k:Int)*(q.y-p.y):=IntWalk.i64_in _ O;have h5:IntKind.i64.wrap (p.x+rdiv ((k:Int)*(q.x-p.x)) 16)=p.x+rdiv ((k:Int)*(q.x-p.x)) 16:=IntWalk.i64_in _ O;have h6:IntKind.i64.wrap (p.y+rdiv ((k:Int)*(q.y-p.y)) 16)=p.y+rdiv ((k:Int)*(q.y-p.y)) 16:=IntWalk.i64_in _ O;have HPK:Hid (zcn p q k=⟨p.x+rdiv ((k:Int)*(q.x-p.x)) 16,p.y+rdiv ((k:Int)*(q.y-p.y)) 16⟩):=rfl;have CX:Hid (∀ W:World,Calls Tryz.prog 201 #[I ((k:Int)*(q.x-p.x)),I 16] W fun e w'=>e=.returned (I (rdiv ((k:Int)*(q.x-p.x)) 16))∧IJ W W w'):=fun W=>zbu _ _ O O O O W
   have CY:Hid (∀ W:World,Calls Tryz.prog 201 #[I ((k:Int)*(q.y-p.y)),I 16] W fun e w'=>e=.returned (I (rdiv ((k:Int)*(q.y-p.y)) 16))∧IJ W W w'):=fun W=>zbu _ _ O O O O W
   clear mx my rx ry;have HDR:Hid (∀ W:World,IJ wr wr W→_):=fun W hW=>HD.out W (HB.out.trans (hW.mono HB.out.size))
   have HBR:Hid (IJ wr wr wr):=Below.refl _ _;refine zap 29 (.read 0 (.read 1 (.read 2 (.read 3 (.read 4 (.read 5 (.read 6 (.read 7 (.read 8 (.read 9 (.read 10 (.read 11 (.read 14 (.read 15 (.read 16 (.read 17 (.read 18 (.read 19 (.read 20 (.read 21 (.read 22 (.read 23 (.read 24 (.one 12 (.read 13 (.one 25 (.read 26 (.read 27 (.one 28 .nil))))))))))))))))))))))))))))) (fun W=>IJ wr wr W) OJ OJ (HBR.out.drew) ?_;have YB:=J (HBR.out.drew);have Yz:wr.heap.size≤wr.drew.heap.size:=Nat.le_refl _;generalize wr.drew=Y at *
   iterate 23
    refine zag (v:=?_) rfl (fun _ _ _ h=>h) ?_ ?_
    rotate_left
    ·(intro W hSW;(try dsimp only at hSW);obtain⟨t0,t1,t2,t3⟩:=HDR.out W hSW;(go_simp<;>with_reducible rfl))
    (try simp only[Act.put,IQ,IZ,OI])
   refine zaf ?_;refine zae rfl (fun K hK=>?_);go_simp;refine ((fun W (_:IJ wr wr W)=>CX.out W) _ YB.out).mono ?_;rintro e Y1 ⟨rfl,hb1⟩;have YB1:=btr YB hb1;refine hK.out _ _ YB1.out ?_;clear hK K;have bs1:=hb1.size;clear hb1;refine zag (v:=?_) rfl (fun _ _ _ h=>h) ?_ ?_
   rotate_left
   ·(intro W hSW;(try dsimp only at hSW);obtain⟨t0,t1,t2,t3⟩:=HDR.out W hSW;(go_simp<;>with_reducible rfl))
   (try simp only[Act.put,IQ,IZ,OI])
   refine zaf ?_;refine zae rfl (fun K hK=>?_);go_simp;refine ((fun W (_:IJ wr wr W)=>CY.out W) _ YB1.out).mono ?_;rintro e Y2 ⟨rfl,hb2⟩;have YB2:=btr YB1 hb2;refine hK.out _ _ YB2.out ?_;clear hK K;have bs2:=hb2.size;clear hb2
   iterate 2
    refine zag (v:=?_) rfl (fun _ _ _ h=>h) ?_ ?_
    rotate_left
    ·(intro W hSW;(try dsimp only at hSW);obtain⟨t0,t1,t2,t3⟩:=HDR.out W hSW;(go_simp<;>with_reducible rfl))
    (try simp only[Act.put,IQ,IZ,OI])
   refine zaf ?_;refine zae rfl (fun K hK=>?_);go_simp;refine hK.out _ _ (YB2.out.trans ((za2 Y2 _).mono YB2.out.size)) ?_;clear hK K
   (try simp only[Act.put,IQ,IZ,OI])
   refine zak ?_;simp only[List.drop_succ_cons,List.drop_zero];have hX:=YB2.out;have HG5:=J (HG.out.below (lo:=0) In.nil hX);have HB5:=btr HB hX;have hz5:w4.heap.size≤Y2.heap.size:=HB5.out.size;clear hX CX CY h1 h2 h3 h4 h5 h6;refine zbe rfl (.tmp 37) (.tmp 65) _ rfl w4.heap.size 66 i0 _ 2 16 Tryz.underlying242 hi0 hz0 hz1 hz2 rfl O _ _ _ [] rfl HG5.out [I (p.x+rdiv ((k:Int)*(q.x-p.x)) 16),I (p.y+rdiv ((k:Int)*(q.y-p.y)) 16)] (DPoint.tr ⟨p.x+rdiv ((k:Int)*(q.x-p.x)) 16,p.y+rdiv ((k:Int)*(q.y-p.y)) 16⟩) [] rfl 1 rfl (fun u hu=>by simp at hu;rcases hu with rfl|rfl<;>rfl) (RepV_lits _ [I (p.x+rdiv ((k:Int)*(q.x-p.x)) 16),I (p.y+rdiv ((k:Int)*(q.y-p.y)) 16)]) List.nodup_nil (fun b h=>by simp at h) 0 In.nil In.nil (by simp) (by simp) (by unfold maxLen;omega) O O ?_;intro v2 w6 hgn;have HGN:=J hgn;clear hgn;go_wp2;go_roundw
   case rel =>
    refine⟨k+1,O,by go_num,HB5.out.trans HGN.out.below,?_⟩;rw[HFL.out,HPK.out]
    simpa using HGN.out.grow
   case measure=>simp[intOf];omega
  ·obtain rfl:k=17:=O
   rw[List.take_of_length_le (by rw[zek];omega)] at HG;obtain⟨av,cv,fv,ev,ov,iv⟩:=HG.out.toOwn (lo:=w4.heap.size) O In.nil O;subst ev;obtain⟨hnc,hcm,bq,oq,ea_,hb1,hb2,hfz,hcl⟩:=listK_own ov iv;subst ea_;have HFZ:=J hfz;have HCL:=J hcl;clear HG ov iv hfz hcl
   cases rb with
   | true =>
    go_wp2;go_ret
    exact⟨bq,oq,cv,rfl,B4.out.trans (HB.out.mono B4.out.size),hnc,hcm,Nat.le_trans B4.out.size hb1,hb2,fun j hj=>by
     have h_:=HCL.out j hj
     rw[HPL.out j];exact h_⟩
   | false =>
    go_wp2_with (go_at_call 235;with_reducible refine (revP_any 17 bq oq cv (fun j=>(zcn p q j).x) (fun j=>(zcn p q j).y) _ O O hnc hcm (fun j hj=>HCL.out j hj) HFZ.out).mono ?_;rintro e v1 ⟨rfl,hch_,hcl_,hfz_⟩);have HC2:=J hcl_;have HBV:=J (HB.out.trans (hch_.below (B:=w4.heap.size) O (fun x hx=>by simp at hx;omega)));have hv1:wr.heap.size≤v1.heap.size:=hch_.size;clear hch_ hcl_ hfz_;go_ret
    exact⟨bq,oq,cv,rfl,B4.out.trans (HBV.out.mono B4.out.size),hnc,hcm,Nat.le_trans B4.out.size hb1,O,fun j hj=>by
     have h_:=HC2.out j hj
     rw[HPL.out j];exact h_⟩
theorem l04Places_any (a b:DPoint) (ha:ptB a) (hb:ptB b) (w:World) :
  Calls Tryz.prog 247 #[.agg #[I a.x,I a.y],.agg #[I b.x,I b.y],I 17] w fun e w'=>∃ b' o' c':Nat,e=.returned (II (some ⟨b',o',none⟩) 17 c')∧IJ w w w'∧17≤c'∧c'≤maxLen∧w.heap.size≤b'∧b' < w'.heap.size∧∀ j:Nat,j<17→w'.cell? ⟨b',o' + j*2,none⟩=some (I (plK a b j).x)∧w'.cell? ⟨b',o' + j*2+1,none⟩=some (I (plK a b j).y):=by
 obtain⟨i0,hi0,hz0,hz1,hz2⟩:=info_parts infoPt;unfold ptB at ha hb;obtain⟨⟨ax0,ax1⟩,ay0,ay1⟩:=ha;obtain⟨⟨bx0,bx1⟩,by0,by1⟩:=hb;obtain⟨W0,hW0,b0_,z0,k0,k1⟩:=zeb w #[I a.x,I a.y] 66 #[I b.x,I b.y] 66;have HW0:=J hW0;have B0:=J b0_;have HD:=J (fun (W:World) (hW:IJ W0 W0 W)=>bx2 k0 hW <| by2 k1 hW);have HB:Hid (IJ W0 W0 W0):=Below.refl _ _;have K0:=J k0;have K1:=J k1;clear k0 k1 hW0 b0_;go_enter Tryz.func247,Tryz.ntmps247;go_upto_region 1 with (fail);rw[HW0.out];obtain⟨t0,t1,t2,t3⟩:=HD.out _ HB.out;go_cut [7] (fun s7 wx=>s7=.bool (!befB a b)∧W0=wx)
 case first =>
  by_cases c1:b.x<a.x
  ·have C1:=J c1
   have e1:decide (b.x<a.x)=true:=decide_eq_true c1;clear c1;go_wp2_with fail;go_meet;exact⟨by rw[← zfb,decide_eq_true C1.out,Bool.true_or],rfl⟩
  have C1:=J c1;have e1:decide (b.x<a.x)=false:=decide_eq_false c1;clear c1
  by_cases c2:a.x=b.x
  ·have e2:(a.x == b.x)=true:=beq_iff_eq.2 c2
   have C2:=J c2;clear c2;go_wp2_with fail;go_meet;exact⟨by rw[← zfb,decide_eq_false (p:=b.x<a.x) (by have:=C1.out;omega),decide_eq_true C2.out,Bool.true_and,Bool.false_or],rfl⟩
  ·have e2:(a.x == b.x)=false:=beq_eq_false_iff_ne.2 c2
   have C2:=J c2;clear c2;go_wp2_with fail;go_meet;exact⟨by rw[← zfb,decide_eq_false (p:=b.x<a.x) (by have:=C1.out;omega),decide_eq_false C2.out,Bool.false_and,Bool.false_or],rfl⟩
 obtain⟨rfl,rfl⟩:=hcut;obtain⟨t0,t1,t2,t3⟩:=HD.out _ HB.out;go_upto_if 31 with (fail);go_cut [7] (fun s7 wx=>s7=.bool (!befB a b)∧∃ p q:DPoint,(∀ j,plK a b j=zcn p q (atK (!befB a b) j))∧wx.heap[w.heap.size]? = some (.cells #[I p.x,I p.y] 66 (0,0))∧wx.heap[w.heap.size+1]? = some (.cells #[I q.x,I q.y] 66 (0,0))∧IJ w w wx∧w.heap.size+2≤wx.heap.size∧((0≤p.x∧p.x≤200000)∧(0≤p.y∧p.y≤200000))∧((0≤q.x∧q.x≤200000)∧(0≤q.y∧q.y≤200000)))
 case first =>
  cases hB:befB a b with
  | true =>
   have HBB:=J hB;go_wp2_with fail;go_meet;exact⟨by rw[HBB.out],a,b,fun j=>by unfold plK;rw[HBB.out];rfl,K0.out,K1.out,B0.out,z0,⟨⟨ax0,ax1⟩,ay0,ay1⟩,⟨bx0,bx1⟩,by0,by1⟩
  | false =>
   have HPB:Hid (∀ j,plK a b j=zcn b a (atK (!befB a b) j)):=fun j=>by unfold plK;rw[hB];rfl
   have HBB:=J hB;clear hB;obtain⟨y0,y1,yf⟩:=bz2 K0.out;obtain⟨u0,u1,uf⟩:=bz2 K1.out;go_upto_region 4 with (fail);clear y0 y1 yf u0 u1 uf;obtain⟨W1,hWQ1,hbQ1,zQ1,hkQ1⟩:=zax W0 #[I a.x,I a.y] 66;rw[hWQ1];have bbQ1:=btr B0 hbQ1;have kcQ1:=J hkQ1;have bsQ1:=hbQ1.size;have kpQ1:=bkH K0 hbQ1;have kqQ1:=bkH K1 hbQ1;clear hWQ1 hbQ1 hkQ1;obtain⟨y0,y1,yf⟩:=bz2 kpQ1.out;obtain⟨u0,u1,uf⟩:=bz2 kqQ1.out;obtain⟨x0,x1,xf⟩:=bz2 kcQ1.out;have kf_:(((W1.setCell ⟨w,0,none⟩ (I b.x)).setCell ⟨w,1,none⟩ (I b.y))).heap[w.heap.size]? = some (.cells #[I b.x,I b.y] 66 (0,0)):=by
    have h_:=(bkS (bkS kpQ1.out 0 (I b.x)) 1 (I b.y))
    simpa using h_
   have kpQ2:=J kf_;clear kf_;have bbQ2:=J ((bbQ1.out.setCell (p:=⟨w,0,none⟩) (by show w.heap.size≤w.heap.size;have:=bbQ1.out.size;omega) (I b.x)).setCell (p:=⟨w,1,none⟩) (by show w.heap.size≤w.heap.size;have:=bbQ1.out.size;omega) (I b.y));have bsQ2:W1.heap.size≤(((W1.setCell ⟨w,0,none⟩ (I b.x)).setCell ⟨w,1,none⟩ (I b.y))).heap.size:=by simp only[zac];exact Nat.le_refl _
   have kqQ2:=J (bkO (bkO kqQ1.out (p:=⟨w,0,none⟩) (by show w.heap.size+1≠w.heap.size;omega) (I b.x)) (p:=⟨w,1,none⟩) (by show w.heap.size+1≠w.heap.size;omega) (I b.y));have kcQ2:=J (bkO (bkO kcQ1.out (p:=⟨w,0,none⟩) (by show W0.heap.size≠w.heap.size;omega) (I b.x)) (p:=⟨w,1,none⟩) (by show W0.heap.size≠w.heap.size;omega) (I b.y));have kf_:(((((W1.setCell ⟨w,0,none⟩ (I b.x)).setCell ⟨w,1,none⟩ (I b.y)).setCell ⟨w.heap.size+1,0,none⟩ (I a.x)).setCell ⟨w.heap.size+1,1,none⟩ (I a.y))).heap[w.heap.size+1]? = some (.cells #[I a.x,I a.y] 66 (0,0)):=by
    have h_:=(bkS (bkS kqQ2.out 0 (I a.x)) 1 (I a.y))
    simpa using h_
   have kqQ3:=J kf_;clear kf_;have bbQ3:=J ((bbQ2.out.setCell (p:=⟨w.heap.size+1,0,none⟩) (by show w.heap.size≤w.heap.size+1;have:=bbQ2.out.size;omega) (I a.x)).setCell (p:=⟨w.heap.size+1,1,none⟩) (by show w.heap.size≤w.heap.size+1;have:=bbQ2.out.size;omega) (I a.y));have bsQ3:((W1.setCell ⟨w,0,none⟩ (I b.x)).setCell ⟨w,1,none⟩ (I b.y)).heap.size≤(((((W1.setCell ⟨w,0,none⟩ (I b.x)).setCell ⟨w,1,none⟩ (I b.y)).setCell ⟨w.heap.size+1,0,none⟩ (I a.x)).setCell ⟨w.heap.size+1,1,none⟩ (I a.y))).heap.size:=by simp only[zac];exact Nat.le_refl _
   have kpQ3:=J (bkO (bkO kpQ2.out (p:=⟨w.heap.size+1,0,none⟩) (by show w.heap.size≠w.heap.size+1;omega) (I a.x)) (p:=⟨w.heap.size+1,1,none⟩) (by show w.heap.size≠w.heap.size+1;omega) (I a.y));have kcQ3:=J (bkO (bkO kcQ2.out (p:=⟨w.heap.size+1,0,none⟩) (by show W0.heap.size≠w.heap.size+1;omega) (I a.x)) (p:=⟨w.heap.size+1,1,none⟩) (by show W0.heap.size≠w.heap.size+1;omega) (I a.y));have hzz:w.heap.size+2≤((((W1.setCell ⟨w,0,none⟩ (I b.x)).setCell ⟨w,1,none⟩ (I b.y)).setCell ⟨w.heap.size+1,0,none⟩ (I a.x)).setCell ⟨w.heap.size+1,1,none⟩ (I a.y)).heap.size:=by simp only[zac];omega
   go_wp2_with fail;go_meet;exact⟨by rw[HBB.out],b,a,HPB.out,kpQ3.out,kqQ3.out,bbQ3.out,hzz,⟨⟨bx0,bx1⟩,by0,by1⟩,⟨ax0,ax1⟩,ay0,ay1⟩
 obtain⟨rfl,p,q,hpl,kp_,kq_,hbW,hz4,⟨⟨px0,px1⟩,py0,py1⟩,⟨qx0,qx1⟩,qy0,qy1⟩:=hcut;generalize wc=w4 at *;have HPL:=J hpl;have KP:=J kp_;have KQ:=J kq_;have B4:=J hbW;clear hpl kp_ kq_ hbW K0 K1 HD HB B0 HW0 ax0 ax1 ay0 ay1 bx0 bx1 by0 by1;have HD:Hid (∀ W:World,IJ w4 w4 W→(W.cell? ⟨w,0,none⟩=some (I p.x)∧W.cell? ⟨w,1,none⟩=some (I p.y)∧W.cell? ⟨w.heap.size+1,0,none⟩=some (I q.x)∧W.cell? ⟨w.heap.size+1,1,none⟩=some (I q.y))):=fun W hW=>⟨(bat hW w.heap.size _ O).trans (bkC KP.out 0 rfl),(bat hW w.heap.size _ O).trans (bkC KP.out 1 rfl),(bat hW (w.heap.size+1) _ O).trans (bkC KQ.out 0 rfl),(bat hW (w.heap.size+1) _ O).trans (bkC KQ.out 1 rfl)⟩
 clear KP KQ t0 t1 t2 t3;generalize hRB:(!befB a b)=rb at *;have HRB:=J hRB;clear hRB;go_wp2;go_loopw [9,10] (fun ps ki wr=>∃ k:Nat,k≤17∧ki=I (k:Int)∧IJ w4 w4 wr∧Grow wr w4.heap.size 66 2 ps k (((listK rb p q).take k).flatMap DPoint.tr) []) (fun ps ki wr=>17-(intOf ki).toNat)
 case atStart=>exact⟨0,O,rfl,za2 _ _,⟨⟨[],own_emptyK w4 _ _,rfl⟩,List.nodup_nil,fun b h=>by simp at h,fun g _=>by simp⟩⟩
 case round =>
  obtain⟨k,hk,rfl,hbw,hgr⟩:=hrel;have HB:=J hbw;have HG:=J hgr;clear hbw hgr;have k0:(0:Int)≤(k:Int):=O
  have hzr:w4.heap.size≤wr.heap.size:=HB.out.size
  by_cases hlt:k<17
  ·have k1:(k:Int)<17:=O
   have hnx:=listK_at rb p q k (by rw[zek];exact hlt);have hfl:=flat_take1 DPoint.tr (listK rb p q) k (by rw[zek];exact hlt);rw[hnx] at hfl;have HFL:=J hfl;clear hnx hfl
   cases rb with
   | false =>
    rw[show atK false k=k from rfl] at HFL;go_upto_region 13 with (fail);have mx:=zdl (a:=(k:Int)) (b:=q.x-p.x) 16 200000 O O O O O O;have my:=zdl (a:=(k:Int)) (b:=q.y-p.y) 16 200000 O O O O O O;have rx:=zd6 (a:=(k:Int)*(q.x-p.x)) (b:=16) O 3200000 O O;have ry:=zd6 (a:=(k:Int)*(q.y-p.y)) (b:=16) O 3200000 O O;have h1:IntKind.i64.wrap (q.x-p.x)=q.x-p.x:=IntWalk.i64_in _ O;have h2:IntKind.i64.wrap (q.y-p.y)=q.y-p.y:=IntWalk.i64_in _ O;have h3:IntKind.i64.wrap ((k:Int)*(q.x-p.x))=(k:Int)*(q.x-p.x):=IntWalk.i64_in _ O;have h4:IntKind.i64.wrap ((k:Int)*(q.y-p.y))=(k:Int)*(q.y-p.y):=IntWalk.i64_in _ O;have h5:IntKind.i64.wrap (p.x+rdiv ((k:Int)*(q.x-p.x)) 16)=p.x+rdiv ((k:Int)*(q.x-p.x)) 16:=IntWalk.i64_in _ O;have h6:IntKind.i64.wrap (p.y+rdiv ((k:Int)*(q.y-p.y)) 16)=p.y+rdiv ((k:Int)*(q.y-p.y)) 16:=IntWalk.i64_in _ O;have HPK:Hid (zcn p q k=⟨p.x+rdiv ((k:Int)*(q.x-p.x)) 16,p.y+rdiv ((k:Int)*(q.y-p.y)) 16⟩):=rfl;have CX:Hid (∀ W:World,Calls Tryz.prog 222 #[I ((k:Int)*(q.x-p.x)),I 16] W fun e w'=>e=.returned (I (rdiv ((k:Int)*(q.x-p.x)) 16))∧IJ W W w'):=fun W=>zam (zbn _ _ O O O O W)
    have CY:Hid (∀ W:World,Calls Tryz.prog 222 #[I ((k:Int)*(q.y-p.y)),I 16] W fun e w'=>e=.returned (I (rdiv ((k:Int)*(q.y-p.y)) 16))∧IJ W W w'):=fun W=>zam (zbn _ _ O O O O W)
    clear mx my rx ry;have HDR:Hid (∀ W:World,IJ wr wr W→_):=fun W hW=>HD.out W (HB.out.trans (hW.mono HB.out.size))
    have HBR:Hid (IJ wr wr wr):=Below.refl _ _;refine zap 29 (.read 0 (.read 1 (.read 2 (.read 3 (.read 4 (.read 5 (.read 6 (.read 7 (.read 8 (.read 9 (.read 10 (.read 11 (.read 14 (.read 15 (.read 16 (.read 17 (.read 18 (.read 19 (.read 20 (.read 21 (.read 22 (.read 23 (.read 24 (.one 12 (.read 13 (.one 25 (.read 26 (.read 27 (.one 28 .nil))))))))))))))))))))))))))))) (fun W=>IJ wr wr W) OJ OJ (HBR.out.drew) ?_;have YB:=J (HBR.out.drew);have Yz:wr.heap.size≤wr.drew.heap.size:=Nat.le_refl _;generalize wr.drew=Y at *
    iterate 23
     refine zag (v:=?_) rfl (fun _ _ _ h=>h) ?_ ?_
     rotate_left
     ·(intro W hSW;(try dsimp only at hSW);obtain⟨t0,t1,t2,t3⟩:=HDR.out W hSW;(go_simp<;>with_reducible rfl))
     (try simp only[Act.put,IQ,IZ,OI])
    refine zaf ?_;refine zae rfl (fun K hK=>?_);go_simp;refine ((fun W (_:IJ wr wr W)=>CX.out W) _ YB.out).mono ?_;rintro e Y1 ⟨rfl,hb1⟩;have YB1:=btr YB hb1;refine hK.out _ _ YB1.out ?_;clear hK K;have bs1:=hb1.size;clear hb1;refine zag (v:=?_) rfl (fun _ _ _ h=>h) ?_ ?_
    rotate_left
    ·(intro W hSW;(try dsimp only at hSW);obtain⟨t0,t1,t2,t3⟩:=HDR.out W hSW;(go_simp<;>with_reducible rfl))
    (try simp only[Act.put,IQ,IZ,OI])
    refine zaf ?_;refine zae rfl (fun K hK=>?_);go_simp;refine ((fun W (_:IJ wr wr W)=>CY.out W) _ YB1.out).mono ?_;rintro e Y2 ⟨rfl,hb2⟩;have YB2:=btr YB1 hb2;refine hK.out _ _ YB2.out ?_;clear hK K;have bs2:=hb2.size;clear hb2
    iterate 2
     refine zag (v:=?_) rfl (fun _ _ _ h=>h) ?_ ?_
     rotate_left
     ·(intro W hSW;(try dsimp only at hSW);obtain⟨t0,t1,t2,t3⟩:=HDR.out W hSW;(go_simp<;>with_reducible rfl))
     (try simp only[Act.put,IQ,IZ,OI])
    refine zaf ?_;refine zae rfl (fun K hK=>?_);go_simp;refine hK.out _ _ (YB2.out.trans ((za2 Y2 _).mono YB2.out.size)) ?_;clear hK K
    (try simp only[Act.put,IQ,IZ,OI])
    refine zak ?_;simp only[List.drop_succ_cons,List.drop_zero];have hX:=YB2.out;have HG5:=J (HG.out.below (lo:=0) In.nil hX);have HB5:=btr HB hX;have hz5:w4.heap.size≤Y2.heap.size:=HB5.out.size;clear hX CX CY h1 h2 h3 h4 h5 h6;refine zbe rfl (.tmp 47) (.tmp 75) _ rfl w4.heap.size 66 i0 _ 2 16 Tryz.underlying242 hi0 hz0 hz1 hz2 rfl O _ _ _ [] rfl HG5.out [I (p.x+rdiv ((k:Int)*(q.x-p.x)) 16),I (p.y+rdiv ((k:Int)*(q.y-p.y)) 16)] (DPoint.tr ⟨p.x+rdiv ((k:Int)*(q.x-p.x)) 16,p.y+rdiv ((k:Int)*(q.y-p.y)) 16⟩) [] rfl 1 rfl (fun u hu=>by simp at hu;rcases hu with rfl|rfl<;>rfl) (RepV_lits _ [I (p.x+rdiv ((k:Int)*(q.x-p.x)) 16),I (p.y+rdiv ((k:Int)*(q.y-p.y)) 16)]) List.nodup_nil (fun b h=>by simp at h) 0 In.nil In.nil (by simp) (by simp) (by unfold maxLen;omega) O O ?_;intro v2 w6 hgn;have HGN:=J hgn;clear hgn;go_wp2;go_roundw
    case rel =>
     refine⟨k+1,O,by go_num,HB5.out.trans HGN.out.below,?_⟩;rw[HFL.out,HPK.out]
     simpa using HGN.out.grow
    case measure=>simp[intOf];omega
   | true =>
    rw[show atK true k=16-k from rfl] at HFL;have hai:((16-k:Nat):Int)=16-(k:Int):=O
    have HAI:=J hai;clear hai;go_upto_region 13 with (fail);have mx:=zdl (a:=(16-(k:Int))) (b:=q.x-p.x) 16 200000 O O O O O O;have my:=zdl (a:=(16-(k:Int))) (b:=q.y-p.y) 16 200000 O O O O O O;have rx:=zd6 (a:=(16-(k:Int))*(q.x-p.x)) (b:=16) O 3200000 O O;have ry:=zd6 (a:=(16-(k:Int))*(q.y-p.y)) (b:=16) O 3200000 O O;have h1:IntKind.i64.wrap (q.x-p.x)=q.x-p.x:=IntWalk.i64_in _ O;have h2:IntKind.i64.wrap (q.y-p.y)=q.y-p.y:=IntWalk.i64_in _ O;have h3:IntKind.i64.wrap ((16-(k:Int))*(q.x-p.x))=(16-(k:Int))*(q.x-p.x):=IntWalk.i64_in _ O;have h4:IntKind.i64.wrap ((16-(k:Int))*(q.y-p.y))=(16-(k:Int))*(q.y-p.y):=IntWalk.i64_in _ O;have h5:IntKind.i64.wrap (p.x+rdiv ((16-(k:Int))*(q.x-p.x)) 16)=p.x+rdiv ((16-(k:Int))*(q.x-p.x)) 16:=IntWalk.i64_in _ O;have h6:IntKind.i64.wrap (p.y+rdiv ((16-(k:Int))*(q.y-p.y)) 16)=p.y+rdiv ((16-(k:Int))*(q.y-p.y)) 16:=IntWalk.i64_in _ O;have HPK:Hid (zcn p q (16-k)=⟨p.x+rdiv ((16-(k:Int))*(q.x-p.x)) 16,p.y+rdiv ((16-(k:Int))*(q.y-p.y)) 16⟩):=by show _=_;unfold zcn;rw[HAI.out]
    have CX:Hid (∀ W:World,Calls Tryz.prog 222 #[I ((16-(k:Int))*(q.x-p.x)),I 16] W fun e w'=>e=.returned (I (rdiv ((16-(k:Int))*(q.x-p.x)) 16))∧IJ W W w'):=fun W=>zam (zbn _ _ O O O O W)
    have CY:Hid (∀ W:World,Calls Tryz.prog 222 #[I ((16-(k:Int))*(q.y-p.y)),I 16] W fun e w'=>e=.returned (I (rdiv ((16-(k:Int))*(q.y-p.y)) 16))∧IJ W W w'):=fun W=>zam (zbn _ _ O O O O W)
    clear mx my rx ry;have HDR:Hid (∀ W:World,IJ wr wr W→_):=fun W hW=>HD.out W (HB.out.trans (hW.mono HB.out.size))
    have HBR:Hid (IJ wr wr wr):=Below.refl _ _;refine zap 29 (.read 0 (.read 1 (.read 2 (.read 3 (.read 4 (.read 5 (.read 6 (.read 7 (.read 8 (.read 9 (.read 10 (.read 11 (.read 14 (.read 15 (.read 16 (.read 17 (.read 18 (.read 19 (.read 20 (.read 21 (.read 22 (.read 23 (.read 24 (.one 12 (.read 13 (.one 25 (.read 26 (.read 27 (.one 28 .nil))))))))))))))))))))))))))))) (fun W=>IJ wr wr W) OJ OJ (HBR.out.drew) ?_;have YB:=J (HBR.out.drew);have Yz:wr.heap.size≤wr.drew.heap.size:=Nat.le_refl _;generalize wr.drew=Y at *
    iterate 23
     refine zag (v:=?_) rfl (fun _ _ _ h=>h) ?_ ?_
     rotate_left
     ·(intro W hSW;(try dsimp only at hSW);obtain⟨t0,t1,t2,t3⟩:=HDR.out W hSW;(go_simp<;>with_reducible rfl))
     (try simp only[Act.put,IQ,IZ,OI])
    refine zaf ?_;refine zae rfl (fun K hK=>?_);go_simp;refine ((fun W (_:IJ wr wr W)=>CX.out W) _ YB.out).mono ?_;rintro e Y1 ⟨rfl,hb1⟩;have YB1:=btr YB hb1;refine hK.out _ _ YB1.out ?_;clear hK K;have bs1:=hb1.size;clear hb1;refine zag (v:=?_) rfl (fun _ _ _ h=>h) ?_ ?_
    rotate_left
    ·(intro W hSW;(try dsimp only at hSW);obtain⟨t0,t1,t2,t3⟩:=HDR.out W hSW;(go_simp<;>with_reducible rfl))
    (try simp only[Act.put,IQ,IZ,OI])
    refine zaf ?_;refine zae rfl (fun K hK=>?_);go_simp;refine ((fun W (_:IJ wr wr W)=>CY.out W) _ YB1.out).mono ?_;rintro e Y2 ⟨rfl,hb2⟩;have YB2:=btr YB1 hb2;refine hK.out _ _ YB2.out ?_;clear hK K;have bs2:=hb2.size;clear hb2
    iterate 2
     refine zag (v:=?_) rfl (fun _ _ _ h=>h) ?_ ?_
     rotate_left
     ·(intro W hSW;(try dsimp only at hSW);obtain⟨t0,t1,t2,t3⟩:=HDR.out W hSW;(go_simp<;>with_reducible rfl))
     (try simp only[Act.put,IQ,IZ,OI])
    refine zaf ?_;refine zae rfl (fun K hK=>?_);go_simp;refine hK.out _ _ (YB2.out.trans ((za2 Y2 _).mono YB2.out.size)) ?_;clear hK K
    (try simp only[Act.put,IQ,IZ,OI])
    refine zak ?_;simp only[List.drop_succ_cons,List.drop_zero];have hX:=YB2.out;have HG5:=J (HG.out.below (lo:=0) In.nil hX);have HB5:=btr HB hX;have hz5:w4.heap.size≤Y2.heap.size:=HB5.out.size;clear hX CX CY h1 h2 h3 h4 h5 h6;refine zbe rfl (.tmp 47) (.tmp 75) _ rfl w4.heap.size 66 i0 _ 2 16 Tryz.underlying242 hi0 hz0 hz1 hz2 rfl O _ _ _ [] rfl HG5.out [I (p.x+rdiv ((16-(k:Int))*(q.x-p.x)) 16),I (p.y+rdiv ((16-(k:Int))*(q.y-p.y)) 16)] (DPoint.tr ⟨p.x+rdiv ((16-(k:Int))*(q.x-p.x)) 16,p.y+rdiv ((16-(k:Int))*(q.y-p.y)) 16⟩) [] rfl 1 rfl (fun u hu=>by simp at hu;rcases hu with rfl|rfl<;>rfl) (RepV_lits _ [I (p.x+rdiv ((16-(k:Int))*(q.x-p.x)) 16),I (p.y+rdiv ((16-(k:Int))*(q.y-p.y)) 16)]) List.nodup_nil (fun b h=>by simp at h) 0 In.nil In.nil (by simp) (by simp) (by unfold maxLen;omega) O O ?_;intro v2 w6 hgn;have HGN:=J hgn;clear hgn;go_wp2;go_roundw
    case rel =>
     refine⟨k+1,O,by go_num,HB5.out.trans HGN.out.below,?_⟩;rw[HFL.out,HPK.out]
     simpa using HGN.out.grow
    case measure=>simp[intOf];omega
  ·obtain rfl:k=17:=O
   rw[List.take_of_length_le (by rw[zek];omega)] at HG;obtain⟨av,cv,fv,ev,ov,iv⟩:=HG.out.toOwn (lo:=w4.heap.size) O In.nil O;subst ev;obtain⟨hnc,hcm,bq,oq,ea_,hb1,hb2,hfz,hcl⟩:=listK_own ov iv;subst ea_;have HFZ:=J hfz;have HCL:=J hcl;clear HG ov iv hfz hcl;go_wp2;go_ret
   exact⟨bq,oq,cv,rfl,B4.out.trans (HB.out.mono B4.out.size),hnc,hcm,Nat.le_trans B4.out.size hb1,hb2,fun j hj=>by
    have h_:=HCL.out j hj
    rw[HPL.out j];exact h_⟩
set_option maxHeartbeats 16000000
set_option maxRecDepth 100000
theorem iFree_any (f d:Int) (f0:1≤f) (f1:f≤100000000) (d0:1≤d) (d1:d≤283000) (w:World) (L:LibW w) :
  Calls Tryz.prog 159 #[I f,I d] w fun e w'=>e=.returned (I (zer f d))∧IJ w w w':=by
 have HE:Hid (zer f d=max (2*lgI d+2*lgI f-87552) 0):=rfl;obtain⟨a0,a1⟩:=lgI_bd (n:=f) O;obtain⟨b0,b1⟩:=lgI_bd (n:=d) O;generalize zer f d=FV at *;have B0:Hid (IJ w w w):=Below.refl _ _;have HB:Hid (IJ w w w):=Below.refl _ _;have CD:Hid (∀ W:World,IJ w w W→Calls Tryz.prog 200 #[I d] W fun e w'=>e=.returned (I (lgI d))∧IJ W W w'):=fun  W hW=>iLogDb_any d O O W (L.mono (B0.out.trans hW))
 have CF:Hid (∀ W:World,IJ w w W→Calls Tryz.prog 200 #[I f] W fun e w'=>e=.returned (I (lgI f))∧IJ W W w'):=fun  W hW=>iLogDb_any f O O W (L.mono (B0.out.trans hW))
 generalize lgI d=ld at *;generalize lgI f=lf at *;go_enter Tryz.func159,Tryz.ntmps159;skip;go_wp2_with ((first|(go_at_call 200;with_reducible refine (CD.out _ HB.out).mono ?_)|(go_at_call 200;with_reducible refine (CF.out _ HB.out).mono ?_));rintro e v1 ⟨rfl,hb_⟩;replace HB:=btr HB hb_;clear hb_;skip);go_ret;exact⟨by rw[HE.out];rfl,B0.out.trans (HB.out.mono B0.out.size)⟩
theorem l09Loss_any (f d:Int) (f0:1≤f) (f1:f≤100000000) (d0:1≤d) (d1:d≤283000) (w:World) :
  Calls Tryz.prog 175 #[I f,I d] w fun e w'=>e=.returned (I (zer f d))∧IJ w w w':=by
 have HE:Hid (zer f d=max (2*lgI d+2*lgI f-87552) 0):=rfl;obtain⟨a0,a1⟩:=lgI_bd (n:=f) O;obtain⟨b0,b1⟩:=lgI_bd (n:=d) O;generalize zer f d=FV at *;have B0:Hid (IJ w w w):=Below.refl _ _;have HB:Hid (IJ w w w):=Below.refl _ _;have CD:Hid (∀ W:World,IJ w w W→Calls Tryz.prog 217 #[I d] W fun e w'=>e=.returned (I (lgI d))∧IJ W W w'):=fun  W hW=>by
   have hh:=l02Log_any d O O W;unfold lgI;rw[if_neg O];exact hh
 have CF:Hid (∀ W:World,IJ w w W→Calls Tryz.prog 217 #[I f] W fun e w'=>e=.returned (I (lgI f))∧IJ W W w'):=fun  W hW=>by
   have hh:=l02Log_any f O O W;unfold lgI;rw[if_neg O];exact hh
 generalize lgI d=ld at *;generalize lgI f=lf at *;rw[Int.max_comm] at HE;have CM:Hid (∀ W:World,IJ w w W→Calls Tryz.prog 94 #[I 0,I (2*ld+2*lf-87552)] W fun e w'=>e=.returned (I (max 0 (2*ld+2*lf-87552)))∧IJ W W w'):=fun  W hW=>zam (ze7 _ _ W)
 go_enter Tryz.func175,Tryz.ntmps175;skip;go_wp2_with ((first|(go_at_call 217;with_reducible refine (CD.out _ HB.out).mono ?_)|(go_at_call 217;with_reducible refine (CF.out _ HB.out).mono ?_)|(go_at_call 94;with_reducible refine (CM.out _ HB.out).mono ?_));rintro e v1 ⟨rfl,hb_⟩;replace HB:=btr HB hb_;clear hb_;skip);go_ret;exact⟨by rw[HE.out];rfl,B0.out.trans (HB.out.mono B0.out.size)⟩
theorem gas_pick {x:Int} {k:Nat} (k0:1≤k) (k1:k≤8) (h0:∀ j,1≤j→j<k→gi gP j<x) (h1:k=8∨x≤gi gP k):gasX x=lineR (gi gP (k-1)) (gi gV (k-1)) (gi gP k) (gi gV k) x:=by
 rw[gasK_uniq k0 k1 h0 h1];rfl
theorem rowsAt_any (b c:Nat) (f:Int) (f0:1≤f) (f1:f≤100000000) (w:World) (hb:b<w.heap.size) (hx:∀ k:Nat,k<9→w.cell? ⟨b,k*2,none⟩=some (I (gi gP k))∧w.cell? ⟨b,k*2+1,none⟩=some (I (gi gV k))) :
  Calls Tryz.prog 240 #[II (some ⟨b,0,none⟩) 9 c,I f] w fun e w'=>e=.returned (I (gasX (f / 1000)))∧IJ w w w':=by
 have HX:=J hx;clear hx;have x0:0≤f / 1000:=O
 have x1:f / 1000≤100000:=O
 have HP:Hid (∀ k:Nat,1≤k→k≤8→(∀ j,1≤j→j<k→gi gP j<f / 1000)→(k=8∨f / 1000≤gi gP k)→gasX (f / 1000)=lineR (gi gP (k-1)) (gi gV (k-1)) (gi gP k) (gi gV k) (f / 1000)):=fun k k0 k1 h0 h1=>gas_pick k0 k1 h0 h1
 generalize gasX (f / 1000)=GX at *;generalize hfx:f / 1000=x at *;have B0:Hid (IJ w w w):=Below.refl _ _;have HB:Hid (IJ w w w):=Below.refl _ _;go_enter Tryz.func240,Tryz.ntmps240;skip;go_wp2
 go_loop [6] (fun ki=>∃ k:Nat,1≤k∧k≤8∧ki=I (k:Int)∧∀ j,1≤j→j<k→gi gP j<x) (fun ki=>9-(intOf ki).toNat)
 case atStart=>exact⟨1,Nat.le_refl _,O,rfl,fun j h0 h1=>O⟩
 case round =>
  obtain⟨k,hk0,hk1,rfl,hall⟩:=hrel;have HALL:=J hall;clear hall;have i0:(0:Int)≤(k:Int):=O
  have i1:(k:Int)<9:=O
  have i2:(k:Int)≤8:=O
  have i3:(1:Int)≤(k:Int):=O
  have hka:=(HX.out k O).1;have hkv:=(HX.out k O).2
  by_cases h8:k<8
  ·have h8i:(k:Int)<8:=O
   by_cases hc:gi gP k<x
   ·go_wp2
    go_round
    case rel=>exact⟨k+1,O,O,by go_num,fun j h0 h1=>by
     by_cases hj:j=k
     ·subst hj;exact hc
     ·exact HALL.out j h0 O⟩
    case measure=>simp[intOf];omega
   ·have hcd:decide (gi gP k<x)=false:=decide_eq_false hc
    have hpk:=HP.out k hk0 hk1 HALL.out O;obtain⟨q,eq_⟩:=Int.eq_ofNat_of_zero_le (show 0≤(k:Int)-1 by omega);have hqn:k-1=q:=O
    rw[hqn] at hpk;have hqa:=(HX.out q O).1;have hqv:=(HX.out q O).2;have j0:(0:Int)≤(q:Int):=O
    have j1:(q:Int)<9:=O
    have HPK:=J hpk;have CB:Hid (∀ W:World,IJ w w W→Calls Tryz.prog 260 #[I (gi gP q),I (gi gV q),I (gi gP k),I (gi gV k),I x] W fun e w'=>e=.returned (I GX)∧IJ W W w'):=fun W hW=>by
     rw[HPK.out];exact blend_any _ _ _ _ _ (gP_bd _) (gV_bd _) (gP_bd _) (gV_bd _) W
    clear hpk HPK HP HALL HX;go_upto_region 5 with (fail);have o0:=zal (w0:=w) (show b<w.heap.size from hb);refine zad w.heap.size w (Below.refl _ _) OJ OJ ?_
    repeat (go_big_quiet_step (first|(go_at_call 260;with_reducible exact zaj (Nat.le_refl _) (CB.out _ (HB.out.trans ((zaa _ _ _).mono HB.out.size))))))
    refine wpQuiet_nil ?_;rintro _ ⟨Y,rfl⟩;have HB2:=J (zaa w.heap.size w Y);clear o0;generalize over w.heap.size w Y=u9 at *;go_wp2;go_ret;exact⟨rfl,HB2.out⟩
  ·have h8i:(8:Int)≤(k:Int):=O
   have hpk:=HP.out k hk0 hk1 HALL.out (Or.inl O);obtain⟨q,eq_⟩:=Int.eq_ofNat_of_zero_le (show 0≤(k:Int)-1 by omega);have hqn:k-1=q:=O
   rw[hqn] at hpk;have hqa:=(HX.out q O).1;have hqv:=(HX.out q O).2;have j0:(0:Int)≤(q:Int):=O
   have j1:(q:Int)<9:=O
   have HPK:=J hpk;have CB:Hid (∀ W:World,IJ w w W→Calls Tryz.prog 260 #[I (gi gP q),I (gi gV q),I (gi gP k),I (gi gV k),I x] W fun e w'=>e=.returned (I GX)∧IJ W W w'):=fun W hW=>by
    rw[HPK.out];exact blend_any _ _ _ _ _ (gP_bd _) (gV_bd _) (gP_bd _) (gV_bd _) W
   clear hpk HPK HP HALL HX;go_upto_region 5 with (fail);have o0:=zal (w0:=w) (show b<w.heap.size from hb);refine zad w.heap.size w (Below.refl _ _) OJ OJ ?_
   repeat (go_big_quiet_step (first|(go_at_call 260;with_reducible exact zaj (Nat.le_refl _) (CB.out _ (HB.out.trans ((zaa _ _ _).mono HB.out.size))))))
   refine wpQuiet_nil ?_;rintro _ ⟨Y,rfl⟩;have HB2:=J (zaa w.heap.size w Y);clear o0;generalize over w.heap.size w Y=u9 at *;go_wp2;go_ret;exact⟨rfl,HB2.out⟩
theorem gasSpec_any (f:Int) (f0:1≤f) (f1:f≤100000000) (w:World) :
  Calls Tryz.prog 202 #[I f] w fun e w'=>e=.returned (I (gasX (f / 1000)))∧IJ w w w':=by
 go_enter Tryz.func202,Tryz.ntmps202;go_wp2_with (go_at_call 240;with_reducible refine (rowsAt_any w.heap.size 9 f f0 f1 _ (by simp) ?_).mono ?_)
 ·intro k hk
  have hk2:k=0∨k=1∨k=2∨k=3∨k=4∨k=5∨k=6∨k=7∨k=8:=O
  rcases hk2 with rfl|rfl|rfl|rfl|rfl|rfl|rfl|rfl|rfl<;>exact⟨bkC (bkN w _ _) _ rfl,bkC (bkN w _ _) _ rfl⟩
 rintro e v1 ⟨rfl,hb1⟩;go_wp2;go_ret;exact⟨rfl,(za2 w _).trans (hb1.mono (by simp))⟩
theorem iGas_any (f d:Int) (f0:1≤f) (f1:f≤100000000) (d0:1≤d) (d1:d≤283000) (w:World) :
  Calls Tryz.prog 160 #[I f,I d] w fun e w'=>e=.returned (I (gasI f d))∧IJ w w w':=by
 obtain⟨g0,g1⟩:=gas_in (f:=f) (d:=d) O d1;have HE:Hid (gasI f d=rdiv (gasX (f / 1000)*d) 1000):=rfl;obtain⟨q0,q1⟩:=gasX_bd (f / 1000);generalize gasI f d=GV at *;have B0:Hid (IJ w w w):=Below.refl _ _;have HB:Hid (IJ w w w):=Below.refl _ _;have CS:Hid (∀ W:World,IJ w w W→Calls Tryz.prog 202 #[I f] W fun e w'=>e=.returned (I (gasX (f / 1000)))∧IJ W W w'):=fun  W hW=>gasSpec_any f f0 f1 W
 have CD:Hid (∀ W:World,IJ w w W→Calls Tryz.prog 201 #[I (gasX (f / 1000)*d),I 1000] W fun e w'=>e=.returned (I (rdiv (gasX (f / 1000)*d) 1000))∧IJ W W w'):=fun  W hW=>zbu _ _ O O O O W
 generalize gasX (f / 1000)=GX at *;go_enter Tryz.func160,Tryz.ntmps160;skip;go_wp2_with ((first|(go_at_call 202;with_reducible refine (CS.out _ HB.out).mono ?_)|(go_at_call 201;with_reducible refine (CD.out _ HB.out).mono ?_));rintro e v1 ⟨rfl,hb_⟩;replace HB:=btr HB hb_;clear hb_;skip);go_ret;exact⟨by rw[HE.out];rfl,B0.out.trans (HB.out.mono B0.out.size)⟩
theorem l09Distance_any (n:Int) (w:World):Calls Tryz.prog 221 #[I n] w fun e w'=>e=.returned (.bool (inB n 1 283000))∧w=w':=by
 go_enter Tryz.func221,Tryz.ntmps221;go_wp2_with (go_at_call 89;refine (zaq _ _ _ _).mono ?_;rintro e w1 ⟨rfl,rfl⟩);go_ret;exact⟨rfl,rfl⟩
theorem l09Freq_any (n:Int) (w:World):Calls Tryz.prog 88 #[I n] w fun e w'=>e=.returned (.bool (inB n 1 100000000))∧w=w':=by
 go_enter Tryz.func88,Tryz.ntmps88;go_wp2_with (go_at_call 89;refine (zaq _ _ _ _).mono ?_;rintro e w1 ⟨rfl,rfl⟩);go_ret;exact⟨rfl,rfl⟩
theorem l11Table_any (b c:Nat) (f:Int) (f0:1≤f) (f1:f≤100000000) (w:World) (hx:∀ k:Nat,k<9→w.cell? ⟨b,k,none⟩=some (I (gi gP k))∧w.cell? ⟨c,k,none⟩=some (I (gi gV k))) :
  Calls Tryz.prog 251 #[I (f / 1000),II (some ⟨b,0,none⟩) 9 9,II (some ⟨c,0,none⟩) 9 9] w fun e w'=>e=.returned (I (gasX (f / 1000)))∧IJ w w w':=by
 have HX:=J hx;clear hx;have x0:0≤f / 1000:=O
 have x1:f / 1000≤100000:=O
 have HP:Hid (∀ k:Nat,1≤k→k≤8→(∀ j,1≤j→j<k→gi gP j<f / 1000)→(k=8∨f / 1000≤gi gP k)→gasX (f / 1000)=lineR (gi gP (k-1)) (gi gV (k-1)) (gi gP k) (gi gV k) (f / 1000)):=fun k k0 k1 h0 h1=>gas_pick k0 k1 h0 h1
 generalize gasX (f / 1000)=GX at *;generalize f / 1000=x at *;have B0:Hid (IJ w w w):=Below.refl _ _;have HB:Hid (IJ w w w):=Below.refl _ _;have hp0:gi gP 0=1000:=rfl;have hq0:gi gV 0=5:=rfl;have c00:=(HX.out 0 O).1;have c01:=(HX.out 0 O).2;have hbl:b<w.heap.size:=zbh c00;have hcl:c<w.heap.size:=zbh c01;rw[hp0] at c00;rw[hq0] at c01
 by_cases hz:x≤1000
 ·have HE:Hid (GX=5):=by
   show _=_
   rw[HP.out 1 O O (fun j h0 h1=>O) (Or.inr (by show x≤10000;omega))];show lineR (gi gP 0) (gi gV 0) (gi gP 1) (gi gV 1) x=5
   unfold lineR;rw[if_pos (Or.inl (by show x≤1000;exact hz))];rfl
  clear HP HX hp0 hq0;go_enter Tryz.func251,Tryz.ntmps251;go_wp2;go_ret;exact⟨by rw[HE.out];rfl,Below.refl _ _⟩
 clear hp0 hq0 c00 c01;go_enter Tryz.func251,Tryz.ntmps251;have c00:=(HX.out 0 O).1;rw[show gi gP 0=1000 from rfl] at c00;go_wp2
 go_loop [8] (fun ki=>∃ k:Nat,1≤k∧k≤9∧ki=I (k:Int)∧∀ j,1≤j→j<k→gi gP j<x) (fun ki=>10-(intOf ki).toNat)
 case atStart=>exact⟨1,Nat.le_refl _,O,rfl,fun j h0 h1=>O⟩
 case round =>
  obtain⟨k,hk0,hk1,rfl,hall⟩:=hrel;have HALL:=J hall;clear hall c00;have i0:(0:Int)≤(k:Int):=O
  have i3:(1:Int)≤(k:Int):=O
  by_cases h9:k<9
  ·have i1:(k:Int)<9:=O
   have i2:(k:Int)≤8:=O
   have hka:=(HX.out k h9).1;have hkv:=(HX.out k h9).2
   by_cases hc:x≤gi gP k
   ·have hpk:=HP.out k hk0 O HALL.out (Or.inr hc)
    obtain⟨q,eq_⟩:=Int.eq_ofNat_of_zero_le (show 0≤(k:Int)-1 by omega);have hqn:k-1=q:=O
    rw[hqn] at hpk;have hqa:=(HX.out q O).1;have hqv:=(HX.out q O).2;have j0:(0:Int)≤(q:Int):=O
    have j1:(q:Int)<9:=O
    have HPK:=J hpk;have CB:Hid (∀ W:World,IJ w w W→Calls Tryz.prog 266 #[I (gi gP q),I (gi gV q),I (gi gP k),I (gi gV k),I x] W fun e w'=>e=.returned (I GX)∧IJ W W w'):=fun W hW=>by
     rw[HPK.out];exact l01Line_any _ _ _ _ _ (gP_bd _) (gV_bd _) (gP_bd _) (gV_bd _) W
    clear hpk HPK HP HALL HX;go_upto_region 8 with (fail);have o0:=zal (w0:=w) hbl;have o1:=zal (w0:=w) hcl;refine zad w.heap.size w (Below.refl _ _) OJ OJ ?_
    repeat (go_big_quiet_step (first|(go_at_call 266;with_reducible exact zaj (Nat.le_refl _) (CB.out _ (HB.out.trans ((zaa _ _ _).mono HB.out.size))))))
    refine wpQuiet_nil ?_;rintro _ ⟨Y,rfl⟩;have HB2:=J (zaa w.heap.size w Y);clear o0 o1;generalize over w.heap.size w Y=u9 at *;go_wp2;go_ret;exact⟨rfl,HB2.out⟩
   ·have hcd:decide (x≤gi gP k)=false:=decide_eq_false hc
    go_wp2
    go_round
    case rel=>exact⟨k+1,O,O,by go_num,fun j h0 h1=>by
     by_cases hj:j=k
     ·subst hj;omega
     ·exact HALL.out j h0 O⟩
    case measure=>simp[intOf];omega
  ·obtain rfl:k=9:=O
   have c8:=(HX.out 8 O).2;rw[show gi gV 8=480 from rfl] at c8;have h8:=HALL.out 8 O O;have HE:Hid (GX=480):=by
    show _=_
    have h8b:(100000:Int)<x:=h8;omega
   clear HP HX HALL;go_wp2;go_ret;exact⟨by rw[HE.out];rfl,Below.refl _ _⟩
theorem l11Gas_any (f:Int) (f0:1≤f) (f1:f≤100000000) (w:World) :
  Calls Tryz.prog 223 #[I f] w fun e w'=>e=.returned (I (gasX (f / 1000)))∧IJ w w w':=by
 go_enter Tryz.func223,Tryz.ntmps223;go_wp2_with (go_at_call 251;with_reducible refine (l11Table_any w.heap.size (w.heap.size+1) f f0 f1 _ ?_).mono ?_)
 ·intro k hk
  have hk2:k=0∨k=1∨k=2∨k=3∨k=4∨k=5∨k=6∨k=7∨k=8:=O
  rcases hk2 with rfl|rfl|rfl|rfl|rfl|rfl|rfl|rfl|rfl<;>exact⟨by simp[go_sem];rfl,by simp[go_sem];rfl⟩
 rintro e v1 ⟨rfl,hb1⟩;go_wp2;go_ret;exact⟨rfl,((za2 w _).trans ((za2 _ _).mono (by simp))).trans (hb1.mono (by simp<;>omega))⟩
theorem sGas_any (f d:Int) (f0:1≤f) (f1:f≤100000000) (d0:1≤d) (d1:d≤283000) (w:World) :
  Calls Tryz.prog 178 #[I f,I d] w fun e w'=>e=.returned (.tuple #[I (gasI f d),I 0])∧IJ w w w':=by
 obtain⟨g0,g1⟩:=gas_in (f:=f) (d:=d) O d1;have HE:Hid (gasI f d=rdiv (gasX (f / 1000)*d) 1000):=rfl;obtain⟨q0,q1⟩:=gasX_bd (f / 1000);generalize gasI f d=GV at *;have B0:Hid (IJ w w w):=Below.refl _ _;have HB:Hid (IJ w w w):=Below.refl _ _;have CF:Hid (∀ W:World,IJ w w W→Calls Tryz.prog 88 #[I f] W fun e w'=>e=.returned (.bool true)∧IJ W W w'):=fun  W hW=>by
   have hh:=l09Freq_any f W;rw[zat.2 ⟨f0,f1⟩] at hh;exact zam hh
 have CI:Hid (∀ W:World,IJ w w W→Calls Tryz.prog 221 #[I d] W fun e w'=>e=.returned (.bool true)∧IJ W W w'):=fun  W hW=>by
   have hh:=l09Distance_any d W;rw[zat.2 ⟨d0,d1⟩] at hh;exact zam hh
 have CS:Hid (∀ W:World,IJ w w W→Calls Tryz.prog 223 #[I f] W fun e w'=>e=.returned (I (gasX (f / 1000)))∧IJ W W w'):=fun  W hW=>l11Gas_any f f0 f1 W
 have CD:Hid (∀ W:World,IJ w w W→Calls Tryz.prog 222 #[I (gasX (f / 1000)*d),I 1000] W fun e w'=>e=.returned (I (rdiv (gasX (f / 1000)*d) 1000))∧IJ W W w'):=fun  W hW=>zam (zbn _ _ O O O O W)
 generalize gasX (f / 1000)=GX at *;go_enter Tryz.func178,Tryz.ntmps178;skip;go_wp2_with ((first|(go_at_call 88;with_reducible refine (CF.out _ HB.out).mono ?_)|(go_at_call 221;with_reducible refine (CI.out _ HB.out).mono ?_)|(go_at_call 223;with_reducible refine (CS.out _ HB.out).mono ?_)|(go_at_call 222;with_reducible refine (CD.out _ HB.out).mono ?_));rintro e v1 ⟨rfl,hb_⟩;replace HB:=btr HB hb_;clear hb_;skip);go_ret2;exact⟨by rw[HE.out];rfl,B0.out.trans (HB.out.mono B0.out.size)⟩
theorem l11High_any (k:Nat) (hk:k<8) (w:World) :
  Calls Tryz.prog 227 #[I (k:Int)] w fun e w'=>e=.returned (I (gi clH k))∧IJ w w w':=by
 have k0:(0:Int)≤(k:Int):=O
 have k1:(k:Int)<8:=O
 have kc:=tab_at clH k hk;generalize hv:gi clH k=hv_ at *;go_enter Tryz.func227,Tryz.ntmps227;go_upto_region 2 with (fail);have cl:(w.alloc (.cells ((clH.map fun n=>Value.int .i64 n).toArray) 2)).cell? ⟨w.heap.size,k,none⟩=some (I hv_):=bkC (bkN w _ _) k kc;have zz:w.heap.size<(w.alloc (.cells ((clH.map fun n=>Value.int .i64 n).toArray) 2)).heap.size:=by simp
 have bb:=za2 w (.cells ((clH.map fun n=>Value.int .i64 n).toArray) 2);change Code.wp _ _ _ _ (w.alloc (.cells ((clH.map fun n=>Value.int .i64 n).toArray) 2))
 generalize w.alloc (.cells ((clH.map fun n=>Value.int .i64 n).toArray) 2)=W1 at *;go_wp2;go_ret;exact⟨rfl,bb⟩
def clTh:List Int:=[300000,1000000,3000000,10000000]
def clP (f:Int):Nat→Int
 | 0=>50
 | k+1=>clP f k+if gi clTh k<f then 25 else 0
theorem clP4 (f:Int):clP f 4=clF f:=by
 have e0:gi clTh 0=300000:=rfl;have e1:gi clTh 1=1000000:=rfl;have e2:gi clTh 2=3000000:=rfl;have e3:gi clTh 3=10000000:=rfl;unfold clF;simp only[clP,e0,e1,e2,e3]
 repeat' split
 all_goals omega
theorem clP_bd (f:Int):∀ k:Nat,50≤clP f k∧clP f k≤50+25*(k:Int)
 | 0=>by simp[clP]
 | k+1=>by
  have:=clP_bd f k;simp only[clP]
  split<;>omega
theorem l11Clut_any (k:Nat) (hk:k<8) (f a:Int) (f0:1≤f) (f1:f≤100000000) (a0:0≤a) (w:World) :
  Calls Tryz.prog 180 #[I (k:Int),I f,I a] w fun e w'=>e=.returned (I (cluI (k:Int) f a))∧IJ w w w':=by
 obtain⟨hh0,hh1⟩:=clH_bd k;obtain⟨hl0,hl1⟩:=clL_bd k;have HE0:Hid (cluI (k:Int) f a=if gi clH k≤a then 0 else rdiv (clF f*gi clL k*(gi clH k-a)) (100*gi clH k)):=rfl;have hin:=fun h:¬ gi clH k≤a=>clu_in (c:=(k:Int)) (f:=f) a0 h
 rw[Int.toNat_natCast] at hin;have HIN:=J hin;clear hin;have k0:(0:Int)≤(k:Int):=O
 have k1:(k:Int)<8:=O
 obtain⟨cf0,cf1⟩:=clF_bd f;generalize cluI (k:Int) f a=CV at *;have B0:Hid (IJ w w w):=Below.refl _ _;have HB:Hid (IJ w w w):=Below.refl _ _;have CH:Hid (∀ W:World,IJ w w W→Calls Tryz.prog 227 #[I (k:Int)] W fun e w'=>e=.returned (I (gi clH k))∧IJ W W w'):=fun  W hW=>l11High_any k hk W
 have kc:=tab_at clL k hk;generalize gi clH k=hv at *;generalize gi clL k=lv at *
 by_cases hc:hv≤a
 ·have HE:Hid (CV=0):=by show _=_;rw[HE0.out,if_pos hc]
  go_enter Tryz.func180,Tryz.ntmps180;skip;go_wp2_with (first|(go_at_call 227;with_reducible refine (CH.out _ HB.out).mono ?_;rintro e v1 ⟨rfl,hb_⟩;replace HB:=btr HB hb_;clear hb_;skip));go_ret;exact⟨by rw[HE.out];rfl,B0.out.trans (HB.out.mono B0.out.size)⟩
 have HE1:Hid (CV=rdiv (clF f*lv*(hv-a)) (100*hv)):=by show _=_;rw[HE0.out,if_neg hc]
 obtain⟨⟨p0,p1⟩,q0,q1⟩:=HIN.out hc;clear HE0 HIN;go_enter Tryz.func180,Tryz.ntmps180;skip;go_upto_region 5 with (first|(go_at_call 227;with_reducible refine (CH.out _ HB.out).mono ?_;rintro e v1 ⟨rfl,hb_⟩;replace HB:=btr HB hb_;clear hb_;skip));have hL:∀ h_:k<([Value.int .i64 0,Value.int .i64 1000,Value.int .i64 500,Value.int .i64 12000,Value.int .i64 8000,Value.int .i64 10000,Value.int .i64 16000,Value.int .i64 20000]:List Value).length,([Value.int .i64 0,Value.int .i64 1000,Value.int .i64 500,Value.int .i64 12000,Value.int .i64 8000,Value.int .i64 10000,Value.int .i64 16000,Value.int .i64 20000]:List Value)[k]'h_=I lv:=fun h_=>by
  have e_:([Value.int .i64 0,Value.int .i64 1000,Value.int .i64 500,Value.int .i64 12000,Value.int .i64 8000,Value.int .i64 10000,Value.int .i64 16000,Value.int .i64 20000]:List Value)[k]? = some (I lv):=by
   have h9:=kc;rw[List.getElem?_toArray] at h9;exact h9
  rw[List.getElem?_eq_getElem h_] at e_;exact Option.some.inj e_
 rw[hL];have bq:=J (HB.out.trans ((za2 v1 (.cells #[Value.int .i64 0,Value.int .i64 1000,Value.int .i64 500,Value.int .i64 12000,Value.int .i64 8000,Value.int .i64 10000,Value.int .i64 16000,Value.int .i64 20000] 2)).mono HB.out.size));generalize v1.alloc (.cells #[Value.int .i64 0,Value.int .i64 1000,Value.int .i64 500,Value.int .i64 12000,Value.int .i64 8000,Value.int .i64 10000,Value.int .i64 16000,Value.int .i64 20000] 2)=v2 at *;clear HB hL kc CH;have HB:=bq
 by_cases c50:f≤300000
 case pos =>
  have hF:clF f=50:=by unfold clF;rw[if_pos c50]
  rw[hF] at p0 p1 q0 q1 HE1 cf0 cf1;have CD:Hid (∀ W:World,IJ w w W→Calls Tryz.prog 222 #[I (50*lv*(hv-a)),I (100*hv)] W fun e w'=>e=.returned (I CV)∧IJ W W w'):=fun  W hW=>zam (by rw[HE1.out];exact zbn _ _ O O O O W)
  clear hF HE1;go_wp2_with (first|(go_at_call 222;with_reducible refine (CD.out _ HB.out).mono ?_;rintro e v2 ⟨rfl,hb_⟩;replace HB:=btr HB hb_;clear hb_;skip));go_ret;exact⟨rfl,B0.out.trans (HB.out.mono B0.out.size)⟩
 by_cases c75:f≤1000000
 case pos =>
  have hF:clF f=75:=by unfold clF;rw[if_neg c50];rw[if_pos c75]
  rw[hF] at p0 p1 q0 q1 HE1 cf0 cf1;have CD:Hid (∀ W:World,IJ w w W→Calls Tryz.prog 222 #[I (75*lv*(hv-a)),I (100*hv)] W fun e w'=>e=.returned (I CV)∧IJ W W w'):=fun  W hW=>zam (by rw[HE1.out];exact zbn _ _ O O O O W)
  clear hF HE1;go_wp2_with (first|(go_at_call 222;with_reducible refine (CD.out _ HB.out).mono ?_;rintro e v2 ⟨rfl,hb_⟩;replace HB:=btr HB hb_;clear hb_;skip));go_ret;exact⟨rfl,B0.out.trans (HB.out.mono B0.out.size)⟩
 by_cases c100:f≤3000000
 case pos =>
  have hF:clF f=100:=by unfold clF;rw[if_neg c50];rw[if_neg c75];rw[if_pos c100]
  rw[hF] at p0 p1 q0 q1 HE1 cf0 cf1;have CD:Hid (∀ W:World,IJ w w W→Calls Tryz.prog 222 #[I (100*lv*(hv-a)),I (100*hv)] W fun e w'=>e=.returned (I CV)∧IJ W W w'):=fun  W hW=>zam (by rw[HE1.out];exact zbn _ _ O O O O W)
  clear hF HE1;go_wp2_with (first|(go_at_call 222;with_reducible refine (CD.out _ HB.out).mono ?_;rintro e v2 ⟨rfl,hb_⟩;replace HB:=btr HB hb_;clear hb_;skip));go_ret;exact⟨rfl,B0.out.trans (HB.out.mono B0.out.size)⟩
 by_cases c125:f≤10000000
 case pos =>
  have hF:clF f=125:=by unfold clF;rw[if_neg c50];rw[if_neg c75];rw[if_neg c100];rw[if_pos c125]
  rw[hF] at p0 p1 q0 q1 HE1 cf0 cf1;have CD:Hid (∀ W:World,IJ w w W→Calls Tryz.prog 222 #[I (125*lv*(hv-a)),I (100*hv)] W fun e w'=>e=.returned (I CV)∧IJ W W w'):=fun  W hW=>zam (by rw[HE1.out];exact zbn _ _ O O O O W)
  clear hF HE1;go_wp2_with (first|(go_at_call 222;with_reducible refine (CD.out _ HB.out).mono ?_;rintro e v2 ⟨rfl,hb_⟩;replace HB:=btr HB hb_;clear hb_;skip));go_ret;exact⟨rfl,B0.out.trans (HB.out.mono B0.out.size)⟩
 have hF:clF f=150:=by unfold clF;rw[if_neg c50];rw[if_neg c75];rw[if_neg c100];rw[if_neg c125]
 rw[hF] at p0 p1 q0 q1 HE1 cf0 cf1;have CD:Hid (∀ W:World,IJ w w W→Calls Tryz.prog 222 #[I (150*lv*(hv-a)),I (100*hv)] W fun e w'=>e=.returned (I CV)∧IJ W W w'):=fun  W hW=>zam (by rw[HE1.out];exact zbn _ _ O O O O W)
 clear hF HE1;go_wp2_with (first|(go_at_call 222;with_reducible refine (CD.out _ HB.out).mono ?_;rintro e v2 ⟨rfl,hb_⟩;replace HB:=btr HB hb_;clear hb_;skip));go_ret;exact⟨rfl,B0.out.trans (HB.out.mono B0.out.size)⟩
theorem iClut_any (k:Nat) (hk:k<8) (f a:Int) (f0:1≤f) (f1:f≤100000000) (a0:0≤a) (w:World) (L:TabW w) :
  Calls Tryz.prog 164 #[I (k:Int),I f,I a] w fun e w'=>e=.returned (I (cluI (k:Int) f a))∧IJ w w w':=by
 obtain⟨hh0,hh1⟩:=clH_bd k;obtain⟨hl0,hl1⟩:=clL_bd k;have HE0:Hid (cluI (k:Int) f a=if gi clH k≤a then 0 else rdiv (clF f*gi clL k*(gi clH k-a)) (100*gi clH k)):=rfl;have hin:=fun h:¬ gi clH k≤a=>clu_in (c:=(k:Int)) (f:=f) a0 h
 rw[Int.toNat_natCast] at hin;have HIN:=J hin;clear hin;have k0:(0:Int)≤(k:Int):=O
 have k1:(k:Int)<8:=O
 have hC4:=clP4 f;have HC4:=J hC4;clear hC4;obtain⟨cf0,cf1⟩:=clF_bd f;generalize cluI (k:Int) f a=CV at *;obtain⟨s,g0⟩:=L.cln k hk;have g1:=L.clh k hk;have g2:=L.cll k hk;clear L;generalize gi clH k=hv at *;generalize gi clL k=lv at *;obtain⟨W0,hW0,b0_,z0,k0_⟩:=zax w #[F s,I hv,I lv] 251;have HW0:=J hW0;have B0:=J b0_;have HD:Hid (∀ W:World,IJ W0 W0 W→(W.cell? ⟨w,0,none⟩=some (F s)∧W.cell? ⟨w,1,none⟩=some (I hv)∧W.cell? ⟨w,2,none⟩=some (I lv))):=fun W hW=>⟨(bat hW w.heap.size _ O).trans (bkC k0_ 0 rfl),(bat hW w.heap.size _ O).trans (bkC k0_ 1 rfl),(bat hW w.heap.size _ O).trans (bkC k0_ 2 rfl)⟩
 have HB:Hid (IJ W0 W0 W0):=Below.refl _ _;clear hW0 b0_ k0_
 by_cases hc:hv≤a
 case pos =>
  have HE:Hid (CV=0):=by show _=_;rw[HE0.out,if_pos hc]
  go_enter Tryz.func164,Tryz.ntmps164;go_upto_region 2 with (fail);rw[HW0.out];clear g0 g1 g2;obtain⟨t0,t1,t2⟩:=HD.out _ HB.out;go_wp2;go_ret;exact⟨by rw[HE.out];rfl,B0.out⟩
 have HE1:Hid (CV=rdiv (clF f*lv*(hv-a)) (100*hv)):=by show _=_;rw[HE0.out,if_neg hc]
 obtain⟨⟨p0,p1⟩,q0,q1⟩:=HIN.out hc;clear HE0 HIN;have hi0:∀ w,(Instr.index 253 (.agg #[I 300000,I 1000000,I 3000000,I 10000000]) (I 0)).run Tryz.prog w=.ok (I 300000) w:=fun _=>by kernel_rfl
 have hi1:∀ w,(Instr.index 253 (.agg #[I 300000,I 1000000,I 3000000,I 10000000]) (I 1)).run Tryz.prog w=.ok (I 1000000) w:=fun _=>by kernel_rfl
 have hi2:∀ w,(Instr.index 253 (.agg #[I 300000,I 1000000,I 3000000,I 10000000]) (I 2)).run Tryz.prog w=.ok (I 3000000) w:=fun _=>by kernel_rfl
 have hi3:∀ w,(Instr.index 253 (.agg #[I 300000,I 1000000,I 3000000,I 10000000]) (I 3)).run Tryz.prog w=.ok (I 10000000) w:=fun _=>by kernel_rfl
 go_enter Tryz.func164,Tryz.ntmps164;go_upto_region 2 with (fail);rw[HW0.out];clear g0 g1 g2;obtain⟨t0,t1,t2⟩:=HD.out _ HB.out;go_wp2
 go_loop [8,19] (fun ps ks=>∃ k:Nat,k≤4∧ps=I (clP f k)∧ks=I (k:Int)) (fun ps ks=>4-(intOf ks).toNat)
 case atStart=>exact⟨0,O,rfl,rfl⟩
 case round =>
  obtain⟨j,hj,rfl,rfl⟩:=hrel;obtain⟨cb0,cb1⟩:=clP_bd f j;have hj5:j=0∨j=1∨j=2∨j=3∨j=4:=O
  rcases hj5 with rfl|rfl|rfl|rfl|rfl
  ·by_cases cf:300000<f
   ·have hs:clP f 1=clP f 0+25:=by show clP f 0+(if gi clTh 0<f then 25 else 0)=_;rw[if_pos (by exact cf)]
    have HS:=J hs;clear hs;generalize clP f 0=pv at *;go_wp2
    go_round
    case rel=>exact⟨1,O,by rw[HS.out],rfl⟩
    case measure=>simp[intOf]
   ·have hs:clP f 1=clP f 0:=by show clP f 0+(if gi clTh 0<f then 25 else 0)=_;rw[if_neg (by exact cf),Int.add_zero]
    have HS:=J hs;clear hs;generalize clP f 0=pv at *;go_wp2
    go_round
    case rel=>exact⟨1,O,by rw[HS.out],rfl⟩
    case measure=>simp[intOf]
  ·by_cases cf:1000000<f
   ·have hs:clP f 2=clP f 1+25:=by show clP f 1+(if gi clTh 1<f then 25 else 0)=_;rw[if_pos (by exact cf)]
    have HS:=J hs;clear hs;generalize clP f 1=pv at *;go_wp2
    go_round
    case rel=>exact⟨2,O,by rw[HS.out],rfl⟩
    case measure=>simp[intOf]
   ·have hs:clP f 2=clP f 1:=by show clP f 1+(if gi clTh 1<f then 25 else 0)=_;rw[if_neg (by exact cf),Int.add_zero]
    have HS:=J hs;clear hs;generalize clP f 1=pv at *;go_wp2
    go_round
    case rel=>exact⟨2,O,by rw[HS.out],rfl⟩
    case measure=>simp[intOf]
  ·by_cases cf:3000000<f
   ·have hs:clP f 3=clP f 2+25:=by show clP f 2+(if gi clTh 2<f then 25 else 0)=_;rw[if_pos (by exact cf)]
    have HS:=J hs;clear hs;generalize clP f 2=pv at *;go_wp2
    go_round
    case rel=>exact⟨3,O,by rw[HS.out],rfl⟩
    case measure=>simp[intOf]
   ·have hs:clP f 3=clP f 2:=by show clP f 2+(if gi clTh 2<f then 25 else 0)=_;rw[if_neg (by exact cf),Int.add_zero]
    have HS:=J hs;clear hs;generalize clP f 2=pv at *;go_wp2
    go_round
    case rel=>exact⟨3,O,by rw[HS.out],rfl⟩
    case measure=>simp[intOf]
  ·by_cases cf:10000000<f
   ·have hs:clP f 4=clP f 3+25:=by show clP f 3+(if gi clTh 3<f then 25 else 0)=_;rw[if_pos (by exact cf)]
    have HS:=J hs;clear hs;generalize clP f 3=pv at *;go_wp2
    go_round
    case rel=>exact⟨4,O,by rw[HS.out],rfl⟩
    case measure=>simp[intOf]
   ·have hs:clP f 4=clP f 3:=by show clP f 3+(if gi clTh 3<f then 25 else 0)=_;rw[if_neg (by exact cf),Int.add_zero]
    have HS:=J hs;clear hs;generalize clP f 3=pv at *;go_wp2
    go_round
    case rel=>exact⟨4,O,by rw[HS.out],rfl⟩
    case measure=>simp[intOf]
  ·rw[HC4.out] at cb0 cb1 ⊢
   clear hi0 hi1 hi2 hi3 HC4;have CD:Hid (∀ W:World,IJ W0 W0 W→Calls Tryz.prog 201 #[I (clF f*lv*(hv-a)),I (100*hv)] W fun e w'=>e=.returned (I CV)∧IJ W W w'):=fun  W hW=>by rw[HE1.out];exact zbu _ _ O O O O W
   clear HE1;generalize clF f=cfv at *;go_wp2_with (first|(go_at_call 201;with_reducible refine (CD.out _ HB.out).mono ?_;rintro e v1 ⟨rfl,hb_⟩;(try clear t0 t1 t2);replace HB:=btr HB hb_;clear hb_;obtain⟨t0,t1,t2⟩:=HD.out _ HB.out));go_ret;exact⟨rfl,B0.out.trans (HB.out.mono B0.out.size)⟩
end Go.Proofs.YtgmapjgodibchaaGreatDoor
