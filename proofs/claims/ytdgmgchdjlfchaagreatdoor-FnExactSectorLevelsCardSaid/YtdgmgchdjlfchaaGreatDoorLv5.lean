/- Contracts: the places of a profile, for the program and for the reference. Conditions: places in bounds. -/
import Derived.Test.YtdgmgchdjlfchaaGreatDoorLv3
set_option linter.unusedVariables false
set_option linter.unusedSimpArgs false
namespace Go.Proofs.YtdgmgchdjlfchaaGreatDoor
open Go.RowKit
set_option maxHeartbeats 16000000
set_option maxRecDepth 100000
theorem infoPt:(Tryz.prog.info? 48).map (fun i=>(i.zero,i.size,i.bytes))=some (some (.agg #[.int .i64 0,.int .i64 0]),2,16):=by kernel_rfl
theorem ze2 (a b:DPoint):(decide (b.x<a.x) || (decide (a.x=b.x)&&decide (b.y<a.y))) = !befB a b:=by
 unfold befB;rw[Bool.eq_iff_iff];simp;omega
def atK (r:Bool) (k:Nat):Nat:=if r=true then 16-k else k
def listK (r:Bool) (p q:DPoint):List DPoint:=(List.range 17).map fun k=>zch p q (atK r k)
theorem zee (r:Bool) (p q:DPoint):(listK r p q).length=17:=by simp[listK]
theorem listK_at (r:Bool) (p q:DPoint) (k:Nat) (h:k<(listK r p q).length):(listK r p q)[k]=zch p q (atK r k):=by simp[listK]
def plK (a b:DPoint) (j:Nat):DPoint:=if befB a b=true then zch a b j else zch b a (16-j)
theorem plK_at (a b:DPoint) (j:Nat) (h:j<(zcz a b).length):(zcz a b)[j]=plK a b j:=by
 have hj:j<17:=by rw[zc8] at h;exact h
 have key:(zcz a b)[j]? = some (plK a b j):=by
  unfold zcz plK
  by_cases hB:befB a b=true
  ·rw[if_pos hB,if_pos hB]
   unfold zec;rw[List.getElem?_map,List.getElem?_range hj];rfl
  ·rw[if_neg hB,if_neg hB,List.getElem?_reverse (by rw[zc7];exact hj),zc7]
   unfold zec;rw[List.getElem?_map,List.getElem?_range (by omega)]
   rfl
 rw[List.getElem?_eq_getElem h] at key;exact Option.some.inj key
theorem flatv_get {α:Type} (g:α→List Value) (k:Nat) (hg:∀ x,(g x).length=k):(l:List α)→(i:Nat)→(hi:i<l.length)→(j:Nat)→(hj:j<k)→(l.flatMap g)[i*k+j]? = (g l[i])[j]?:=by
 intro l
 induction l with
 | nil=>intro i hi;simp at hi
 | cons x l ih =>
  intro i hi j hj;rw[List.flatMap_cons]
  cases i with
  | zero=>rw[List.getElem?_append_left (by rw[hg];omega)];simp
  | succ i =>
   have e:(i+1)*k+j=k+(i*k+j):=by rw[Nat.succ_mul];omega
   rw[List.getElem?_append_right (by rw[hg];omega),hg,e,Nat.add_sub_cancel_left]
   simpa using ih i (by simpa using hi) j hj
def ptVs (x:DPoint):List Value:=[.int .i64 x.x,.int .i64 x.y]
theorem ptVs_len (x:DPoint):(ptVs x).length=2:=rfl
theorem listK_own {w:World} {R:Bool} {p q:DPoint} {v:Option Addr} {c:Nat} {fp:List Nat} {lo hi:Nat} (h:Own w (.sl 2 ((listK R p q).flatMap DPoint.tr)) (.slice v 17 c) fp) (hin:In lo hi fp) :
  17≤c∧c≤maxLen∧∃ b o,v=some ⟨b,o,none⟩∧lo≤b∧b<hi∧(∀ j,w.frozen? ⟨b,j,none⟩=false)∧∀ j,j<17→w.cell? ⟨b,o+j*2,none⟩=some (.int .i64 (zch p q (atK R j)).x)∧w.cell? ⟨b,o+j*2+1,none⟩=some (.int .i64 (zch p q (atK R j)).y):=by
 have e1:(listK R p q).flatMap DPoint.tr=((listK R p q).flatMap ptVs).map .lit:=by
  rw[List.map_flatMap];rfl
 rw[e1] at h;obtain⟨hl,h1,h2,h3⟩:=h.rowV;obtain⟨b,o,ea,ef,hr⟩:=h3 (fun e=>by have h_:=congrArg List.length e;rw[hl] at h_;simp at h_);subst ea ef;have hb:=hin b (by simp);refine⟨h1,h2,b,o,rfl,hb.1,hb.2,hr.free,fun j hj=>?_⟩;have hlj:j<(listK R p q).length:=by rw[zee];exact hj
 have k0:=flatv_get ptVs 2 ptVs_len (listK R p q) j hlj 0 (by omega);have k1:=flatv_get ptVs 2 ptVs_len (listK R p q) j hlj 1 (by omega);rw[listK_at] at k0 k1;exact⟨hr.cell _ _ (by rw[Nat.add_zero] at k0;exact k0),by rw[Nat.add_assoc];exact hr.cell _ _ k1⟩
theorem flat_take1 {α β:Type} (g:α→List β) (l:List α) (k:Nat) (h:k<l.length):(l.take (k+1)).flatMap g=(l.take k).flatMap g++g l[k]:=by
 rw[List.take_succ_eq_append_getElem h,List.flatMap_append];simp
theorem iPlaces_any (a b:DPoint) (ha:ptB a) (hb:ptB b) (w:World) :
  Calls Tryz.prog 195 #[.agg #[.int .i64 a.x,.int .i64 a.y],.agg #[.int .i64 b.x,.int .i64 b.y],.int .i64 17] w fun e w'=>∃ b' o' c':Nat,e=.returned (.slice (some ⟨b',o',none⟩) 17 c')∧Below w.heap.size w w'∧17≤c'∧c'≤maxLen∧w.heap.size≤b'∧b' < w'.heap.size∧∀ j:Nat,j<17→w'.cell? ⟨b',o' + j*2,none⟩=some (.int .i64 (plK a b j).x)∧w'.cell? ⟨b',o' + j*2+1,none⟩=some (.int .i64 (plK a b j).y):=by
 obtain⟨i0,hi0,hz0,hz1,hz2⟩:=info_parts infoPt;unfold ptB at ha hb;obtain⟨⟨ax0,ax1⟩,ay0,ay1⟩:=ha;obtain⟨⟨bx0,bx1⟩,by0,by1⟩:=hb;obtain⟨W0,hW0,b0_,z0,k0,k1⟩:=zd4 w #[.int .i64 a.x,.int .i64 a.y] 48 #[.int .i64 b.x,.int .i64 b.y] 48;have HW0:=Lib.hid hW0;have B0:=Lib.hid b0_;have HD:=Lib.hid (fun (W:World) (hW:Below W0.heap.size W0 W)=>bx2 k0 hW <| by2 k1 hW);have HB:Hid (Below W0.heap.size W0 W0):=Below.refl _ _;have K0:=Lib.hid k0;have K1:=Lib.hid k1;clear k0 k1 hW0 b0_;go_enter Tryz.func195,Tryz.ntmps195;go_upto_region 1 with (fail);rw[HW0.out];obtain⟨t0,t1,t2,t3⟩:=HD.out _ HB.out;go_cut [7] (fun s7 wx=>s7=.bool (befB a b)∧W0=wx)
 case first =>
  by_cases c1:a.x<b.x
  ·have C1:=Lib.hid c1
   have e1:decide (a.x<b.x)=true:=decide_eq_true c1;clear c1;go_wp2_with fail;go_meet;exact⟨by rw[befB,decide_eq_true C1.out,Bool.true_or],rfl⟩
  have C1:=Lib.hid c1;have e1:decide (a.x<b.x)=false:=decide_eq_false c1;clear c1
  by_cases c2:a.x=b.x
  ·have e2:(a.x == b.x)=true:=beq_iff_eq.2 c2
   have C2:=Lib.hid c2;clear c2;go_wp2_with fail;go_meet;exact⟨by rw[befB,decide_eq_false (p:=a.x<b.x) (by have:=C1.out;omega),decide_eq_true C2.out,Bool.true_and,Bool.false_or],rfl⟩
  ·have e2:(a.x == b.x)=false:=beq_eq_false_iff_ne.2 c2
   have C2:=Lib.hid c2;clear c2;go_wp2_with fail;go_meet;exact⟨by rw[befB,decide_eq_false (p:=a.x<b.x) (by have:=C1.out;omega),decide_eq_false C2.out,Bool.false_and,Bool.false_or],rfl⟩
 obtain⟨rfl,rfl⟩:=hcut;obtain⟨t0,t1,t2,t3⟩:=HD.out _ HB.out;go_upto_if 30 with (fail);go_cut [7] (fun s7 wx=>s7=.bool (befB a b)∧∃ p q:DPoint,(∀ j,plK a b j=zch p q (atK (!befB a b) j))∧wx.heap[w.heap.size]? = some (.cells #[.int .i64 p.x,.int .i64 p.y] 48 (0,0))∧wx.heap[w.heap.size+1]? = some (.cells #[.int .i64 q.x,.int .i64 q.y] 48 (0,0))∧Below w.heap.size w wx∧w.heap.size+2≤wx.heap.size∧((0≤p.x∧p.x≤200000)∧(0≤p.y∧p.y≤200000))∧((0≤q.x∧q.x≤200000)∧(0≤q.y∧q.y≤200000)))
 case first =>
  cases hB:befB a b with
  | true =>
   have HBB:=Lib.hid hB;go_wp2_with fail;go_meet;exact⟨by rw[HBB.out],a,b,fun j=>by unfold plK;rw[HBB.out];rfl,K0.out,K1.out,B0.out,z0,⟨⟨ax0,ax1⟩,ay0,ay1⟩,⟨bx0,bx1⟩,by0,by1⟩
  | false =>
   have HPB:Hid (∀ j,plK a b j=zch b a (atK (!befB a b) j)):=fun j=>by unfold plK;rw[hB];rfl
   have HBB:=Lib.hid hB;clear hB;obtain⟨y0,y1,yf⟩:=bz2 K0.out;obtain⟨u0,u1,uf⟩:=bz2 K1.out;have kf_:(((W0.setCell ⟨w.heap.size,0,none⟩ (.int .i64 b.x)).setCell ⟨w.heap.size,1,none⟩ (.int .i64 b.y))).heap[w.heap.size]? = some (.cells #[.int .i64 b.x,.int .i64 b.y] 48 (0,0)):=by
    have h_:=(bkS (bkS K0.out 0 (.int .i64 b.x)) 1 (.int .i64 b.y))
    simpa using h_
   have kpQ1:=Lib.hid kf_;clear kf_;have bbQ1:=Lib.hid ((B0.out.setCell (p:=⟨w.heap.size,0,none⟩) (by show w.heap.size≤w.heap.size;have:=B0.out.size;omega) (.int .i64 b.x)).setCell (p:=⟨w.heap.size,1,none⟩) (by show w.heap.size≤w.heap.size;have:=B0.out.size;omega) (.int .i64 b.y));have bsQ1:W0.heap.size≤(((W0.setCell ⟨w.heap.size,0,none⟩ (.int .i64 b.x)).setCell ⟨w.heap.size,1,none⟩ (.int .i64 b.y))).heap.size:=by simp only[zaf];exact Nat.le_refl _
   have kqQ1:=Lib.hid (bkO (bkO K1.out (p:=⟨w.heap.size,0,none⟩) (by show w.heap.size+1≠w.heap.size;omega) (.int .i64 b.x)) (p:=⟨w.heap.size,1,none⟩) (by show w.heap.size+1≠w.heap.size;omega) (.int .i64 b.y));have kf_:(((((W0.setCell ⟨w.heap.size,0,none⟩ (.int .i64 b.x)).setCell ⟨w.heap.size,1,none⟩ (.int .i64 b.y)).setCell ⟨w.heap.size+1,0,none⟩ (.int .i64 a.x)).setCell ⟨w.heap.size+1,1,none⟩ (.int .i64 a.y))).heap[w.heap.size+1]? = some (.cells #[.int .i64 a.x,.int .i64 a.y] 48 (0,0)):=by
    have h_:=(bkS (bkS kqQ1.out 0 (.int .i64 a.x)) 1 (.int .i64 a.y))
    simpa using h_
   have kqQ2:=Lib.hid kf_;clear kf_;have bbQ2:=Lib.hid ((bbQ1.out.setCell (p:=⟨w.heap.size+1,0,none⟩) (by show w.heap.size≤w.heap.size+1;have:=bbQ1.out.size;omega) (.int .i64 a.x)).setCell (p:=⟨w.heap.size+1,1,none⟩) (by show w.heap.size≤w.heap.size+1;have:=bbQ1.out.size;omega) (.int .i64 a.y));have bsQ2:((W0.setCell ⟨w.heap.size,0,none⟩ (.int .i64 b.x)).setCell ⟨w.heap.size,1,none⟩ (.int .i64 b.y)).heap.size≤(((((W0.setCell ⟨w.heap.size,0,none⟩ (.int .i64 b.x)).setCell ⟨w.heap.size,1,none⟩ (.int .i64 b.y)).setCell ⟨w.heap.size+1,0,none⟩ (.int .i64 a.x)).setCell ⟨w.heap.size+1,1,none⟩ (.int .i64 a.y))).heap.size:=by simp only[zaf];exact Nat.le_refl _
   have kpQ2:=Lib.hid (bkO (bkO kpQ1.out (p:=⟨w.heap.size+1,0,none⟩) (by show w.heap.size≠w.heap.size+1;omega) (.int .i64 a.x)) (p:=⟨w.heap.size+1,1,none⟩) (by show w.heap.size≠w.heap.size+1;omega) (.int .i64 a.y));have hzz:w.heap.size+2≤((((W0.setCell ⟨w.heap.size,0,none⟩ (.int .i64 b.x)).setCell ⟨w.heap.size,1,none⟩ (.int .i64 b.y)).setCell ⟨w.heap.size+1,0,none⟩ (.int .i64 a.x)).setCell ⟨w.heap.size+1,1,none⟩ (.int .i64 a.y)).heap.size:=by simp only[zaf];omega
   go_wp2_with fail;go_meet;exact⟨by rw[HBB.out],b,a,HPB.out,kpQ2.out,kqQ2.out,bbQ2.out,hzz,⟨⟨bx0,bx1⟩,by0,by1⟩,⟨ax0,ax1⟩,ay0,ay1⟩
 obtain⟨rfl,p,q,hpl,kp_,kq_,hbW,hz4,⟨⟨px0,px1⟩,py0,py1⟩,⟨qx0,qx1⟩,qy0,qy1⟩:=hcut;generalize wc=w4 at *;have HPL:=Lib.hid hpl;have KP:=Lib.hid kp_;have KQ:=Lib.hid kq_;have B4:=Lib.hid hbW;clear hpl kp_ kq_ hbW K0 K1 HD HB B0 HW0 ax0 ax1 ay0 ay1 bx0 bx1 by0 by1;have HD:Hid (∀ W:World,Below w4.heap.size w4 W→(W.cell? ⟨w.heap.size,0,none⟩=some (.int .i64 p.x)∧W.cell? ⟨w.heap.size,1,none⟩=some (.int .i64 p.y)∧W.cell? ⟨w.heap.size+1,0,none⟩=some (.int .i64 q.x)∧W.cell? ⟨w.heap.size+1,1,none⟩=some (.int .i64 q.y))):=fun W hW=>⟨(bat hW w.heap.size _ (by omega)).trans (bkC KP.out 0 rfl),(bat hW w.heap.size _ (by omega)).trans (bkC KP.out 1 rfl),(bat hW (w.heap.size+1) _ (by omega)).trans (bkC KQ.out 0 rfl),(bat hW (w.heap.size+1) _ (by omega)).trans (bkC KQ.out 1 rfl)⟩
 clear KP KQ t0 t1 t2 t3;generalize hRB:(befB a b)=rb at *;have HRB:=Lib.hid hRB;clear hRB;go_wp2;go_loopw [8,34] (fun ps ki wr=>∃ k:Nat,k≤17∧ki=.int .i64 (k:Int)∧Below w4.heap.size w4 wr∧Grow wr w4.heap.size 48 2 ps k (((listK false p q).take k).flatMap DPoint.tr) []) (fun ps ki wr=>17-(intOf ki).toNat)
 case atStart=>exact⟨0,by omega,rfl,Below.refl _ _,Grow.nil⟩
 case round =>
  obtain⟨k,hk,rfl,hbw,hgr⟩:=hrel;have HB:=Lib.hid hbw;have HG:=Lib.hid hgr;clear hbw hgr;have k0:(0:Int)≤(k:Int):=by omega
  have hzr:w4.heap.size≤wr.heap.size:=HB.out.size
  by_cases hlt:k<17
  ·have k1:(k:Int)<17:=by omega
   have hnx:=listK_at false p q k (by rw[zee];exact hlt);have hfl:=flat_take1 DPoint.tr (listK false p q) k (by rw[zee];exact hlt);rw[hnx] at hfl;have HFL:=Lib.hid hfl;clear hnx hfl;rw[show atK false k=k from rfl] at HFL;go_upto_region 8 with (fail);have mx:=zdf (a:=(k:Int)) (b:=q.x-p.x) 16 200000 (by omega) (by omega) (by omega) (by omega) (by omega) (by omega);have my:=zdf (a:=(k:Int)) (b:=q.y-p.y) 16 200000 (by omega) (by omega) (by omega) (by omega) (by omega) (by omega);have rx:=zdz (a:=(k:Int)*(q.x-p.x)) (b:=16) (by omega) 3200000 (by omega) (by omega);have ry:=zdz (a:=(k:Int)*(q.y-p.y)) (b:=16) (by omega) 3200000 (by omega) (by omega);have h1:IntKind.i64.wrap (q.x-p.x)=q.x-p.x:=IntWalk.i64_in _ (by omega);have h2:IntKind.i64.wrap (q.y-p.y)=q.y-p.y:=IntWalk.i64_in _ (by omega);have h3:IntKind.i64.wrap ((k:Int)*(q.x-p.x))=(k:Int)*(q.x-p.x):=IntWalk.i64_in _ (by omega);have h4:IntKind.i64.wrap ((k:Int)*(q.y-p.y))=(k:Int)*(q.y-p.y):=IntWalk.i64_in _ (by omega);have h5:IntKind.i64.wrap (p.x+rdiv ((k:Int)*(q.x-p.x)) 16)=p.x+rdiv ((k:Int)*(q.x-p.x)) 16:=IntWalk.i64_in _ (by omega);have h6:IntKind.i64.wrap (p.y+rdiv ((k:Int)*(q.y-p.y)) 16)=p.y+rdiv ((k:Int)*(q.y-p.y)) 16:=IntWalk.i64_in _ (by omega);have HPK:Hid (zch p q k=⟨p.x+rdiv ((k:Int)*(q.x-p.x)) 16,p.y+rdiv ((k:Int)*(q.y-p.y)) 16⟩):=rfl;have CX:Hid (∀ W:World,Calls Tryz.prog 202 #[.int .i64 ((k:Int)*(q.x-p.x)),.int .i64 16] W fun e w'=>e=.returned (.int .i64 (rdiv ((k:Int)*(q.x-p.x)) 16))∧Below W.heap.size W w'):=fun W=>zbs _ _ (by omega) (by omega) (by omega) (by omega) W
   have CY:Hid (∀ W:World,Calls Tryz.prog 202 #[.int .i64 ((k:Int)*(q.y-p.y)),.int .i64 16] W fun e w'=>e=.returned (.int .i64 (rdiv ((k:Int)*(q.y-p.y)) 16))∧Below W.heap.size W w'):=fun W=>zbs _ _ (by omega) (by omega) (by omega) (by omega) W
   clear mx my rx ry;have HDR:Hid (∀ W:World,Below wr.heap.size wr W→_):=fun W hW=>HD.out W (HB.out.trans (hW.mono HB.out.size))
   have HBR:Hid (Below wr.heap.size wr wr):=Below.refl _ _;refine zap 29 (.read 0 (.read 1 (.read 2 (.read 3 (.read 4 (.read 5 (.read 6 (.read 7 (.read 8 (.read 9 (.read 10 (.read 11 (.read 14 (.read 15 (.read 16 (.read 17 (.read 18 (.read 19 (.read 20 (.read 21 (.read 22 (.read 23 (.read 24 (.one 12 (.read 13 (.one 25 (.read 26 (.read 27 (.one 28 .nil))))))))))))))))))))))))))))) (fun W=>Below wr.heap.size wr W) (by kernel_rfl) (by kernel_rfl) (HBR.out.drew) ?_;have YB:=Lib.hid (HBR.out.drew);have Yz:wr.heap.size≤wr.drew.heap.size:=Nat.le_refl _;generalize wr.drew=Y at *
   iterate 23
    refine zag (v:=?_) rfl (fun _ _ _ h=>h) ?_ ?_
    rotate_left
    ·(intro W hSW;(try dsimp only at hSW);obtain⟨t0,t1,t2,t3⟩:=HDR.out W hSW;(go_simp<;>with_reducible rfl))
    (try simp only[Act.put,List.setIfInBounds_toArray,List.set_cons_zero,List.set_cons_succ])
   refine zac ?_;refine zab rfl (fun K hK=>?_);go_simp;refine ((fun W (_:Below wr.heap.size wr W)=>CX.out W) _ YB.out).mono ?_;rintro e Y1 ⟨rfl,hb1⟩;have YB1:=btr YB hb1;refine hK.out _ _ YB1.out ?_;clear hK K;have bs1:=hb1.size;clear hb1;refine zag (v:=?_) rfl (fun _ _ _ h=>h) ?_ ?_
   rotate_left
   ·(intro W hSW;(try dsimp only at hSW);obtain⟨t0,t1,t2,t3⟩:=HDR.out W hSW;(go_simp<;>with_reducible rfl))
   (try simp only[Act.put,List.setIfInBounds_toArray,List.set_cons_zero,List.set_cons_succ])
   refine zac ?_;refine zab rfl (fun K hK=>?_);go_simp;refine ((fun W (_:Below wr.heap.size wr W)=>CY.out W) _ YB1.out).mono ?_;rintro e Y2 ⟨rfl,hb2⟩;have YB2:=btr YB1 hb2;refine hK.out _ _ YB2.out ?_;clear hK K;have bs2:=hb2.size;clear hb2
   iterate 2
    refine zag (v:=?_) rfl (fun _ _ _ h=>h) ?_ ?_
    rotate_left
    ·(intro W hSW;(try dsimp only at hSW);obtain⟨t0,t1,t2,t3⟩:=HDR.out W hSW;(go_simp<;>with_reducible rfl))
    (try simp only[Act.put,List.setIfInBounds_toArray,List.set_cons_zero,List.set_cons_succ])
   refine zac ?_;refine zab rfl (fun K hK=>?_);go_simp;refine hK.out _ _ (YB2.out.trans ((za3 Y2 _).mono YB2.out.size)) ?_;clear hK K
   (try simp only[Act.put,List.setIfInBounds_toArray,List.set_cons_zero,List.set_cons_succ])
   refine zak ?_;simp only[List.drop_succ_cons,List.drop_zero];have hX:=YB2.out;have HG5:=Lib.hid (HG.out.below (lo:=0) In.nil hX);have HB5:=btr HB hX;have hz5:w4.heap.size≤Y2.heap.size:=HB5.out.size;clear hX CX CY h1 h2 h3 h4 h5 h6;refine zbp rfl (.tmp 37) (.tmp 65) _ rfl w4.heap.size 48 i0 _ 2 16 Tryz.underlying221 hi0 hz0 hz1 hz2 rfl (by omega) _ _ _ [] rfl HG5.out [.int .i64 (p.x+rdiv ((k:Int)*(q.x-p.x)) 16),.int .i64 (p.y+rdiv ((k:Int)*(q.y-p.y)) 16)] (DPoint.tr ⟨p.x+rdiv ((k:Int)*(q.x-p.x)) 16,p.y+rdiv ((k:Int)*(q.y-p.y)) 16⟩) [] rfl 1 rfl (fun u hu=>by simp at hu;rcases hu with rfl|rfl<;>rfl) (RepV_lits _ [.int .i64 (p.x+rdiv ((k:Int)*(q.x-p.x)) 16),.int .i64 (p.y+rdiv ((k:Int)*(q.y-p.y)) 16)]) List.nodup_nil (fun b h=>by simp at h) 0 In.nil In.nil (by simp) (by simp) (by unfold maxLen;omega) (by omega) (by omega) ?_;intro v2 w6 hgn;have HGN:=Lib.hid hgn;clear hgn;go_wp2;go_roundw
   case rel =>
    refine⟨k+1,by omega,by go_num,HB5.out.trans HGN.out.below,?_⟩;rw[HFL.out,HPK.out]
    simpa using HGN.out.grow
   case measure=>simp[intOf];omega
  ·obtain rfl:k=17:=by omega
   rw[List.take_of_length_le (by rw[zee];omega)] at HG;obtain⟨av,cv,fv,ev,ov,iv⟩:=HG.out.toOwn (lo:=w4.heap.size) (by omega) In.nil (by omega);subst ev;obtain⟨hnc,hcm,bq,oq,ea_,hb1,hb2,hfz,hcl⟩:=listK_own ov iv;subst ea_;have HFZ:=Lib.hid hfz;have HCL:=Lib.hid hcl;clear HG ov iv hfz hcl
   cases rb with
   | true =>
    go_wp2;go_ret
    exact⟨bq,oq,cv,rfl,B4.out.trans (HB.out.mono B4.out.size),hnc,hcm,Nat.le_trans B4.out.size hb1,hb2,fun j hj=>by
     have h_:=HCL.out j hj
     rw[HPL.out j];exact h_⟩
   | false =>
    go_wp2_with (go_at_call 226;with_reducible refine (revP_any 17 bq oq cv (fun j=>(zch p q j).x) (fun j=>(zch p q j).y) _ (by omega) (by omega) hnc hcm (fun j hj=>HCL.out j hj) HFZ.out).mono ?_;rintro e v1 ⟨rfl,hch_,hcl_,hfz_⟩);have HC2:=Lib.hid hcl_;have HBV:=Lib.hid (HB.out.trans (hch_.below (B:=w4.heap.size) (by omega) (fun x hx=>by simp at hx;omega)));have hv1:wr.heap.size≤v1.heap.size:=hch_.size;clear hch_ hcl_ hfz_;go_ret
    exact⟨bq,oq,cv,rfl,B4.out.trans (HBV.out.mono B4.out.size),hnc,hcm,Nat.le_trans B4.out.size hb1,by omega,fun j hj=>by
     have h_:=HC2.out j hj
     rw[HPL.out j];exact h_⟩
theorem l04Places_any (a b:DPoint) (ha:ptB a) (hb:ptB b) (w:World) :
  Calls Tryz.prog 215 #[.agg #[.int .i64 a.x,.int .i64 a.y],.agg #[.int .i64 b.x,.int .i64 b.y],.int .i64 17] w fun e w'=>∃ b' o' c':Nat,e=.returned (.slice (some ⟨b',o',none⟩) 17 c')∧Below w.heap.size w w'∧17≤c'∧c'≤maxLen∧w.heap.size≤b'∧b' < w'.heap.size∧∀ j:Nat,j<17→w'.cell? ⟨b',o' + j*2,none⟩=some (.int .i64 (plK a b j).x)∧w'.cell? ⟨b',o' + j*2+1,none⟩=some (.int .i64 (plK a b j).y):=by
 obtain⟨i0,hi0,hz0,hz1,hz2⟩:=info_parts infoPt;unfold ptB at ha hb;obtain⟨⟨ax0,ax1⟩,ay0,ay1⟩:=ha;obtain⟨⟨bx0,bx1⟩,by0,by1⟩:=hb;obtain⟨W0,hW0,b0_,z0,k0,k1⟩:=zd4 w #[.int .i64 a.x,.int .i64 a.y] 48 #[.int .i64 b.x,.int .i64 b.y] 48;have HW0:=Lib.hid hW0;have B0:=Lib.hid b0_;have HD:=Lib.hid (fun (W:World) (hW:Below W0.heap.size W0 W)=>bx2 k0 hW <| by2 k1 hW);have HB:Hid (Below W0.heap.size W0 W0):=Below.refl _ _;have K0:=Lib.hid k0;have K1:=Lib.hid k1;clear k0 k1 hW0 b0_;go_enter Tryz.func215,Tryz.ntmps215;go_upto_region 1 with (fail);rw[HW0.out];obtain⟨t0,t1,t2,t3⟩:=HD.out _ HB.out;go_cut [7] (fun s7 wx=>s7=.bool (!befB a b)∧W0=wx)
 case first =>
  by_cases c1:b.x<a.x
  ·have C1:=Lib.hid c1
   have e1:decide (b.x<a.x)=true:=decide_eq_true c1;clear c1;go_wp2_with fail;go_meet;exact⟨by rw[← ze2,decide_eq_true C1.out,Bool.true_or],rfl⟩
  have C1:=Lib.hid c1;have e1:decide (b.x<a.x)=false:=decide_eq_false c1;clear c1
  by_cases c2:a.x=b.x
  ·have e2:(a.x == b.x)=true:=beq_iff_eq.2 c2
   have C2:=Lib.hid c2;clear c2;go_wp2_with fail;go_meet;exact⟨by rw[← ze2,decide_eq_false (p:=b.x<a.x) (by have:=C1.out;omega),decide_eq_true C2.out,Bool.true_and,Bool.false_or],rfl⟩
  ·have e2:(a.x == b.x)=false:=beq_eq_false_iff_ne.2 c2
   have C2:=Lib.hid c2;clear c2;go_wp2_with fail;go_meet;exact⟨by rw[← ze2,decide_eq_false (p:=b.x<a.x) (by have:=C1.out;omega),decide_eq_false C2.out,Bool.false_and,Bool.false_or],rfl⟩
 obtain⟨rfl,rfl⟩:=hcut;obtain⟨t0,t1,t2,t3⟩:=HD.out _ HB.out;go_upto_if 31 with (fail);go_cut [7] (fun s7 wx=>s7=.bool (!befB a b)∧∃ p q:DPoint,(∀ j,plK a b j=zch p q (atK (!befB a b) j))∧wx.heap[w.heap.size]? = some (.cells #[.int .i64 p.x,.int .i64 p.y] 48 (0,0))∧wx.heap[w.heap.size+1]? = some (.cells #[.int .i64 q.x,.int .i64 q.y] 48 (0,0))∧Below w.heap.size w wx∧w.heap.size+2≤wx.heap.size∧((0≤p.x∧p.x≤200000)∧(0≤p.y∧p.y≤200000))∧((0≤q.x∧q.x≤200000)∧(0≤q.y∧q.y≤200000)))
 case first =>
  cases hB:befB a b with
  | true =>
   have HBB:=Lib.hid hB;go_wp2_with fail;go_meet;exact⟨by rw[HBB.out],a,b,fun j=>by unfold plK;rw[HBB.out];rfl,K0.out,K1.out,B0.out,z0,⟨⟨ax0,ax1⟩,ay0,ay1⟩,⟨bx0,bx1⟩,by0,by1⟩
  | false =>
   have HPB:Hid (∀ j,plK a b j=zch b a (atK (!befB a b) j)):=fun j=>by unfold plK;rw[hB];rfl
   have HBB:=Lib.hid hB;clear hB;obtain⟨y0,y1,yf⟩:=bz2 K0.out;obtain⟨u0,u1,uf⟩:=bz2 K1.out;go_upto_region 4 with (fail);clear y0 y1 yf u0 u1 uf;obtain⟨W1,hWQ1,hbQ1,zQ1,hkQ1⟩:=zat W0 #[.int .i64 a.x,.int .i64 a.y] 48;rw[hWQ1];have bbQ1:=btr B0 hbQ1;have kcQ1:=Lib.hid hkQ1;have bsQ1:=hbQ1.size;have kpQ1:=bkH K0 hbQ1;have kqQ1:=bkH K1 hbQ1;clear hWQ1 hbQ1 hkQ1;obtain⟨y0,y1,yf⟩:=bz2 kpQ1.out;obtain⟨u0,u1,uf⟩:=bz2 kqQ1.out;obtain⟨x0,x1,xf⟩:=bz2 kcQ1.out;have kf_:(((W1.setCell ⟨w.heap.size,0,none⟩ (.int .i64 b.x)).setCell ⟨w.heap.size,1,none⟩ (.int .i64 b.y))).heap[w.heap.size]? = some (.cells #[.int .i64 b.x,.int .i64 b.y] 48 (0,0)):=by
    have h_:=(bkS (bkS kpQ1.out 0 (.int .i64 b.x)) 1 (.int .i64 b.y))
    simpa using h_
   have kpQ2:=Lib.hid kf_;clear kf_;have bbQ2:=Lib.hid ((bbQ1.out.setCell (p:=⟨w.heap.size,0,none⟩) (by show w.heap.size≤w.heap.size;have:=bbQ1.out.size;omega) (.int .i64 b.x)).setCell (p:=⟨w.heap.size,1,none⟩) (by show w.heap.size≤w.heap.size;have:=bbQ1.out.size;omega) (.int .i64 b.y));have bsQ2:W1.heap.size≤(((W1.setCell ⟨w.heap.size,0,none⟩ (.int .i64 b.x)).setCell ⟨w.heap.size,1,none⟩ (.int .i64 b.y))).heap.size:=by simp only[zaf];exact Nat.le_refl _
   have kqQ2:=Lib.hid (bkO (bkO kqQ1.out (p:=⟨w.heap.size,0,none⟩) (by show w.heap.size+1≠w.heap.size;omega) (.int .i64 b.x)) (p:=⟨w.heap.size,1,none⟩) (by show w.heap.size+1≠w.heap.size;omega) (.int .i64 b.y));have kcQ2:=Lib.hid (bkO (bkO kcQ1.out (p:=⟨w.heap.size,0,none⟩) (by show W0.heap.size≠w.heap.size;omega) (.int .i64 b.x)) (p:=⟨w.heap.size,1,none⟩) (by show W0.heap.size≠w.heap.size;omega) (.int .i64 b.y));have kf_:(((((W1.setCell ⟨w.heap.size,0,none⟩ (.int .i64 b.x)).setCell ⟨w.heap.size,1,none⟩ (.int .i64 b.y)).setCell ⟨w.heap.size+1,0,none⟩ (.int .i64 a.x)).setCell ⟨w.heap.size+1,1,none⟩ (.int .i64 a.y))).heap[w.heap.size+1]? = some (.cells #[.int .i64 a.x,.int .i64 a.y] 48 (0,0)):=by
    have h_:=(bkS (bkS kqQ2.out 0 (.int .i64 a.x)) 1 (.int .i64 a.y))
    simpa using h_
   have kqQ3:=Lib.hid kf_;clear kf_;have bbQ3:=Lib.hid ((bbQ2.out.setCell (p:=⟨w.heap.size+1,0,none⟩) (by show w.heap.size≤w.heap.size+1;have:=bbQ2.out.size;omega) (.int .i64 a.x)).setCell (p:=⟨w.heap.size+1,1,none⟩) (by show w.heap.size≤w.heap.size+1;have:=bbQ2.out.size;omega) (.int .i64 a.y));have bsQ3:((W1.setCell ⟨w.heap.size,0,none⟩ (.int .i64 b.x)).setCell ⟨w.heap.size,1,none⟩ (.int .i64 b.y)).heap.size≤(((((W1.setCell ⟨w.heap.size,0,none⟩ (.int .i64 b.x)).setCell ⟨w.heap.size,1,none⟩ (.int .i64 b.y)).setCell ⟨w.heap.size+1,0,none⟩ (.int .i64 a.x)).setCell ⟨w.heap.size+1,1,none⟩ (.int .i64 a.y))).heap.size:=by simp only[zaf];exact Nat.le_refl _
   have kpQ3:=Lib.hid (bkO (bkO kpQ2.out (p:=⟨w.heap.size+1,0,none⟩) (by show w.heap.size≠w.heap.size+1;omega) (.int .i64 a.x)) (p:=⟨w.heap.size+1,1,none⟩) (by show w.heap.size≠w.heap.size+1;omega) (.int .i64 a.y));have kcQ3:=Lib.hid (bkO (bkO kcQ2.out (p:=⟨w.heap.size+1,0,none⟩) (by show W0.heap.size≠w.heap.size+1;omega) (.int .i64 a.x)) (p:=⟨w.heap.size+1,1,none⟩) (by show W0.heap.size≠w.heap.size+1;omega) (.int .i64 a.y));have hzz:w.heap.size+2≤((((W1.setCell ⟨w.heap.size,0,none⟩ (.int .i64 b.x)).setCell ⟨w.heap.size,1,none⟩ (.int .i64 b.y)).setCell ⟨w.heap.size+1,0,none⟩ (.int .i64 a.x)).setCell ⟨w.heap.size+1,1,none⟩ (.int .i64 a.y)).heap.size:=by simp only[zaf];omega
   go_wp2_with fail;go_meet;exact⟨by rw[HBB.out],b,a,HPB.out,kpQ3.out,kqQ3.out,bbQ3.out,hzz,⟨⟨bx0,bx1⟩,by0,by1⟩,⟨ax0,ax1⟩,ay0,ay1⟩
 obtain⟨rfl,p,q,hpl,kp_,kq_,hbW,hz4,⟨⟨px0,px1⟩,py0,py1⟩,⟨qx0,qx1⟩,qy0,qy1⟩:=hcut;generalize wc=w4 at *;have HPL:=Lib.hid hpl;have KP:=Lib.hid kp_;have KQ:=Lib.hid kq_;have B4:=Lib.hid hbW;clear hpl kp_ kq_ hbW K0 K1 HD HB B0 HW0 ax0 ax1 ay0 ay1 bx0 bx1 by0 by1;have HD:Hid (∀ W:World,Below w4.heap.size w4 W→(W.cell? ⟨w.heap.size,0,none⟩=some (.int .i64 p.x)∧W.cell? ⟨w.heap.size,1,none⟩=some (.int .i64 p.y)∧W.cell? ⟨w.heap.size+1,0,none⟩=some (.int .i64 q.x)∧W.cell? ⟨w.heap.size+1,1,none⟩=some (.int .i64 q.y))):=fun W hW=>⟨(bat hW w.heap.size _ (by omega)).trans (bkC KP.out 0 rfl),(bat hW w.heap.size _ (by omega)).trans (bkC KP.out 1 rfl),(bat hW (w.heap.size+1) _ (by omega)).trans (bkC KQ.out 0 rfl),(bat hW (w.heap.size+1) _ (by omega)).trans (bkC KQ.out 1 rfl)⟩
 clear KP KQ t0 t1 t2 t3;generalize hRB:(!befB a b)=rb at *;have HRB:=Lib.hid hRB;clear hRB;go_wp2;go_loopw [9,10] (fun ps ki wr=>∃ k:Nat,k≤17∧ki=.int .i64 (k:Int)∧Below w4.heap.size w4 wr∧Grow wr w4.heap.size 48 2 ps k (((listK rb p q).take k).flatMap DPoint.tr) []) (fun ps ki wr=>17-(intOf ki).toNat)
 case atStart=>exact⟨0,by omega,rfl,za3 _ _,⟨⟨[],own_emptyK w4 _ _,rfl⟩,List.nodup_nil,fun b h=>by simp at h,fun g _=>by simp⟩⟩
 case round =>
  obtain⟨k,hk,rfl,hbw,hgr⟩:=hrel;have HB:=Lib.hid hbw;have HG:=Lib.hid hgr;clear hbw hgr;have k0:(0:Int)≤(k:Int):=by omega
  have hzr:w4.heap.size≤wr.heap.size:=HB.out.size
  by_cases hlt:k<17
  ·have k1:(k:Int)<17:=by omega
   have hnx:=listK_at rb p q k (by rw[zee];exact hlt);have hfl:=flat_take1 DPoint.tr (listK rb p q) k (by rw[zee];exact hlt);rw[hnx] at hfl;have HFL:=Lib.hid hfl;clear hnx hfl
   cases rb with
   | false =>
    rw[show atK false k=k from rfl] at HFL;go_upto_region 13 with (fail);have mx:=zdf (a:=(k:Int)) (b:=q.x-p.x) 16 200000 (by omega) (by omega) (by omega) (by omega) (by omega) (by omega);have my:=zdf (a:=(k:Int)) (b:=q.y-p.y) 16 200000 (by omega) (by omega) (by omega) (by omega) (by omega) (by omega);have rx:=zdz (a:=(k:Int)*(q.x-p.x)) (b:=16) (by omega) 3200000 (by omega) (by omega);have ry:=zdz (a:=(k:Int)*(q.y-p.y)) (b:=16) (by omega) 3200000 (by omega) (by omega);have h1:IntKind.i64.wrap (q.x-p.x)=q.x-p.x:=IntWalk.i64_in _ (by omega);have h2:IntKind.i64.wrap (q.y-p.y)=q.y-p.y:=IntWalk.i64_in _ (by omega);have h3:IntKind.i64.wrap ((k:Int)*(q.x-p.x))=(k:Int)*(q.x-p.x):=IntWalk.i64_in _ (by omega);have h4:IntKind.i64.wrap ((k:Int)*(q.y-p.y))=(k:Int)*(q.y-p.y):=IntWalk.i64_in _ (by omega);have h5:IntKind.i64.wrap (p.x+rdiv ((k:Int)*(q.x-p.x)) 16)=p.x+rdiv ((k:Int)*(q.x-p.x)) 16:=IntWalk.i64_in _ (by omega);have h6:IntKind.i64.wrap (p.y+rdiv ((k:Int)*(q.y-p.y)) 16)=p.y+rdiv ((k:Int)*(q.y-p.y)) 16:=IntWalk.i64_in _ (by omega);have HPK:Hid (zch p q k=⟨p.x+rdiv ((k:Int)*(q.x-p.x)) 16,p.y+rdiv ((k:Int)*(q.y-p.y)) 16⟩):=rfl;have CX:Hid (∀ W:World,Calls Tryz.prog 178 #[.int .i64 ((k:Int)*(q.x-p.x)),.int .i64 16] W fun e w'=>e=.returned (.int .i64 (rdiv ((k:Int)*(q.x-p.x)) 16))∧Below W.heap.size W w'):=fun W=>zam (zbm _ _ (by omega) (by omega) (by omega) (by omega) W)
    have CY:Hid (∀ W:World,Calls Tryz.prog 178 #[.int .i64 ((k:Int)*(q.y-p.y)),.int .i64 16] W fun e w'=>e=.returned (.int .i64 (rdiv ((k:Int)*(q.y-p.y)) 16))∧Below W.heap.size W w'):=fun W=>zam (zbm _ _ (by omega) (by omega) (by omega) (by omega) W)
    clear mx my rx ry;have HDR:Hid (∀ W:World,Below wr.heap.size wr W→_):=fun W hW=>HD.out W (HB.out.trans (hW.mono HB.out.size))
    have HBR:Hid (Below wr.heap.size wr wr):=Below.refl _ _;refine zap 29 (.read 0 (.read 1 (.read 2 (.read 3 (.read 4 (.read 5 (.read 6 (.read 7 (.read 8 (.read 9 (.read 10 (.read 11 (.read 14 (.read 15 (.read 16 (.read 17 (.read 18 (.read 19 (.read 20 (.read 21 (.read 22 (.read 23 (.read 24 (.one 12 (.read 13 (.one 25 (.read 26 (.read 27 (.one 28 .nil))))))))))))))))))))))))))))) (fun W=>Below wr.heap.size wr W) (by kernel_rfl) (by kernel_rfl) (HBR.out.drew) ?_;have YB:=Lib.hid (HBR.out.drew);have Yz:wr.heap.size≤wr.drew.heap.size:=Nat.le_refl _;generalize wr.drew=Y at *
    iterate 23
     refine zag (v:=?_) rfl (fun _ _ _ h=>h) ?_ ?_
     rotate_left
     ·(intro W hSW;(try dsimp only at hSW);obtain⟨t0,t1,t2,t3⟩:=HDR.out W hSW;(go_simp<;>with_reducible rfl))
     (try simp only[Act.put,List.setIfInBounds_toArray,List.set_cons_zero,List.set_cons_succ])
    refine zac ?_;refine zab rfl (fun K hK=>?_);go_simp;refine ((fun W (_:Below wr.heap.size wr W)=>CX.out W) _ YB.out).mono ?_;rintro e Y1 ⟨rfl,hb1⟩;have YB1:=btr YB hb1;refine hK.out _ _ YB1.out ?_;clear hK K;have bs1:=hb1.size;clear hb1;refine zag (v:=?_) rfl (fun _ _ _ h=>h) ?_ ?_
    rotate_left
    ·(intro W hSW;(try dsimp only at hSW);obtain⟨t0,t1,t2,t3⟩:=HDR.out W hSW;(go_simp<;>with_reducible rfl))
    (try simp only[Act.put,List.setIfInBounds_toArray,List.set_cons_zero,List.set_cons_succ])
    refine zac ?_;refine zab rfl (fun K hK=>?_);go_simp;refine ((fun W (_:Below wr.heap.size wr W)=>CY.out W) _ YB1.out).mono ?_;rintro e Y2 ⟨rfl,hb2⟩;have YB2:=btr YB1 hb2;refine hK.out _ _ YB2.out ?_;clear hK K;have bs2:=hb2.size;clear hb2
    iterate 2
     refine zag (v:=?_) rfl (fun _ _ _ h=>h) ?_ ?_
     rotate_left
     ·(intro W hSW;(try dsimp only at hSW);obtain⟨t0,t1,t2,t3⟩:=HDR.out W hSW;(go_simp<;>with_reducible rfl))
     (try simp only[Act.put,List.setIfInBounds_toArray,List.set_cons_zero,List.set_cons_succ])
    refine zac ?_;refine zab rfl (fun K hK=>?_);go_simp;refine hK.out _ _ (YB2.out.trans ((za3 Y2 _).mono YB2.out.size)) ?_;clear hK K
    (try simp only[Act.put,List.setIfInBounds_toArray,List.set_cons_zero,List.set_cons_succ])
    refine zak ?_;simp only[List.drop_succ_cons,List.drop_zero];have hX:=YB2.out;have HG5:=Lib.hid (HG.out.below (lo:=0) In.nil hX);have HB5:=btr HB hX;have hz5:w4.heap.size≤Y2.heap.size:=HB5.out.size;clear hX CX CY h1 h2 h3 h4 h5 h6;refine zbp rfl (.tmp 47) (.tmp 75) _ rfl w4.heap.size 48 i0 _ 2 16 Tryz.underlying221 hi0 hz0 hz1 hz2 rfl (by omega) _ _ _ [] rfl HG5.out [.int .i64 (p.x+rdiv ((k:Int)*(q.x-p.x)) 16),.int .i64 (p.y+rdiv ((k:Int)*(q.y-p.y)) 16)] (DPoint.tr ⟨p.x+rdiv ((k:Int)*(q.x-p.x)) 16,p.y+rdiv ((k:Int)*(q.y-p.y)) 16⟩) [] rfl 1 rfl (fun u hu=>by simp at hu;rcases hu with rfl|rfl<;>rfl) (RepV_lits _ [.int .i64 (p.x+rdiv ((k:Int)*(q.x-p.x)) 16),.int .i64 (p.y+rdiv ((k:Int)*(q.y-p.y)) 16)]) List.nodup_nil (fun b h=>by simp at h) 0 In.nil In.nil (by simp) (by simp) (by unfold maxLen;omega) (by omega) (by omega) ?_;intro v2 w6 hgn;have HGN:=Lib.hid hgn;clear hgn;go_wp2;go_roundw
    case rel =>
     refine⟨k+1,by omega,by go_num,HB5.out.trans HGN.out.below,?_⟩;rw[HFL.out,HPK.out]
     simpa using HGN.out.grow
    case measure=>simp[intOf];omega
   | true =>
    rw[show atK true k=16-k from rfl] at HFL;have hai:((16-k:Nat):Int)=16-(k:Int):=by omega
    have HAI:=Lib.hid hai;clear hai;go_upto_region 13 with (fail);have mx:=zdf (a:=(16-(k:Int))) (b:=q.x-p.x) 16 200000 (by omega) (by omega) (by omega) (by omega) (by omega) (by omega);have my:=zdf (a:=(16-(k:Int))) (b:=q.y-p.y) 16 200000 (by omega) (by omega) (by omega) (by omega) (by omega) (by omega);have rx:=zdz (a:=(16-(k:Int))*(q.x-p.x)) (b:=16) (by omega) 3200000 (by omega) (by omega);have ry:=zdz (a:=(16-(k:Int))*(q.y-p.y)) (b:=16) (by omega) 3200000 (by omega) (by omega);have h1:IntKind.i64.wrap (q.x-p.x)=q.x-p.x:=IntWalk.i64_in _ (by omega);have h2:IntKind.i64.wrap (q.y-p.y)=q.y-p.y:=IntWalk.i64_in _ (by omega);have h3:IntKind.i64.wrap ((16-(k:Int))*(q.x-p.x))=(16-(k:Int))*(q.x-p.x):=IntWalk.i64_in _ (by omega);have h4:IntKind.i64.wrap ((16-(k:Int))*(q.y-p.y))=(16-(k:Int))*(q.y-p.y):=IntWalk.i64_in _ (by omega);have h5:IntKind.i64.wrap (p.x+rdiv ((16-(k:Int))*(q.x-p.x)) 16)=p.x+rdiv ((16-(k:Int))*(q.x-p.x)) 16:=IntWalk.i64_in _ (by omega);have h6:IntKind.i64.wrap (p.y+rdiv ((16-(k:Int))*(q.y-p.y)) 16)=p.y+rdiv ((16-(k:Int))*(q.y-p.y)) 16:=IntWalk.i64_in _ (by omega);have HPK:Hid (zch p q (16-k)=⟨p.x+rdiv ((16-(k:Int))*(q.x-p.x)) 16,p.y+rdiv ((16-(k:Int))*(q.y-p.y)) 16⟩):=by show _=_;unfold zch;rw[HAI.out]
    have CX:Hid (∀ W:World,Calls Tryz.prog 178 #[.int .i64 ((16-(k:Int))*(q.x-p.x)),.int .i64 16] W fun e w'=>e=.returned (.int .i64 (rdiv ((16-(k:Int))*(q.x-p.x)) 16))∧Below W.heap.size W w'):=fun W=>zam (zbm _ _ (by omega) (by omega) (by omega) (by omega) W)
    have CY:Hid (∀ W:World,Calls Tryz.prog 178 #[.int .i64 ((16-(k:Int))*(q.y-p.y)),.int .i64 16] W fun e w'=>e=.returned (.int .i64 (rdiv ((16-(k:Int))*(q.y-p.y)) 16))∧Below W.heap.size W w'):=fun W=>zam (zbm _ _ (by omega) (by omega) (by omega) (by omega) W)
    clear mx my rx ry;have HDR:Hid (∀ W:World,Below wr.heap.size wr W→_):=fun W hW=>HD.out W (HB.out.trans (hW.mono HB.out.size))
    have HBR:Hid (Below wr.heap.size wr wr):=Below.refl _ _;refine zap 29 (.read 0 (.read 1 (.read 2 (.read 3 (.read 4 (.read 5 (.read 6 (.read 7 (.read 8 (.read 9 (.read 10 (.read 11 (.read 14 (.read 15 (.read 16 (.read 17 (.read 18 (.read 19 (.read 20 (.read 21 (.read 22 (.read 23 (.read 24 (.one 12 (.read 13 (.one 25 (.read 26 (.read 27 (.one 28 .nil))))))))))))))))))))))))))))) (fun W=>Below wr.heap.size wr W) (by kernel_rfl) (by kernel_rfl) (HBR.out.drew) ?_;have YB:=Lib.hid (HBR.out.drew);have Yz:wr.heap.size≤wr.drew.heap.size:=Nat.le_refl _;generalize wr.drew=Y at *
    iterate 23
     refine zag (v:=?_) rfl (fun _ _ _ h=>h) ?_ ?_
     rotate_left
     ·(intro W hSW;(try dsimp only at hSW);obtain⟨t0,t1,t2,t3⟩:=HDR.out W hSW;(go_simp<;>with_reducible rfl))
     (try simp only[Act.put,List.setIfInBounds_toArray,List.set_cons_zero,List.set_cons_succ])
    refine zac ?_;refine zab rfl (fun K hK=>?_);go_simp;refine ((fun W (_:Below wr.heap.size wr W)=>CX.out W) _ YB.out).mono ?_;rintro e Y1 ⟨rfl,hb1⟩;have YB1:=btr YB hb1;refine hK.out _ _ YB1.out ?_;clear hK K;have bs1:=hb1.size;clear hb1;refine zag (v:=?_) rfl (fun _ _ _ h=>h) ?_ ?_
    rotate_left
    ·(intro W hSW;(try dsimp only at hSW);obtain⟨t0,t1,t2,t3⟩:=HDR.out W hSW;(go_simp<;>with_reducible rfl))
    (try simp only[Act.put,List.setIfInBounds_toArray,List.set_cons_zero,List.set_cons_succ])
    refine zac ?_;refine zab rfl (fun K hK=>?_);go_simp;refine ((fun W (_:Below wr.heap.size wr W)=>CY.out W) _ YB1.out).mono ?_;rintro e Y2 ⟨rfl,hb2⟩;have YB2:=btr YB1 hb2;refine hK.out _ _ YB2.out ?_;clear hK K;have bs2:=hb2.size;clear hb2
    iterate 2
     refine zag (v:=?_) rfl (fun _ _ _ h=>h) ?_ ?_
     rotate_left
     ·(intro W hSW;(try dsimp only at hSW);obtain⟨t0,t1,t2,t3⟩:=HDR.out W hSW;(go_simp<;>with_reducible rfl))
     (try simp only[Act.put,List.setIfInBounds_toArray,List.set_cons_zero,List.set_cons_succ])
    refine zac ?_;refine zab rfl (fun K hK=>?_);go_simp;refine hK.out _ _ (YB2.out.trans ((za3 Y2 _).mono YB2.out.size)) ?_;clear hK K
    (try simp only[Act.put,List.setIfInBounds_toArray,List.set_cons_zero,List.set_cons_succ])
    refine zak ?_;simp only[List.drop_succ_cons,List.drop_zero];have hX:=YB2.out;have HG5:=Lib.hid (HG.out.below (lo:=0) In.nil hX);have HB5:=btr HB hX;have hz5:w4.heap.size≤Y2.heap.size:=HB5.out.size;clear hX CX CY h1 h2 h3 h4 h5 h6;refine zbp rfl (.tmp 47) (.tmp 75) _ rfl w4.heap.size 48 i0 _ 2 16 Tryz.underlying221 hi0 hz0 hz1 hz2 rfl (by omega) _ _ _ [] rfl HG5.out [.int .i64 (p.x+rdiv ((16-(k:Int))*(q.x-p.x)) 16),.int .i64 (p.y+rdiv ((16-(k:Int))*(q.y-p.y)) 16)] (DPoint.tr ⟨p.x+rdiv ((16-(k:Int))*(q.x-p.x)) 16,p.y+rdiv ((16-(k:Int))*(q.y-p.y)) 16⟩) [] rfl 1 rfl (fun u hu=>by simp at hu;rcases hu with rfl|rfl<;>rfl) (RepV_lits _ [.int .i64 (p.x+rdiv ((16-(k:Int))*(q.x-p.x)) 16),.int .i64 (p.y+rdiv ((16-(k:Int))*(q.y-p.y)) 16)]) List.nodup_nil (fun b h=>by simp at h) 0 In.nil In.nil (by simp) (by simp) (by unfold maxLen;omega) (by omega) (by omega) ?_;intro v2 w6 hgn;have HGN:=Lib.hid hgn;clear hgn;go_wp2;go_roundw
    case rel =>
     refine⟨k+1,by omega,by go_num,HB5.out.trans HGN.out.below,?_⟩;rw[HFL.out,HPK.out]
     simpa using HGN.out.grow
    case measure=>simp[intOf];omega
  ·obtain rfl:k=17:=by omega
   rw[List.take_of_length_le (by rw[zee];omega)] at HG;obtain⟨av,cv,fv,ev,ov,iv⟩:=HG.out.toOwn (lo:=w4.heap.size) (by omega) In.nil (by omega);subst ev;obtain⟨hnc,hcm,bq,oq,ea_,hb1,hb2,hfz,hcl⟩:=listK_own ov iv;subst ea_;have HFZ:=Lib.hid hfz;have HCL:=Lib.hid hcl;clear HG ov iv hfz hcl;go_wp2;go_ret
   exact⟨bq,oq,cv,rfl,B4.out.trans (HB.out.mono B4.out.size),hnc,hcm,Nat.le_trans B4.out.size hb1,hb2,fun j hj=>by
    have h_:=HCL.out j hj
    rw[HPL.out j];exact h_⟩
end Go.Proofs.YtdgmgchdjlfchaaGreatDoor
