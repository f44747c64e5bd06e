/- Contracts: the path between two ends, for the reference. Conditions: ends in the terrain. -/
import Derived.Test.YtdgmgchdjlfchaaGreatDoorLvT
import Derived.Test.YtdgmgchdjlfchaaGreatDoorLvR
import Derived.Test.YtdgmgchdjlfchaaGreatDoorLv9
import Derived.Test.YtdgmgchdjlfchaaGreatDoorLvS
import Derived.IntWalk
namespace Go.Proofs.YtdgmgchdjlfchaaGreatDoor
set_option maxHeartbeats 16000000
set_option maxRecDepth 100000
open Go.RowKit
set_option linter.unusedVariables false
set_option linter.unusedSimpArgs false
theorem l12Before_any (p q:DPoint) (w:World) :
  Calls Tryz.prog 132 #[.agg #[.int .i64 p.x,.int .i64 p.y],.agg #[.int .i64 q.x,.int .i64 q.y]] w fun e w'=>e=.returned (.bool (befB p q))∧Below w.heap.size w w':=by
 have HE0:Hid (befB p q=(decide (p.x<q.x) || (decide (p.x=q.x)&&decide (p.y≤q.y)))):=rfl
 generalize befB p q=BV at *
 obtain⟨W0,hW0,b0_,z0,k0,k1⟩:=boxes2 w #[.int .i64 p.x,.int .i64 p.y] 48 #[.int .i64 q.x,.int .i64 q.y] 48
 have e0_0:=bkC (v:=.int .i64 p.x) k0 0 rfl
 have e0_1:=bkC (v:=.int .i64 p.y) k0 1 rfl
 have e1_0:=bkC (v:=.int .i64 q.x) k1 0 rfl
 have e1_1:=bkC (v:=.int .i64 q.y) k1 1 rfl
 have HW0:=Lib.hid hW0
 have B0:=Lib.hid b0_
 have HD:Hid (∀ W:World,Below W0.heap.size W0 W→(W.cell? ⟨w.heap.size,0,none⟩=some (.int .i64 p.x)∧W.cell? ⟨w.heap.size,1,none⟩=some (.int .i64 p.y)∧W.cell? ⟨w.heap.size+1,0,none⟩=some (.int .i64 q.x)∧W.cell? ⟨w.heap.size+1,1,none⟩=some (.int .i64 q.y))):=fun W hW=>⟨(bat hW w.heap.size _ (by omega)).trans e0_0,(bat hW w.heap.size _ (by omega)).trans e0_1,(bat hW (w.heap.size+1) _ (by omega)).trans e1_0,(bat hW (w.heap.size+1) _ (by omega)).trans e1_1⟩
 have HB:Hid (Below W0.heap.size W0 W0):=Below.refl _ _
 clear k0 k1 e0_0 e0_1 e1_0 e1_1 hW0 b0_
 by_cases c1:p.x<q.x
 case pos =>
  have e1:decide (p.x<q.x)=true:=decide_eq_true c1
  have HE:Hid (BV=true):=by show _=_;rw[HE0.out,e1,Bool.true_or]
  clear c1 HE0
  go_enter Tryz.func132,Tryz.ntmps132
  go_upto_region 1 with (fail)
  rw[HW0.out]
  obtain⟨t0,t1,t2,t3⟩:=HD.out _ HB.out
  go_wp2
  go_ret
  exact⟨by rw[HE.out];rfl,B0.out.trans (HB.out.mono B0.out.size)⟩
 have e1:decide (p.x<q.x)=false:=decide_eq_false c1
 by_cases c2:p.x=q.x
 case pos =>
  have e2:(p.x == q.x)=true:=beq_iff_eq.2 c2
  have HE:Hid (BV=decide (p.y≤q.y)):=by show _=_;rw[HE0.out,e1,Bool.false_or,decide_eq_true c2,Bool.true_and]
  clear c1 c2 HE0
  go_enter Tryz.func132,Tryz.ntmps132
  go_upto_region 1 with (fail)
  rw[HW0.out]
  obtain⟨t0,t1,t2,t3⟩:=HD.out _ HB.out
  go_wp2
  go_ret
  exact⟨by rw[HE.out];rfl,B0.out.trans (HB.out.mono B0.out.size)⟩
 have e2:(p.x == q.x)=false:=beq_eq_false_iff_ne.2 c2
 have HE:Hid (BV=false):=by show _=_;rw[HE0.out,e1,Bool.false_or,decide_eq_false c2,Bool.false_and]
 clear c1 c2 HE0
 go_enter Tryz.func132,Tryz.ntmps132
 go_upto_region 1 with (fail)
 rw[HW0.out]
 obtain⟨t0,t1,t2,t3⟩:=HD.out _ HB.out
 go_wp2
 go_ret
 exact⟨by rw[HE.out];rfl,B0.out.trans (HB.out.mono B0.out.size)⟩
theorem l12Path_any (t:DTerrain) (a b:DEnd) (T:TerrOk t) (pa:inT t a.place) (pb:inT t b.place) (ea:endP a) (eb:endP b) (v3 v4:Value) (hd:¬ (a.place.x=b.place.x∧a.place.y=b.place.y)) (f:Int) (f0:1≤f) (f1:f≤100000000) (pt po:Nat) (w:World) (r3:Rd w.heap.size w (intsT t.heights) v3) (r4:Rd w.heap.size w (intsT t.clutter) v4) (c0:w.cell? ⟨pt,po,none⟩=some (.int .i64 t.step)) (c1:w.cell? ⟨pt,po+1,none⟩=some (.int .i64 t.width)) (c2:w.cell? ⟨pt,po+2,none⟩=some (.int .i64 t.height)) (c3:w.cell? ⟨pt,po+3,none⟩=some (v3)) (c4:w.cell? ⟨pt,po+4,none⟩=some (v4)) :
  Calls Tryz.prog 93 #[.pointer (some ⟨pt,po,none⟩),.agg #[.int .i64 a.place.x,.int .i64 a.place.y,.int .i64 a.above],.agg #[.int .i64 b.place.x,.int .i64 b.place.y,.int .i64 b.above],.int .i64 f] w fun e w'=>∃ cl:Bool,e=.returned (.agg #[.int .i64 (distI a.place b.place),.int .i64 (bearI a.place b.place),.int .i64 (pathE t a b),.int .i64 (freeI f (distI a.place b.place)),.int .i64 (gasI f (distI a.place b.place)),.int .i64 (deyP (profO t a b) f),.int .i64 (cluI (cAt t a.place) f a.above+cluI (cAt t b.place) f b.above),.int .i64 (pathT t a b f),.bool cl])∧Below w.heap.size w w':=by
 have hpt:pt<w.heap.size:=cell_lt c0
 have hptA:=inT_pt T pa
 have hptB:=inT_pt T pb
 have hdb:=distI_bd hptA hptB
 have hd1:=distI_pos hptA hptB hd
 have hoo:=profO_ok T pa pb ea eb hd
 have hia:=highI_bd T pa ea
 have hib:=highI_bd T pb eb
 obtain⟨x,y,hP,px,py,ex,ey,hx1,hx2⟩:∃ x y:DEnd,profO t a b=profI t x y∧inT t x.place∧inT t y.place∧endP x∧endP y∧(befB a.place b.place=true→x=a∧y=b)∧(befB a.place b.place=false→x=b∧y=a):=by
  cases hB:befB a.place b.place with
  | true=>exact⟨a,b,by unfold profO;rw[if_pos hB],pa,pb,ea,eb,fun _=>⟨rfl,rfl⟩,fun h=>by cases h⟩
  | false=>exact⟨b,a,by unfold profO;rw[if_neg (by rw[hB];decide)],pb,pa,eb,ea,fun h=>by (cases h),fun _=>⟨rfl,rfl⟩⟩
 have hdo:(profO t a b).d=distI a.place b.place:=by
  unfold profO
  split
  ·rfl
  ·exact distI_symm _ _
 have CB:Hid (∀ W:World,Below w.heap.size w W→Calls Tryz.prog 132 #[.agg #[.int .i64 a.place.x,.int .i64 a.place.y],.agg #[.int .i64 b.place.x,.int .i64 b.place.y]] W fun e w'=>e=.returned (.bool (befB a.place b.place))∧Below W.heap.size W w'):=fun  W hW=>l12Before_any a.place b.place W
 have CPr:Hid (∀ W:World,Below w.heap.size w W→Calls Tryz.prog 133 #[.pointer (some ⟨pt,po,none⟩),.agg #[.int .i64 x.place.x,.int .i64 x.place.y,.int .i64 x.above],.agg #[.int .i64 y.place.x,.int .i64 y.place.y,.int .i64 y.above]] W fun e w'=>∃ (a':Option Addr) (c':Nat),e=.returned (.agg #[.int .i64 (profO t a b).d,.int .i64 (profO t a b).f,.int .i64 (profO t a b).l,.slice a' 17 c'])∧Below W.heap.size W w'∧Rd w'.heap.size w' (intsT (profO t a b).hs) (.slice a' 17 c')):=fun  W hW=>by
   rw[hP]
   exact l12Prof_any t x y T px py ex ey v3 v4 pt po W ((r3.below hW).mono hW.size) ((bat hW pt _ hpt).trans c0) ((bat hW pt _ hpt).trans c1) ((bat hW pt _ hpt).trans c2) ((bat hW pt _ hpt).trans c3) ((bat hW pt _ hpt).trans c4)
 have CBe:Hid (∀ W:World,Below w.heap.size w W→Calls Tryz.prog 134 #[.agg #[.int .i64 a.place.x,.int .i64 a.place.y],.agg #[.int .i64 b.place.x,.int .i64 b.place.y]] W fun e w'=>e=.returned (.int .i64 (bearI a.place b.place))∧Below W.heap.size W w'):=fun  W hW=>l03Bearing_any a.place b.place hptA hptB W
 have CFr:Hid (∀ W:World,Below w.heap.size w W→Calls Tryz.prog 135 #[.int .i64 f,.int .i64 (distI a.place b.place)] W fun e w'=>e=.returned (.int .i64 (freeI f (distI a.place b.place)))∧Below W.heap.size W w'):=fun  W hW=>l09Loss_any f _ f0 f1 hd1 hdb.2 W
 have CHb:Hid (∀ W:World,Below w.heap.size w W→Calls Tryz.prog 137 #[.pointer (some ⟨pt,po,none⟩),.agg #[.int .i64 b.place.x,.int .i64 b.place.y,.int .i64 b.above]] W fun e w'=>e=.returned (.int .i64 (highI t b))∧Below W.heap.size W w'):=fun  W hW=>l12High_any t b T pb eb v3 v4 pt po W ((r3.below hW).mono hW.size) ((bat hW pt _ hpt).trans c0) ((bat hW pt _ hpt).trans c1) ((bat hW pt _ hpt).trans c2) ((bat hW pt _ hpt).trans c3) ((bat hW pt _ hpt).trans c4)
 have CHa:Hid (∀ W:World,Below w.heap.size w W→Calls Tryz.prog 137 #[.pointer (some ⟨pt,po,none⟩),.agg #[.int .i64 a.place.x,.int .i64 a.place.y,.int .i64 a.above]] W fun e w'=>e=.returned (.int .i64 (highI t a))∧Below W.heap.size W w'):=fun  W hW=>l12High_any t a T pa ea v3 v4 pt po W ((r3.below hW).mono hW.size) ((bat hW pt _ hpt).trans c0) ((bat hW pt _ hpt).trans c1) ((bat hW pt _ hpt).trans c2) ((bat hW pt _ hpt).trans c3) ((bat hW pt _ hpt).trans c4)
 have CEl:Hid (∀ W:World,Below w.heap.size w W→Calls Tryz.prog 136 #[.int .i64 (distI a.place b.place),.int .i64 (highI t b-highI t a)] W fun e w'=>e=.returned (.int .i64 (pathE t a b))∧Below W.heap.size W w'):=fun  W hW=>l12Elev_any _ _ hdb.1 hdb.2 (by omega) (by omega) W
 have CGa:Hid (∀ W:World,Below w.heap.size w W→Calls Tryz.prog 138 #[.int .i64 f,.int .i64 (distI a.place b.place)] W fun e w'=>e=.returned (.tuple #[.int .i64 (gasI f (distI a.place b.place)),.int .i64 0])∧Below W.heap.size W w'):=fun  W hW=>sGas_any f _ f0 f1 hd1 hdb.2 W
 have CDe:Hid (∀ (q:Nat) (v:Value) (W:World),Rd W.heap.size W (intsT (profO t a b).hs) v→W.cell? ⟨q,0,none⟩=some (.int .i64 (profO t a b).d)→W.cell? ⟨q,1,none⟩=some (.int .i64 (profO t a b).f)→W.cell? ⟨q,2,none⟩=some (.int .i64 (profO t a b).l)→W.cell? ⟨q,3,none⟩=some v→Calls Tryz.prog 139 #[.pointer (some ⟨q,0,none⟩),.int .i64 f] W fun e w'=>e=.returned (.int .i64 (deyP (profO t a b) f))∧Below W.heap.size W w'):=fun q v W r q0 q1 q2 q3=>l10Dey_any _ hoo v q 0 f f0 f1 W r q0 q1 q2 q3
 have CCl:Hid (∀ (v:Value) (W:World),Rd W.heap.size W (intsT (profO t a b).hs) v→Calls Tryz.prog 142 #[.agg #[.int .i64 (distI a.place b.place),.int .i64 (profO t a b).f,.int .i64 (profO t a b).l,v],.int .i64 f,.int .i64 600] W fun e w'=>e=.returned (.bool (clrB (profO t a b) f 600))∧Below W.heap.size W w'):=fun v W r=>by
  rw[← hdo]
  exact sClear_any _ hoo v f f0 f1 600 W r
 have CAa:Hid (∀ W:World,Below w.heap.size w W→Calls Tryz.prog 141 #[.pointer (some ⟨pt,po,none⟩),.agg #[.int .i64 a.place.x,.int .i64 a.place.y]] W fun e w'=>e=.returned (.int .i64 (cAt t a.place))∧Below W.heap.size W w'):=fun  W hW=>l04Clut_any t a.place T pa v3 v4 pt po W ((r4.below hW).mono hW.size) ((bat hW pt _ hpt).trans c0) ((bat hW pt _ hpt).trans c1) ((bat hW pt _ hpt).trans c2) ((bat hW pt _ hpt).trans c3) ((bat hW pt _ hpt).trans c4)
 have CLa:Hid (∀ W:World,Below w.heap.size w W→Calls Tryz.prog 140 #[.int .i64 (cAt t a.place),.int .i64 f,.int .i64 a.above] W fun e w'=>e=.returned (.int .i64 (cluI (cAt t a.place) f a.above))∧Below W.heap.size W w'):=fun  W hW=>by
   have hc:=T.cs (cNear t.step a.place.y*t.width+cNear t.step a.place.x).toNat
   obtain⟨n,hn⟩:=Int.eq_ofNat_of_zero_le (show 0≤cAt t a.place from hc.1)
   have hc2:cAt t a.place≤7:=hc.2
   rw[hn]
   exact l11Clut_any n (by omega) f a.above f0 f1 (by unfold endP at ea;omega) W
 have CAb:Hid (∀ W:World,Below w.heap.size w W→Calls Tryz.prog 141 #[.pointer (some ⟨pt,po,none⟩),.agg #[.int .i64 b.place.x,.int .i64 b.place.y]] W fun e w'=>e=.returned (.int .i64 (cAt t b.place))∧Below W.heap.size W w'):=fun  W hW=>l04Clut_any t b.place T pb v3 v4 pt po W ((r4.below hW).mono hW.size) ((bat hW pt _ hpt).trans c0) ((bat hW pt _ hpt).trans c1) ((bat hW pt _ hpt).trans c2) ((bat hW pt _ hpt).trans c3) ((bat hW pt _ hpt).trans c4)
 have CLb:Hid (∀ W:World,Below w.heap.size w W→Calls Tryz.prog 140 #[.int .i64 (cAt t b.place),.int .i64 f,.int .i64 b.above] W fun e w'=>e=.returned (.int .i64 (cluI (cAt t b.place) f b.above))∧Below W.heap.size W w'):=fun  W hW=>by
   have hc:=T.cs (cNear t.step b.place.y*t.width+cNear t.step b.place.x).toNat
   obtain⟨n,hn⟩:=Int.eq_ofNat_of_zero_le (show 0≤cAt t b.place from hc.1)
   have hc2:cAt t b.place≤7:=hc.2
   rw[hn]
   exact l11Clut_any n (by omega) f b.above f0 f1 (by unfold endP at eb;omega) W
 have bF:=freeI_bd (f:=f) (d:=distI a.place b.place) f1 hdb.2
 have bG:=gasI_bd (f:=f) hdb.1 hdb.2
 have bD:=deyP_bd (profO t a b) f
 have bA:=cluI_bd (c:=cAt t a.place) (f:=f) (above:=a.above) (by unfold endP at ea;omega)
 have bB:=cluI_bd (c:=cAt t b.place) (f:=f) (above:=b.above) (by unfold endP at eb;omega)
 obtain⟨bF0,bF1⟩:=bF
 obtain⟨hia0,hia1⟩:=hia
 obtain⟨hib0,hib1⟩:=hib
 obtain⟨bG0,bG1⟩:=bG
 obtain⟨bD0,bD1⟩:=bD
 obtain⟨bA0,bA1⟩:=bA
 obtain⟨bB0,bB1⟩:=bB
 have HPT:Hid (pathT t a b f=freeI f (distI a.place b.place)+gasI f (distI a.place b.place)+deyP (profO t a b) f+(cluI (cAt t a.place) f a.above+cluI (cAt t b.place) f b.above)):=rfl
 have HX1:=Lib.hid hx1
 have HX2:=Lib.hid hx2
 have HPD:=Lib.hid hdo
 clear hptA hptB hoo r3 r4 T pa pb ea eb hd hd1 px py ex ey hP hx1 hx2 c0 c1 c2 c3 c4 hdo hdb
 generalize cluI (cAt t a.place) f a.above=KA at *
 generalize cluI (cAt t b.place) f b.above=KB at *
 generalize cAt t a.place=QA_ at *
 generalize cAt t b.place=QB_ at *
 generalize pathT t a b f=PT at *
 generalize clrB (profO t a b) f 600=CL at *
 generalize deyP (profO t a b) f=DE at *
 generalize freeI f (distI a.place b.place)=FR at *
 generalize gasI f (distI a.place b.place)=GA at *
 generalize pathE t a b=EL at *
 generalize bearI a.place b.place=BE at *
 generalize distI a.place b.place=DI at *
 generalize highI t a=HA_ at *
 generalize highI t b=HB_ at *
 generalize profO t a b=PO at *
 generalize befB a.place b.place=BF at *
 obtain⟨W0,hW0,b0_,z0,k0,k1,k2⟩:=boxes3 w #[.int .i64 a.place.x,.int .i64 a.place.y,.int .i64 a.above] 50 #[.int .i64 b.place.x,.int .i64 b.place.y,.int .i64 b.above] 50 #[.int .i64 0,.int .i64 0,.int .i64 0,.int .i64 0,.int .i64 0,.int .i64 0,.int .i64 0,.int .i64 0,.bool false] 142
 have e0_0:=bkC (v:=.int .i64 a.place.x) k0 0 rfl
 have e0_1:=bkC (v:=.int .i64 a.place.y) k0 1 rfl
 have e0_2:=bkC (v:=.int .i64 a.above) k0 2 rfl
 have e1_0:=bkC (v:=.int .i64 b.place.x) k1 0 rfl
 have e1_1:=bkC (v:=.int .i64 b.place.y) k1 1 rfl
 have e1_2:=bkC (v:=.int .i64 b.above) k1 2 rfl
 have e2_0:=bkC (v:=.int .i64 0) k2 0 rfl
 have e2_1:=bkC (v:=.int .i64 0) k2 1 rfl
 have e2_2:=bkC (v:=.int .i64 0) k2 2 rfl
 have e2_3:=bkC (v:=.int .i64 0) k2 3 rfl
 have e2_4:=bkC (v:=.int .i64 0) k2 4 rfl
 have e2_5:=bkC (v:=.int .i64 0) k2 5 rfl
 have e2_6:=bkC (v:=.int .i64 0) k2 6 rfl
 have e2_7:=bkC (v:=.int .i64 0) k2 7 rfl
 have e2_8:=bkC (v:=.bool false) k2 8 rfl
 have HW0:=Lib.hid hW0
 have B0:=Lib.hid b0_
 have HD:Hid (∀ W:World,Below W0.heap.size W0 W→(W.cell? ⟨w.heap.size,0,none⟩=some (.int .i64 a.place.x)∧W.cell? ⟨w.heap.size,1,none⟩=some (.int .i64 a.place.y)∧W.cell? ⟨w.heap.size,2,none⟩=some (.int .i64 a.above)∧W.cell? ⟨w.heap.size+1,0,none⟩=some (.int .i64 b.place.x)∧W.cell? ⟨w.heap.size+1,1,none⟩=some (.int .i64 b.place.y)∧W.cell? ⟨w.heap.size+1,2,none⟩=some (.int .i64 b.above)∧W.cell? ⟨w.heap.size+2,0,none⟩=some (.int .i64 0)∧W.cell? ⟨w.heap.size+2,1,none⟩=some (.int .i64 0)∧W.cell? ⟨w.heap.size+2,2,none⟩=some (.int .i64 0)∧W.cell? ⟨w.heap.size+2,3,none⟩=some (.int .i64 0)∧W.cell? ⟨w.heap.size+2,4,none⟩=some (.int .i64 0)∧W.cell? ⟨w.heap.size+2,5,none⟩=some (.int .i64 0)∧W.cell? ⟨w.heap.size+2,6,none⟩=some (.int .i64 0)∧W.cell? ⟨w.heap.size+2,7,none⟩=some (.int .i64 0)∧W.cell? ⟨w.heap.size+2,8,none⟩=some (.bool false))):=fun W hW=>⟨(bat hW w.heap.size _ (by omega)).trans e0_0,(bat hW w.heap.size _ (by omega)).trans e0_1,(bat hW w.heap.size _ (by omega)).trans e0_2,(bat hW (w.heap.size+1) _ (by omega)).trans e1_0,(bat hW (w.heap.size+1) _ (by omega)).trans e1_1,(bat hW (w.heap.size+1) _ (by omega)).trans e1_2,(bat hW (w.heap.size+2) _ (by omega)).trans e2_0,(bat hW (w.heap.size+2) _ (by omega)).trans e2_1,(bat hW (w.heap.size+2) _ (by omega)).trans e2_2,(bat hW (w.heap.size+2) _ (by omega)).trans e2_3,(bat hW (w.heap.size+2) _ (by omega)).trans e2_4,(bat hW (w.heap.size+2) _ (by omega)).trans e2_5,(bat hW (w.heap.size+2) _ (by omega)).trans e2_6,(bat hW (w.heap.size+2) _ (by omega)).trans e2_7,(bat hW (w.heap.size+2) _ (by omega)).trans e2_8⟩
 have HB:Hid (Below W0.heap.size W0 W0):=Below.refl _ _
 have K2:=Lib.hid k2
 clear k0 k1 k2 e0_0 e0_1 e0_2 e1_0 e1_1 e1_2 e2_0 e2_1 e2_2 e2_3 e2_4 e2_5 e2_6 e2_7 e2_8 hW0 b0_
 go_enter Tryz.func93,Tryz.ntmps93
 go_upto_region 1 with (fail)
 rw[HW0.out]
 obtain⟨t0,t1,t2,t3,t4,t5,t6,t7,t8,t9,t10,t11,t12,t13,t14⟩:=HD.out _ HB.out
 go_upto_region 2 with (fail)
 obtain⟨va,hWa,ba_,za,k9a⟩:=boxes1 W0 #[.int .i64 a.place.x,.int .i64 a.place.y,.int .i64 a.above] 50
 rw[hWa]
 clear hWa t0 t1 t2 t3 t4 t5 t6 t7 t8 t9 t10 t11 t12 t13 t14
 obtain⟨t0,t1,t2,t3,t4,t5,t6,t7,t8,t9,t10,t11,t12,t13,t14⟩:=HD.out _ ba_
 go_upto_region 3 with (fail)
 obtain⟨v1,hW1,bb_,z1,k10_⟩:=boxes1 va #[.int .i64 b.place.x,.int .i64 b.place.y,.int .i64 b.above] 50
 rw[hW1]
 clear hW1 t0 t1 t2 t3 t4 t5 t6 t7 t8 t9 t10 t11 t12 t13 t14
 have BB1:Hid (Below W0.heap.size W0 v1):=ba_.trans (bb_.mono ba_.size)
 have K9:=Lib.hid (bkB k9a bb_ (by omega))
 have K10:=Lib.hid k10_
 have zva:W0.heap.size<va.heap.size:=by omega
 clear ba_ bb_ k9a k10_
 obtain⟨t0,t1,t2,t3,t4,t5,t6,t7,t8,t9,t10,t11,t12,t13,t14⟩:=HD.out _ BB1.out
 go_upto_if 22 with (go_at_call 132;with_reducible refine (CB.out _ (B0.out.trans (BB1.out.mono B0.out.size))).mono ?_;rintro e v2 ⟨rfl,hb_⟩;(have bbU1:=btr BB1 hb_);(have bsU1:=hb_.size);(have k9U1:=bkH K9 hb_);(have k10U1:=bkH K10 hb_);(clear hb_))
 clear t0 t1 t2 t3 t4 t5 t6 t7 t8 t9 t10 t11 t12 t13 t14 CB
 generalize hNB:(!BF)=nb at *
 have HNB:=Lib.hid hNB
 clear hNB
 go_cut [] (fun wx=>wx.heap[W0.heap.size]? = some (.cells #[.int .i64 x.place.x,.int .i64 x.place.y,.int .i64 x.above] 50 (0,0))∧wx.heap[va.heap.size]? = some (.cells #[.int .i64 y.place.x,.int .i64 y.place.y,.int .i64 y.above] 50 (0,0))∧Below W0.heap.size W0 wx∧v2.heap.size≤wx.heap.size)
 case first =>
  cases nb with
  | false =>
   have hB:BF=true:=by have h:=HNB.out;rwa [Bool.not_eq_false'] at h
   obtain⟨ex,ey⟩:=HX1.out hB
   have EX:=Lib.hid ex
   have EY:=Lib.hid ey
   clear ex ey hB
   go_wp2_with fail
   go_meet
   rw[EX.out,EY.out]
   exact⟨k9U1.out,k10U1.out,bbU1.out,Nat.le_refl _⟩
  | true =>
   have hB:BF=false:=by have h:=HNB.out;rwa [Bool.not_eq_true'] at h
   obtain⟨ex,ey⟩:=HX2.out hB
   have EX:=Lib.hid ex
   have EY:=Lib.hid ey
   clear ex ey hB
   obtain⟨t0,t1,t2,t3,t4,t5,t6,t7,t8,t9,t10,t11,t12,t13,t14⟩:=HD.out _ bbU1.out
   have q0:=bkC (v:=.int .i64 a.place.x) k9U1.out 0 rfl
   have q1:=bkC (v:=.int .i64 a.place.y) k9U1.out 1 rfl
   have q2:=bkC (v:=.int .i64 a.above) k9U1.out 2 rfl
   have qf:=bkF k9U1.out
   have p0:=bkC (v:=.int .i64 b.place.x) k10U1.out 0 rfl
   have p1:=bkC (v:=.int .i64 b.place.y) k10U1.out 1 rfl
   have p2:=bkC (v:=.int .i64 b.above) k10U1.out 2 rfl
   have pf:=bkF k10U1.out
   have kf_:((((v2.setCell ⟨W0.heap.size,0,none⟩ (.int .i64 b.place.x)).setCell ⟨W0.heap.size,1,none⟩ (.int .i64 b.place.y)).setCell ⟨W0.heap.size,2,none⟩ (.int .i64 b.above))).heap[W0.heap.size]? = some (.cells #[.int .i64 b.place.x,.int .i64 b.place.y,.int .i64 b.above] 50 (0,0)):=by
    have h_:=(bkS (bkS (bkS k9U1.out 0 (.int .i64 b.place.x)) 1 (.int .i64 b.place.y)) 2 (.int .i64 b.above))
    simpa using h_
   have k9U2:=Lib.hid kf_
   clear kf_
   have bbU2:=Lib.hid (((bbU1.out.setCell (p:=⟨W0.heap.size,0,none⟩) (by show W0.heap.size≤W0.heap.size;have:=bbU1.out.size;omega) (.int .i64 b.place.x)).setCell (p:=⟨W0.heap.size,1,none⟩) (by show W0.heap.size≤W0.heap.size;have:=bbU1.out.size;omega) (.int .i64 b.place.y)).setCell (p:=⟨W0.heap.size,2,none⟩) (by show W0.heap.size≤W0.heap.size;have:=bbU1.out.size;omega) (.int .i64 b.above))
   have bsU2:v2.heap.size≤((((v2.setCell ⟨W0.heap.size,0,none⟩ (.int .i64 b.place.x)).setCell ⟨W0.heap.size,1,none⟩ (.int .i64 b.place.y)).setCell ⟨W0.heap.size,2,none⟩ (.int .i64 b.above))).heap.size:=by simp only[size_setCell];exact Nat.le_refl _
   have k10U2:=Lib.hid (bkO (bkO (bkO k10U1.out (p:=⟨W0.heap.size,0,none⟩) (by show va.heap.size≠W0.heap.size;omega) (.int .i64 b.place.x)) (p:=⟨W0.heap.size,1,none⟩) (by show va.heap.size≠W0.heap.size;omega) (.int .i64 b.place.y)) (p:=⟨W0.heap.size,2,none⟩) (by show va.heap.size≠W0.heap.size;omega) (.int .i64 b.above))
   go_wp2_with fail
   go_meet
   rw[EX.out,EY.out]
   have kf_:(((((((v2.setCell ⟨W0.heap.size,0,none⟩ (.int .i64 b.place.x)).setCell ⟨W0.heap.size,1,none⟩ (.int .i64 b.place.y)).setCell ⟨W0.heap.size,2,none⟩ (.int .i64 b.above)).setCell ⟨va.heap.size,0,none⟩ (.int .i64 a.place.x)).setCell ⟨va.heap.size,1,none⟩ (.int .i64 a.place.y)).setCell ⟨va.heap.size,2,none⟩ (.int .i64 a.above))).heap[va.heap.size]? = some (.cells #[.int .i64 a.place.x,.int .i64 a.place.y,.int .i64 a.above] 50 (0,0)):=by
    have h_:=(bkS (bkS (bkS k10U2.out 0 (.int .i64 a.place.x)) 1 (.int .i64 a.place.y)) 2 (.int .i64 a.above))
    simpa using h_
   have k10U3:=Lib.hid kf_
   clear kf_
   have bbU3:=Lib.hid (((bbU2.out.setCell (p:=⟨va.heap.size,0,none⟩) (by show W0.heap.size≤va.heap.size;have:=bbU2.out.size;omega) (.int .i64 a.place.x)).setCell (p:=⟨va.heap.size,1,none⟩) (by show W0.heap.size≤va.heap.size;have:=bbU2.out.size;omega) (.int .i64 a.place.y)).setCell (p:=⟨va.heap.size,2,none⟩) (by show W0.heap.size≤va.heap.size;have:=bbU2.out.size;omega) (.int .i64 a.above))
   have bsU3:(((v2.setCell ⟨W0.heap.size,0,none⟩ (.int .i64 b.place.x)).setCell ⟨W0.heap.size,1,none⟩ (.int .i64 b.place.y)).setCell ⟨W0.heap.size,2,none⟩ (.int .i64 b.above)).heap.size≤(((((((v2.setCell ⟨W0.heap.size,0,none⟩ (.int .i64 b.place.x)).setCell ⟨W0.heap.size,1,none⟩ (.int .i64 b.place.y)).setCell ⟨W0.heap.size,2,none⟩ (.int .i64 b.above)).setCell ⟨va.heap.size,0,none⟩ (.int .i64 a.place.x)).setCell ⟨va.heap.size,1,none⟩ (.int .i64 a.place.y)).setCell ⟨va.heap.size,2,none⟩ (.int .i64 a.above))).heap.size:=by simp only[size_setCell];exact Nat.le_refl _
   have k9U3:=Lib.hid (bkO (bkO (bkO k9U2.out (p:=⟨va.heap.size,0,none⟩) (by show W0.heap.size≠va.heap.size;omega) (.int .i64 a.place.x)) (p:=⟨va.heap.size,1,none⟩) (by show W0.heap.size≠va.heap.size;omega) (.int .i64 a.place.y)) (p:=⟨va.heap.size,2,none⟩) (by show W0.heap.size≠va.heap.size;omega) (.int .i64 a.above))
   exact⟨k9U3.out,k10U3.out,bbU3.out,by simp only[size_setCell];omega⟩
 obtain⟨k9_,k10_,hbW,z3⟩:=hcut
 generalize wc=v3 at *
 have K9c:=Lib.hid k9_
 have K10c:=Lib.hid k10_
 have BB3:=Lib.hid hbW
 clear k9_ k10_ hbW HX1 HX2
 have q0:=bkC (v:=.int .i64 x.place.x) K9c.out 0 rfl
 have q1:=bkC (v:=.int .i64 x.place.y) K9c.out 1 rfl
 have q2:=bkC (v:=.int .i64 x.above) K9c.out 2 rfl
 have qf:=bkF K9c.out
 have p0:=bkC (v:=.int .i64 y.place.x) K10c.out 0 rfl
 have p1:=bkC (v:=.int .i64 y.place.y) K10c.out 1 rfl
 have p2:=bkC (v:=.int .i64 y.above) K10c.out 2 rfl
 have pf:=bkF K10c.out
 go_upto_region 7 with (go_at_call 133;with_reducible refine (CPr.out _ (B0.out.trans (BB3.out.mono B0.out.size))).mono ?_;rintro e v4 ⟨aq,cq,rfl,hb_,hr_⟩;(have BB4:=Lib.hid (BB3.out.trans (hb_.mono BB3.out.size)));(have RQ:=Lib.hid hr_);clear hb_ hr_ q0 q1 q2 qf p0 p1 p2 pf K9c K10c)
 clear CPr
 obtain⟨v5,hW5,b5_,z5,k11_⟩:=boxes1 v4 #[.int .i64 PO.d,.int .i64 PO.f,.int .i64 PO.l,.slice aq 17 cq] 180
 rw[hW5]
 have BB5:=Lib.hid (BB4.out.trans (b5_.mono BB4.out.size))
 have K11:=Lib.hid k11_
 have R5:Hid (∀ W:World,Below v5.heap.size v5 W→Rd W.heap.size W (intsT PO.hs) (.slice aq 17 cq)):=fun W hW=>(RQ.out.below (b5_.trans (hW.mono b5_.size))).mono (b5_.trans (hW.mono b5_.size)).size
 have HD5:Hid (∀ W:World,Below v5.heap.size v5 W→(W.cell? ⟨v4.heap.size,0,none⟩=some (.int .i64 DI)∧W.cell? ⟨v4.heap.size,1,none⟩=some (.int .i64 PO.f)∧W.cell? ⟨v4.heap.size,2,none⟩=some (.int .i64 PO.l)∧W.cell? ⟨v4.heap.size,3,none⟩=some (.slice aq 17 cq)∧W.cell? ⟨w.heap.size,0,none⟩=some (.int .i64 a.place.x)∧W.cell? ⟨w.heap.size,1,none⟩=some (.int .i64 a.place.y)∧W.cell? ⟨w.heap.size,2,none⟩=some (.int .i64 a.above)∧W.cell? ⟨w.heap.size+1,0,none⟩=some (.int .i64 b.place.x)∧W.cell? ⟨w.heap.size+1,1,none⟩=some (.int .i64 b.place.y)∧W.cell? ⟨w.heap.size+1,2,none⟩=some (.int .i64 b.above)∧W.cell? ⟨w.heap.size+2,0,none⟩=some (.int .i64 0)∧W.cell? ⟨w.heap.size+2,1,none⟩=some (.int .i64 0)∧W.cell? ⟨w.heap.size+2,2,none⟩=some (.int .i64 0)∧W.cell? ⟨w.heap.size+2,3,none⟩=some (.int .i64 0)∧W.cell? ⟨w.heap.size+2,4,none⟩=some (.int .i64 0)∧W.cell? ⟨w.heap.size+2,5,none⟩=some (.int .i64 0)∧W.cell? ⟨w.heap.size+2,6,none⟩=some (.int .i64 0)∧W.cell? ⟨w.heap.size+2,7,none⟩=some (.int .i64 0)∧W.cell? ⟨w.heap.size+2,8,none⟩=some (.bool false))):=fun W hW=>by
  obtain⟨t0,t1,t2,t3,t4,t5,t6,t7,t8,t9,t10,t11,t12,t13,t14⟩:=HD.out W (BB5.out.trans (hW.mono BB5.out.size))
  exact⟨(bat hW v4.heap.size _ (by omega)).trans ((bkC (v:=.int .i64 PO.d) K11.out 0 rfl).trans (by rw[HPD.out])),(bat hW v4.heap.size _ (by omega)).trans (bkC K11.out 1 rfl),(bat hW v4.heap.size _ (by omega)).trans (bkC K11.out 2 rfl),(bat hW v4.heap.size _ (by omega)).trans (bkC K11.out 3 rfl),t0,t1,t2,t3,t4,t5,t6,t7,t8,t9,t10,t11,t12,t13,t14⟩
 have HBv:Hid (Below v5.heap.size v5 v5):=Below.refl _ _
 clear hW5 b5_ k11_ RQ
 go_cut [12] (fun s12 wx=>∃ g:Nat,s12=.pointer (some ⟨g,0,none⟩)∧wx.heap[g]? = some (.cells #[.int .i64 DI,.int .i64 BE,.int .i64 0,.int .i64 FR,.int .i64 0,.int .i64 0,.int .i64 0,.int .i64 0,.bool false] 142 (0,0))∧Below v5.heap.size v5 wx∧v5.heap.size≤g∧g<wx.heap.size)
 case first =>
  refine wp_region_tree 14 (.read 0 (.read 1 (.read 2 (.read 3 (.read 4 (.read 5 (.read 7 (.read 8 (.read 9 (.two 6 12 (.two 10 12 (.read 11 (.one 12 (.one 13 .nil))) (.one 10 (.read 11 (.one 13 .nil)))) (.one 6 (.one 10 (.read 11 (.one 13 .nil)))))))))))))) (fun W=>Below v5.heap.size v5 W) (by kernel_rfl) (by kernel_rfl) (HBv.out.drew) ?_
  have YB:=Lib.hid (HBv.out.drew)
  have Yz:v5.heap.size≤v5.drew.heap.size:=Nat.le_refl _
  generalize v5.drew=Y at *
  iterate 9
   refine wpTree_read (v:=?_) rfl (fun _ _ _ h=>h) ?_ ?_
   rotate_left
   ·(intro W hSW;(try dsimp only at hSW);obtain⟨y0,y1,y2,y3,t0,t1,t2,t3,t4,t5,t6,t7,t8,t9,t10,t11,t12,t13,t14⟩:=HD5.out W hSW;(go_simp<;>with_reducible rfl))
   (try simp only[Act.put,List.setIfInBounds_toArray,List.set_cons_zero,List.set_cons_succ])
  refine wpTree_two ?_ ?_
  refine stepT_mk rfl (fun K hK=>?_)
  go_simp
  refine ((fun W (hW:Below v5.heap.size v5 W)=>CBe.out W (B0.out.trans ((BB5.out.trans (hW.mono BB5.out.size)).mono B0.out.size))) _ YB.out).mono ?_
  rintro e Y1 ⟨rfl,hb1⟩
  have YB1:=btr YB hb1
  refine hK.out _ _ YB1.out ?_
  clear hK K
  have bs1:=hb1.size
  clear hb1
  refine wpTree_two ?_ ?_
  refine stepT_mk rfl (fun K hK=>?_)
  go_simp
  refine ((fun W (hW:Below v5.heap.size v5 W)=>CFr.out W (B0.out.trans ((BB5.out.trans (hW.mono BB5.out.size)).mono B0.out.size))) _ YB1.out).mono ?_
  rintro e Y2 ⟨rfl,hb2⟩
  have YB2:=btr YB1 hb2
  refine hK.out _ _ YB2.out ?_
  clear hK K
  have bs2:=hb2.size
  clear hb2
  refine wpTree_read (v:=?_) rfl (fun _ _ _ h=>h) ?_ ?_
  rotate_left
  ·(intro W hSW;(try dsimp only at hSW);obtain⟨y0,y1,y2,y3,t0,t1,t2,t3,t4,t5,t6,t7,t8,t9,t10,t11,t12,t13,t14⟩:=HD5.out W hSW;(go_simp<;>with_reducible rfl))
  (try simp only[Act.put,List.setIfInBounds_toArray,List.set_cons_zero,List.set_cons_succ])
  refine wpTree_one ?_
  refine stepT_mk rfl (fun K hK=>?_)
  go_simp
  obtain⟨Y3,hW3,hb3,zl3,hk3⟩:=boxes1 Y2 #[.int .i64 0,.int .i64 0,.int .i64 0,.int .i64 0,.int .i64 0,.int .i64 0,.int .i64 0,.int .i64 0,.bool false] 142
  rw[hW3]
  have Ykx3:=Lib.hid hk3
  have YB3:=btr YB2 hb3
  refine hK.out _ _ YB3.out ?_
  have bs3:=hb3.size
  clear hK K hW3 hk3 hb3
  refine wpTree_one ?_
  refine stepT_mk rfl (fun K hK=>?_)
  have g0:=bkC (v:=.int .i64 0) Ykx3.out 0 rfl
  have g1:=bkC (v:=.int .i64 0) Ykx3.out 1 rfl
  have g2:=bkC (v:=.int .i64 0) Ykx3.out 2 rfl
  have g3:=bkC (v:=.int .i64 0) Ykx3.out 3 rfl
  have g4:=bkC (v:=.int .i64 0) Ykx3.out 4 rfl
  have g5:=bkC (v:=.int .i64 0) Ykx3.out 5 rfl
  have g6:=bkC (v:=.int .i64 0) Ykx3.out 6 rfl
  have g7:=bkC (v:=.int .i64 0) Ykx3.out 7 rfl
  have g8:=bkC (v:=.bool false) Ykx3.out 8 rfl
  have fz:=bkF Ykx3.out
  go_simp
  obtain⟨Y4,hW4,Ykx4,bs4,ho4,hl4⟩:=stAll Ykx3 [.int .i64 DI,.int .i64 BE,.int .i64 0,.int .i64 FR,.int .i64 0,.int .i64 0,.int .i64 0,.int .i64 0,.bool false] rfl
  simp only[setsC] at hW4
  rw[hW4]
  have YB4:=Lib.hid (hl4.out v5 (by have:=YB3.out.size;omega) YB3.out)
  refine hK.out _ _ YB4.out ?_
  clear hK K fz hW4 ho4 hl4 g0 g1 g2 g3 g4 g5 g6 g7 g8
  refine wpTree_nil ?_
  simp only[List.drop_succ_cons,List.drop_zero]
  go_wp2_with fail
  go_meet
  exact⟨_,rfl,Ykx4.out,YB4.out,by omega,by omega⟩
  refine stepT_mk rfl (fun K hK=>?_)
  go_simp
  obtain⟨Y5,hW5,hb5,zl5,hk5⟩:=boxes1 Y1 #[.int .i64 0,.int .i64 0,.int .i64 0,.int .i64 0,.int .i64 0,.int .i64 0,.int .i64 0,.int .i64 0,.bool false] 142
  rw[hW5]
  have Ykx5:=Lib.hid hk5
  have YB5:=btr YB1 hb5
  refine hK.out _ _ YB5.out ?_
  have bs5:=hb5.size
  clear hK K hW5 hk5 hb5
  refine wpTree_one ?_
  refine stepT_mk rfl (fun K hK=>?_)
  go_simp
  refine ((fun W (hW:Below v5.heap.size v5 W)=>CFr.out W (B0.out.trans ((BB5.out.trans (hW.mono BB5.out.size)).mono B0.out.size))) _ YB5.out).mono ?_
  rintro e Y6 ⟨rfl,hb6⟩
  have YB6:=btr YB5 hb6
  refine hK.out _ _ YB6.out ?_
  clear hK K
  have bs6:=hb6.size
  have Ykx6:=bkH Ykx5 hb6
  clear hb6
  refine wpTree_read (v:=?_) rfl (fun _ _ _ h=>h) ?_ ?_
  rotate_left
  ·(intro W hSW;(try dsimp only at hSW);obtain⟨y0,y1,y2,y3,t0,t1,t2,t3,t4,t5,t6,t7,t8,t9,t10,t11,t12,t13,t14⟩:=HD5.out W hSW;(go_simp<;>with_reducible rfl))
  (try simp only[Act.put,List.setIfInBounds_toArray,List.set_cons_zero,List.set_cons_succ])
  refine wpTree_one ?_
  refine stepT_mk rfl (fun K hK=>?_)
  have g0:=bkC (v:=.int .i64 0) Ykx6.out 0 rfl
  have g1:=bkC (v:=.int .i64 0) Ykx6.out 1 rfl
  have g2:=bkC (v:=.int .i64 0) Ykx6.out 2 rfl
  have g3:=bkC (v:=.int .i64 0) Ykx6.out 3 rfl
  have g4:=bkC (v:=.int .i64 0) Ykx6.out 4 rfl
  have g5:=bkC (v:=.int .i64 0) Ykx6.out 5 rfl
  have g6:=bkC (v:=.int .i64 0) Ykx6.out 6 rfl
  have g7:=bkC (v:=.int .i64 0) Ykx6.out 7 rfl
  have g8:=bkC (v:=.bool false) Ykx6.out 8 rfl
  have fz:=bkF Ykx6.out
  go_simp
  obtain⟨Y7,hW7,Ykx7,bs7,ho7,hl7⟩:=stAll Ykx6 [.int .i64 DI,.int .i64 BE,.int .i64 0,.int .i64 FR,.int .i64 0,.int .i64 0,.int .i64 0,.int .i64 0,.bool false] rfl
  simp only[setsC] at hW7
  rw[hW7]
  have YB7:=Lib.hid (hl7.out v5 (by have:=YB6.out.size;omega) YB6.out)
  refine hK.out _ _ YB7.out ?_
  clear hK K fz hW7 ho7 hl7 g0 g1 g2 g3 g4 g5 g6 g7 g8
  refine wpTree_nil ?_
  simp only[List.drop_succ_cons,List.drop_zero]
  go_wp2_with fail
  go_meet
  exact⟨_,rfl,Ykx7.out,YB7.out,by omega,by omega⟩
  refine stepT_mk rfl (fun K hK=>?_)
  go_simp
  obtain⟨Y8,hW8,hb8,zl8,hk8⟩:=boxes1 Y #[.int .i64 0,.int .i64 0,.int .i64 0,.int .i64 0,.int .i64 0,.int .i64 0,.int .i64 0,.int .i64 0,.bool false] 142
  rw[hW8]
  have Ykx8:=Lib.hid hk8
  have YB8:=btr YB hb8
  refine hK.out _ _ YB8.out ?_
  have bs8:=hb8.size
  clear hK K hW8 hk8 hb8
  refine wpTree_one ?_
  refine stepT_mk rfl (fun K hK=>?_)
  go_simp
  refine ((fun W (hW:Below v5.heap.size v5 W)=>CBe.out W (B0.out.trans ((BB5.out.trans (hW.mono BB5.out.size)).mono B0.out.size))) _ YB8.out).mono ?_
  rintro e Y9 ⟨rfl,hb9⟩
  have YB9:=btr YB8 hb9
  refine hK.out _ _ YB9.out ?_
  clear hK K
  have bs9:=hb9.size
  have Ykx9:=bkH Ykx8 hb9
  clear hb9
  refine wpTree_one ?_
  refine stepT_mk rfl (fun K hK=>?_)
  go_simp
  refine ((fun W (hW:Below v5.heap.size v5 W)=>CFr.out W (B0.out.trans ((BB5.out.trans (hW.mono BB5.out.size)).mono B0.out.size))) _ YB9.out).mono ?_
  rintro e Y10 ⟨rfl,hb10⟩
  have YB10:=btr YB9 hb10
  refine hK.out _ _ YB10.out ?_
  clear hK K
  have bs10:=hb10.size
  have Ykx10:=bkH Ykx9 hb10
  clear hb10
  refine wpTree_read (v:=?_) rfl (fun _ _ _ h=>h) ?_ ?_
  rotate_left
  ·(intro W hSW;(try dsimp only at hSW);obtain⟨y0,y1,y2,y3,t0,t1,t2,t3,t4,t5,t6,t7,t8,t9,t10,t11,t12,t13,t14⟩:=HD5.out W hSW;(go_simp<;>with_reducible rfl))
  (try simp only[Act.put,List.setIfInBounds_toArray,List.set_cons_zero,List.set_cons_succ])
  refine wpTree_one ?_
  refine stepT_mk rfl (fun K hK=>?_)
  have g0:=bkC (v:=.int .i64 0) Ykx10.out 0 rfl
  have g1:=bkC (v:=.int .i64 0) Ykx10.out 1 rfl
  have g2:=bkC (v:=.int .i64 0) Ykx10.out 2 rfl
  have g3:=bkC (v:=.int .i64 0) Ykx10.out 3 rfl
  have g4:=bkC (v:=.int .i64 0) Ykx10.out 4 rfl
  have g5:=bkC (v:=.int .i64 0) Ykx10.out 5 rfl
  have g6:=bkC (v:=.int .i64 0) Ykx10.out 6 rfl
  have g7:=bkC (v:=.int .i64 0) Ykx10.out 7 rfl
  have g8:=bkC (v:=.bool false) Ykx10.out 8 rfl
  have fz:=bkF Ykx10.out
  go_simp
  obtain⟨Y11,hW11,Ykx11,bs11,ho11,hl11⟩:=stAll Ykx10 [.int .i64 DI,.int .i64 BE,.int .i64 0,.int .i64 FR,.int .i64 0,.int .i64 0,.int .i64 0,.int .i64 0,.bool false] rfl
  simp only[setsC] at hW11
  rw[hW11]
  have YB11:=Lib.hid (hl11.out v5 (by have:=YB10.out.size;omega) YB10.out)
  refine hK.out _ _ YB11.out ?_
  clear hK K fz hW11 ho11 hl11 g0 g1 g2 g3 g4 g5 g6 g7 g8
  refine wpTree_nil ?_
  simp only[List.drop_succ_cons,List.drop_zero]
  go_wp2_with fail
  go_meet
  exact⟨_,rfl,Ykx11.out,YB11.out,by omega,by omega⟩
 obtain⟨g,rfl,kg_,hbW,hg1,hg2⟩:=hcut
 generalize wc=v6 at *
 have KX:=Lib.hid kg_
 have BV6:=Lib.hid hbW
 clear kg_ hbW CBe CFr
 have hws:IntKind.i64.wrap (HB_-HA_)=HB_-HA_:=IntWalk.i64_in _ (by omega)
 go_upto_region 8 with (fail)
 refine wp_region_tree 12 (.read 0 (.read 1 (.read 2 (.read 3 (.read 5 (.read 6 (.one 4 (.one 7 (.read 8 (.one 9 (.read 10 (.one 11 .nil)))))))))))) (fun W=>Below v5.heap.size v5 W) (by kernel_rfl) (by kernel_rfl) (BV6.out.drew) ?_
 have ZB:=Lib.hid (BV6.out.drew)
 have Zz:v6.heap.size≤v6.drew.heap.size:=Nat.le_refl _
 have Zkx:Hid (v6.drew.heap[g]? = some (.cells #[.int .i64 DI,.int .i64 BE,.int .i64 0,.int .i64 FR,.int .i64 0,.int .i64 0,.int .i64 0,.int .i64 0,.bool false] 142 (0,0))):=KX.out
 generalize v6.drew=Z at *
 iterate 6
  refine wpTree_read (v:=?_) rfl (fun _ _ _ h=>h) ?_ ?_
  rotate_left
  ·(intro W hSW;(try dsimp only at hSW);obtain⟨y0,y1,y2,y3,t0,t1,t2,t3,t4,t5,t6,t7,t8,t9,t10,t11,t12,t13,t14⟩:=HD5.out W hSW;(go_simp<;>with_reducible rfl))
  (try simp only[Act.put,List.setIfInBounds_toArray,List.set_cons_zero,List.set_cons_succ])
 refine wpTree_one ?_
 refine stepT_mk rfl (fun K hK=>?_)
 go_simp
 refine ((fun W (hW:Below v5.heap.size v5 W)=>CHb.out W (B0.out.trans ((BB5.out.trans (hW.mono BB5.out.size)).mono B0.out.size))) _ ZB.out).mono ?_
 rintro e Z1 ⟨rfl,hb1⟩
 have ZB1:=btr ZB hb1
 refine hK.out _ _ ZB1.out ?_
 clear hK K
 have bs1:=hb1.size
 have Zkx1:=bkH Zkx hb1
 clear hb1
 refine wpTree_one ?_
 refine stepT_mk rfl (fun K hK=>?_)
 go_simp
 refine ((fun W (hW:Below v5.heap.size v5 W)=>CHa.out W (B0.out.trans ((BB5.out.trans (hW.mono BB5.out.size)).mono B0.out.size))) _ ZB1.out).mono ?_
 rintro e Z2 ⟨rfl,hb2⟩
 have ZB2:=btr ZB1 hb2
 refine hK.out _ _ ZB2.out ?_
 clear hK K
 have bs2:=hb2.size
 have Zkx2:=bkH Zkx1 hb2
 clear hb2
 refine wpTree_read (v:=?_) rfl (fun _ _ _ h=>h) ?_ ?_
 rotate_left
 ·(intro W hSW;(try dsimp only at hSW);obtain⟨y0,y1,y2,y3,t0,t1,t2,t3,t4,t5,t6,t7,t8,t9,t10,t11,t12,t13,t14⟩:=HD5.out W hSW;(go_simp<;>with_reducible rfl))
 (try simp only[Act.put,List.setIfInBounds_toArray,List.set_cons_zero,List.set_cons_succ])
 refine wpTree_one ?_
 refine stepT_mk rfl (fun K hK=>?_)
 go_simp
 refine ((fun W (hW:Below v5.heap.size v5 W)=>CEl.out W (B0.out.trans ((BB5.out.trans (hW.mono BB5.out.size)).mono B0.out.size))) _ ZB2.out).mono ?_
 rintro e Z3 ⟨rfl,hb3⟩
 have ZB3:=btr ZB2 hb3
 refine hK.out _ _ ZB3.out ?_
 clear hK K
 have bs3:=hb3.size
 have Zkx3:=bkH Zkx2 hb3
 clear hb3
 refine wpTree_read (v:=?_) rfl (fun _ _ _ h=>h) ?_ ?_
 rotate_left
 ·(intro W hSW;(try dsimp only at hSW);obtain⟨y0,y1,y2,y3,t0,t1,t2,t3,t4,t5,t6,t7,t8,t9,t10,t11,t12,t13,t14⟩:=HD5.out W hSW;(go_simp<;>with_reducible rfl))
 (try simp only[Act.put,List.setIfInBounds_toArray,List.set_cons_zero,List.set_cons_succ])
 refine wpTree_one ?_
 refine stepT_mk rfl (fun K hK=>?_)
 have g0:=bkC (v:=.int .i64 0) Zkx3.out 2 rfl
 have fz:=bkF Zkx3.out
 go_simp
 obtain⟨Z4,hW4,hk4,bs4,ho4,hl4⟩:=stOne Zkx3 2 (.int .i64 EL)
 rw[hW4]
 have Zkx4:Hid (Z4.heap[g]? = some (.cells #[.int .i64 DI,.int .i64 BE,.int .i64 EL,.int .i64 FR,.int .i64 0,.int .i64 0,.int .i64 0,.int .i64 0,.bool false] 142 (0,0))):=by show _=_;simpa using hk4.out
 clear hk4
 have ZB4:=Lib.hid (hl4.out v5 (by have:=ZB3.out.size;omega) ZB3.out)
 refine hK.out _ _ ZB4.out ?_
 clear hK K fz hW4 ho4 hl4 g0
 refine wpTree_nil ?_
 simp only[List.drop_succ_cons,List.drop_zero]
 skip
 clear CHb CHa CEl hws
 have hwk:IntKind.i64.wrap (KA+KB)=KA+KB:=IntWalk.i64_in _ (by omega)
 obtain⟨y0,y1,y2,y3,t0,t1,t2,t3,t4,t5,t6,t7,t8,t9,t10,t11,t12,t13,t14⟩:=HD5.out _ ZB4.out
 go_upto_region 11 with (go_at_call 138;with_reducible refine (CGa.out _ (B0.out.trans ((BB5.out.trans (ZB4.out.mono BB5.out.size)).mono B0.out.size))).mono ?_;rintro e v7 ⟨rfl,hb_⟩;(have bbS1:=btr ZB4 hb_);(have bsS1:=hb_.size);(have kxS1:=bkH Zkx4 hb_);(clear hb_);(have x4:=bkC (v:=.int .i64 0) kxS1.out 4 rfl);(have xf:=bkF kxS1.out))
 clear y0 y1 y2 y3 t0 t1 t2 t3 t4 t5 t6 t7 t8 t9 t10 t11 t12 t13 t14 CGa
 obtain⟨v8,hWS2,hkS2,bsS2,hoS2,hlS2⟩:=stOne kxS1 4 (.int .i64 GA)
 rw[hWS2]
 have kxS2:Hid (v8.heap[g]? = some (.cells #[.int .i64 DI,.int .i64 BE,.int .i64 EL,.int .i64 FR,.int .i64 GA,.int .i64 0,.int .i64 0,.int .i64 0,.bool false] 142 (0,0))):=by show _=_;simpa using hkS2.out
 clear hkS2
 have bbS2:=Lib.hid (hlS2.out v5 (by have:=bbS1.out.size;omega) bbS1.out)
 clear hWS2 hoS2 hlS2
 obtain⟨y0,y1,y2,y3,t0,t1,t2,t3,t4,t5,t6,t7,t8,t9,t10,t11,t12,t13,t14⟩:=HD5.out _ bbS2.out
 go_upto_region 12 with (go_at_call 139;with_reducible refine (CDe.out _ _ _ (R5.out _ bbS2.out) (by rw[HPD.out];exact y0) y1 y2 y3).mono ?_;rintro e v9 ⟨rfl,hb_⟩;(have bbS3:=btr bbS2 hb_);(have bsS3:=hb_.size);(have kxS3:=bkH kxS2 hb_);(clear hb_);(have x5:=bkC (v:=.int .i64 0) kxS3.out 5 rfl);(have xf:=bkF kxS3.out))
 clear y0 y1 y2 y3 t0 t1 t2 t3 t4 t5 t6 t7 t8 t9 t10 t11 t12 t13 t14 CDe
 obtain⟨v10,hWS4,hkS4,bsS4,hoS4,hlS4⟩:=stOne kxS3 5 (.int .i64 DE)
 rw[hWS4]
 have kxS4:Hid (v10.heap[g]? = some (.cells #[.int .i64 DI,.int .i64 BE,.int .i64 EL,.int .i64 FR,.int .i64 GA,.int .i64 DE,.int .i64 0,.int .i64 0,.bool false] 142 (0,0))):=by show _=_;simpa using hkS4.out
 clear hkS4
 have bbS4:=Lib.hid (hlS4.out v5 (by have:=bbS3.out.size;omega) bbS3.out)
 clear hWS4 hoS4 hlS4
 refine wp_region_tree 19 (.read 0 (.read 1 (.read 2 (.read 4 (.read 5 (.read 6 (.read 8 (.read 9 (.read 10 (.read 12 (.read 13 (.read 14 (.one 3 (.one 7 (.one 11 (.one 15 (.read 16 (.read 17 (.one 18 .nil))))))))))))))))))) (fun W=>Below v5.heap.size v5 W) (by kernel_rfl) (by kernel_rfl) (bbS4.out.drew) ?_
 have XB:=Lib.hid (bbS4.out.drew)
 have Xz:v10.heap.size≤v10.drew.heap.size:=Nat.le_refl _
 have Xkx:Hid (v10.drew.heap[g]? = some (.cells #[.int .i64 DI,.int .i64 BE,.int .i64 EL,.int .i64 FR,.int .i64 GA,.int .i64 DE,.int .i64 0,.int .i64 0,.bool false] 142 (0,0))):=kxS4.out
 generalize v10.drew=X at *
 iterate 12
  refine wpTree_read (v:=?_) rfl (fun _ _ _ h=>h) ?_ ?_
  rotate_left
  ·(intro W hSW;(try dsimp only at hSW);obtain⟨y0,y1,y2,y3,t0,t1,t2,t3,t4,t5,t6,t7,t8,t9,t10,t11,t12,t13,t14⟩:=HD5.out W hSW;(go_simp<;>with_reducible rfl))
  (try simp only[Act.put,List.setIfInBounds_toArray,List.set_cons_zero,List.set_cons_succ])
 refine wpTree_one ?_
 refine stepT_mk rfl (fun K hK=>?_)
 go_simp
 refine ((fun W (hW:Below v5.heap.size v5 W)=>CAa.out W (B0.out.trans ((BB5.out.trans (hW.mono BB5.out.size)).mono B0.out.size))) _ XB.out).mono ?_
 rintro e X1 ⟨rfl,hb1⟩
 have XB1:=btr XB hb1
 refine hK.out _ _ XB1.out ?_
 clear hK K
 have bs1:=hb1.size
 have Xkx1:=bkH Xkx hb1
 clear hb1
 refine wpTree_one ?_
 refine stepT_mk rfl (fun K hK=>?_)
 go_simp
 refine ((fun W (hW:Below v5.heap.size v5 W)=>CLa.out W (B0.out.trans ((BB5.out.trans (hW.mono BB5.out.size)).mono B0.out.size))) _ XB1.out).mono ?_
 rintro e X2 ⟨rfl,hb2⟩
 have XB2:=btr XB1 hb2
 refine hK.out _ _ XB2.out ?_
 clear hK K
 have bs2:=hb2.size
 have Xkx2:=bkH Xkx1 hb2
 clear hb2
 refine wpTree_one ?_
 refine stepT_mk rfl (fun K hK=>?_)
 go_simp
 refine ((fun W (hW:Below v5.heap.size v5 W)=>CAb.out W (B0.out.trans ((BB5.out.trans (hW.mono BB5.out.size)).mono B0.out.size))) _ XB2.out).mono ?_
 rintro e X3 ⟨rfl,hb3⟩
 have XB3:=btr XB2 hb3
 refine hK.out _ _ XB3.out ?_
 clear hK K
 have bs3:=hb3.size
 have Xkx3:=bkH Xkx2 hb3
 clear hb3
 refine wpTree_one ?_
 refine stepT_mk rfl (fun K hK=>?_)
 go_simp
 refine ((fun W (hW:Below v5.heap.size v5 W)=>CLb.out W (B0.out.trans ((BB5.out.trans (hW.mono BB5.out.size)).mono B0.out.size))) _ XB3.out).mono ?_
 rintro e X4 ⟨rfl,hb4⟩
 have XB4:=btr XB3 hb4
 refine hK.out _ _ XB4.out ?_
 clear hK K
 have bs4:=hb4.size
 have Xkx4:=bkH Xkx3 hb4
 clear hb4
 iterate 2
  refine wpTree_read (v:=?_) rfl (fun _ _ _ h=>h) ?_ ?_
  rotate_left
  ·(intro W hSW;(try dsimp only at hSW);obtain⟨y0,y1,y2,y3,t0,t1,t2,t3,t4,t5,t6,t7,t8,t9,t10,t11,t12,t13,t14⟩:=HD5.out W hSW;(go_simp<;>with_reducible rfl))
  (try simp only[Act.put,List.setIfInBounds_toArray,List.set_cons_zero,List.set_cons_succ])
 refine wpTree_one ?_
 refine stepT_mk rfl (fun K hK=>?_)
 have g0:=bkC (v:=.int .i64 0) Xkx4.out 6 rfl
 have fz:=bkF Xkx4.out
 go_simp
 obtain⟨X5,hW5,hk5,bs5,ho5,hl5⟩:=stOne Xkx4 6 (.int .i64 (KA+KB))
 rw[hW5]
 have Xkx5:Hid (X5.heap[g]? = some (.cells #[.int .i64 DI,.int .i64 BE,.int .i64 EL,.int .i64 FR,.int .i64 GA,.int .i64 DE,.int .i64 (KA+KB),.int .i64 0,.bool false] 142 (0,0))):=by show _=_;simpa using hk5.out
 clear hk5
 have XB5:=Lib.hid (hl5.out v5 (by have:=XB4.out.size;omega) XB4.out)
 refine hK.out _ _ XB5.out ?_
 clear hK K fz hW5 ho5 hl5 g0
 refine wpTree_nil ?_
 simp only[List.drop_succ_cons,List.drop_zero]
 skip
 have x0:=bkC (v:=.int .i64 DI) Xkx5.out 0 rfl
 have x1:=bkC (v:=.int .i64 BE) Xkx5.out 1 rfl
 have x2:=bkC (v:=.int .i64 EL) Xkx5.out 2 rfl
 have x3:=bkC (v:=.int .i64 FR) Xkx5.out 3 rfl
 have x4:=bkC (v:=.int .i64 GA) Xkx5.out 4 rfl
 have x5:=bkC (v:=.int .i64 DE) Xkx5.out 5 rfl
 have x6:=bkC (v:=.int .i64 (KA+KB)) Xkx5.out 6 rfl
 have x7:=bkC (v:=.int .i64 0) Xkx5.out 7 rfl
 have x8:=bkC (v:=.bool false) Xkx5.out 8 rfl
 have xf:=bkF Xkx5.out
 clear CAa CLa CAb CLb hwk
 go_upto_region 14 with (fail)
 rw[← HPT.out]
 clear x0 x1 x2 x3 x4 x5 x6 x7 x8 xf
 obtain⟨v11,hWR1,hkR1,bsR1,hoR1,hlR1⟩:=stOne Xkx5 7 (.int .i64 PT)
 rw[hWR1]
 have kxR1:Hid (v11.heap[g]? = some (.cells #[.int .i64 DI,.int .i64 BE,.int .i64 EL,.int .i64 FR,.int .i64 GA,.int .i64 DE,.int .i64 (KA+KB),.int .i64 PT,.bool false] 142 (0,0))):=by show _=_;simpa using hkR1.out
 clear hkR1
 have bbR1:=Lib.hid (hlR1.out v5 (by have:=XB5.out.size;omega) XB5.out)
 clear hWR1 hoR1 hlR1
 obtain⟨y0,y1,y2,y3,t0,t1,t2,t3,t4,t5,t6,t7,t8,t9,t10,t11,t12,t13,t14⟩:=HD5.out _ bbR1.out
 go_upto_region 15 with (go_at_call 142;with_reducible refine (CCl.out _ _ (R5.out _ bbR1.out)).mono ?_;rintro e v12 ⟨rfl,hb_⟩;(have bbR2:=btr bbR1 hb_);(have bsR2:=hb_.size);(have kxR2:=bkH kxR1 hb_);(clear hb_);(have x8:=bkC (v:=.bool false) kxR2.out 8 rfl);(have xf:=bkF kxR2.out))
 clear y0 y1 y2 y3 t0 t1 t2 t3 t4 t5 t6 t7 t8 t9 t10 t11 t12 t13 t14
 obtain⟨v13,hWR3,hkR3,bsR3,hoR3,hlR3⟩:=stOne kxR2 8 (.bool CL)
 rw[hWR3]
 have kxR3:Hid (v13.heap[g]? = some (.cells #[.int .i64 DI,.int .i64 BE,.int .i64 EL,.int .i64 FR,.int .i64 GA,.int .i64 DE,.int .i64 (KA+KB),.int .i64 PT,.bool CL] 142 (0,0))):=by show _=_;simpa using hkR3.out
 clear hkR3
 have bbR3:=Lib.hid (hlR3.out v5 (by have:=bbR2.out.size;omega) bbR2.out)
 clear hWR3 hoR3 hlR3
 have x0:=bkC (v:=.int .i64 DI) kxR3.out 0 rfl
 have x1:=bkC (v:=.int .i64 BE) kxR3.out 1 rfl
 have x2:=bkC (v:=.int .i64 EL) kxR3.out 2 rfl
 have x3:=bkC (v:=.int .i64 FR) kxR3.out 3 rfl
 have x4:=bkC (v:=.int .i64 GA) kxR3.out 4 rfl
 have x5:=bkC (v:=.int .i64 DE) kxR3.out 5 rfl
 have x6:=bkC (v:=.int .i64 (KA+KB)) kxR3.out 6 rfl
 have x7:=bkC (v:=.int .i64 PT) kxR3.out 7 rfl
 have x8:=bkC (v:=.bool CL) kxR3.out 8 rfl
 have xf:=bkF kxR3.out
 have BF_:=Lib.hid (B0.out.trans ((BB5.out.trans (bbR3.out.mono BB5.out.size)).mono B0.out.size))
 have KR:=Lib.hid (bkB K2.out (BB5.out.trans (bbR3.out.mono BB5.out.size)) (by omega))
 have r0:=bkC (v:=.int .i64 0) KR.out 0 rfl
 have r1:=bkC (v:=.int .i64 0) KR.out 1 rfl
 have r2:=bkC (v:=.int .i64 0) KR.out 2 rfl
 have r3:=bkC (v:=.int .i64 0) KR.out 3 rfl
 have r4:=bkC (v:=.int .i64 0) KR.out 4 rfl
 have r5:=bkC (v:=.int .i64 0) KR.out 5 rfl
 have r6:=bkC (v:=.int .i64 0) KR.out 6 rfl
 have r7:=bkC (v:=.int .i64 0) KR.out 7 rfl
 have r8:=bkC (v:=.bool false) KR.out 8 rfl
 have rf:=bkF KR.out
 go_wp2
 refine bodyPost_ret (v:=.agg #[.int .i64 DI,.int .i64 BE,.int .i64 EL,.int .i64 FR,.int .i64 GA,.int .i64 DE,.int .i64 (KA+KB),.int .i64 PT,.bool CL]) (by simp[results,Tryz.results93,go_sem, *]) rfl ⟨CL,rfl,(((((((((BF_.out.setCell (p:=⟨w.heap.size+2,0,none⟩) (by show w.heap.size≤w.heap.size+2;omega) (.int .i64 DI)).setCell (p:=⟨w.heap.size+2,1,none⟩) (by show w.heap.size≤w.heap.size+2;omega) (.int .i64 BE)).setCell (p:=⟨w.heap.size+2,2,none⟩) (by show w.heap.size≤w.heap.size+2;omega) (.int .i64 EL)).setCell (p:=⟨w.heap.size+2,3,none⟩) (by show w.heap.size≤w.heap.size+2;omega) (.int .i64 FR)).setCell (p:=⟨w.heap.size+2,4,none⟩) (by show w.heap.size≤w.heap.size+2;omega) (.int .i64 GA)).setCell (p:=⟨w.heap.size+2,5,none⟩) (by show w.heap.size≤w.heap.size+2;omega) (.int .i64 DE)).setCell (p:=⟨w.heap.size+2,6,none⟩) (by show w.heap.size≤w.heap.size+2;omega) (.int .i64 (KA+KB))).setCell (p:=⟨w.heap.size+2,7,none⟩) (by show w.heap.size≤w.heap.size+2;omega) (.int .i64 PT)).setCell (p:=⟨w.heap.size+2,8,none⟩) (by show w.heap.size≤w.heap.size+2;omega) (.bool CL))⟩
end Go.Proofs.YtdgmgchdjlfchaaGreatDoor
