/- The strongest sectors on a grid: plain laws. No program. -/
import Derived.Test.YtpakghepnahooaaGreatDoorLvX
import Derived.Test.YtpakghepnahooaaGreatDoorLwA
set_option linter.unusedVariables false
set_option linter.unusedSimpArgs false
namespace Go.Proofs.YtpakghepnahooaaGreatDoor
open Go.RowKit
theorem Q2t {p:Prop} (h:p:=by show v1.heap.size≤v1.heap.size;have:=bbU3.out.size;omega):p:=h
theorem Q0p {p:Prop} (h:p:=by
 (intro W hSW;(try dsimp only at hSW);obtain⟨y0,y1,y2,y3,t0,t1,t2,t3,t4,t5,t6,t7,t8,t9,t10,t11,t12,t13,t14,t15,t16,t17,t18,t19⟩:=HD2.out W hSW;(go_simp<;>with_reducible rfl))):p:=h
theorem Q0w {p:Prop} (h:p:=by
 (intro W hSW2 hSW;(try dsimp only at hSW);obtain⟨d0,d1,d2,dg,t0,t1,t2,t3,t4,t5,t6,t7,t8,t9,t10,t11,t12,t13,t14,t15,t16,t17,t18,t19⟩:=HDR.out W hSW;(go_simp<;>with_reducible rfl))):p:=h
set_option maxHeartbeats 16000000
set_option maxRecDepth 100000
theorem rd_ints_at {B:Nat} {W:World} {b off c:Nat} {l:List Int} (h0:0<l.length) (hc:l.length≤c) (hm:c≤maxLen) (h:∀ (i:Nat) (hi:i<l.length),W.cell? ⟨b,off+i,none⟩=some (J l[i])) (hB:b<B):Rd B W (zam l) (IZ (some ⟨b,off,none⟩) l.length c):=by
 refine⟨[b],zb7.2 ⟨_,l.length,c,rfl,by simp,hc,hm,Or.inr ⟨b,off,[],?_,rfl,rfl,?_⟩⟩,fun x hx=>by simp at hx;omega⟩
 ·intro e
  have:=congrArg List.length e;simp at this;subst this;simp at h0
 ·have e2:l.map intT=(l.map (Value.int .i64)).map .lit:=by rw[List.map_map];rfl
  rw[e2];refine Reps.lits _ _ _ (fun j hj=>?_);rw[List.length_map] at hj;simp only[List.getElem_map];exact h j hj
theorem cell_in {w:World} {q i:Nat} {cs:Array Value} {T:Nat} {v:Value} (k:w.heap[q]? = some (.cells cs T (0,0))) (h:w.cell? ⟨q,i,none⟩=some v):i<cs.size:=by
 rcases Nat.lt_or_ge i cs.size with hlt|hge
 ·exact hlt
 ·rw[za9 k i,Array.getElem?_eq_none hge] at h
  cases h
theorem rd_apart {B:Nat} {w w':World} {l:List Int} {v:Value} (r:Rd B w (zam l) v) {q:Nat} {cs:Array Value} {T:Nat} (k:w.heap[q]? = some (.cells cs T (0,0))) (hl:cs.size<l.length) (hf:∀ x,x≠q→w'.heap[x]? = w.heap[x]?):Rd B w' (zam l) v:=by
 obtain⟨a,c,rfl,h1,h2,h3⟩:=r.ints;obtain⟨b,off,rfl,hb,hat⟩:=h3 II;have hne:b≠q:=by
  rintro rfl;have:=cell_in k (hat (l.length-1) II);omega
 exact rd_ints_at II h1 h2 (fun i hi=>(World.cell?_of_block (w:=w) (hf b hne)).trans (hat i hi)) hb
theorem iPath_any (t:DTerrain) (a b:DEnd) (T:TerrOk t) (pa:inT t a.place) (pb:inT t b.place) (ea:endP a) (eb:endP b) (v3 v4:Value) (hd:¬ (a.place.x=b.place.x∧a.place.y=b.place.y)) (f:Int) (f0:1≤f) (f1:f≤100000000) (w:World) (r3:Rd w w (zam t.heights) v3) (r4:Rd w w (zam t.clutter) v4) (L:TabW w) :
  Calls Tryz.prog 89 #[.agg (t,v3,v4),.agg a,.agg b,J f] w fun e w'=>∃ cl:Bool,e=.returned (.agg #[J (zcr a.place b.place),J (zfi a.place b.place),J (pathE t a b),J (freeI f (zcr a.place b.place)),J (gasI f (zcr a.place b.place)),J (deyP (zeh t a b) f),J (cluI (cAt t a.place) f a.above+cluI (cAt t b.place) f b.above),J (pathT t a b f),.bool cl])∧OI w w w':=by
 have hptA:=ze8 T pa;have hptB:=ze8 T pb;have hdb:=distI_bd hptA hptB;have hd1:=distI_pos hptA hptB hd;have hok:=profI_ok T pa pb ea eb hd;have hoo:=profO_ok T pa pb ea eb hd;have CPr:Hid (∀ W:World,OI w w W→Calls Tryz.prog 127 #[.agg (t,v3,v4),.agg a,.agg b] W fun e w'=>∃ (a':Option Addr) (c':Nat),e=.returned (.agg #[J (za4 t a b).d,J (za4 t a b).f,J (za4 t a b).l,IZ a' 17 c'])∧OI W W w'∧Rd w'.heap.size w' (zam (za4 t a b).hs) (IZ a' 17 c')):=fun W hW=>iProf_any t a b T pa pb ea eb v3 v4 W ((r3.below hW).mono hW.size)
 have CBe:Hid (∀ W:World,OI w w W→Calls Tryz.prog 128 #[.agg #[J a.place.x,J a.place.y],.agg #[J b.place.x,J b.place.y]] W fun e w'=>e=.returned (J (zfi a.place b.place))∧OI W W w'):=fun W hW=>iBearing_any a.place b.place hptA hptB W (L.mono hW)
 have CEl:Hid (∀ W:World,OI w w W→Calls Tryz.prog 129 #[.agg (t,v3,v4),.agg a,.agg b] W fun e w'=>e=.returned (J (pathE t a b))∧OI W W w'):=fun W hW=>iElev_any t a b T pa pb ea eb v3 v4 W ((r3.below hW).mono hW.size) (L.mono hW)
 have CFr:Hid (∀ W:World,OI w w W→Calls Tryz.prog 130 #[J f,J (zcr a.place b.place)] W fun e w'=>e=.returned (J (freeI f (zcr a.place b.place)))∧OI W W w'):=fun W hW=>iFree_any f _ f0 f1 hd1 hdb.2 W (L.lib.mono hW)
 have CGa:Hid (∀ W:World,OI w w W→Calls Tryz.prog 131 #[J f,J (zcr a.place b.place)] W fun e w'=>e=.returned (J (gasI f (zcr a.place b.place)))∧OI W W w'):=fun W hW=>iGas_any f _ f0 f1 hd1 hdb.2 W
 have CCl:Hid (∀ (v:Value) (W:World),OI w w W→Rd W W (zam (za4 t a b).hs) v→Calls Tryz.prog 132 #[.agg #[J (za4 t a b).d,J (za4 t a b).f,J (za4 t a b).l,v],J f,J 600] W fun e w'=>e=.returned (.bool (clrB (za4 t a b) f 600))∧OI W W w'):=fun v W hW r=>iClear2_any _ hok v f f0 f1 600 W r
 have CTu:Hid (∀ (v:Value) (W:World),Rd W W (zam (za4 t a b).hs) v→Calls Tryz.prog 133 #[.agg #[J (za4 t a b).d,J (za4 t a b).f,J (za4 t a b).l,v]] W fun e w'=>∃ (a':Option Addr) (c':Nat),e=.returned (.agg #[J (za4 t a b).d,J (za4 t a b).l,J (za4 t a b).f,IZ a' 17 c'])∧OI W W w'∧Rd w'.heap.size w' (zam (za4 t a b).hs.reverse) (IZ a' 17 c')):=fun v W r=>by
  have hh:=iTurned_any _ hok v W r;rw[zdi] at hh;exact hh
 have CDe:Hid (∀ (v:Value) (W:World),OI w w W→Rd W W (zam (zeh t a b).hs) v→Calls Tryz.prog 134 #[.agg #[J (zeh t a b).d,J (zeh t a b).f,J (zeh t a b).l,v],J f] W fun e w'=>e=.returned (.tuple #[J (deyP (zeh t a b) f),J 0])∧OI W W w'):=fun v W hW r=>iDey_any _ hoo v f f0 f1 W r (L.lib.mono hW)
 have HEnds:Hid (∀ k:Nat,k<2→(∀ W:World,OI w w W→Calls Tryz.prog 136 #[.agg (t,v3,v4),.agg #[J (if k=0 then a else b).place.x,J (if k=0 then a else b).place.y]] W fun e w'=>e=.returned (J (cAt t (if k=0 then a else b).place))∧OI W W w')∧(∀ W:World,OI w w W→Calls Tryz.prog 135 #[J (cAt t (if k=0 then a else b).place),J f,J (if k=0 then a else b).above] W fun e w'=>e=.returned (J (cluI (cAt t (if k=0 then a else b).place) f (if k=0 then a else b).above))∧OI W W w')):=by
  show ∀ k:Nat,k<2→_
  intro k hk;have key:∀ q:DEnd,inT t q.place→endP q→(∀ W:World,OI w w W→Calls Tryz.prog 136 #[.agg (t,v3,v4),.agg #[J q.place.x,J q.place.y]] W fun e w'=>e=.returned (J (cAt t q.place))∧OI W W w')∧(∀ W:World,OI w w W→Calls Tryz.prog 135 #[J (cAt t q.place),J f,J q.above] W fun e w'=>e=.returned (J (cluI (cAt t q.place) f q.above))∧OI W W w'):=fun q hq he=>by
   have hc:=T.cs (cNear t.step q.place.y*t.width+cNear t.step q.place.x).toNat;obtain⟨n,hn⟩:=Int.eq_ofNat_of_zero_le (show 0≤cAt t q.place from hc.1);have hc2:cAt t q.place≤7:=hc.2;refine⟨fun W hW=>iClutter_any t q.place T hq v3 v4 W ((r4.below hW).mono hW.size),fun W hW=>?_⟩;rw[hn];exact iClut_any n II f q.above f0 f1 (by unfold endP at he;omega) W (L.mono hW)
  by_cases h0:k=0
  ·rw[if_pos h0];exact key a pa ea
  ·rw[if_neg h0];exact key b pb eb
 have HEa:=IJ (HEnds.out 0 II);have HEb:=IJ (HEnds.out 1 II);simp only[if_pos,if_neg (show ¬ (1:Nat)=0 by omega)] at HEa HEb;clear HEnds;have bF:=freeI_bd (f:=f) (d:=zcr a.place b.place) f1 hdb.2;have bG:=gasI_bd (f:=f) hdb.1 hdb.2;have bD:=deyP_bd (zeh t a b) f;have bA:=cluI_bd (c:=cAt t a.place) (f:=f) (above:=a.above) (by unfold endP at ea;omega);have bB:=cluI_bd (c:=cAt t b.place) (f:=f) (above:=b.above) (by unfold endP at eb;omega);obtain⟨bF0,bF1⟩:=bF;obtain⟨bG0,bG1⟩:=bG;obtain⟨bD0,bD1⟩:=bD;obtain⟨bA0,bA1⟩:=bA;obtain⟨bB0,bB1⟩:=bB;have HPT:Hid (pathT t a b f=freeI f (zcr a.place b.place)+gasI f (zcr a.place b.place)+deyP (zeh t a b) f+(cluI (cAt t a.place) f a.above+cluI (cAt t b.place) f b.above)):=rfl;have HPD:Hid ((za4 t a b).d=zcr a.place b.place):=rfl;have HPO:Hid (zeh t a b=if befB a.place b.place=true then za4 t a b else turnP (za4 t a b)):=by
  show _=_
  unfold zeh
  cases hB:befB a.place b.place with
  | true=>rfl
  | false=>rw[turnP_prof hB]
 obtain⟨a3,c3_,e3,_,_,_⟩:=r3.ints;subst e3;obtain⟨a4,c4_,e4,_,_,_⟩:=r4.ints;subst e4;clear hptA hptB hok hoo r3 r4 L T pa pb ea eb hd hdb hd1;generalize cluI (cAt t a.place) f a.above=KA at *;generalize cluI (cAt t b.place) f b.above=KB at *;generalize cAt t a.place=QA_ at *;generalize cAt t b.place=QB_ at *;generalize pathT t a b f=PT at *;generalize clrB (za4 t a b) f 600=CL at *;generalize deyP (zeh t a b) f=DE at *;generalize freeI f (zcr a.place b.place)=FR at *;generalize gasI f (zcr a.place b.place)=GA at *;generalize pathE t a b=EL at *;generalize zfi a.place b.place=BE at *;generalize zcr a.place b.place=DI at *;obtain⟨W0,hW0,b0_,z0,k0,k1,k2,k3⟩:=boxes4 w (t,a3,c3_,a4,c4_) 26 a 55 b 55 #[J 0,J 0,J 0,J 0,J 0,J 0,J 0,J 0,.bool false] 75;have HW0:=IJ hW0;have B0:=IJ b0_;have HD:=IJ (fun (W:World) (hW:OI W0 W0 W)=>bx5 k0 hW <| bx3 k1 hW <| bx3 k2 hW <| by9 k3 hW);have HB:Hid (OI W0 W0 W0):=Below.refl _ _;have K3:=IJ k3;clear k0 k1 k2 k3 hW0 b0_;go_enter Tryz.func89,Tryz.ntmps89;go_upto_region 1 with (fail);rw[HW0.out];obtain⟨t0,t1,t2,t3,t4,t5,t6,t7,t8,t9,t10,t11,t12,t13,t14,t15,t16,t17,t18,t19⟩:=HD.out _ HB.out;go_upto_region 2 with (go_at_call 127;with_reducible refine (CPr.out _ B0.out).mono ?_;rintro e v1 ⟨ap,cp,rfl,hb1,hr1⟩);clear t0 t1 t2 t3 t4 t5 t6 t7 t8 t9 t10 t11 t12 t13 t14 t15 t16 t17 t18 t19;have RP0:=IJ hr1;have BV:=btr B0 hb1;have zv:W0.heap.size≤v1.heap.size:=hb1.size;have HDV:Hid (∀ W:World,OI v1 v1 W→_):=fun W hW=>HD.out W (hb1.trans (hW.mono hb1.size))
 have KR:=IJ (bkB K3.out hb1 II);clear hr1 hb1 HD HB K3 CPr;obtain⟨v2,hW2,hb2,z2,k2⟩:=zav v1 #[J (za4 t a b).d,J (za4 t a b).f,J (za4 t a b).l,IZ ap 17 cp] 149;rw[hW2];have K9:=IJ k2;have B2:Hid (OI v1 v1 v2):=hb2;clear hW2 hb2 k2;have HB2:Hid (OI v2 v2 v2):=Below.refl _ _;have zv2:v1.heap.size+1≤v2.heap.size:=z2;have HD2:Hid (∀ W:World,OI v2 v2 W→((W,v1.heap.size,0,J DI)∧(W,v1.heap.size,1,J (za4 t a b).f)∧(W,v1.heap.size,2,J (za4 t a b).l)∧(W,v1.heap.size,3,IZ ap 17 cp)∧(W,w.heap.size,0,J t.step)∧(W,w.heap.size,1,J t.width)∧(W,w.heap.size,2,J t.height)∧(W,w.heap.size,3,IZ a3 t.heights.length c3_)∧(W,w.heap.size,4,IZ a4 t.clutter.length c4_)∧(W,w.heap.size+1,0,J a.place.x)∧(W,w.heap.size+1,1,J a.place.y)∧(W,w.heap.size+1,2,J a.above)∧(W,w.heap.size+2,0,J b.place.x)∧(W,w.heap.size+2,1,J b.place.y)∧(W,w.heap.size+2,2,J b.above)∧(W,w.heap.size+3,0,J 0)∧(W,w.heap.size+3,1,J 0)∧(W,w.heap.size+3,2,J 0)∧(W,w.heap.size+3,3,J 0)∧(W,w.heap.size+3,4,J 0)∧(W,w.heap.size+3,5,J 0)∧(W,w.heap.size+3,6,J 0)∧(W,w.heap.size+3,7,J 0)∧(W,w.heap.size+3,8,Value.bool false))):=fun W hW=>by
  obtain⟨t0,t1,t2,t3,t4,t5,t6,t7,t8,t9,t10,t11,t12,t13,t14,t15,t16,t17,t18,t19⟩:=HDV.out W (B2.out.trans (hW.mono B2.out.size));exact⟨(bat hW v1.heap.size _ II).trans ((bkC (v:=J (za4 t a b).d) K9.out 0 rfl).trans (by rw[HPD.out])),(bat hW v1.heap.size _ II).trans (bkC K9.out 1 rfl),(bat hW v1.heap.size _ II).trans (bkC K9.out 2 rfl),(bat hW v1.heap.size _ II).trans (bkC K9.out 3 rfl),t0,t1,t2,t3,t4,t5,t6,t7,t8,t9,t10,t11,t12,t13,t14,t15,t16,t17,t18,t19⟩
 go_cut [10] (fun s10 wx=>∃ g:Nat,s10=.pointer (some ⟨g,0,none⟩)∧wx.heap[g]? = some (.cells #[J DI,J BE,J EL,J 0,J 0,J 0,J 0,J 0,.bool false] 75 (0,0))∧OI v2 v2 wx∧v2.heap.size≤g∧g<wx.heap.size)
 case first =>
  refine zas 14 (.read 0 (.read 1 (.read 2 (.read 3 (.read 4 (.read 5 (.read 7 (.read 8 (.read 9 (.two 6 12 (.two 10 12 (.read 11 (.one 12 (.one 13 .nil))) (.one 10 (.read 11 (.one 13 .nil)))) (.one 6 (.one 10 (.read 11 (.one 13 .nil)))))))))))))) (fun W=>OI v2 v2 W) JI JI (HB2.out.drew) ?_;have YB:=IJ (HB2.out.drew);have Yz:v2.heap.size≤v2.drew.heap.size:=Nat.le_refl _;generalize v2.drew=Y at *
  iterate 9
   refine zak (v:=?_) rfl (fun _ _ _ h=>h) ?_ ?_
   rotate_left
   ·(intro W hSW;(try dsimp only at hSW);obtain⟨y0,y1,y2,y3,t0,t1,t2,t3,t4,t5,t6,t7,t8,t9,t10,t11,t12,t13,t14,t15,t16,t17,t18,t19⟩:=HD2.out W hSW;(go_simp<;>with_reducible rfl))
   (try simp only[Act.put,OO,OJ,OQ])
  refine zbv ?_ ?_;refine zae rfl (fun K hK=>?_);go_simp;refine ((fun W (hW:OI v2 v2 W)=>CBe.out W (BV.out.trans ((B2.out.trans (hW.mono B2.out.size)).mono BV.out.size))) _ YB.out).mono ?_;rintro e Y1 ⟨rfl,hb1⟩;have YB1:=btr YB hb1;refine hK.out _ _ YB1.out ?_;clear hK K;have bs1:=hb1.size;clear hb1;refine zbv ?_ ?_;refine zae rfl (fun K hK=>?_);go_simp;refine ((fun W (hW:OI v2 v2 W)=>CEl.out W (BV.out.trans ((B2.out.trans (hW.mono B2.out.size)).mono BV.out.size))) _ YB1.out).mono ?_;rintro e Y2 ⟨rfl,hb2⟩;have YB2:=btr YB1 hb2;refine hK.out _ _ YB2.out ?_;clear hK K;have bs2:=hb2.size;clear hb2;refine zak (v:=?_) rfl (fun _ _ _ h=>h) ?_ ?_
  rotate_left
  ·exact Q0p
  (try simp only[Act.put,OO,OJ,OQ])
  refine zaf ?_;refine zae rfl (fun K hK=>?_);go_simp;obtain⟨Y3,hW3,hb3,zl3,hk3⟩:=zav Y2 #[J 0,J 0,J 0,J 0,J 0,J 0,J 0,J 0,.bool false] 75;rw[hW3];have Ykx3:=IJ hk3;have YB3:=btr YB2 hb3;refine hK.out _ _ YB3.out ?_;have bs3:=hb3.size;clear hK K hW3 hk3 hb3;refine zaf ?_;refine zae rfl (fun K hK=>?_);obtain⟨g0,g1,g2,g3,g4,g5,g6,g7,g8,fz⟩:=bz9 Ykx3.out;go_simp;obtain⟨Y4,hW4,Ykx4,bs4,ho4,hl4⟩:=zea Ykx3 [J DI,J BE,J EL,J 0,J 0,J 0,J 0,J 0,.bool false] rfl;simp only[zbq] at hW4;rw[hW4];have YB4:=IJ (hl4.out v2 (by have:=YB3.out.size;omega) YB3.out);refine hK.out _ _ YB4.out ?_;clear hK K fz hW4 ho4 hl4 g0 g1 g2 g3 g4 g5 g6 g7 g8;refine zat ?_;simp only[List.drop_succ_cons,List.drop_zero];go_wp2_with fail;go_meet;exact⟨_,rfl,Ykx4.out,YB4.out,II,II⟩;refine zae rfl (fun K hK=>?_);go_simp;obtain⟨Y5,hW5,hb5,zl5,hk5⟩:=zav Y1 #[J 0,J 0,J 0,J 0,J 0,J 0,J 0,J 0,.bool false] 75;rw[hW5];have Ykx5:=IJ hk5;have YB5:=btr YB1 hb5;refine hK.out _ _ YB5.out ?_;have bs5:=hb5.size;clear hK K hW5 hk5 hb5;refine zaf ?_;refine zae rfl (fun K hK=>?_);go_simp;refine ((fun W (hW:OI v2 v2 W)=>CEl.out W (BV.out.trans ((B2.out.trans (hW.mono B2.out.size)).mono BV.out.size))) _ YB5.out).mono ?_;rintro e Y6 ⟨rfl,hb6⟩;have YB6:=btr YB5 hb6;refine hK.out _ _ YB6.out ?_;clear hK K;have bs6:=hb6.size;have Ykx6:=bkH Ykx5 hb6;clear hb6;refine zak (v:=?_) rfl (fun _ _ _ h=>h) ?_ ?_
  rotate_left
  ·exact Q0p
  (try simp only[Act.put,OO,OJ,OQ])
  refine zaf ?_;refine zae rfl (fun K hK=>?_);obtain⟨g0,g1,g2,g3,g4,g5,g6,g7,g8,fz⟩:=bz9 Ykx6.out;go_simp;obtain⟨Y7,hW7,Ykx7,bs7,ho7,hl7⟩:=zea Ykx6 [J DI,J BE,J EL,J 0,J 0,J 0,J 0,J 0,.bool false] rfl;simp only[zbq] at hW7;rw[hW7];have YB7:=IJ (hl7.out v2 (by have:=YB6.out.size;omega) YB6.out);refine hK.out _ _ YB7.out ?_;clear hK K fz hW7 ho7 hl7 g0 g1 g2 g3 g4 g5 g6 g7 g8;refine zat ?_;simp only[List.drop_succ_cons,List.drop_zero];go_wp2_with fail;go_meet;exact⟨_,rfl,Ykx7.out,YB7.out,II,II⟩;refine zae rfl (fun K hK=>?_);go_simp;obtain⟨Y8,hW8,hb8,zl8,hk8⟩:=zav Y #[J 0,J 0,J 0,J 0,J 0,J 0,J 0,J 0,.bool false] 75;rw[hW8];have Ykx8:=IJ hk8;have YB8:=btr YB hb8;refine hK.out _ _ YB8.out ?_;have bs8:=hb8.size;clear hK K hW8 hk8 hb8;refine zaf ?_;refine zae rfl (fun K hK=>?_);go_simp;refine ((fun W (hW:OI v2 v2 W)=>CBe.out W (BV.out.trans ((B2.out.trans (hW.mono B2.out.size)).mono BV.out.size))) _ YB8.out).mono ?_;rintro e Y9 ⟨rfl,hb9⟩;have YB9:=btr YB8 hb9;refine hK.out _ _ YB9.out ?_;clear hK K;have bs9:=hb9.size;have Ykx9:=bkH Ykx8 hb9;clear hb9;refine zaf ?_;refine zae rfl (fun K hK=>?_);go_simp;refine ((fun W (hW:OI v2 v2 W)=>CEl.out W (BV.out.trans ((B2.out.trans (hW.mono B2.out.size)).mono BV.out.size))) _ YB9.out).mono ?_;rintro e Y10 ⟨rfl,hb10⟩;have YB10:=btr YB9 hb10;refine hK.out _ _ YB10.out ?_;clear hK K;have bs10:=hb10.size;have Ykx10:=bkH Ykx9 hb10;clear hb10;refine zak (v:=?_) rfl (fun _ _ _ h=>h) ?_ ?_
  rotate_left
  ·exact Q0p
  (try simp only[Act.put,OO,OJ,OQ])
  refine zaf ?_;refine zae rfl (fun K hK=>?_);obtain⟨g0,g1,g2,g3,g4,g5,g6,g7,g8,fz⟩:=bz9 Ykx10.out;go_simp;obtain⟨Y11,hW11,Ykx11,bs11,ho11,hl11⟩:=zea Ykx10 [J DI,J BE,J EL,J 0,J 0,J 0,J 0,J 0,.bool false] rfl;simp only[zbq] at hW11;rw[hW11];have YB11:=IJ (hl11.out v2 (by have:=YB10.out.size;omega) YB10.out);refine hK.out _ _ YB11.out ?_;clear hK K fz hW11 ho11 hl11 g0 g1 g2 g3 g4 g5 g6 g7 g8;refine zat ?_;simp only[List.drop_succ_cons,List.drop_zero];go_wp2_with fail;go_meet;exact⟨_,rfl,Ykx11.out,YB11.out,II,II⟩
 obtain⟨g,rfl,kg_,hbW,hg1,hg2⟩:=hcut;generalize wc=v3 at *;have KX:=IJ kg_;have HB3:=IJ hbW;clear kg_ hbW CBe CEl;go_upto_region 3 with (fail);refine zas 12 (.read 0 (.read 1 (.read 2 (.read 4 (.read 5 (.read 6 (.one 3 (.read 8 (.one 7 (.one 9 (.read 10 (.one 11 .nil)))))))))))) (fun W=>OI v2 v2 W) JI JI (HB3.out.drew) ?_;have ZB:=IJ (HB3.out.drew);have Zz:v3.heap.size≤v3.drew.heap.size:=Nat.le_refl _;have Zkx:Hid (v3.drew.heap[g]? = some (.cells #[J DI,J BE,J EL,J 0,J 0,J 0,J 0,J 0,.bool false] 75 (0,0))):=KX.out;generalize v3.drew=Z at *
 iterate 6
  refine zak (v:=?_) rfl (fun _ _ _ h=>h) ?_ ?_
  rotate_left
  ·(intro W hSW;(try dsimp only at hSW);obtain⟨y0,y1,y2,y3,t0,t1,t2,t3,t4,t5,t6,t7,t8,t9,t10,t11,t12,t13,t14,t15,t16,t17,t18,t19⟩:=HD2.out W hSW;(go_simp<;>with_reducible rfl))
  (try simp only[Act.put,OO,OJ,OQ])
 refine zaf ?_;refine zae rfl (fun K hK=>?_);go_simp;refine ((fun W (hW:OI v2 v2 W)=>CFr.out W (BV.out.trans ((B2.out.trans (hW.mono B2.out.size)).mono BV.out.size))) _ ZB.out).mono ?_;rintro e Z1 ⟨rfl,hb1⟩;have ZB1:=btr ZB hb1;refine hK.out _ _ ZB1.out ?_;clear hK K;have bs1:=hb1.size;have Zkx1:=bkH Zkx hb1;clear hb1;refine zak (v:=?_) rfl (fun _ _ _ h=>h) ?_ ?_
 rotate_left
 ·exact Q0p
 (try simp only[Act.put,OO,OJ,OQ])
 refine zaf ?_;refine zae rfl (fun K hK=>?_);go_simp;refine ((fun W (hW:OI v2 v2 W)=>CGa.out W (BV.out.trans ((B2.out.trans (hW.mono B2.out.size)).mono BV.out.size))) _ ZB1.out).mono ?_;rintro e Z2 ⟨rfl,hb2⟩;have ZB2:=btr ZB1 hb2;refine hK.out _ _ ZB2.out ?_;clear hK K;have bs2:=hb2.size;have Zkx2:=bkH Zkx1 hb2;clear hb2;refine zaf ?_;refine zae rfl (fun K hK=>?_);have g0:=bkC (v:=J 0) Zkx2.out 3 rfl;have fz:=bkF Zkx2.out;go_simp;obtain⟨Z3,hW3,hk3,bs3,ho3,hl3⟩:=zfd Zkx2 3 (J FR);rw[hW3];have Zkx3:Hid (Z3.heap[g]? = some (.cells #[J DI,J BE,J EL,J FR,J 0,J 0,J 0,J 0,.bool false] 75 (0,0))):=by show _=_;simpa using hk3.out
 clear hk3;have ZB3:=IJ (hl3.out v2 (by have:=ZB2.out.size;omega) ZB2.out);refine hK.out _ _ ZB3.out ?_;clear hK K fz hW3 ho3 hl3 g0;refine zak (v:=?_) rfl (fun _ _ _ h=>h) ?_ ?_
 rotate_left
 ·exact Q0p
 (try simp only[Act.put,OO,OJ,OQ])
 refine zaf ?_;refine zae rfl (fun K hK=>?_);have g0:=bkC (v:=J 0) Zkx3.out 4 rfl;have fz:=bkF Zkx3.out;go_simp;obtain⟨Z4,hW4,hk4,bs4,ho4,hl4⟩:=zfd Zkx3 4 (J GA);rw[hW4];have Zkx4:Hid (Z4.heap[g]? = some (.cells #[J DI,J BE,J EL,J FR,J GA,J 0,J 0,J 0,.bool false] 75 (0,0))):=by show _=_;simpa using hk4.out
 clear hk4;have ZB4:=IJ (hl4.out v2 (by have:=ZB3.out.size;omega) ZB3.out);refine hK.out _ _ ZB4.out ?_;clear hK K fz hW4 ho4 hl4 g0;refine zat ?_;simp only[List.drop_succ_cons,List.drop_zero];skip;have BB1:=IJ (B2.out.trans (ZB4.out.mono B2.out.size));have K9b:=IJ (bkB K9.out ZB4.out II);have zc:v2.heap.size≤(Z4).heap.size:=ZB4.out.size;generalize Z4=v4 at *;obtain⟨t0,t1,t2,t3,t4,t5,t6,t7,t8,t9,t10,t11,t12,t13,t14,t15,t16,t17,t18,t19⟩:=HDV.out _ BB1.out;obtain⟨q0,q1,q2,q3,qf⟩:=bz4 K9b.out;go_upto_region 5 with (go_at_call 132;with_reducible refine (CCl.out _ _ (BV.out.trans (BB1.out.mono BV.out.size)) ((RP0.out.below BB1.out).mono BB1.out.size)).mono ?_;rintro e v5 ⟨rfl,hb_⟩;(have bbU1:=btr BB1 hb_);(have bsU1:=hb_.size);(have kxU1:=bkH Zkx4 hb_);(have k9U1:=bkH K9b hb_);(clear hb_);have x8:=bkC (v:=.bool false) kxU1.out 8 rfl;have xf:=bkF kxU1.out);clear t0 t1 t2 t3 t4 t5 t6 t7 t8 t9 t10 t11 t12 t13 t14 t15 t16 t17 t18 t19;obtain⟨v6,hWU2,hkU2,bsU2,hoU2,hlU2⟩:=zfd kxU1 8 (.bool CL);rw[hWU2];have kxU2:Hid (v6.heap[g]? = some (.cells #[J DI,J BE,J EL,J FR,J GA,J 0,J 0,J 0,.bool CL] 75 (0,0))):=by show _=_;simpa using hkU2.out
 clear hkU2;have bbU2:=IJ (hlU2.out v1 (by have:=bbU1.out.size;omega) bbU1.out);have k9U2:=IJ ((hoU2.out _ II).trans k9U1.out);clear hWU2 hoU2 hlU2;obtain⟨t0,t1,t2,t3,t4,t5,t6,t7,t8,t9,t10,t11,t12,t13,t14,t15,t16,t17,t18,t19⟩:=HDV.out _ bbU2.out;go_cut [67] (fun s67 wx=>s67=.bool (!befB a.place b.place)∧v6=wx)
 case first =>
  by_cases c1:b.place.x<a.place.x
  ·have C1:=IJ c1
   have e1:decide (b.place.x<a.place.x)=true:=decide_eq_true c1;clear c1;go_wp2_with fail;go_meet;exact⟨by rw[← befB_back,decide_eq_true C1.out,Bool.true_or],rfl⟩
  have C1:=IJ c1;have e1:decide (b.place.x<a.place.x)=false:=decide_eq_false c1;clear c1
  by_cases c2:a.place.x=b.place.x
  ·have e2:(b.place.x == a.place.x)=true:=beq_iff_eq.2 c2.symm
   have C2:=IJ c2;clear c2;go_wp2_with fail;go_meet;exact⟨by rw[← befB_back,decide_eq_false (p:=b.place.x<a.place.x) (by have:=C1.out;omega),decide_eq_true C2.out,Bool.true_and,Bool.false_or],rfl⟩
  ·have e2:(b.place.x == a.place.x)=false:=beq_eq_false_iff_ne.2 (fun e=>c2 e.symm)
   have C2:=IJ c2;clear c2;go_wp2_with fail;go_meet;exact⟨by rw[← befB_back,decide_eq_false (p:=b.place.x<a.place.x) (by have:=C1.out;omega),decide_eq_false C2.out,Bool.false_and,Bool.false_or],rfl⟩
 obtain⟨rfl,rfl⟩:=hcut;generalize hNB:(!befB a.place b.place)=nb at *;have HNB:=IJ hNB;clear hNB;obtain⟨t0,t1,t2,t3,t4,t5,t6,t7,t8,t9,t10,t11,t12,t13,t14,t15,t16,t17,t18,t19⟩:=HDV.out _ bbU2.out;go_upto_if 67 with (fail);have HZ6:v1.heap.size<v6.heap.size:=II
 go_cut [] (fun wx=>∃ v9:Value,wx.heap[v1.heap.size]? = some (.cells #[J (zeh t a b).d,J (zeh t a b).f,J (zeh t a b).l,v9] 149 (0,0))∧Rd wx wx (zam (zeh t a b).hs) v9∧wx.heap[g]? = some (.cells #[J DI,J BE,J EL,J FR,J GA,J 0,J 0,J 0,.bool CL] 75 (0,0))∧OI v1 v1 wx∧v6.heap.size≤wx.heap.size)
 case first =>
  cases nb with
  | false =>
   have hpo:zeh t a b=za4 t a b:=HPO.out.trans (if_pos (by have h:=HNB.out;rwa [Bool.not_eq_false'] at h));have HPO1:=IJ hpo;clear hpo;go_wp2_with fail;go_meet;rw[HPO1.out];exact⟨IZ ap 17 cp,k9U2.out,((RP0.out.below bbU2.out).mono bbU2.out.size),kxU2.out,bbU2.out,Nat.le_refl _⟩
  | true =>
   have hpo:zeh t a b=turnP (za4 t a b):=HPO.out.trans (if_neg (by have h:=HNB.out;rw[Bool.not_eq_true'] at h;rw[h];decide));have HPO1:=IJ hpo;clear hpo t0 t1 t2 t3 t4 t5 t6 t7 t8 t9 t10 t11 t12 t13 t14 t15 t16 t17 t18 t19;obtain⟨q0,q1,q2,q3,qf⟩:=bz4 k9U2.out;go_wp2_with (go_at_call 133;with_reducible refine (CTu.out _ _ ((RP0.out.below bbU2.out).mono bbU2.out.size)).mono ?_;rintro e v7 ⟨aq,cq,rfl,hb_,hr_⟩;(have bbU3:=btr bbU2 hb_);(have bsU3:=hb_.size);(have kxU3:=bkH kxU2 hb_);(have k9U3:=bkH k9U2 hb_);(clear hb_);(have RQ:=IJ hr_);clear hr_ q0 q1 q2 q3 qf;(have q0:=bkC (v:=J (za4 t a b).d) k9U3.out 0 rfl);(have q1:=bkC (v:=J (za4 t a b).f) k9U3.out 1 rfl);(have q2:=bkC (v:=J (za4 t a b).l) k9U3.out 2 rfl);(have q3:=bkC (v:=IZ ap 17 cp) k9U3.out 3 rfl);(have qf:=bkF k9U3.out));go_meet;have kf_:(((((v7.setCell ⟨v1,0,none⟩ (J (za4 t a b).d)).setCell ⟨v1,1,none⟩ (J (za4 t a b).l)).setCell ⟨v1,2,none⟩ (J (za4 t a b).f)).setCell ⟨v1,3,none⟩ (IZ aq 17 cq))).heap[v1.heap.size]? = some (.cells #[J (za4 t a b).d,J (za4 t a b).l,J (za4 t a b).f,IZ aq 17 cq] 149 (0,0)):=by
    have h_:=(bkS (bkS (bkS (bkS k9U3.out 0 (J (za4 t a b).d)) 1 (J (za4 t a b).l)) 2 (J (za4 t a b).f)) 3 (IZ aq 17 cq))
    simpa using h_
   have k9U4:=IJ kf_;clear kf_;have bbU4:=IJ ((((bbU3.out.setCell (p:=⟨v1,0,none⟩) Q2t (J (za4 t a b).d)).setCell (p:=⟨v1,1,none⟩) Q2t (J (za4 t a b).l)).setCell (p:=⟨v1,2,none⟩) Q2t (J (za4 t a b).f)).setCell (p:=⟨v1,3,none⟩) Q2t (IZ aq 17 cq));have bsU4:v7.heap.size≤(((((v7.setCell ⟨v1,0,none⟩ (J (za4 t a b).d)).setCell ⟨v1,1,none⟩ (J (za4 t a b).l)).setCell ⟨v1,2,none⟩ (J (za4 t a b).f)).setCell ⟨v1,3,none⟩ (IZ aq 17 cq))).heap.size:=by simp only[zac];exact Nat.le_refl _
   have kxU4:=IJ (bkO (bkO (bkO (bkO kxU3.out (p:=⟨v1,0,none⟩) (by show g≠v1.heap.size;omega) (J (za4 t a b).d)) (p:=⟨v1,1,none⟩) (by show g≠v1.heap.size;omega) (J (za4 t a b).l)) (p:=⟨v1,2,none⟩) (by show g≠v1.heap.size;omega) (J (za4 t a b).f)) (p:=⟨v1,3,none⟩) (by show g≠v1.heap.size;omega) (IZ aq 17 cq));rw[HPO1.out];refine⟨IZ aq 17 cq,k9U4.out,?_,kxU4.out,bbU4.out,by simp only[zac];omega⟩;have hlen:(turnP (za4 t a b)).hs.length=17:=by show (za4 t a b).hs.reverse.length=17;rw[List.length_reverse,zdi]
   have ra:=rd_apart (w':=((((v7.setCell ⟨v1,0,none⟩ (J (za4 t a b).d)).setCell ⟨v1,1,none⟩ (J (za4 t a b).l)).setCell ⟨v1,2,none⟩ (J (za4 t a b).f)).setCell ⟨v1,3,none⟩ (IZ aq 17 cq))) RQ.out k9U3.out (by show 4<(turnP (za4 t a b)).hs.length;omega) (fun x hx=>by
    simp only[Below.heap_setCell _ _ _ _ (show x≠(⟨v1,0,none⟩:Addr).block from hx),Below.heap_setCell _ _ _ _ (show x≠(⟨v1,1,none⟩:Addr).block from hx),Below.heap_setCell _ _ _ _ (show x≠(⟨v1,2,none⟩:Addr).block from hx),Below.heap_setCell _ _ _ _ (show x≠(⟨v1,3,none⟩:Addr).block from hx)])
   exact ra.mono (by simp only[zac];omega)
 obtain⟨v9,k9_,r9_,kx_,hbW,z8⟩:=hcut;generalize wc=v8 at *;have K9c:=IJ k9_;have R9:=IJ r9_;have KXc:=IJ kx_;have BB8:=IJ hbW;clear k9_ r9_ kx_ hbW CTu t0 t1 t2 t3 t4 t5 t6 t7 t8 t9 t10 t11 t12 t13 t14 t15 t16 t17 t18 t19;obtain⟨q0,q1,q2,q3,qf⟩:=bz4 K9c.out;go_upto_region 8 with (go_at_call 134;with_reducible refine (CDe.out _ _ (BV.out.trans (BB8.out.mono BV.out.size)) R9.out).mono ?_;rintro e v10 ⟨rfl,hb_⟩;(have bbT1:=btr BB8 hb_);(have bsT1:=hb_.size);(have kxT1:=bkH KXc hb_);(have k9T1:=bkH K9c hb_);(clear hb_);(have x5:=bkC (v:=J 0) kxT1.out 5 rfl);(have xf:=bkF kxT1.out));clear CDe R9 q0 q1 q2 q3 qf;obtain⟨v11,hWT2,hkT2,bsT2,hoT2,hlT2⟩:=zfd kxT1 5 (J DE);rw[hWT2];have kxT2:Hid (v11.heap[g]? = some (.cells #[J DI,J BE,J EL,J FR,J GA,J DE,J 0,J 0,.bool CL] 75 (0,0))):=by show _=_;simpa using hkT2.out
 clear hkT2;have bbT2:=IJ (hlT2.out v1 (by have:=bbT1.out.size;omega) bbT1.out);have k9T2:=IJ ((hoT2.out _ II).trans k9T1.out);clear hWT2 hoT2 hlT2;obtain⟨t0,t1,t2,t3,t4,t5,t6,t7,t8,t9,t10,t11,t12,t13,t14,t15,t16,t17,t18,t19⟩:=HDV.out _ bbT2.out;have zv11:v1.heap.size≤v11.heap.size:=bbT2.out.size;go_wp2;clear t0 t1 t2 t3 t4 t5 t6 t7 t8 t9 t10 t11 t12 t13 t14 t15 t16 t17 t18 t19;go_loopw [80] (fun ki wr=>∃ (k cl:Int),(k=0∧0=cl∨k=1∧KA=cl∨k=2∧KA+KB=cl)∧ki=J k∧wr.heap[g]? = some (.cells #[J DI,J BE,J EL,J FR,J GA,J DE,J cl,J 0,.bool CL] 75 (0,0))∧OI v1 v1 wr∧v11.heap.size≤wr.heap.size) (fun ki wr=>2-(intOf ki).toNat)
 case atStart=>exact⟨0,0,Or.inl ⟨rfl,rfl⟩,rfl,kxT2.out,bbT2.out,Nat.le_refl _⟩
 case round =>
  obtain⟨k,cl,hor,rfl,kx_,bw_,zw⟩:=hrel;have KXr:=IJ kx_;have BR:=IJ bw_;clear kx_ bw_
  rcases hor with ⟨rfl,rfl⟩|⟨rfl,rfl⟩|⟨rfl,rfl⟩
  ·have hix:∀ w:World,(Instr.index 175 (.agg #[J a.place.x,J a.place.y,J a.above,J b.place.x,J b.place.y,J b.above]) (J 0)).run Tryz.prog w=.ok (.agg a) w:=fun _=>by kernel_rfl
   go_upto_region 11 with (fail);clear hix;have hwa:IntKind.i64.wrap KA=KA:=IntWalk.i64_in _ II;obtain⟨r1,hWL1,hbL1,zL1,hkL1⟩:=zav wr a 55;rw[hWL1];have bbL1:=btr BR hbL1;have kdL1:=IJ hkL1;have bsL1:=hbL1.size;have kxL1:=bkH KXr hbL1;clear hWL1 hbL1 hkL1;have HDR:Hid (∀ W:World,OI r1 r1 W→((W,wr.heap.size,0,J a.place.x)∧(W,wr.heap.size,1,J a.place.y)∧(W,wr.heap.size,2,J a.above)∧(W,g,6,J 0)∧(W,w.heap.size,0,J t.step)∧(W,w.heap.size,1,J t.width)∧(W,w.heap.size,2,J t.height)∧(W,w.heap.size,3,IZ a3 t.heights.length c3_)∧(W,w.heap.size,4,IZ a4 t.clutter.length c4_)∧(W,w.heap.size+1,0,J a.place.x)∧(W,w.heap.size+1,1,J a.place.y)∧(W,w.heap.size+1,2,J a.above)∧(W,w.heap.size+2,0,J b.place.x)∧(W,w.heap.size+2,1,J b.place.y)∧(W,w.heap.size+2,2,J b.above)∧(W,w.heap.size+3,0,J 0)∧(W,w.heap.size+3,1,J 0)∧(W,w.heap.size+3,2,J 0)∧(W,w.heap.size+3,3,J 0)∧(W,w.heap.size+3,4,J 0)∧(W,w.heap.size+3,5,J 0)∧(W,w.heap.size+3,6,J 0)∧(W,w.heap.size+3,7,J 0)∧(W,w.heap.size+3,8,Value.bool false))):=fun W hW=>by
    obtain⟨t0,t1,t2,t3,t4,t5,t6,t7,t8,t9,t10,t11,t12,t13,t14,t15,t16,t17,t18,t19⟩:=HDV.out W (bbL1.out.trans (hW.mono bbL1.out.size));exact⟨(bat hW wr.heap.size _ II).trans (bkC kdL1.out 0 rfl),(bat hW wr.heap.size _ II).trans (bkC kdL1.out 1 rfl),(bat hW wr.heap.size _ II).trans (bkC kdL1.out 2 rfl),(bat hW g _ II).trans (bkC kxL1.out 6 rfl),t0,t1,t2,t3,t4,t5,t6,t7,t8,t9,t10,t11,t12,t13,t14,t15,t16,t17,t18,t19⟩
   refine zdq 13 12 (.pure 0 (.read 1 (.read 2 (.pure 3 (.read 4 (.pure 6 (.pure 7 (.read 8 (.one 5 (.one 9 (.pure 10 (.pure 11 (.one 12 .nil))))))))))))) (fun W=>OI r1 r1 W) (fun W=>OI v1 v1 W) JI JI (zbl r1) (bbL1.out.drew) ?_;have YC:=IJ (zbl r1);have YB:=IJ (bbL1.out.drew);have Yz:r1.heap.size≤r1.drew.heap.size:=Nat.le_refl _;have Ykx:Hid (r1.drew.heap[g]? = some (.cells #[J DI,J BE,J EL,J FR,J GA,J DE,J 0,J 0,.bool CL] 75 (0,0))):=kxL1.out;have Ykd:Hid (r1.drew.heap[wr.heap.size]? = some (.cells a 55 (0,0))):=kdL1.out;generalize r1.drew=Y at *;refine zbi (v:=?_) rfl (fun _ _ _ h=>h) ?_ ?_
   rotate_left
   ·exact Q0t
   (try simp only[Act.put,OO,OJ,OQ])
   iterate 2
    refine zcz (v:=?_) rfl (fun _ _ _ h=>h) ?_ ?_
    rotate_left
    ·(intro W hSW2 hSW;(try dsimp only at hSW);obtain⟨d0,d1,d2,dg,t0,t1,t2,t3,t4,t5,t6,t7,t8,t9,t10,t11,t12,t13,t14,t15,t16,t17,t18,t19⟩:=HDR.out W hSW;(go_simp<;>with_reducible rfl))
    (try simp only[Act.put,OO,OJ,OQ])
   refine zbi (v:=?_) rfl (fun _ _ _ h=>h) ?_ ?_
   rotate_left
   ·exact Q0t
   (try simp only[Act.put,OO,OJ,OQ])
   refine zcz (v:=?_) rfl (fun _ _ _ h=>h) ?_ ?_
   rotate_left
   ·exact Q0w
   (try simp only[Act.put,OO,OJ,OQ])
   iterate 2
    refine zbi (v:=?_) rfl (fun _ _ _ h=>h) ?_ ?_
    rotate_left
    ·(intro W hSW2;(go_simp<;>with_reducible rfl))
    (try simp only[Act.put,OO,OJ,OQ])
   refine zcz (v:=?_) rfl (fun _ _ _ h=>h) ?_ ?_
   rotate_left
   ·exact Q0w
   (try simp only[Act.put,OO,OJ,OQ])
   refine zbr false rfl ?_;refine za6 rfl (fun K hK=>?_);go_simp;refine ((fun W (hW:OI v1 v1 W)=>HEa.out.1 W (BV.out.trans (hW.mono BV.out.size))) _ YB.out).mono ?_;rintro e Y1 ⟨rfl,hb1⟩;have YB1:=btr YB hb1;have YC1:=btr YC hb1;refine hK.out _ _ ⟨YB1.out,fun _=>YC1.out⟩ ?_;clear hK K;have bs1:=hb1.size;have Ykx1:=bkH Ykx hb1;have Ykd1:=bkH Ykd hb1;clear hb1;refine zbr false rfl ?_;refine za6 rfl (fun K hK=>?_);go_simp;refine ((fun W (hW:OI v1 v1 W)=>HEa.out.2 W (BV.out.trans (hW.mono BV.out.size))) _ YB1.out).mono ?_;rintro e Y2 ⟨rfl,hb2⟩;have YB2:=btr YB1 hb2;have YC2:=btr YC1 hb2;refine hK.out _ _ ⟨YB2.out,fun _=>YC2.out⟩ ?_;clear hK K;have bs2:=hb2.size;have Ykx2:=bkH Ykx1 hb2;have Ykd2:=bkH Ykd1 hb2;clear hb2
   iterate 2
    refine zbi (v:=?_) rfl (fun _ _ _ h=>h) ?_ ?_
    rotate_left
    ·(intro W hSW2;(go_simp<;>with_reducible rfl))
    (try simp only[Act.put,OO,OJ,OQ])
   refine zbr true rfl ?_;refine za6 rfl (fun K hK=>?_);have g0:=bkC (v:=J 0) Ykx2.out 6 rfl;have fz:=bkF Ykx2.out;go_simp;obtain⟨Y3,hW3,hk3,bs3,ho3,hl3⟩:=zfd Ykx2 6 (J KA);rw[hW3];have Ykx3:Hid (Y3.heap[g]? = some (.cells #[J DI,J BE,J EL,J FR,J GA,J DE,J KA,J 0,.bool CL] 75 (0,0))):=by show _=_;simpa using hk3.out
   clear hk3;have YB3:=IJ (hl3.out v1 (by have:=YB2.out.size;omega) YB2.out);have Ykd3:=IJ ((ho3.out _ II).trans Ykd2.out);refine hK.out _ _ ⟨YB3.out,fun h=>by cases h⟩ ?_;clear hK K fz hW3 ho3 hl3 g0;refine wpT2_nil ?_;simp only[List.drop_succ_cons,List.drop_zero];go_wp2;go_roundw
   case rel=>exact⟨1,KA,Or.inr (Or.inl ⟨rfl,rfl⟩),rfl,Ykx3.out,YB3.out,II⟩
   case measure=>simp[intOf]
  ·have hix:∀ w:World,(Instr.index 175 (.agg #[J a.place.x,J a.place.y,J a.above,J b.place.x,J b.place.y,J b.above]) (J 1)).run Tryz.prog w=.ok (.agg b) w:=fun _=>by kernel_rfl
   go_upto_region 11 with (fail);clear hix;have hwa:IntKind.i64.wrap (KA+KB)=(KA+KB):=IntWalk.i64_in _ II;obtain⟨r1,hWM1,hbM1,zM1,hkM1⟩:=zav wr b 55;rw[hWM1];have bbM1:=btr BR hbM1;have kdM1:=IJ hkM1;have bsM1:=hbM1.size;have kxM1:=bkH KXr hbM1;clear hWM1 hbM1 hkM1;have HDR:Hid (∀ W:World,OI r1 r1 W→((W,wr.heap.size,0,J b.place.x)∧(W,wr.heap.size,1,J b.place.y)∧(W,wr.heap.size,2,J b.above)∧(W,g,6,J KA)∧(W,w.heap.size,0,J t.step)∧(W,w.heap.size,1,J t.width)∧(W,w.heap.size,2,J t.height)∧(W,w.heap.size,3,IZ a3 t.heights.length c3_)∧(W,w.heap.size,4,IZ a4 t.clutter.length c4_)∧(W,w.heap.size+1,0,J a.place.x)∧(W,w.heap.size+1,1,J a.place.y)∧(W,w.heap.size+1,2,J a.above)∧(W,w.heap.size+2,0,J b.place.x)∧(W,w.heap.size+2,1,J b.place.y)∧(W,w.heap.size+2,2,J b.above)∧(W,w.heap.size+3,0,J 0)∧(W,w.heap.size+3,1,J 0)∧(W,w.heap.size+3,2,J 0)∧(W,w.heap.size+3,3,J 0)∧(W,w.heap.size+3,4,J 0)∧(W,w.heap.size+3,5,J 0)∧(W,w.heap.size+3,6,J 0)∧(W,w.heap.size+3,7,J 0)∧(W,w.heap.size+3,8,Value.bool false))):=fun W hW=>by
    obtain⟨t0,t1,t2,t3,t4,t5,t6,t7,t8,t9,t10,t11,t12,t13,t14,t15,t16,t17,t18,t19⟩:=HDV.out W (bbM1.out.trans (hW.mono bbM1.out.size));exact⟨(bat hW wr.heap.size _ II).trans (bkC kdM1.out 0 rfl),(bat hW wr.heap.size _ II).trans (bkC kdM1.out 1 rfl),(bat hW wr.heap.size _ II).trans (bkC kdM1.out 2 rfl),(bat hW g _ II).trans (bkC kxM1.out 6 rfl),t0,t1,t2,t3,t4,t5,t6,t7,t8,t9,t10,t11,t12,t13,t14,t15,t16,t17,t18,t19⟩
   refine zdq 13 12 (.pure 0 (.read 1 (.read 2 (.pure 3 (.read 4 (.pure 6 (.pure 7 (.read 8 (.one 5 (.one 9 (.pure 10 (.pure 11 (.one 12 .nil))))))))))))) (fun W=>OI r1 r1 W) (fun W=>OI v1 v1 W) JI JI (zbl r1) (bbM1.out.drew) ?_;have YC:=IJ (zbl r1);have YB:=IJ (bbM1.out.drew);have Yz:r1.heap.size≤r1.drew.heap.size:=Nat.le_refl _;have Ykx:Hid (r1.drew.heap[g]? = some (.cells #[J DI,J BE,J EL,J FR,J GA,J DE,J KA,J 0,.bool CL] 75 (0,0))):=kxM1.out;have Ykd:Hid (r1.drew.heap[wr.heap.size]? = some (.cells b 55 (0,0))):=kdM1.out;generalize r1.drew=Y at *;refine zbi (v:=?_) rfl (fun _ _ _ h=>h) ?_ ?_
   rotate_left
   ·exact Q0t
   (try simp only[Act.put,OO,OJ,OQ])
   iterate 2
    refine zcz (v:=?_) rfl (fun _ _ _ h=>h) ?_ ?_
    rotate_left
    ·(intro W hSW2 hSW;(try dsimp only at hSW);obtain⟨d0,d1,d2,dg,t0,t1,t2,t3,t4,t5,t6,t7,t8,t9,t10,t11,t12,t13,t14,t15,t16,t17,t18,t19⟩:=HDR.out W hSW;(go_simp<;>with_reducible rfl))
    (try simp only[Act.put,OO,OJ,OQ])
   refine zbi (v:=?_) rfl (fun _ _ _ h=>h) ?_ ?_
   rotate_left
   ·exact Q0t
   (try simp only[Act.put,OO,OJ,OQ])
   refine zcz (v:=?_) rfl (fun _ _ _ h=>h) ?_ ?_
   rotate_left
   ·exact Q0w
   (try simp only[Act.put,OO,OJ,OQ])
   iterate 2
    refine zbi (v:=?_) rfl (fun _ _ _ h=>h) ?_ ?_
    rotate_left
    ·(intro W hSW2;(go_simp<;>with_reducible rfl))
    (try simp only[Act.put,OO,OJ,OQ])
   refine zcz (v:=?_) rfl (fun _ _ _ h=>h) ?_ ?_
   rotate_left
   ·exact Q0w
   (try simp only[Act.put,OO,OJ,OQ])
   refine zbr false rfl ?_;refine za6 rfl (fun K hK=>?_);go_simp;refine ((fun W (hW:OI v1 v1 W)=>HEb.out.1 W (BV.out.trans (hW.mono BV.out.size))) _ YB.out).mono ?_;rintro e Y1 ⟨rfl,hb1⟩;have YB1:=btr YB hb1;have YC1:=btr YC hb1;refine hK.out _ _ ⟨YB1.out,fun _=>YC1.out⟩ ?_;clear hK K;have bs1:=hb1.size;have Ykx1:=bkH Ykx hb1;have Ykd1:=bkH Ykd hb1;clear hb1;refine zbr false rfl ?_;refine za6 rfl (fun K hK=>?_);go_simp;refine ((fun W (hW:OI v1 v1 W)=>HEb.out.2 W (BV.out.trans (hW.mono BV.out.size))) _ YB1.out).mono ?_;rintro e Y2 ⟨rfl,hb2⟩;have YB2:=btr YB1 hb2;have YC2:=btr YC1 hb2;refine hK.out _ _ ⟨YB2.out,fun _=>YC2.out⟩ ?_;clear hK K;have bs2:=hb2.size;have Ykx2:=bkH Ykx1 hb2;have Ykd2:=bkH Ykd1 hb2;clear hb2
   iterate 2
    refine zbi (v:=?_) rfl (fun _ _ _ h=>h) ?_ ?_
    rotate_left
    ·(intro W hSW2;(go_simp<;>with_reducible rfl))
    (try simp only[Act.put,OO,OJ,OQ])
   refine zbr true rfl ?_;refine za6 rfl (fun K hK=>?_);have g0:=bkC (v:=J KA) Ykx2.out 6 rfl;have fz:=bkF Ykx2.out;go_simp;obtain⟨Y3,hW3,hk3,bs3,ho3,hl3⟩:=zfd Ykx2 6 (J (KA+KB));rw[hW3];have Ykx3:Hid (Y3.heap[g]? = some (.cells #[J DI,J BE,J EL,J FR,J GA,J DE,J (KA+KB),J 0,.bool CL] 75 (0,0))):=by show _=_;simpa using hk3.out
   clear hk3;have YB3:=IJ (hl3.out v1 (by have:=YB2.out.size;omega) YB2.out);have Ykd3:=IJ ((ho3.out _ II).trans Ykd2.out);refine hK.out _ _ ⟨YB3.out,fun h=>by cases h⟩ ?_;clear hK K fz hW3 ho3 hl3 g0;refine wpT2_nil ?_;simp only[List.drop_succ_cons,List.drop_zero];go_wp2;go_roundw
   case rel=>exact⟨2,(KA+KB),Or.inr (Or.inr ⟨rfl,rfl⟩),rfl,Ykx3.out,YB3.out,II⟩
   case measure=>simp[intOf]
  ·have hk2:(0:Int)≤2:=II
   obtain⟨x0,x1,x2,x3,x4,x5,x6,x7,x8,xf⟩:=bz9 KXr.out;go_upto_region 14 with (fail);rw[← HPT.out];clear x0 x1 x2 x3 x4 x5 x6 x7 x8 xf;obtain⟨v14,hWR1,hkR1,bsR1,hoR1,hlR1⟩:=zfd KXr 7 (J PT);rw[hWR1];have kxR1:Hid (v14.heap[g]? = some (.cells #[J DI,J BE,J EL,J FR,J GA,J DE,J (KA+KB),J PT,.bool CL] 75 (0,0))):=by show _=_;simpa using hkR1.out
   clear hkR1;have bbR1:=IJ (hlR1.out v1 (by have:=BR.out.size;omega) BR.out);clear hWR1 hoR1 hlR1;obtain⟨x0,x1,x2,x3,x4,x5,x6,x7,x8,xf⟩:=bz9 kxR1.out;have BF_:=IJ (BV.out.trans (bbR1.out.mono BV.out.size));have KR2:=IJ (bkB KR.out bbR1.out II);have r0:=bkC (v:=J 0) KR2.out 0 rfl;have r1:=bkC (v:=J 0) KR2.out 1 rfl;have r2:=bkC (v:=J 0) KR2.out 2 rfl;have r3:=bkC (v:=J 0) KR2.out 3 rfl;have r4:=bkC (v:=J 0) KR2.out 4 rfl;have r5:=bkC (v:=J 0) KR2.out 5 rfl;have r6:=bkC (v:=J 0) KR2.out 6 rfl;have r7:=bkC (v:=J 0) KR2.out 7 rfl;have r8:=bkC (v:=.bool false) KR2.out 8 rfl;have rf:=bkF KR2.out;go_wp2;refine bodyPost_ret (v:=.agg #[J DI,J BE,J EL,J FR,J GA,J DE,J (KA+KB),J PT,.bool CL]) (by simp[results,Tryz.results89,go_sem, *]) rfl ⟨CL,rfl,(((((((((BF_.out.setCell (p:=⟨w.heap.size+3,0,none⟩) Q3c (J DI)).setCell (p:=⟨w.heap.size+3,1,none⟩) Q3c (J BE)).setCell (p:=⟨w.heap.size+3,2,none⟩) Q3c (J EL)).setCell (p:=⟨w.heap.size+3,3,none⟩) Q3c (J FR)).setCell (p:=⟨w.heap.size+3,4,none⟩) Q3c (J GA)).setCell (p:=⟨w.heap.size+3,5,none⟩) Q3c (J DE)).setCell (p:=⟨w.heap.size+3,6,none⟩) Q3c (J (KA+KB))).setCell (p:=⟨w.heap.size+3,7,none⟩) Q3c (J PT)).setCell (p:=⟨w.heap.size+3,8,none⟩) Q3c (.bool CL))⟩
set_option maxHeartbeats 8000000
set_option maxRecDepth 100000
theorem eirpN_bd {n:DNetwork} {x:DSector} {ka kr:Nat} (h:Parts n x ka kr) (b e:Int):-250000≤eirpN n x b e∧eirpN n x b e≤160000:=by
 have hr:=radio_bd h.rok;have ht:=tow_bd h.ok x.azimuth x.tilt b e;unfold eirpN;rw[h.ir,h.ia,Int.toNat_natCast,Int.toNat_natCast];omega
theorem elevP_bd (t:DTerrain) (a b:DEnd):-90≤pathE t a b∧pathE t a b≤90:=elevI_bd _ _
theorem reachB_eq (t:DTerrain) (n:DNetwork) (x:DSector) (e:DEnd):reachB t n x e=(zee t (endR n x).place&&!(decide ((endR n x).place.x=e.place.x)&&decide ((endR n x).place.y=e.place.y))):=rfl
theorem iReach_any (t:DTerrain) (n:DNetwork) (x:DSector) (q:DEnd) (T:TerrOk t) (v0 v1 v2 v3 v4 v5:Value) (k:Nat) (hk:k<n.sites.length) (hi:zby n.sites x.site=(k:Int)) (l0:n.sites.length≤1099511627776) (w:World) (r0:Rd w w (DSite.sT n.sites) v0) :
  Calls Tryz.prog 53 #[.agg #[v0,v1,v2,v3],.agg (t,v4,v5),.agg x,.agg q] w fun e w'=>e=.returned (.bool (reachB t n x q))∧OI w w w':=by
 have HE0:=IJ (reachB_eq t n x q);generalize reachB t n x q=RV at *;obtain⟨W0,hW0,b0_,z0,k0,k1,k2,k3⟩:=boxes4 w #[v0,v1,v2,v3] 32 (t,v4,v5) 26 x 43 q 55;have HW0:=IJ hW0;have B0:=IJ b0_;have HD:=IJ (fun (W:World) (hW:OI W0 W0 W)=>bx4 k0 hW <| bx5 k1 hW <| bx9 k2 hW <| by3 k3 hW);have HB:Hid (OI W0 W0 W0):=Below.refl _ _;clear k0 k1 k2 k3 hW0 b0_;have CE:Hid (∀ W:World,OI W0 W0 W→Calls Tryz.prog 37 #[.agg #[v0,v1,v2,v3],.agg x] W fun e w'=>e=.returned (.agg (endR n x))∧OI W W w'):=fun  W hW=>iEnd_any n x v0 v1 v2 v3 W ((r0.below (B0.out.trans (hW.mono B0.out.size))).mono (B0.out.trans (hW.mono B0.out.size)).size) l0 k hk hi
 have CH:Hid (∀ W:World,OI W0 W0 W→Calls Tryz.prog 36 #[.agg (t,v4,v5),.agg #[J (endR n x).place.x,J (endR n x).place.y]] W fun e w'=>e=.returned (.bool (zee t (endR n x).place))∧OI W W w'):=fun  W hW=>has_any t (endR n x).place v4 v5 ⟨T.w0,T.w1⟩ ⟨T.h0,T.h1⟩ ⟨T.mw.1,Int.le_trans T.mw.2 Q47⟩ ⟨T.mh.1,Int.le_trans T.mh.2 Q47⟩ W
 clear r0 hk hi l0 T;generalize zee t (endR n x).place=IT at *;generalize (endR n x).place.x=px at *;generalize (endR n x).place.y=py at *;generalize (endR n x).above=pz at *;have hfd:∀ w:World,(Instr.field 55 (.agg #[J px,J py,J pz]) 0).run Tryz.prog w=.ok (.agg #[J px,J py]) w:=fun _=>by kernel_rfl
 cases hI:IT with
 | false =>
  rw[hI] at CH;have HE:Hid (RV=false):=by show _=_;rw[HE0.out,hI,Bool.false_and]
  clear HE0;go_enter Tryz.func53,Tryz.ntmps53;go_upto_region 1 with (fail);rw[HW0.out];obtain⟨t0,t1,t2,t3,t4,t5,t6,t7,t8,t9,t10,t11,t12,t13,t14,t15,t16,t17,t18,t19,t20⟩:=HD.out _ HB.out;go_upto_region 2 with (first|(go_at_call 37;with_reducible refine (CE.out _ HB.out).mono ?_;rintro e v1 ⟨rfl,hb_⟩;(try clear t0 t1 t2 t3 t4 t5 t6 t7 t8 t9 t10 t11 t12 t13 t14 t15 t16 t17 t18 t19 t20);replace HB:=btr HB hb_;clear hb_;obtain⟨t0,t1,t2,t3,t4,t5,t6,t7,t8,t9,t10,t11,t12,t13,t14,t15,t16,t17,t18,t19,t20⟩:=HD.out _ HB.out));clear t0 t1 t2 t3 t4 t5 t6 t7 t8 t9 t10 t11 t12 t13 t14 t15 t16 t17 t18 t19 t20;obtain⟨b1,hW_,b_,z_,kp_⟩:=zav v1 #[J px,J py] 53;rw[hW_];have kp0:=bkC (v:=J px) kp_ 0 rfl;have kp1:=bkC (v:=J py) kp_ 1 rfl;have KP:=IJ kp_;have zc:v1.heap.size<b1.heap.size:=II
  replace HB:=btr HB b_;clear hW_ b_ kp_;obtain⟨t0,t1,t2,t3,t4,t5,t6,t7,t8,t9,t10,t11,t12,t13,t14,t15,t16,t17,t18,t19,t20⟩:=HD.out _ HB.out;go_wp2_with (go_at_call 36;with_reducible refine (CH.out _ HB.out).mono ?_;rintro e v2 ⟨rfl,hb_⟩;(have kq:=bkB KP.out hb_ zc);(try clear t0 t1 t2 t3 t4 t5 t6 t7 t8 t9 t10 t11 t12 t13 t14 t15 t16 t17 t18 t19 t20);replace HB:=btr HB hb_;clear hb_;obtain⟨t0,t1,t2,t3,t4,t5,t6,t7,t8,t9,t10,t11,t12,t13,t14,t15,t16,t17,t18,t19,t20⟩:=HD.out _ HB.out;clear kp0 kp1;(have kp0:=bkC (v:=J px) kq 0 rfl);(have kp1:=bkC (v:=J py) kq 1 rfl);clear kq);go_ret;exact⟨by rw[HE.out];rfl,B0.out.trans (HB.out.mono B0.out.size)⟩
 | true =>
  rw[hI] at CH
  by_cases c1:px=q.place.x
  case neg =>
   have d1:(px == q.place.x)=false:=beq_eq_false_iff_ne.2 c1;have HE:Hid (RV=true):=by show _=_;rw[HE0.out,hI,decide_eq_false c1,Bool.false_and,Bool.not_false,Bool.true_and]
   clear HE0 c1;go_enter Tryz.func53,Tryz.ntmps53;go_upto_region 1 with (fail);rw[HW0.out];obtain⟨t0,t1,t2,t3,t4,t5,t6,t7,t8,t9,t10,t11,t12,t13,t14,t15,t16,t17,t18,t19,t20⟩:=HD.out _ HB.out;go_upto_region 2 with (first|(go_at_call 37;with_reducible refine (CE.out _ HB.out).mono ?_;rintro e v1 ⟨rfl,hb_⟩;(try clear t0 t1 t2 t3 t4 t5 t6 t7 t8 t9 t10 t11 t12 t13 t14 t15 t16 t17 t18 t19 t20);replace HB:=btr HB hb_;clear hb_;obtain⟨t0,t1,t2,t3,t4,t5,t6,t7,t8,t9,t10,t11,t12,t13,t14,t15,t16,t17,t18,t19,t20⟩:=HD.out _ HB.out));clear t0 t1 t2 t3 t4 t5 t6 t7 t8 t9 t10 t11 t12 t13 t14 t15 t16 t17 t18 t19 t20;obtain⟨b1,hW_,b_,z_,kp_⟩:=zav v1 #[J px,J py] 53;rw[hW_];have kp0:=bkC (v:=J px) kp_ 0 rfl;have kp1:=bkC (v:=J py) kp_ 1 rfl;have KP:=IJ kp_;have zc:v1.heap.size<b1.heap.size:=II
   replace HB:=btr HB b_;clear hW_ b_ kp_;obtain⟨t0,t1,t2,t3,t4,t5,t6,t7,t8,t9,t10,t11,t12,t13,t14,t15,t16,t17,t18,t19,t20⟩:=HD.out _ HB.out;go_wp2_with (go_at_call 36;with_reducible refine (CH.out _ HB.out).mono ?_;rintro e v2 ⟨rfl,hb_⟩;(have kq:=bkB KP.out hb_ zc);(try clear t0 t1 t2 t3 t4 t5 t6 t7 t8 t9 t10 t11 t12 t13 t14 t15 t16 t17 t18 t19 t20);replace HB:=btr HB hb_;clear hb_;obtain⟨t0,t1,t2,t3,t4,t5,t6,t7,t8,t9,t10,t11,t12,t13,t14,t15,t16,t17,t18,t19,t20⟩:=HD.out _ HB.out;clear kp0 kp1;(have kp0:=bkC (v:=J px) kq 0 rfl);(have kp1:=bkC (v:=J py) kq 1 rfl);clear kq);go_ret;exact⟨by rw[HE.out];rfl,B0.out.trans (HB.out.mono B0.out.size)⟩
  by_cases c2:py=q.place.y
  case neg =>
   have d1:(px == q.place.x)=true:=beq_iff_eq.2 c1;have d2:(py == q.place.y)=false:=beq_eq_false_iff_ne.2 c2;have HE:Hid (RV=true):=by show _=_;rw[HE0.out,hI,decide_eq_false c2,Bool.and_false,Bool.not_false,Bool.true_and]
   clear HE0 c1 c2;go_enter Tryz.func53,Tryz.ntmps53;go_upto_region 1 with (fail);rw[HW0.out];obtain⟨t0,t1,t2,t3,t4,t5,t6,t7,t8,t9,t10,t11,t12,t13,t14,t15,t16,t17,t18,t19,t20⟩:=HD.out _ HB.out;go_upto_region 2 with (first|(go_at_call 37;with_reducible refine (CE.out _ HB.out).mono ?_;rintro e v1 ⟨rfl,hb_⟩;(try clear t0 t1 t2 t3 t4 t5 t6 t7 t8 t9 t10 t11 t12 t13 t14 t15 t16 t17 t18 t19 t20);replace HB:=btr HB hb_;clear hb_;obtain⟨t0,t1,t2,t3,t4,t5,t6,t7,t8,t9,t10,t11,t12,t13,t14,t15,t16,t17,t18,t19,t20⟩:=HD.out _ HB.out));clear t0 t1 t2 t3 t4 t5 t6 t7 t8 t9 t10 t11 t12 t13 t14 t15 t16 t17 t18 t19 t20;obtain⟨b1,hW_,b_,z_,kp_⟩:=zav v1 #[J px,J py] 53;rw[hW_];have kp0:=bkC (v:=J px) kp_ 0 rfl;have kp1:=bkC (v:=J py) kp_ 1 rfl;have KP:=IJ kp_;have zc:v1.heap.size<b1.heap.size:=II
   replace HB:=btr HB b_;clear hW_ b_ kp_;obtain⟨t0,t1,t2,t3,t4,t5,t6,t7,t8,t9,t10,t11,t12,t13,t14,t15,t16,t17,t18,t19,t20⟩:=HD.out _ HB.out;go_wp2_with (go_at_call 36;with_reducible refine (CH.out _ HB.out).mono ?_;rintro e v2 ⟨rfl,hb_⟩;(have kq:=bkB KP.out hb_ zc);(try clear t0 t1 t2 t3 t4 t5 t6 t7 t8 t9 t10 t11 t12 t13 t14 t15 t16 t17 t18 t19 t20);replace HB:=btr HB hb_;clear hb_;obtain⟨t0,t1,t2,t3,t4,t5,t6,t7,t8,t9,t10,t11,t12,t13,t14,t15,t16,t17,t18,t19,t20⟩:=HD.out _ HB.out;clear kp0 kp1;(have kp0:=bkC (v:=J px) kq 0 rfl);(have kp1:=bkC (v:=J py) kq 1 rfl);clear kq);go_ret;exact⟨by rw[HE.out];rfl,B0.out.trans (HB.out.mono B0.out.size)⟩
  have d1:(px == q.place.x)=true:=beq_iff_eq.2 c1;have d2:(py == q.place.y)=true:=beq_iff_eq.2 c2;have HE:Hid (RV=false):=by show _=_;rw[HE0.out,hI,decide_eq_true c1,decide_eq_true c2,Bool.and_true,Bool.not_true,Bool.true_and]
  clear HE0 c1 c2;go_enter Tryz.func53,Tryz.ntmps53;go_upto_region 1 with (fail);rw[HW0.out];obtain⟨t0,t1,t2,t3,t4,t5,t6,t7,t8,t9,t10,t11,t12,t13,t14,t15,t16,t17,t18,t19,t20⟩:=HD.out _ HB.out;go_upto_region 2 with (first|(go_at_call 37;with_reducible refine (CE.out _ HB.out).mono ?_;rintro e v1 ⟨rfl,hb_⟩;(try clear t0 t1 t2 t3 t4 t5 t6 t7 t8 t9 t10 t11 t12 t13 t14 t15 t16 t17 t18 t19 t20);replace HB:=btr HB hb_;clear hb_;obtain⟨t0,t1,t2,t3,t4,t5,t6,t7,t8,t9,t10,t11,t12,t13,t14,t15,t16,t17,t18,t19,t20⟩:=HD.out _ HB.out));clear t0 t1 t2 t3 t4 t5 t6 t7 t8 t9 t10 t11 t12 t13 t14 t15 t16 t17 t18 t19 t20;obtain⟨b1,hW_,b_,z_,kp_⟩:=zav v1 #[J px,J py] 53;rw[hW_];have kp0:=bkC (v:=J px) kp_ 0 rfl;have kp1:=bkC (v:=J py) kp_ 1 rfl;have KP:=IJ kp_;have zc:v1.heap.size<b1.heap.size:=II
  replace HB:=btr HB b_;clear hW_ b_ kp_;obtain⟨t0,t1,t2,t3,t4,t5,t6,t7,t8,t9,t10,t11,t12,t13,t14,t15,t16,t17,t18,t19,t20⟩:=HD.out _ HB.out;go_wp2_with (go_at_call 36;with_reducible refine (CH.out _ HB.out).mono ?_;rintro e v2 ⟨rfl,hb_⟩;(have kq:=bkB KP.out hb_ zc);(try clear t0 t1 t2 t3 t4 t5 t6 t7 t8 t9 t10 t11 t12 t13 t14 t15 t16 t17 t18 t19 t20);replace HB:=btr HB hb_;clear hb_;obtain⟨t0,t1,t2,t3,t4,t5,t6,t7,t8,t9,t10,t11,t12,t13,t14,t15,t16,t17,t18,t19,t20⟩:=HD.out _ HB.out;clear kp0 kp1;(have kp0:=bkC (v:=J px) kq 0 rfl);(have kp1:=bkC (v:=J py) kq 1 rfl);clear kq);go_ret;exact⟨by rw[HE.out];rfl,B0.out.trans (HB.out.mono B0.out.size)⟩
theorem iLevel_any (t:DTerrain) (n:DNetwork) (x:DSector) (q:DEnd) (T:TerrOk t) (v0 v1 v2 v3 v4 v5:Value) (pa:inT t (endR n x).place) (pb:inT t q.place) (ea:endP (endR n x)) (eb:endP q) (hd:¬ ((endR n x).place.x=q.place.x∧(endR n x).place.y=q.place.y)) (k:Nat) (hk:k<n.sites.length) (hi:zby n.sites x.site=(k:Int)) (ka kr:Nat) (hp:Parts n x ka kr) (l0:n.sites.length≤1099511627776) (l2:n.antennas.length≤1099511627776) (l3:n.radios.length≤1099511627776) (f:Int) (f0:1≤f) (f1:f≤100000000) (w:World) (r0:Rd w w (DSite.sT n.sites) v0) (r2:Rd w w (DAntenna.sT n.antennas) v2) (r3:Rd w w (DRadio.sT n.radios) v3) (r4:Rd w w (zam t.heights) v4) (r5:Rd w w (zam t.clutter) v5) (L:TabW w) :
  Calls Tryz.prog 54 #[.agg #[v0,v1,v2,v3],.agg (t,v4,v5),.agg x,J f,.agg q] w fun e w'=>e=.returned (J (levI t n x f q))∧OI w w w':=by
 have HE:Hid (levI t n x f q=eirpN n x (zfi (endR n x).place q.place) (pathE t (endR n x) q)-pathT t (endR n x) q f):=rfl;obtain⟨bp0,bp1⟩:=pathT_bd T pa pb ea eb f1;obtain⟨be0,be1⟩:=eirpN_bd hp (zfi (endR n x).place q.place) (pathE t (endR n x) q);obtain⟨bb0,bb1⟩:=bearI_bd (endR n x).place q.place;obtain⟨bl0,bl1⟩:=elevP_bd t (endR n x) q;obtain⟨W0,hW0,b0_,z0,k0,k1,k2,k3⟩:=boxes4 w #[v0,v1,v2,v3] 32 (t,v4,v5) 26 x 43 q 55;have HW0:=IJ hW0;have B0:=IJ b0_;have HD:=IJ (fun (W:World) (hW:OI W0 W0 W)=>bx4 k0 hW <| bx5 k1 hW <| bx9 k2 hW <| by3 k3 hW);have HB:Hid (OI W0 W0 W0):=Below.refl _ _;clear k0 k1 k2 k3 hW0 b0_;have CE:Hid (∀ W:World,OI W0 W0 W→Calls Tryz.prog 37 #[.agg #[v0,v1,v2,v3],.agg x] W fun e w'=>e=.returned (.agg (endR n x))∧OI W W w'):=fun  W hW=>iEnd_any n x v0 v1 v2 v3 W ((r0.below (B0.out.trans (hW.mono B0.out.size))).mono (B0.out.trans (hW.mono B0.out.size)).size) l0 k hk hi
 have CP:Hid (∀ W:World,OI W0 W0 W→Calls Tryz.prog 89 #[.agg (t,v4,v5),.agg (endR n x),.agg q,J f] W fun e w'=>∃ cl:Bool,e=.returned (.agg #[J (zcr (endR n x).place q.place),J (zfi (endR n x).place q.place),J (pathE t (endR n x) q),J (freeI f (zcr (endR n x).place q.place)),J (gasI f (zcr (endR n x).place q.place)),J (deyP (zeh t (endR n x) q) f),J (cluI (cAt t (endR n x).place) f (endR n x).above+cluI (cAt t q.place) f q.above),J (pathT t (endR n x) q f),.bool cl])∧OI W W w'):=fun  W hW=>iPath_any t (endR n x) q T pa pb ea eb v4 v5 hd f f0 f1 W ((r4.below (B0.out.trans (hW.mono B0.out.size))).mono (B0.out.trans (hW.mono B0.out.size)).size) ((r5.below (B0.out.trans (hW.mono B0.out.size))).mono (B0.out.trans (hW.mono B0.out.size)).size) (L.mono (B0.out.trans (hW.mono B0.out.size)))
 have CI:Hid (∀ W:World,OI W0 W0 W→Calls Tryz.prog 64 #[.agg #[v0,v1,v2,v3],.agg x,J (zfi (endR n x).place q.place),J (pathE t (endR n x) q)] W fun e w'=>e=.returned (J (eirpN n x (zfi (endR n x).place q.place) (pathE t (endR n x) q)))∧OI W W w'):=fun  W hW=>iEirp_any n x v0 v1 v2 v3 _ _ W ((r2.below (B0.out.trans (hW.mono B0.out.size))).mono (B0.out.trans (hW.mono B0.out.size)).size) ((r3.below (B0.out.trans (hW.mono B0.out.size))).mono (B0.out.trans (hW.mono B0.out.size)).size) l2 l3 ka kr hp bb0 bb1 bl0 bl1
 clear r0 r2 r3 r4 r5 L hk hi l0 l2 l3 hp T pa pb ea eb hd;generalize cluI (cAt t (endR n x).place) f (endR n x).above+cluI (cAt t q.place) f q.above=KC at *;generalize pathT t (endR n x) q f=PT at *;generalize deyP (zeh t (endR n x) q) f=DE at *;generalize freeI f (zcr (endR n x).place q.place)=FR at *;generalize gasI f (zcr (endR n x).place q.place)=GA at *;generalize eirpN n x (zfi (endR n x).place q.place) (pathE t (endR n x) q)=EP at *;generalize pathE t (endR n x) q=EL at *;generalize zfi (endR n x).place q.place=BE at *;generalize zcr (endR n x).place q.place=DI at *;generalize levI t n x f q=LV at *;go_enter Tryz.func54,Tryz.ntmps54;go_upto_region 1 with (fail);rw[HW0.out];go_cut [11] (fun s11 wx=>∃ (g:Nat) (cl:Bool),s11=.pointer (some ⟨g,0,none⟩)∧wx.heap[g]? = some (.cells #[J DI,J BE,J EL,J FR,J GA,J DE,J KC,J PT,.bool cl] 75 (0,0))∧OI W0 W0 wx∧W0.heap.size≤g∧g<wx.heap.size)
 case first =>
  refine zas 9 (.read 0 (.read 1 (.read 2 (.read 4 (.read 5 (.two 3 7 (.two 6 7 (.one 7 (.one 8 .nil)) (.one 6 (.one 8 .nil))) (.one 3 (.one 6 (.one 8 .nil))))))))) (fun W=>OI W0 W0 W) JI JI (HB.out.drew) ?_;have YB:=IJ (HB.out.drew);have Yz:W0.heap.size≤W0.drew.heap.size:=Nat.le_refl _;generalize W0.drew=Y at *
  iterate 5
   refine zak (v:=?_) rfl (fun _ _ _ h=>h) ?_ ?_
   rotate_left
   ·(intro W hSW;(try dsimp only at hSW);obtain⟨t0,t1,t2,t3,t4,t5,t6,t7,t8,t9,t10,t11,t12,t13,t14,t15,t16,t17,t18,t19,t20⟩:=HD.out W hSW;(go_simp<;>with_reducible rfl))
   (try simp only[Act.put,OO,OJ,OQ])
  refine zbv ?_ ?_;refine zae rfl (fun K hK=>?_);go_simp;refine (CE.out _ YB.out).mono ?_;rintro e Y1 ⟨rfl,hb1⟩;have YB1:=btr YB hb1;refine hK.out _ _ YB1.out ?_;clear hK K;have bs1:=hb1.size;clear hb1;refine zbv ?_ ?_;refine zae rfl (fun K hK=>?_);go_simp;refine (CP.out _ YB1.out).mono ?_;rintro e Y2 ⟨cl,rfl,hb2⟩;have YB2:=btr YB1 hb2;refine hK.out _ _ YB2.out ?_;clear hK K;have bs2:=hb2.size;clear hb2;refine zaf ?_;refine zae rfl (fun K hK=>?_);go_simp;obtain⟨Y3,hW3,hb3,zl3,hk3⟩:=zav Y2 #[J 0,J 0,J 0,J 0,J 0,J 0,J 0,J 0,.bool false] 75;rw[hW3];have Ykx3:=IJ hk3;have YB3:=btr YB2 hb3;refine hK.out _ _ YB3.out ?_;have bs3:=hb3.size;clear hK K hW3 hk3 hb3;refine zaf ?_;refine zae rfl (fun K hK=>?_);obtain⟨g0,g1,g2,g3,g4,g5,g6,g7,g8,fz⟩:=bz9 Ykx3.out;go_simp;obtain⟨Y4,hW4,Ykx4,bs4,ho4,hl4⟩:=zea Ykx3 [J DI,J BE,J EL,J FR,J GA,J DE,J KC,J PT,.bool cl] rfl;simp only[zbq] at hW4;rw[hW4];have YB4:=IJ (hl4.out W0 (by have:=YB3.out.size;omega) YB3.out);refine hK.out _ _ YB4.out ?_;clear hK K fz hW4 ho4 hl4 g0 g1 g2 g3 g4 g5 g6 g7 g8;refine zat ?_;simp only[List.drop_succ_cons,List.drop_zero];go_wp2_with fail;go_meet;exact⟨_,cl,rfl,Ykx4.out,YB4.out,II,II⟩;refine zae rfl (fun K hK=>?_);go_simp;obtain⟨Y5,hW5,hb5,zl5,hk5⟩:=zav Y1 #[J 0,J 0,J 0,J 0,J 0,J 0,J 0,J 0,.bool false] 75;rw[hW5];have Ykx5:=IJ hk5;have YB5:=btr YB1 hb5;refine hK.out _ _ YB5.out ?_;have bs5:=hb5.size;clear hK K hW5 hk5 hb5;refine zaf ?_;refine zae rfl (fun K hK=>?_);go_simp;refine (CP.out _ YB5.out).mono ?_;rintro e Y6 ⟨cl,rfl,hb6⟩;have YB6:=btr YB5 hb6;refine hK.out _ _ YB6.out ?_;clear hK K;have bs6:=hb6.size;have Ykx6:=bkH Ykx5 hb6;clear hb6;refine zaf ?_;refine zae rfl (fun K hK=>?_);obtain⟨g0,g1,g2,g3,g4,g5,g6,g7,g8,fz⟩:=bz9 Ykx6.out;go_simp;obtain⟨Y7,hW7,Ykx7,bs7,ho7,hl7⟩:=zea Ykx6 [J DI,J BE,J EL,J FR,J GA,J DE,J KC,J PT,.bool cl] rfl;simp only[zbq] at hW7;rw[hW7];have YB7:=IJ (hl7.out W0 (by have:=YB6.out.size;omega) YB6.out);refine hK.out _ _ YB7.out ?_;clear hK K fz hW7 ho7 hl7 g0 g1 g2 g3 g4 g5 g6 g7 g8;refine zat ?_;simp only[List.drop_succ_cons,List.drop_zero];go_wp2_with fail;go_meet;exact⟨_,cl,rfl,Ykx7.out,YB7.out,II,II⟩;refine zae rfl (fun K hK=>?_);go_simp;obtain⟨Y8,hW8,hb8,zl8,hk8⟩:=zav Y #[J 0,J 0,J 0,J 0,J 0,J 0,J 0,J 0,.bool false] 75;rw[hW8];have Ykx8:=IJ hk8;have YB8:=btr YB hb8;refine hK.out _ _ YB8.out ?_;have bs8:=hb8.size;clear hK K hW8 hk8 hb8;refine zaf ?_;refine zae rfl (fun K hK=>?_);go_simp;refine (CE.out _ YB8.out).mono ?_;rintro e Y9 ⟨rfl,hb9⟩;have YB9:=btr YB8 hb9;refine hK.out _ _ YB9.out ?_;clear hK K;have bs9:=hb9.size;have Ykx9:=bkH Ykx8 hb9;clear hb9;refine zaf ?_;refine zae rfl (fun K hK=>?_);go_simp;refine (CP.out _ YB9.out).mono ?_;rintro e Y10 ⟨cl,rfl,hb10⟩;have YB10:=btr YB9 hb10;refine hK.out _ _ YB10.out ?_;clear hK K;have bs10:=hb10.size;have Ykx10:=bkH Ykx9 hb10;clear hb10;refine zaf ?_;refine zae rfl (fun K hK=>?_);obtain⟨g0,g1,g2,g3,g4,g5,g6,g7,g8,fz⟩:=bz9 Ykx10.out;go_simp;obtain⟨Y11,hW11,Ykx11,bs11,ho11,hl11⟩:=zea Ykx10 [J DI,J BE,J EL,J FR,J GA,J DE,J KC,J PT,.bool cl] rfl;simp only[zbq] at hW11;rw[hW11];have YB11:=IJ (hl11.out W0 (by have:=YB10.out.size;omega) YB10.out);refine hK.out _ _ YB11.out ?_;clear hK K fz hW11 ho11 hl11 g0 g1 g2 g3 g4 g5 g6 g7 g8;refine zat ?_;simp only[List.drop_succ_cons,List.drop_zero];go_wp2_with fail;go_meet;exact⟨_,cl,rfl,Ykx11.out,YB11.out,II,II⟩
 obtain⟨g,cl,rfl,kg_,hbW,hg1,hg2⟩:=hcut;generalize wc=v3 at *;replace HB:=IJ hbW;clear hbW;obtain⟨t0,t1,t2,t3,t4,t5,t6,t7,t8,t9,t10,t11,t12,t13,t14,t15,t16,t17,t18,t19,t20⟩:=HD.out _ HB.out;go_upto_region 2 with (fail);have p0:=bkC (v:=J DI) kg_ 0 rfl;have p1:=bkC (v:=J BE) kg_ 1 rfl;have p2:=bkC (v:=J EL) kg_ 2 rfl;have p3:=bkC (v:=J FR) kg_ 3 rfl;have p4:=bkC (v:=J GA) kg_ 4 rfl;have p5:=bkC (v:=J DE) kg_ 5 rfl;have p6:=bkC (v:=J KC) kg_ 6 rfl;have p7:=bkC (v:=J PT) kg_ 7 rfl;have p8:=bkC (v:=.bool cl) kg_ 8 rfl;clear kg_;have o0:=zai (w0:=v3) (show w.heap.size<v3.heap.size by have:=HB.out.size;omega);have o1:=zai (w0:=v3) (show (w.heap.size+1)<v3.heap.size by have:=HB.out.size;omega);have o2:=zai (w0:=v3) (show (w.heap.size+2)<v3.heap.size by have:=HB.out.size;omega);have o3:=zai (w0:=v3) (show (w.heap.size+3)<v3.heap.size by have:=HB.out.size;omega);have o4:=zai (w0:=v3) (show g<v3.heap.size by have:=HB.out.size;omega);refine zab v3.heap.size v3 (Below.refl _ _) JI JI ?_
 repeat (go_big_quiet_step (first|(go_at_call 64;with_reducible exact zah (Nat.le_refl _) (CI.out _ (HB.out.trans ((zaa _ _ _).mono HB.out.size))))))
 refine wpQuiet_nil ?_;rintro _ ⟨X,rfl⟩;replace HB:=btr HB (zaa v3.heap.size v3 X);clear o0 o1 o2 o3 o4
 (try clear t0 t1 t2 t3 t4 t5 t6 t7 t8 t9 t10 t11 t12 t13 t14 t15 t16 t17 t18 t19 t20)
 clear p0 p1 p2 p3 p4 p5 p6 p7 p8;generalize over v3.heap.size v3 X=u1 at *;obtain⟨t0,t1,t2,t3,t4,t5,t6,t7,t8,t9,t10,t11,t12,t13,t14,t15,t16,t17,t18,t19,t20⟩:=HD.out _ HB.out;go_wp2;exact Q09
def pgI (n:DNetwork) (x:DSector):Int:=(zbg n.radios (zch n.radios x.radio).toNat).power-(zbg n.radios (zch n.radios x.radio).toNat).feeder+(za5 n.antennas (zb3 n.antennas x.antenna).toNat).gain
def gvI (t:DTerrain) (n:DNetwork) (x:DSector) (f:Int) (e:DEnd):Int:=if reachB t n x e=true then max (levI t n x f e) (-300000) else pgI n x
def ptG (t:DTerrain) (i:Nat):DPoint:=⟨(i:Int) % t.width*t.step,(i:Int) / t.width*t.step⟩
def zcf (t:DTerrain):Nat:=(t.width*t.height).toNat
def zdg (t:DTerrain) (n:DNetwork) (x:DSector) (f ab:Int):List Int:=(List.range (zcf t)).map fun i=>gvI t n x f ⟨ptG t i,ab⟩
theorem ze9 (t:DTerrain) (n:DNetwork) (x:DSector) (f ab:Int):(zdg t n x f ab).length=zcf t:=by simp[zdg]
theorem gridL_take (t:DTerrain) (n:DNetwork) (x:DSector) (f ab:Int) {i:Nat} (hi:i<zcf t):(zdg t n x f ab).take (i+1)=(zdg t n x f ab).take i++[gvI t n x f ⟨ptG t i,ab⟩]:=by
 have h:i<(zdg t n x f ab).length:=by rw[ze9];exact hi
 rw[List.take_succ_eq_append_getElem h];simp[zdg]
theorem gridN_eq {t:DTerrain} (T:TerrOk t):zcf t=t.width.toNat*t.height.toNat∧zcf t≤576∧((zcf t:Nat):Int)=t.width*t.height:=by
 obtain⟨W,hW⟩:=Int.eq_ofNat_of_zero_le (show 0≤t.width by have:=T.w0;omega);obtain⟨H,hH⟩:=Int.eq_ofNat_of_zero_le (show 0≤t.height by have:=T.h0;omega);have a:=T.w1;have b:=T.h1;unfold zcf;rw[hW,hH] at *;have e:((W:Int)*(H:Int)).toNat=W*H:=by rw[← Int.natCast_mul,Int.toNat_natCast]
 have hle:W*H≤24*24:=Nat.mul_le_mul II II;refine⟨by rw[e];simp,by rw[e];exact hle,by rw[e,Int.natCast_mul]⟩
theorem ptG_at {t:DTerrain} (T:TerrOk t) {y c:Nat} (hc:(c:Int)<t.width) (hy:(y:Int)<t.height):ptG t (y*t.width.toNat+c)=⟨(c:Int)*t.step,(y:Int)*t.step⟩∧y*t.width.toNat+c<zcf t∧y*t.width.toNat+t.width.toNat≤zcf t:=by
 have hw:0<t.width:=by have:=T.w0;omega
 obtain⟨W,hW⟩:=Int.eq_ofNat_of_zero_le (show 0≤t.width by omega);obtain⟨H,hH⟩:=Int.eq_ofNat_of_zero_le (show 0≤t.height by have:=T.h0;omega);have g:=(gridN_eq T).1;rw[g];rw[hW] at hc hw;rw[hH] at hy;have hcW:c<W:=II
 have hyH:y+1≤H:=II
 have hle:(y+1)*W≤H*W:=Nat.mul_le_mul_right _ hyH;rw[Nat.succ_mul] at hle;have hcm:H*W=W*H:=Nat.mul_comm _ _;unfold ptG;rw[hW,hH,Int.toNat_natCast,Int.toNat_natCast];have e1:((y*W+c:Nat):Int) % (W:Int)=(c:Int):=by
  rw[← Int.natCast_emod,Nat.add_comm,Nat.add_mul_mod_self_right,Nat.mod_eq_of_lt hcW]
 have e2:((y*W+c:Nat):Int) / (W:Int)=(y:Int):=by
  rw[← Int.natCast_ediv,Nat.add_comm,Nat.add_mul_div_right _ _ II,Nat.div_eq_of_lt hcW,Nat.zero_add]
 exact⟨by rw[e1,e2],II,II⟩
theorem grid_inT {t:DTerrain} (T:TerrOk t) {y c:Nat} (hc:(c:Int)<t.width) (hy:(y:Int)<t.height):inT t ⟨(c:Int)*t.step,(y:Int)*t.step⟩:=by
 have s:=T.s0;exact⟨⟨Int.mul_nonneg II II,Int.mul_le_mul_of_nonneg_right II II⟩,⟨Int.mul_nonneg II II,Int.mul_le_mul_of_nonneg_right II II⟩⟩
theorem pgI_eq {n:DNetwork} {x:DSector} {ka kr:Nat} (h:Parts n x ka kr):pgI n x=(zbg n.radios kr).power-(zbg n.radios kr).feeder+(za5 n.antennas ka).gain:=by
 unfold pgI;rw[h.ir,h.ia,Int.toNat_natCast,Int.toNat_natCast]
theorem pgI_bd {n:DNetwork} {x:DSector} {ka kr:Nat} (h:Parts n x ka kr):-300000≤pgI n x∧pgI n x≤300000:=by
 rw[pgI_eq h];have hr:=radio_bd h.rok;have ha:=ant_gain h.ok;omega
def zfc (least i v:Int) (s:Int × Int):Int × Int:=if least≤v∧(s.1<0∨s.2<v) then (i,v) else s
def zb8 (m:List (List Int)) (least:Int) (c:Nat):Nat→Int × Int
 | 0=>(-1,-300000)
 | k+1=>zfc least (k:Int) (gi (rowI m k) c) (zb8 m least c k)
def srvC (m:List (List Int)) (least:Int) (N k:Nat):List Int:=(List.range N).map fun c=>(zb8 m least c k).1
def lvlC (m:List (List Int)) (least:Int) (N k:Nat):List Int:=(List.range N).map fun c=>(zb8 m least c k).2
theorem zda (m:List (List Int)) (least:Int) (N k:Nat):(srvC m least N k).length=N:=by simp[srvC]
theorem zei (m:List (List Int)) (least:Int) (N k:Nat):(lvlC m least N k).length=N:=by simp[lvlC]
theorem srvC_gi {m:List (List Int)} {least:Int} {N k c:Nat} (h:c<N):gi (srvC m least N k) c=(zb8 m least c k).1:=by simp[gi,srvC,h]
theorem lvlC_gi {m:List (List Int)} {least:Int} {N k c:Nat} (h:c<N):gi (lvlC m least N k) c=(zb8 m least c k).2:=by simp[gi,lvlC,h]
theorem map_range_take {α:Type} (f:Nat→α) {N c:Nat} (h:c<N):((List.range N).map f).take (c+1)=((List.range N).map f).take c++[f c]:=by
 have hl:c<((List.range N).map f).length:=by simpa using h
 rw[List.take_succ_eq_append_getElem hl];simp
theorem srvC_take {m:List (List Int)} {least:Int} {N k c:Nat} (h:c<N):(srvC m least N k).take (c+1)=(srvC m least N k).take c++[(zb8 m least c k).1]:=map_range_take _ h
theorem lvlC_take {m:List (List Int)} {least:Int} {N k c:Nat} (h:c<N):(lvlC m least N k).take (c+1)=(lvlC m least N k).take c++[(zb8 m least c k).2]:=map_range_take _ h
theorem bestC_succ (m:List (List Int)) (least:Int) (c k:Nat):zb8 m least c (k+1)=zfc least (k:Int) (gi (rowI m k) c) (zb8 m least c k):=rfl
theorem stepC_on {least i v:Int} {s:Int × Int} (h1:least≤v) (h2:s.1<0∨s.2<v):zfc least i v s=(i,v):=if_pos ⟨h1,h2⟩
theorem stepC_off {least i v:Int} {s:Int × Int} (h:¬ (least≤v∧(s.1<0∨s.2<v))):zfc least i v s=s:=if_neg h
def covL (t:DTerrain) (n:DNetwork) (f ab:Int):List (List Int):=n.sectors.map fun x=>zdg t n x f ab
theorem covL_len (t:DTerrain) (n:DNetwork) (f ab:Int):(covL t n f ab).length=n.sectors.length:=by simp[covL]
theorem covL_at (t:DTerrain) (n:DNetwork) (f ab:Int) {k:Nat} (hk:k<n.sectors.length):rowI (covL t n f ab) k=zdg t n (zad n.sectors k) f ab:=by
 unfold rowI covL;rw[List.getD_eq_getElem?_getD,List.getElem?_map,List.getElem?_eq_getElem hk,za3 hk]
 rfl
theorem covL_take (t:DTerrain) (n:DNetwork) (f ab:Int) {k:Nat} (hk:k<n.sectors.length):(covL t n f ab).take (k+1)=(covL t n f ab).take k++[zdg t n (zad n.sectors k) f ab]:=by
 have h:k<(covL t n f ab).length:=by rw[covL_len];exact hk
 rw[List.take_succ_eq_append_getElem h];simp only[covL,List.getElem_map,za3 hk]
def rasC (t:DTerrain) (m:List (List Int)) (least:Int) (k:Nat):DRaster:=⟨t.step,t.width,t.height,srvC m least (zcf t) k,lvlC m least (zcf t) k⟩
def homeB (t:DTerrain) (n:DNetwork) (x:DSector):Bool:=zee t (endR n x).place
def zeroRas:DRaster:=⟨0,0,0,[],[]⟩
def covR (t:DTerrain) (n:DNetwork) (f ab least:Int):DRaster × Int :=
 if zc0 t=true∧netB n=true then
  (if inB f 1 100000000=true∧inB ab 1 3000=true∧inB least (-300000) 300000=true then
   (if n.sectors.all (homeB t n)=true then (rasC t (covL t n f ab) least n.sectors.length,0) else (zeroRas,6))
  else (zeroRas,2)) else (zeroRas,1)
structure CovE (t:DTerrain) (n:DNetwork) (f ab least:Int):Prop where
 e1:zc0 t=false∨netB n=false→covR t n f ab least=(zeroRas,1)
 e2:zc0 t=true→netB n=true→inB f 1 100000000=false∨inB ab 1 3000=false∨inB least (-300000) 300000=false→covR t n f ab least=(zeroRas,2)
 e3:zc0 t=true→netB n=true→inB f 1 100000000=true→inB ab 1 3000=true→inB least (-300000) 300000=true→∀ k,k<n.sectors.length→homeB t n (zad n.sectors k)=false→covR t n f ab least=(zeroRas,6)
 e4:zc0 t=true→netB n=true→inB f 1 100000000=true→inB ab 1 3000=true→inB least (-300000) 300000=true→n.sectors.all (homeB t n)=true→covR t n f ab least=(rasC t (covL t n f ab) least n.sectors.length,0)
theorem cov_e (t:DTerrain) (n:DNetwork) (f ab least:Int):CovE t n f ab least where
 e1:=fun h=>by
  unfold covR;rw[if_neg];rintro⟨x,y⟩;rw[x,y] at h;simp at h
 e2:=fun a b h=>by
  unfold covR;rw[if_pos ⟨a,b⟩,if_neg];rintro⟨x,y,z⟩;rw[x,y,z] at h;simp at h
 e3:=fun a b c d e k hk h=>by
  unfold covR;rw[if_pos ⟨a,b⟩,if_pos ⟨c,d,e⟩,if_neg];rw[lw_false_at hk (by rw[za3 hk];exact h)]
  decide
 e4:=fun a b c d e h=>by unfold covR;rw[if_pos ⟨a,b⟩,if_pos ⟨c,d,e⟩,if_pos h]
theorem home_take (t:DTerrain) (n:DNetwork) {k:Nat} (hk:k<n.sectors.length):(n.sectors.take (k+1)).all (homeB t n)=((n.sectors.take k).all (homeB t n)&&homeB t n (zad n.sectors k)):=by rw[lw_take_succ _ _ hk,za3 hk]
end Go.Proofs.YtpakghepnahooaaGreatDoor
