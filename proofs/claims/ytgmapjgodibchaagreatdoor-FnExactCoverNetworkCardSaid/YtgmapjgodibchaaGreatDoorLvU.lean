/- Contracts: the path between two ends, for the program. Conditions: ends in the terrain. -/
import Derived.Test.YtgmapjgodibchaaGreatDoorLvT
set_option linter.unusedVariables false
set_option linter.unusedSimpArgs false
namespace Go.Proofs.YtgmapjgodibchaaGreatDoor
open Go.RowKit
set_option maxHeartbeats 16000000
set_option maxRecDepth 100000
theorem rd_ints_at {B:Nat} {W:World} {b off c:Nat} {l:List Int} (h0:0<l.length) (hc:l.length≤c) (hm:c≤maxLen) (h:∀ (i:Nat) (hi:i<l.length),W.cell? ⟨b,off+i,none⟩=some (I l[i])) (hB:b<B):Rd B W (zai l) (II (some ⟨b,off,none⟩) l.length c):=by
 refine⟨[b],zcf.2 ⟨_,l.length,c,rfl,by simp,hc,hm,Or.inr ⟨b,off,[],?_,rfl,rfl,?_⟩⟩,fun x hx=>by simp at hx;omega⟩
 ·intro e
  have:=congrArg List.length e;simp at this;subst this;simp at h0
 ·have e2:l.map intT=(l.map (Value.int .i64)).map .lit:=by rw[List.map_map];rfl
  rw[e2];refine Reps.lits _ _ _ (fun j hj=>?_);rw[List.length_map] at hj;simp only[List.getElem_map];exact h j hj
theorem cell_in {w:World} {q i:Nat} {cs:Array Value} {T:Nat} {v:Value} (k:w.heap[q]? = some (.cells cs T (0,0))) (h:w.cell? ⟨q,i,none⟩=some v):i<cs.size:=by
 rcases Nat.lt_or_ge i cs.size with hlt|hge
 ·exact hlt
 ·rw[zbz k i,Array.getElem?_eq_none hge] at h
  cases h
theorem rd_apart {B:Nat} {w w':World} {l:List Int} {v:Value} (r:Rd B w (zai l) v) {q:Nat} {cs:Array Value} {T:Nat} (k:w.heap[q]? = some (.cells cs T (0,0))) (hl:cs.size<l.length) (hf:∀ x,x≠q→w'.heap[x]? = w.heap[x]?):Rd B w' (zai l) v:=by
 obtain⟨a,c,rfl,h1,h2,h3⟩:=r.ints;obtain⟨b,off,rfl,hb,hat⟩:=h3 O;have hne:b≠q:=by
  rintro rfl;have:=cell_in k (hat (l.length-1) O);omega
 exact rd_ints_at O h1 h2 (fun i hi=>(World.cell?_of_block (w:=w) (hf b hne)).trans (hat i hi)) hb
theorem iPath_any (t:DTerrain) (a b:DEnd) (T:TerrOk t) (pa:inT t a.place) (pb:inT t b.place) (ea:endP a) (eb:endP b) (v3 v4:Value) (hd:¬ (a.place.x=b.place.x∧a.place.y=b.place.y)) (f:Int) (f0:1≤f) (f1:f≤100000000) (w:World) (r3:Rd w w (zai t.heights) v3) (r4:Rd w w (zai t.clutter) v4) (L:TabW w) :
  Calls Tryz.prog 125 #[.agg #[I t.step,I t.width,I t.height,v3,v4],.agg #[I a.place.x,I a.place.y,I a.above],.agg #[I b.place.x,I b.place.y,I b.above],I f] w fun e w'=>∃ cl:Bool,e=.returned (.agg #[I (zbp a.place b.place),I (zdh a.place b.place),I (zdz t a b),I (zer f (zbp a.place b.place)),I (gasI f (zbp a.place b.place)),I (deyP (zb3 t a b) f),I (cluI (cAt t a.place) f a.above+cluI (cAt t b.place) f b.above),I (pathT t a b f),.bool cl])∧IJ w w w':=by
 have hptA:=zc3 T pa;have hptB:=zc3 T pb;have hdb:=distI_bd hptA hptB;have hd1:=distI_pos hptA hptB hd;have hok:=profI_ok T pa pb ea eb hd;have hoo:=profO_ok T pa pb ea eb hd;have CPr:Hid (∀ W:World,IJ w w W→Calls Tryz.prog 156 #[.agg #[I t.step,I t.width,I t.height,v3,v4],.agg #[I a.place.x,I a.place.y,I a.above],.agg #[I b.place.x,I b.place.y,I b.above]] W fun e w'=>∃ (a':Option Addr) (c':Nat),e=.returned (.agg #[I (za1 t a b).d,I (za1 t a b).f,I (za1 t a b).l,II a' 17 c'])∧IJ W W w'∧Rd w'.heap.size w' (zai (za1 t a b).hs) (II a' 17 c')):=fun W hW=>iProf_any t a b T pa pb ea eb v3 v4 W ((r3.below hW).mono hW.size)
 have CBe:Hid (∀ W:World,IJ w w W→Calls Tryz.prog 157 #[.agg #[I a.place.x,I a.place.y],.agg #[I b.place.x,I b.place.y]] W fun e w'=>e=.returned (I (zdh a.place b.place))∧IJ W W w'):=fun W hW=>iBearing_any a.place b.place hptA hptB W (L.mono hW)
 have CEl:Hid (∀ W:World,IJ w w W→Calls Tryz.prog 158 #[.agg #[I t.step,I t.width,I t.height,v3,v4],.agg #[I a.place.x,I a.place.y,I a.above],.agg #[I b.place.x,I b.place.y,I b.above]] W fun e w'=>e=.returned (I (zdz t a b))∧IJ W W w'):=fun W hW=>iElev_any t a b T pa pb ea eb v3 v4 W ((r3.below hW).mono hW.size) (L.mono hW)
 have CFr:Hid (∀ W:World,IJ w w W→Calls Tryz.prog 159 #[I f,I (zbp a.place b.place)] W fun e w'=>e=.returned (I (zer f (zbp a.place b.place)))∧IJ W W w'):=fun W hW=>iFree_any f _ f0 f1 hd1 hdb.2 W (L.lib.mono hW)
 have CGa:Hid (∀ W:World,IJ w w W→Calls Tryz.prog 160 #[I f,I (zbp a.place b.place)] W fun e w'=>e=.returned (I (gasI f (zbp a.place b.place)))∧IJ W W w'):=fun W hW=>iGas_any f _ f0 f1 hd1 hdb.2 W
 have CCl:Hid (∀ (v:Value) (W:World),IJ w w W→Rd W W (zai (za1 t a b).hs) v→Calls Tryz.prog 161 #[.agg #[I (za1 t a b).d,I (za1 t a b).f,I (za1 t a b).l,v],I f,I 600] W fun e w'=>e=.returned (.bool (clrB (za1 t a b) f 600))∧IJ W W w'):=fun v W hW r=>iClear2_any _ hok v f f0 f1 600 W r
 have CTu:Hid (∀ (v:Value) (W:World),Rd W W (zai (za1 t a b).hs) v→Calls Tryz.prog 162 #[.agg #[I (za1 t a b).d,I (za1 t a b).f,I (za1 t a b).l,v]] W fun e w'=>∃ (a':Option Addr) (c':Nat),e=.returned (.agg #[I (za1 t a b).d,I (za1 t a b).l,I (za1 t a b).f,II a' 17 c'])∧IJ W W w'∧Rd w'.heap.size w' (zai (za1 t a b).hs.reverse) (II a' 17 c')):=fun v W r=>by
  have hh:=iTurned_any _ hok v W r;rw[zcv] at hh;exact hh
 have CDe:Hid (∀ (v:Value) (W:World),IJ w w W→Rd W W (zai (zb3 t a b).hs) v→Calls Tryz.prog 163 #[.agg #[I (zb3 t a b).d,I (zb3 t a b).f,I (zb3 t a b).l,v],I f] W fun e w'=>e=.returned (.tuple #[I (deyP (zb3 t a b) f),I 0])∧IJ W W w'):=fun v W hW r=>iDey_any _ hoo v f f0 f1 W r (L.lib.mono hW)
 have HEnds:Hid (∀ k:Nat,k<2→(∀ W:World,IJ w w W→Calls Tryz.prog 165 #[.agg #[I t.step,I t.width,I t.height,v3,v4],.agg #[I (if k=0 then a else b).place.x,I (if k=0 then a else b).place.y]] W fun e w'=>e=.returned (I (cAt t (if k=0 then a else b).place))∧IJ W W w')∧(∀ W:World,IJ w w W→Calls Tryz.prog 164 #[I (cAt t (if k=0 then a else b).place),I f,I (if k=0 then a else b).above] W fun e w'=>e=.returned (I (cluI (cAt t (if k=0 then a else b).place) f (if k=0 then a else b).above))∧IJ W W w')):=by
  show ∀ k:Nat,k<2→_
  intro k hk;have key:∀ q:DEnd,inT t q.place→endP q→(∀ W:World,IJ w w W→Calls Tryz.prog 165 #[.agg #[I t.step,I t.width,I t.height,v3,v4],.agg #[I q.place.x,I q.place.y]] W fun e w'=>e=.returned (I (cAt t q.place))∧IJ W W w')∧(∀ W:World,IJ w w W→Calls Tryz.prog 164 #[I (cAt t q.place),I f,I q.above] W fun e w'=>e=.returned (I (cluI (cAt t q.place) f q.above))∧IJ W W w'):=fun q hq he=>by
   have hc:=T.cs (zdt t.step q.place.y*t.width+zdt t.step q.place.x).toNat;obtain⟨n,hn⟩:=Int.eq_ofNat_of_zero_le (show 0≤cAt t q.place from hc.1);have hc2:cAt t q.place≤7:=hc.2;refine⟨fun W hW=>iClutter_any t q.place T hq v3 v4 W ((r4.below hW).mono hW.size),fun W hW=>?_⟩;rw[hn];exact iClut_any n O f q.above f0 f1 (by unfold endP at he;omega) W (L.mono hW)
  by_cases h0:k=0
  ·rw[if_pos h0];exact key a pa ea
  ·rw[if_neg h0];exact key b pb eb
 have HEa:=J (HEnds.out 0 O);have HEb:=J (HEnds.out 1 O);simp only[if_pos,if_neg (show ¬ (1:Nat)=0 by omega)] at HEa HEb;clear HEnds;have bF:=freeI_bd (f:=f) (d:=zbp a.place b.place) f1 hdb.2;have bG:=gasI_bd (f:=f) hdb.1 hdb.2;have bD:=deyP_bd (zb3 t a b) f;have bA:=cluI_bd (c:=cAt t a.place) (f:=f) (above:=a.above) (by unfold endP at ea;omega);have bB:=cluI_bd (c:=cAt t b.place) (f:=f) (above:=b.above) (by unfold endP at eb;omega);obtain⟨bF0,bF1⟩:=bF;obtain⟨bG0,bG1⟩:=bG;obtain⟨bD0,bD1⟩:=bD;obtain⟨bA0,bA1⟩:=bA;obtain⟨bB0,bB1⟩:=bB;have HPT:Hid (pathT t a b f=zer f (zbp a.place b.place)+gasI f (zbp a.place b.place)+deyP (zb3 t a b) f+(cluI (cAt t a.place) f a.above+cluI (cAt t b.place) f b.above)):=rfl;have HPD:Hid ((za1 t a b).d=zbp a.place b.place):=rfl;have HPO:Hid (zb3 t a b=if befB a.place b.place=true then za1 t a b else turnP (za1 t a b)):=by
  show _=_
  unfold zb3
  cases hB:befB a.place b.place with
  | true=>rfl
  | false=>rw[turnP_prof hB]
 obtain⟨a3,c3_,e3,_,_,_⟩:=r3.ints;subst e3;obtain⟨a4,c4_,e4,_,_,_⟩:=r4.ints;subst e4;clear hptA hptB hok hoo r3 r4 L T pa pb ea eb hd hdb hd1;generalize cluI (cAt t a.place) f a.above=KA at *;generalize cluI (cAt t b.place) f b.above=KB at *;generalize cAt t a.place=QA_ at *;generalize cAt t b.place=QB_ at *;generalize pathT t a b f=PT at *;generalize clrB (za1 t a b) f 600=CL at *;generalize deyP (zb3 t a b) f=DE at *;generalize zer f (zbp a.place b.place)=FR at *;generalize gasI f (zbp a.place b.place)=GA at *;generalize zdz t a b=EL at *;generalize zdh a.place b.place=BE at *;generalize zbp a.place b.place=DI at *;obtain⟨W0,hW0,b0_,z0,k0,k1,k2,k3⟩:=boxes4 w #[I t.step,I t.width,I t.height,II a3 t.heights.length c3_,II a4 t.clutter.length c4_] 37 #[I a.place.x,I a.place.y,I a.above] 68 #[I b.place.x,I b.place.y,I b.above] 68 #[I 0,I 0,I 0,I 0,I 0,I 0,I 0,I 0,.bool false] 184;have HW0:=J hW0;have B0:=J b0_;have HD:=J (fun (W:World) (hW:IJ W0 W0 W)=>bx5 k0 hW <| bx3 k1 hW <| bx3 k2 hW <| by9 k3 hW);have HB:Hid (IJ W0 W0 W0):=Below.refl _ _;have K3:=J k3;clear k0 k1 k2 k3 hW0 b0_;go_enter Tryz.func125,Tryz.ntmps125;go_upto_region 1 with (fail);rw[HW0.out];obtain⟨t0,t1,t2,t3,t4,t5,t6,t7,t8,t9,t10,t11,t12,t13,t14,t15,t16,t17,t18,t19⟩:=HD.out _ HB.out;go_upto_region 2 with (go_at_call 156;with_reducible refine (CPr.out _ B0.out).mono ?_;rintro e v1 ⟨ap,cp,rfl,hb1,hr1⟩);clear t0 t1 t2 t3 t4 t5 t6 t7 t8 t9 t10 t11 t12 t13 t14 t15 t16 t17 t18 t19;have RP0:=J hr1;have BV:=btr B0 hb1;have zv:W0.heap.size≤v1.heap.size:=hb1.size;have HDV:Hid (∀ W:World,IJ v1 v1 W→_):=fun W hW=>HD.out W (hb1.trans (hW.mono hb1.size))
 have KR:=J (bkB K3.out hb1 O);clear hr1 hb1 HD HB K3 CPr;obtain⟨v2,hW2,hb2,z2,k2⟩:=zax v1 #[I (za1 t a b).d,I (za1 t a b).f,I (za1 t a b).l,II ap 17 cp] 211;rw[hW2];have K9:=J k2;have B2:Hid (IJ v1 v1 v2):=hb2;clear hW2 hb2 k2;have HB2:Hid (IJ v2 v2 v2):=Below.refl _ _;have zv2:v1.heap.size+1≤v2.heap.size:=z2;have HD2:Hid (∀ W:World,IJ v2 v2 W→(W.cell? ⟨v1,0,none⟩=some (I DI)∧W.cell? ⟨v1,1,none⟩=some (I (za1 t a b).f)∧W.cell? ⟨v1,2,none⟩=some (I (za1 t a b).l)∧W.cell? ⟨v1,3,none⟩=some (II ap 17 cp)∧W.cell? ⟨w,0,none⟩=some (I t.step)∧W.cell? ⟨w,1,none⟩=some (I t.width)∧W.cell? ⟨w,2,none⟩=some (I t.height)∧W.cell? ⟨w,3,none⟩=some (II a3 t.heights.length c3_)∧W.cell? ⟨w,4,none⟩=some (II a4 t.clutter.length c4_)∧W.cell? ⟨w.heap.size+1,0,none⟩=some (I a.place.x)∧W.cell? ⟨w.heap.size+1,1,none⟩=some (I a.place.y)∧W.cell? ⟨w.heap.size+1,2,none⟩=some (I a.above)∧W.cell? ⟨w.heap.size+2,0,none⟩=some (I b.place.x)∧W.cell? ⟨w.heap.size+2,1,none⟩=some (I b.place.y)∧W.cell? ⟨w.heap.size+2,2,none⟩=some (I b.above)∧W.cell? ⟨w.heap.size+3,0,none⟩=some (I 0)∧W.cell? ⟨w.heap.size+3,1,none⟩=some (I 0)∧W.cell? ⟨w.heap.size+3,2,none⟩=some (I 0)∧W.cell? ⟨w.heap.size+3,3,none⟩=some (I 0)∧W.cell? ⟨w.heap.size+3,4,none⟩=some (I 0)∧W.cell? ⟨w.heap.size+3,5,none⟩=some (I 0)∧W.cell? ⟨w.heap.size+3,6,none⟩=some (I 0)∧W.cell? ⟨w.heap.size+3,7,none⟩=some (I 0)∧W.cell? ⟨w.heap.size+3,8,none⟩=some (.bool false))):=fun W hW=>by
  obtain⟨t0,t1,t2,t3,t4,t5,t6,t7,t8,t9,t10,t11,t12,t13,t14,t15,t16,t17,t18,t19⟩:=HDV.out W (B2.out.trans (hW.mono B2.out.size));exact⟨(bat hW v1.heap.size _ O).trans ((bkC (v:=I (za1 t a b).d) K9.out 0 rfl).trans (by rw[HPD.out])),(bat hW v1.heap.size _ O).trans (bkC K9.out 1 rfl),(bat hW v1.heap.size _ O).trans (bkC K9.out 2 rfl),(bat hW v1.heap.size _ O).trans (bkC K9.out 3 rfl),t0,t1,t2,t3,t4,t5,t6,t7,t8,t9,t10,t11,t12,t13,t14,t15,t16,t17,t18,t19⟩
 go_cut [10] (fun s10 wx=>∃ g:Nat,s10=.pointer (some ⟨g,0,none⟩)∧wx.heap[g]? = some (.cells #[I DI,I BE,I EL,I 0,I 0,I 0,I 0,I 0,.bool false] 184 (0,0))∧IJ v2 v2 wx∧v2.heap.size≤g∧g<wx.heap.size)
 case first =>
  refine zap 14 (.read 0 (.read 1 (.read 2 (.read 3 (.read 4 (.read 5 (.read 7 (.read 8 (.read 9 (.two 6 12 (.two 10 12 (.read 11 (.one 12 (.one 13 .nil))) (.one 10 (.read 11 (.one 13 .nil)))) (.one 6 (.one 10 (.read 11 (.one 13 .nil)))))))))))))) (fun W=>IJ v2 v2 W) OJ OJ (HB2.out.drew) ?_;have YB:=J (HB2.out.drew);have Yz:v2.heap.size≤v2.drew.heap.size:=Nat.le_refl _;generalize v2.drew=Y at *
  iterate 9
   refine zag (v:=?_) rfl (fun _ _ _ h=>h) ?_ ?_
   rotate_left
   ·(intro W hSW;(try dsimp only at hSW);obtain⟨y0,y1,y2,y3,t0,t1,t2,t3,t4,t5,t6,t7,t8,t9,t10,t11,t12,t13,t14,t15,t16,t17,t18,t19⟩:=HD2.out W hSW;(go_simp<;>with_reducible rfl))
   (try simp only[Act.put,IQ,IZ,OI])
  refine za0 ?_ ?_;refine zae rfl (fun K hK=>?_);go_simp;refine ((fun W (hW:IJ v2 v2 W)=>CBe.out W (BV.out.trans ((B2.out.trans (hW.mono B2.out.size)).mono BV.out.size))) _ YB.out).mono ?_;rintro e Y1 ⟨rfl,hb1⟩;have YB1:=btr YB hb1;refine hK.out _ _ YB1.out ?_;clear hK K;have bs1:=hb1.size;clear hb1;refine za0 ?_ ?_;refine zae rfl (fun K hK=>?_);go_simp;refine ((fun W (hW:IJ v2 v2 W)=>CEl.out W (BV.out.trans ((B2.out.trans (hW.mono B2.out.size)).mono BV.out.size))) _ YB1.out).mono ?_;rintro e Y2 ⟨rfl,hb2⟩;have YB2:=btr YB1 hb2;refine hK.out _ _ YB2.out ?_;clear hK K;have bs2:=hb2.size;clear hb2;refine zag (v:=?_) rfl (fun _ _ _ h=>h) ?_ ?_
  rotate_left
  ·(intro W hSW;(try dsimp only at hSW);obtain⟨y0,y1,y2,y3,t0,t1,t2,t3,t4,t5,t6,t7,t8,t9,t10,t11,t12,t13,t14,t15,t16,t17,t18,t19⟩:=HD2.out W hSW;(go_simp<;>with_reducible rfl))
  (try simp only[Act.put,IQ,IZ,OI])
  refine zaf ?_;refine zae rfl (fun K hK=>?_);go_simp;obtain⟨Y3,hW3,hb3,zl3,hk3⟩:=zax Y2 #[I 0,I 0,I 0,I 0,I 0,I 0,I 0,I 0,.bool false] 184;rw[hW3];have Ykx3:=J hk3;have YB3:=btr YB2 hb3;refine hK.out _ _ YB3.out ?_;have bs3:=hb3.size;clear hK K hW3 hk3 hb3;refine zaf ?_;refine zae rfl (fun K hK=>?_);obtain⟨g0,g1,g2,g3,g4,g5,g6,g7,g8,fz⟩:=bz9 Ykx3.out;go_simp;obtain⟨Y4,hW4,Ykx4,bs4,ho4,hl4⟩:=zca Ykx3 [I DI,I BE,I EL,I 0,I 0,I 0,I 0,I 0,.bool false] rfl;simp only[zb1] at hW4;rw[hW4];have YB4:=J (hl4.out v2 (by have:=YB3.out.size;omega) YB3.out);refine hK.out _ _ YB4.out ?_;clear hK K fz hW4 ho4 hl4 g0 g1 g2 g3 g4 g5 g6 g7 g8;refine zak ?_;simp only[List.drop_succ_cons,List.drop_zero];go_wp2_with fail;go_meet;exact⟨_,rfl,Ykx4.out,YB4.out,O,O⟩;refine zae rfl (fun K hK=>?_);go_simp;obtain⟨Y5,hW5,hb5,zl5,hk5⟩:=zax Y1 #[I 0,I 0,I 0,I 0,I 0,I 0,I 0,I 0,.bool false] 184;rw[hW5];have Ykx5:=J hk5;have YB5:=btr YB1 hb5;refine hK.out _ _ YB5.out ?_;have bs5:=hb5.size;clear hK K hW5 hk5 hb5;refine zaf ?_;refine zae rfl (fun K hK=>?_);go_simp;refine ((fun W (hW:IJ v2 v2 W)=>CEl.out W (BV.out.trans ((B2.out.trans (hW.mono B2.out.size)).mono BV.out.size))) _ YB5.out).mono ?_;rintro e Y6 ⟨rfl,hb6⟩;have YB6:=btr YB5 hb6;refine hK.out _ _ YB6.out ?_;clear hK K;have bs6:=hb6.size;have Ykx6:=bkH Ykx5 hb6;clear hb6;refine zag (v:=?_) rfl (fun _ _ _ h=>h) ?_ ?_
  rotate_left
  ·(intro W hSW;(try dsimp only at hSW);obtain⟨y0,y1,y2,y3,t0,t1,t2,t3,t4,t5,t6,t7,t8,t9,t10,t11,t12,t13,t14,t15,t16,t17,t18,t19⟩:=HD2.out W hSW;(go_simp<;>with_reducible rfl))
  (try simp only[Act.put,IQ,IZ,OI])
  refine zaf ?_;refine zae rfl (fun K hK=>?_);obtain⟨g0,g1,g2,g3,g4,g5,g6,g7,g8,fz⟩:=bz9 Ykx6.out;go_simp;obtain⟨Y7,hW7,Ykx7,bs7,ho7,hl7⟩:=zca Ykx6 [I DI,I BE,I EL,I 0,I 0,I 0,I 0,I 0,.bool false] rfl;simp only[zb1] at hW7;rw[hW7];have YB7:=J (hl7.out v2 (by have:=YB6.out.size;omega) YB6.out);refine hK.out _ _ YB7.out ?_;clear hK K fz hW7 ho7 hl7 g0 g1 g2 g3 g4 g5 g6 g7 g8;refine zak ?_;simp only[List.drop_succ_cons,List.drop_zero];go_wp2_with fail;go_meet;exact⟨_,rfl,Ykx7.out,YB7.out,O,O⟩;refine zae rfl (fun K hK=>?_);go_simp;obtain⟨Y8,hW8,hb8,zl8,hk8⟩:=zax Y #[I 0,I 0,I 0,I 0,I 0,I 0,I 0,I 0,.bool false] 184;rw[hW8];have Ykx8:=J hk8;have YB8:=btr YB hb8;refine hK.out _ _ YB8.out ?_;have bs8:=hb8.size;clear hK K hW8 hk8 hb8;refine zaf ?_;refine zae rfl (fun K hK=>?_);go_simp;refine ((fun W (hW:IJ v2 v2 W)=>CBe.out W (BV.out.trans ((B2.out.trans (hW.mono B2.out.size)).mono BV.out.size))) _ YB8.out).mono ?_;rintro e Y9 ⟨rfl,hb9⟩;have YB9:=btr YB8 hb9;refine hK.out _ _ YB9.out ?_;clear hK K;have bs9:=hb9.size;have Ykx9:=bkH Ykx8 hb9;clear hb9;refine zaf ?_;refine zae rfl (fun K hK=>?_);go_simp;refine ((fun W (hW:IJ v2 v2 W)=>CEl.out W (BV.out.trans ((B2.out.trans (hW.mono B2.out.size)).mono BV.out.size))) _ YB9.out).mono ?_;rintro e Y10 ⟨rfl,hb10⟩;have YB10:=btr YB9 hb10;refine hK.out _ _ YB10.out ?_;clear hK K;have bs10:=hb10.size;have Ykx10:=bkH Ykx9 hb10;clear hb10;refine zag (v:=?_) rfl (fun _ _ _ h=>h) ?_ ?_
  rotate_left
  ·(intro W hSW;(try dsimp only at hSW);obtain⟨y0,y1,y2,y3,t0,t1,t2,t3,t4,t5,t6,t7,t8,t9,t10,t11,t12,t13,t14,t15,t16,t17,t18,t19⟩:=HD2.out W hSW;(go_simp<;>with_reducible rfl))
  (try simp only[Act.put,IQ,IZ,OI])
  refine zaf ?_;refine zae rfl (fun K hK=>?_);obtain⟨g0,g1,g2,g3,g4,g5,g6,g7,g8,fz⟩:=bz9 Ykx10.out;go_simp;obtain⟨Y11,hW11,Ykx11,bs11,ho11,hl11⟩:=zca Ykx10 [I DI,I BE,I EL,I 0,I 0,I 0,I 0,I 0,.bool false] rfl;simp only[zb1] at hW11;rw[hW11];have YB11:=J (hl11.out v2 (by have:=YB10.out.size;omega) YB10.out);refine hK.out _ _ YB11.out ?_;clear hK K fz hW11 ho11 hl11 g0 g1 g2 g3 g4 g5 g6 g7 g8;refine zak ?_;simp only[List.drop_succ_cons,List.drop_zero];go_wp2_with fail;go_meet;exact⟨_,rfl,Ykx11.out,YB11.out,O,O⟩
 obtain⟨g,rfl,kg_,hbW,hg1,hg2⟩:=hcut;generalize wc=v3 at *;have KX:=J kg_;have HB3:=J hbW;clear kg_ hbW CBe CEl;go_upto_region 3 with (fail);refine zap 12 (.read 0 (.read 1 (.read 2 (.read 4 (.read 5 (.read 6 (.one 3 (.read 8 (.one 7 (.one 9 (.read 10 (.one 11 .nil)))))))))))) (fun W=>IJ v2 v2 W) OJ OJ (HB3.out.drew) ?_;have ZB:=J (HB3.out.drew);have Zz:v3.heap.size≤v3.drew.heap.size:=Nat.le_refl _;have Zkx:Hid (v3.drew.heap[g]? = some (.cells #[I DI,I BE,I EL,I 0,I 0,I 0,I 0,I 0,.bool false] 184 (0,0))):=KX.out;generalize v3.drew=Z at *
 iterate 6
  refine zag (v:=?_) rfl (fun _ _ _ h=>h) ?_ ?_
  rotate_left
  ·(intro W hSW;(try dsimp only at hSW);obtain⟨y0,y1,y2,y3,t0,t1,t2,t3,t4,t5,t6,t7,t8,t9,t10,t11,t12,t13,t14,t15,t16,t17,t18,t19⟩:=HD2.out W hSW;(go_simp<;>with_reducible rfl))
  (try simp only[Act.put,IQ,IZ,OI])
 refine zaf ?_;refine zae rfl (fun K hK=>?_);go_simp;refine ((fun W (hW:IJ v2 v2 W)=>CFr.out W (BV.out.trans ((B2.out.trans (hW.mono B2.out.size)).mono BV.out.size))) _ ZB.out).mono ?_;rintro e Z1 ⟨rfl,hb1⟩;have ZB1:=btr ZB hb1;refine hK.out _ _ ZB1.out ?_;clear hK K;have bs1:=hb1.size;have Zkx1:=bkH Zkx hb1;clear hb1;refine zag (v:=?_) rfl (fun _ _ _ h=>h) ?_ ?_
 rotate_left
 ·(intro W hSW;(try dsimp only at hSW);obtain⟨y0,y1,y2,y3,t0,t1,t2,t3,t4,t5,t6,t7,t8,t9,t10,t11,t12,t13,t14,t15,t16,t17,t18,t19⟩:=HD2.out W hSW;(go_simp<;>with_reducible rfl))
 (try simp only[Act.put,IQ,IZ,OI])
 refine zaf ?_;refine zae rfl (fun K hK=>?_);go_simp;refine ((fun W (hW:IJ v2 v2 W)=>CGa.out W (BV.out.trans ((B2.out.trans (hW.mono B2.out.size)).mono BV.out.size))) _ ZB1.out).mono ?_;rintro e Z2 ⟨rfl,hb2⟩;have ZB2:=btr ZB1 hb2;refine hK.out _ _ ZB2.out ?_;clear hK K;have bs2:=hb2.size;have Zkx2:=bkH Zkx1 hb2;clear hb2;refine zaf ?_;refine zae rfl (fun K hK=>?_);have g0:=bkC (v:=I 0) Zkx2.out 3 rfl;have fz:=bkF Zkx2.out;go_simp;obtain⟨Z3,hW3,hk3,bs3,ho3,hl3⟩:=zds Zkx2 3 (I FR);rw[hW3];have Zkx3:Hid (Z3.heap[g]? = some (.cells #[I DI,I BE,I EL,I FR,I 0,I 0,I 0,I 0,.bool false] 184 (0,0))):=by show _=_;simpa using hk3.out
 clear hk3;have ZB3:=J (hl3.out v2 (by have:=ZB2.out.size;omega) ZB2.out);refine hK.out _ _ ZB3.out ?_;clear hK K fz hW3 ho3 hl3 g0;refine zag (v:=?_) rfl (fun _ _ _ h=>h) ?_ ?_
 rotate_left
 ·(intro W hSW;(try dsimp only at hSW);obtain⟨y0,y1,y2,y3,t0,t1,t2,t3,t4,t5,t6,t7,t8,t9,t10,t11,t12,t13,t14,t15,t16,t17,t18,t19⟩:=HD2.out W hSW;(go_simp<;>with_reducible rfl))
 (try simp only[Act.put,IQ,IZ,OI])
 refine zaf ?_;refine zae rfl (fun K hK=>?_);have g0:=bkC (v:=I 0) Zkx3.out 4 rfl;have fz:=bkF Zkx3.out;go_simp;obtain⟨Z4,hW4,hk4,bs4,ho4,hl4⟩:=zds Zkx3 4 (I GA);rw[hW4];have Zkx4:Hid (Z4.heap[g]? = some (.cells #[I DI,I BE,I EL,I FR,I GA,I 0,I 0,I 0,.bool false] 184 (0,0))):=by show _=_;simpa using hk4.out
 clear hk4;have ZB4:=J (hl4.out v2 (by have:=ZB3.out.size;omega) ZB3.out);refine hK.out _ _ ZB4.out ?_;clear hK K fz hW4 ho4 hl4 g0;refine zak ?_;simp only[List.drop_succ_cons,List.drop_zero];skip;have BB1:=J (B2.out.trans (ZB4.out.mono B2.out.size));have K9b:=J (bkB K9.out ZB4.out O);have zc:v2.heap.size≤(Z4).heap.size:=ZB4.out.size;generalize Z4=v4 at *;obtain⟨t0,t1,t2,t3,t4,t5,t6,t7,t8,t9,t10,t11,t12,t13,t14,t15,t16,t17,t18,t19⟩:=HDV.out _ BB1.out;obtain⟨q0,q1,q2,q3,qf⟩:=bz4 K9b.out;go_upto_region 5 with (go_at_call 161;with_reducible refine (CCl.out _ _ (BV.out.trans (BB1.out.mono BV.out.size)) ((RP0.out.below BB1.out).mono BB1.out.size)).mono ?_;rintro e v5 ⟨rfl,hb_⟩;(have bbU1:=btr BB1 hb_);(have bsU1:=hb_.size);(have kxU1:=bkH Zkx4 hb_);(have k9U1:=bkH K9b hb_);(clear hb_);have x8:=bkC (v:=.bool false) kxU1.out 8 rfl;have xf:=bkF kxU1.out);clear t0 t1 t2 t3 t4 t5 t6 t7 t8 t9 t10 t11 t12 t13 t14 t15 t16 t17 t18 t19;obtain⟨v6,hWU2,hkU2,bsU2,hoU2,hlU2⟩:=zds kxU1 8 (.bool CL);rw[hWU2];have kxU2:Hid (v6.heap[g]? = some (.cells #[I DI,I BE,I EL,I FR,I GA,I 0,I 0,I 0,.bool CL] 184 (0,0))):=by show _=_;simpa using hkU2.out
 clear hkU2;have bbU2:=J (hlU2.out v1 (by have:=bbU1.out.size;omega) bbU1.out);have k9U2:=J ((hoU2.out _ O).trans k9U1.out);clear hWU2 hoU2 hlU2;obtain⟨t0,t1,t2,t3,t4,t5,t6,t7,t8,t9,t10,t11,t12,t13,t14,t15,t16,t17,t18,t19⟩:=HDV.out _ bbU2.out;go_cut [67] (fun s67 wx=>s67=.bool (!befB a.place b.place)∧v6=wx)
 case first =>
  by_cases c1:b.place.x<a.place.x
  ·have C1:=J c1
   have e1:decide (b.place.x<a.place.x)=true:=decide_eq_true c1;clear c1;go_wp2_with fail;go_meet;exact⟨by rw[← zfb,decide_eq_true C1.out,Bool.true_or],rfl⟩
  have C1:=J c1;have e1:decide (b.place.x<a.place.x)=false:=decide_eq_false c1;clear c1
  by_cases c2:a.place.x=b.place.x
  ·have e2:(b.place.x == a.place.x)=true:=beq_iff_eq.2 c2.symm
   have C2:=J c2;clear c2;go_wp2_with fail;go_meet;exact⟨by rw[← zfb,decide_eq_false (p:=b.place.x<a.place.x) (by have:=C1.out;omega),decide_eq_true C2.out,Bool.true_and,Bool.false_or],rfl⟩
  ·have e2:(b.place.x == a.place.x)=false:=beq_eq_false_iff_ne.2 (fun e=>c2 e.symm)
   have C2:=J c2;clear c2;go_wp2_with fail;go_meet;exact⟨by rw[← zfb,decide_eq_false (p:=b.place.x<a.place.x) (by have:=C1.out;omega),decide_eq_false C2.out,Bool.false_and,Bool.false_or],rfl⟩
 obtain⟨rfl,rfl⟩:=hcut;generalize hNB:(!befB a.place b.place)=nb at *;have HNB:=J hNB;clear hNB;obtain⟨t0,t1,t2,t3,t4,t5,t6,t7,t8,t9,t10,t11,t12,t13,t14,t15,t16,t17,t18,t19⟩:=HDV.out _ bbU2.out;go_upto_if 67 with (fail);have HZ6:v1.heap.size<v6.heap.size:=O
 go_cut [] (fun wx=>∃ v9:Value,wx.heap[v1.heap.size]? = some (.cells #[I (zb3 t a b).d,I (zb3 t a b).f,I (zb3 t a b).l,v9] 211 (0,0))∧Rd wx wx (zai (zb3 t a b).hs) v9∧wx.heap[g]? = some (.cells #[I DI,I BE,I EL,I FR,I GA,I 0,I 0,I 0,.bool CL] 184 (0,0))∧IJ v1 v1 wx∧v6.heap.size≤wx.heap.size)
 case first =>
  cases nb with
  | false =>
   have hpo:zb3 t a b=za1 t a b:=HPO.out.trans (if_pos (by have h:=HNB.out;rwa [Bool.not_eq_false'] at h));have HPO1:=J hpo;clear hpo;go_wp2_with fail;go_meet;rw[HPO1.out];exact⟨II ap 17 cp,k9U2.out,((RP0.out.below bbU2.out).mono bbU2.out.size),kxU2.out,bbU2.out,Nat.le_refl _⟩
  | true =>
   have hpo:zb3 t a b=turnP (za1 t a b):=HPO.out.trans (if_neg (by have h:=HNB.out;rw[Bool.not_eq_true'] at h;rw[h];decide));have HPO1:=J hpo;clear hpo t0 t1 t2 t3 t4 t5 t6 t7 t8 t9 t10 t11 t12 t13 t14 t15 t16 t17 t18 t19;obtain⟨q0,q1,q2,q3,qf⟩:=bz4 k9U2.out;go_wp2_with (go_at_call 162;with_reducible refine (CTu.out _ _ ((RP0.out.below bbU2.out).mono bbU2.out.size)).mono ?_;rintro e v7 ⟨aq,cq,rfl,hb_,hr_⟩;(have bbU3:=btr bbU2 hb_);(have bsU3:=hb_.size);(have kxU3:=bkH kxU2 hb_);(have k9U3:=bkH k9U2 hb_);(clear hb_);(have RQ:=J hr_);clear hr_ q0 q1 q2 q3 qf;(have q0:=bkC (v:=I (za1 t a b).d) k9U3.out 0 rfl);(have q1:=bkC (v:=I (za1 t a b).f) k9U3.out 1 rfl);(have q2:=bkC (v:=I (za1 t a b).l) k9U3.out 2 rfl);(have q3:=bkC (v:=II ap 17 cp) k9U3.out 3 rfl);(have qf:=bkF k9U3.out));go_meet;have kf_:(((((v7.setCell ⟨v1,0,none⟩ (I (za1 t a b).d)).setCell ⟨v1,1,none⟩ (I (za1 t a b).l)).setCell ⟨v1,2,none⟩ (I (za1 t a b).f)).setCell ⟨v1,3,none⟩ (II aq 17 cq))).heap[v1.heap.size]? = some (.cells #[I (za1 t a b).d,I (za1 t a b).l,I (za1 t a b).f,II aq 17 cq] 211 (0,0)):=by
    have h_:=(bkS (bkS (bkS (bkS k9U3.out 0 (I (za1 t a b).d)) 1 (I (za1 t a b).l)) 2 (I (za1 t a b).f)) 3 (II aq 17 cq))
    simpa using h_
   have k9U4:=J kf_;clear kf_;have bbU4:=J ((((bbU3.out.setCell (p:=⟨v1,0,none⟩) (by show v1.heap.size≤v1.heap.size;have:=bbU3.out.size;omega) (I (za1 t a b).d)).setCell (p:=⟨v1,1,none⟩) (by show v1.heap.size≤v1.heap.size;have:=bbU3.out.size;omega) (I (za1 t a b).l)).setCell (p:=⟨v1,2,none⟩) (by show v1.heap.size≤v1.heap.size;have:=bbU3.out.size;omega) (I (za1 t a b).f)).setCell (p:=⟨v1,3,none⟩) (by show v1.heap.size≤v1.heap.size;have:=bbU3.out.size;omega) (II aq 17 cq));have bsU4:v7.heap.size≤(((((v7.setCell ⟨v1,0,none⟩ (I (za1 t a b).d)).setCell ⟨v1,1,none⟩ (I (za1 t a b).l)).setCell ⟨v1,2,none⟩ (I (za1 t a b).f)).setCell ⟨v1,3,none⟩ (II aq 17 cq))).heap.size:=by simp only[zac];exact Nat.le_refl _
   have kxU4:=J (bkO (bkO (bkO (bkO kxU3.out (p:=⟨v1,0,none⟩) (by show g≠v1.heap.size;omega) (I (za1 t a b).d)) (p:=⟨v1,1,none⟩) (by show g≠v1.heap.size;omega) (I (za1 t a b).l)) (p:=⟨v1,2,none⟩) (by show g≠v1.heap.size;omega) (I (za1 t a b).f)) (p:=⟨v1,3,none⟩) (by show g≠v1.heap.size;omega) (II aq 17 cq));rw[HPO1.out];refine⟨II aq 17 cq,k9U4.out,?_,kxU4.out,bbU4.out,by simp only[zac];omega⟩;have hlen:(turnP (za1 t a b)).hs.length=17:=by show (za1 t a b).hs.reverse.length=17;rw[List.length_reverse,zcv]
   have ra:=rd_apart (w':=((((v7.setCell ⟨v1,0,none⟩ (I (za1 t a b).d)).setCell ⟨v1,1,none⟩ (I (za1 t a b).l)).setCell ⟨v1,2,none⟩ (I (za1 t a b).f)).setCell ⟨v1,3,none⟩ (II aq 17 cq))) RQ.out k9U3.out (by show 4<(turnP (za1 t a b)).hs.length;omega) (fun x hx=>by
    simp only[Below.heap_setCell _ _ _ _ (show x≠(⟨v1,0,none⟩:Addr).block from hx),Below.heap_setCell _ _ _ _ (show x≠(⟨v1,1,none⟩:Addr).block from hx),Below.heap_setCell _ _ _ _ (show x≠(⟨v1,2,none⟩:Addr).block from hx),Below.heap_setCell _ _ _ _ (show x≠(⟨v1,3,none⟩:Addr).block from hx)])
   exact ra.mono (by simp only[zac];omega)
 obtain⟨v9,k9_,r9_,kx_,hbW,z8⟩:=hcut;generalize wc=v8 at *;have K9c:=J k9_;have R9:=J r9_;have KXc:=J kx_;have BB8:=J hbW;clear k9_ r9_ kx_ hbW CTu t0 t1 t2 t3 t4 t5 t6 t7 t8 t9 t10 t11 t12 t13 t14 t15 t16 t17 t18 t19;obtain⟨q0,q1,q2,q3,qf⟩:=bz4 K9c.out;go_upto_region 8 with (go_at_call 163;with_reducible refine (CDe.out _ _ (BV.out.trans (BB8.out.mono BV.out.size)) R9.out).mono ?_;rintro e v10 ⟨rfl,hb_⟩;(have bbT1:=btr BB8 hb_);(have bsT1:=hb_.size);(have kxT1:=bkH KXc hb_);(have k9T1:=bkH K9c hb_);(clear hb_);(have x5:=bkC (v:=I 0) kxT1.out 5 rfl);(have xf:=bkF kxT1.out));clear CDe R9 q0 q1 q2 q3 qf;obtain⟨v11,hWT2,hkT2,bsT2,hoT2,hlT2⟩:=zds kxT1 5 (I DE);rw[hWT2];have kxT2:Hid (v11.heap[g]? = some (.cells #[I DI,I BE,I EL,I FR,I GA,I DE,I 0,I 0,.bool CL] 184 (0,0))):=by show _=_;simpa using hkT2.out
 clear hkT2;have bbT2:=J (hlT2.out v1 (by have:=bbT1.out.size;omega) bbT1.out);have k9T2:=J ((hoT2.out _ O).trans k9T1.out);clear hWT2 hoT2 hlT2;obtain⟨t0,t1,t2,t3,t4,t5,t6,t7,t8,t9,t10,t11,t12,t13,t14,t15,t16,t17,t18,t19⟩:=HDV.out _ bbT2.out;have zv11:v1.heap.size≤v11.heap.size:=bbT2.out.size;go_wp2;clear t0 t1 t2 t3 t4 t5 t6 t7 t8 t9 t10 t11 t12 t13 t14 t15 t16 t17 t18 t19;go_loopw [80] (fun ki wr=>∃ (k cl:Int),(k=0∧0=cl∨k=1∧KA=cl∨k=2∧KA+KB=cl)∧ki=I k∧wr.heap[g]? = some (.cells #[I DI,I BE,I EL,I FR,I GA,I DE,I cl,I 0,.bool CL] 184 (0,0))∧IJ v1 v1 wr∧v11.heap.size≤wr.heap.size) (fun ki wr=>2-(intOf ki).toNat)
 case atStart=>exact⟨0,0,Or.inl ⟨rfl,rfl⟩,rfl,kxT2.out,bbT2.out,Nat.le_refl _⟩
 case round =>
  obtain⟨k,cl,hor,rfl,kx_,bw_,zw⟩:=hrel;have KXr:=J kx_;have BR:=J bw_;clear kx_ bw_
  rcases hor with ⟨rfl,rfl⟩|⟨rfl,rfl⟩|⟨rfl,rfl⟩
  ·have hix:∀ w:World,(Instr.index 219 (.agg #[I a.place.x,I a.place.y,I a.above,I b.place.x,I b.place.y,I b.above]) (I 0)).run Tryz.prog w=.ok (.agg #[I a.place.x,I a.place.y,I a.above]) w:=fun _=>by kernel_rfl
   go_upto_region 11 with (fail);clear hix;have hwa:IntKind.i64.wrap KA=KA:=IntWalk.i64_in _ O;obtain⟨r1,hWL1,hbL1,zL1,hkL1⟩:=zax wr #[I a.place.x,I a.place.y,I a.above] 68;rw[hWL1];have bbL1:=btr BR hbL1;have kdL1:=J hkL1;have bsL1:=hbL1.size;have kxL1:=bkH KXr hbL1;clear hWL1 hbL1 hkL1;have HDR:Hid (∀ W:World,IJ r1 r1 W→(W.cell? ⟨wr,0,none⟩=some (I a.place.x)∧W.cell? ⟨wr,1,none⟩=some (I a.place.y)∧W.cell? ⟨wr,2,none⟩=some (I a.above)∧W.cell? ⟨g,6,none⟩=some (I 0)∧W.cell? ⟨w,0,none⟩=some (I t.step)∧W.cell? ⟨w,1,none⟩=some (I t.width)∧W.cell? ⟨w,2,none⟩=some (I t.height)∧W.cell? ⟨w,3,none⟩=some (II a3 t.heights.length c3_)∧W.cell? ⟨w,4,none⟩=some (II a4 t.clutter.length c4_)∧W.cell? ⟨w.heap.size+1,0,none⟩=some (I a.place.x)∧W.cell? ⟨w.heap.size+1,1,none⟩=some (I a.place.y)∧W.cell? ⟨w.heap.size+1,2,none⟩=some (I a.above)∧W.cell? ⟨w.heap.size+2,0,none⟩=some (I b.place.x)∧W.cell? ⟨w.heap.size+2,1,none⟩=some (I b.place.y)∧W.cell? ⟨w.heap.size+2,2,none⟩=some (I b.above)∧W.cell? ⟨w.heap.size+3,0,none⟩=some (I 0)∧W.cell? ⟨w.heap.size+3,1,none⟩=some (I 0)∧W.cell? ⟨w.heap.size+3,2,none⟩=some (I 0)∧W.cell? ⟨w.heap.size+3,3,none⟩=some (I 0)∧W.cell? ⟨w.heap.size+3,4,none⟩=some (I 0)∧W.cell? ⟨w.heap.size+3,5,none⟩=some (I 0)∧W.cell? ⟨w.heap.size+3,6,none⟩=some (I 0)∧W.cell? ⟨w.heap.size+3,7,none⟩=some (I 0)∧W.cell? ⟨w.heap.size+3,8,none⟩=some (.bool false))):=fun W hW=>by
    obtain⟨t0,t1,t2,t3,t4,t5,t6,t7,t8,t9,t10,t11,t12,t13,t14,t15,t16,t17,t18,t19⟩:=HDV.out W (bbL1.out.trans (hW.mono bbL1.out.size));exact⟨(bat hW wr.heap.size _ O).trans (bkC kdL1.out 0 rfl),(bat hW wr.heap.size _ O).trans (bkC kdL1.out 1 rfl),(bat hW wr.heap.size _ O).trans (bkC kdL1.out 2 rfl),(bat hW g _ O).trans (bkC kxL1.out 6 rfl),t0,t1,t2,t3,t4,t5,t6,t7,t8,t9,t10,t11,t12,t13,t14,t15,t16,t17,t18,t19⟩
   refine zcj 13 12 (.pure 0 (.read 1 (.read 2 (.pure 3 (.read 4 (.pure 6 (.pure 7 (.read 8 (.one 5 (.one 9 (.pure 10 (.pure 11 (.one 12 .nil))))))))))))) (fun W=>IJ r1 r1 W) (fun W=>IJ v1 v1 W) OJ OJ (zci r1) (bbL1.out.drew) ?_;have YC:=J (zci r1);have YB:=J (bbL1.out.drew);have Yz:r1.heap.size≤r1.drew.heap.size:=Nat.le_refl _;have Ykx:Hid (r1.drew.heap[g]? = some (.cells #[I DI,I BE,I EL,I FR,I GA,I DE,I 0,I 0,.bool CL] 184 (0,0))):=kxL1.out;have Ykd:Hid (r1.drew.heap[wr.heap.size]? = some (.cells #[I a.place.x,I a.place.y,I a.above] 68 (0,0))):=kdL1.out;generalize r1.drew=Y at *;refine za8 (v:=?_) rfl (fun _ _ _ h=>h) ?_ ?_
   rotate_left
   ·(intro W hSW2;(go_simp<;>with_reducible rfl))
   (try simp only[Act.put,IQ,IZ,OI])
   iterate 2
    refine zb7 (v:=?_) rfl (fun _ _ _ h=>h) ?_ ?_
    rotate_left
    ·(intro W hSW2 hSW;(try dsimp only at hSW);obtain⟨d0,d1,d2,dg,t0,t1,t2,t3,t4,t5,t6,t7,t8,t9,t10,t11,t12,t13,t14,t15,t16,t17,t18,t19⟩:=HDR.out W hSW;(go_simp<;>with_reducible rfl))
    (try simp only[Act.put,IQ,IZ,OI])
   refine za8 (v:=?_) rfl (fun _ _ _ h=>h) ?_ ?_
   rotate_left
   ·(intro W hSW2;(go_simp<;>with_reducible rfl))
   (try simp only[Act.put,IQ,IZ,OI])
   refine zb7 (v:=?_) rfl (fun _ _ _ h=>h) ?_ ?_
   rotate_left
   ·(intro W hSW2 hSW;(try dsimp only at hSW);obtain⟨d0,d1,d2,dg,t0,t1,t2,t3,t4,t5,t6,t7,t8,t9,t10,t11,t12,t13,t14,t15,t16,t17,t18,t19⟩:=HDR.out W hSW;(go_simp<;>with_reducible rfl))
   (try simp only[Act.put,IQ,IZ,OI])
   iterate 2
    refine za8 (v:=?_) rfl (fun _ _ _ h=>h) ?_ ?_
    rotate_left
    ·(intro W hSW2;(go_simp<;>with_reducible rfl))
    (try simp only[Act.put,IQ,IZ,OI])
   refine zb7 (v:=?_) rfl (fun _ _ _ h=>h) ?_ ?_
   rotate_left
   ·(intro W hSW2 hSW;(try dsimp only at hSW);obtain⟨d0,d1,d2,dg,t0,t1,t2,t3,t4,t5,t6,t7,t8,t9,t10,t11,t12,t13,t14,t15,t16,t17,t18,t19⟩:=HDR.out W hSW;(go_simp<;>with_reducible rfl))
   (try simp only[Act.put,IQ,IZ,OI])
   refine zbl false rfl ?_;refine za9 rfl (fun K hK=>?_);go_simp;refine ((fun W (hW:IJ v1 v1 W)=>HEa.out.1 W (BV.out.trans (hW.mono BV.out.size))) _ YB.out).mono ?_;rintro e Y1 ⟨rfl,hb1⟩;have YB1:=btr YB hb1;have YC1:=btr YC hb1;refine hK.out _ _ ⟨YB1.out,fun _=>YC1.out⟩ ?_;clear hK K;have bs1:=hb1.size;have Ykx1:=bkH Ykx hb1;have Ykd1:=bkH Ykd hb1;clear hb1;refine zbl false rfl ?_;refine za9 rfl (fun K hK=>?_);go_simp;refine ((fun W (hW:IJ v1 v1 W)=>HEa.out.2 W (BV.out.trans (hW.mono BV.out.size))) _ YB1.out).mono ?_;rintro e Y2 ⟨rfl,hb2⟩;have YB2:=btr YB1 hb2;have YC2:=btr YC1 hb2;refine hK.out _ _ ⟨YB2.out,fun _=>YC2.out⟩ ?_;clear hK K;have bs2:=hb2.size;have Ykx2:=bkH Ykx1 hb2;have Ykd2:=bkH Ykd1 hb2;clear hb2
   iterate 2
    refine za8 (v:=?_) rfl (fun _ _ _ h=>h) ?_ ?_
    rotate_left
    ·(intro W hSW2;(go_simp<;>with_reducible rfl))
    (try simp only[Act.put,IQ,IZ,OI])
   refine zbl true rfl ?_;refine za9 rfl (fun K hK=>?_);have g0:=bkC (v:=I 0) Ykx2.out 6 rfl;have fz:=bkF Ykx2.out;go_simp;obtain⟨Y3,hW3,hk3,bs3,ho3,hl3⟩:=zds Ykx2 6 (I KA);rw[hW3];have Ykx3:Hid (Y3.heap[g]? = some (.cells #[I DI,I BE,I EL,I FR,I GA,I DE,I KA,I 0,.bool CL] 184 (0,0))):=by show _=_;simpa using hk3.out
   clear hk3;have YB3:=J (hl3.out v1 (by have:=YB2.out.size;omega) YB2.out);have Ykd3:=J ((ho3.out _ O).trans Ykd2.out);refine hK.out _ _ ⟨YB3.out,fun h=>by cases h⟩ ?_;clear hK K fz hW3 ho3 hl3 g0;refine zes ?_;simp only[List.drop_succ_cons,List.drop_zero];go_wp2;go_roundw
   case rel=>exact⟨1,KA,Or.inr (Or.inl ⟨rfl,rfl⟩),rfl,Ykx3.out,YB3.out,O⟩
   case measure=>simp[intOf]
  ·have hix:∀ w:World,(Instr.index 219 (.agg #[I a.place.x,I a.place.y,I a.above,I b.place.x,I b.place.y,I b.above]) (I 1)).run Tryz.prog w=.ok (.agg #[I b.place.x,I b.place.y,I b.above]) w:=fun _=>by kernel_rfl
   go_upto_region 11 with (fail);clear hix;have hwa:IntKind.i64.wrap (KA+KB)=(KA+KB):=IntWalk.i64_in _ O;obtain⟨r1,hWM1,hbM1,zM1,hkM1⟩:=zax wr #[I b.place.x,I b.place.y,I b.above] 68;rw[hWM1];have bbM1:=btr BR hbM1;have kdM1:=J hkM1;have bsM1:=hbM1.size;have kxM1:=bkH KXr hbM1;clear hWM1 hbM1 hkM1;have HDR:Hid (∀ W:World,IJ r1 r1 W→(W.cell? ⟨wr,0,none⟩=some (I b.place.x)∧W.cell? ⟨wr,1,none⟩=some (I b.place.y)∧W.cell? ⟨wr,2,none⟩=some (I b.above)∧W.cell? ⟨g,6,none⟩=some (I KA)∧W.cell? ⟨w,0,none⟩=some (I t.step)∧W.cell? ⟨w,1,none⟩=some (I t.width)∧W.cell? ⟨w,2,none⟩=some (I t.height)∧W.cell? ⟨w,3,none⟩=some (II a3 t.heights.length c3_)∧W.cell? ⟨w,4,none⟩=some (II a4 t.clutter.length c4_)∧W.cell? ⟨w.heap.size+1,0,none⟩=some (I a.place.x)∧W.cell? ⟨w.heap.size+1,1,none⟩=some (I a.place.y)∧W.cell? ⟨w.heap.size+1,2,none⟩=some (I a.above)∧W.cell? ⟨w.heap.size+2,0,none⟩=some (I b.place.x)∧W.cell? ⟨w.heap.size+2,1,none⟩=some (I b.place.y)∧W.cell? ⟨w.heap.size+2,2,none⟩=some (I b.above)∧W.cell? ⟨w.heap.size+3,0,none⟩=some (I 0)∧W.cell? ⟨w.heap.size+3,1,none⟩=some (I 0)∧W.cell? ⟨w.heap.size+3,2,none⟩=some (I 0)∧W.cell? ⟨w.heap.size+3,3,none⟩=some (I 0)∧W.cell? ⟨w.heap.size+3,4,none⟩=some (I 0)∧W.cell? ⟨w.heap.size+3,5,none⟩=some (I 0)∧W.cell? ⟨w.heap.size+3,6,none⟩=some (I 0)∧W.cell? ⟨w.heap.size+3,7,none⟩=some (I 0)∧W.cell? ⟨w.heap.size+3,8,none⟩=some (.bool false))):=fun W hW=>by
    obtain⟨t0,t1,t2,t3,t4,t5,t6,t7,t8,t9,t10,t11,t12,t13,t14,t15,t16,t17,t18,t19⟩:=HDV.out W (bbM1.out.trans (hW.mono bbM1.out.size));exact⟨(bat hW wr.heap.size _ O).trans (bkC kdM1.out 0 rfl),(bat hW wr.heap.size _ O).trans (bkC kdM1.out 1 rfl),(bat hW wr.heap.size _ O).trans (bkC kdM1.out 2 rfl),(bat hW g _ O).trans (bkC kxM1.out 6 rfl),t0,t1,t2,t3,t4,t5,t6,t7,t8,t9,t10,t11,t12,t13,t14,t15,t16,t17,t18,t19⟩
   refine zcj 13 12 (.pure 0 (.read 1 (.read 2 (.pure 3 (.read 4 (.pure 6 (.pure 7 (.read 8 (.one 5 (.one 9 (.pure 10 (.pure 11 (.one 12 .nil))))))))))))) (fun W=>IJ r1 r1 W) (fun W=>IJ v1 v1 W) OJ OJ (zci r1) (bbM1.out.drew) ?_;have YC:=J (zci r1);have YB:=J (bbM1.out.drew);have Yz:r1.heap.size≤r1.drew.heap.size:=Nat.le_refl _;have Ykx:Hid (r1.drew.heap[g]? = some (.cells #[I DI,I BE,I EL,I FR,I GA,I DE,I KA,I 0,.bool CL] 184 (0,0))):=kxM1.out;have Ykd:Hid (r1.drew.heap[wr.heap.size]? = some (.cells #[I b.place.x,I b.place.y,I b.above] 68 (0,0))):=kdM1.out;generalize r1.drew=Y at *;refine za8 (v:=?_) rfl (fun _ _ _ h=>h) ?_ ?_
   rotate_left
   ·(intro W hSW2;(go_simp<;>with_reducible rfl))
   (try simp only[Act.put,IQ,IZ,OI])
   iterate 2
    refine zb7 (v:=?_) rfl (fun _ _ _ h=>h) ?_ ?_
    rotate_left
    ·(intro W hSW2 hSW;(try dsimp only at hSW);obtain⟨d0,d1,d2,dg,t0,t1,t2,t3,t4,t5,t6,t7,t8,t9,t10,t11,t12,t13,t14,t15,t16,t17,t18,t19⟩:=HDR.out W hSW;(go_simp<;>with_reducible rfl))
    (try simp only[Act.put,IQ,IZ,OI])
   refine za8 (v:=?_) rfl (fun _ _ _ h=>h) ?_ ?_
   rotate_left
   ·(intro W hSW2;(go_simp<;>with_reducible rfl))
   (try simp only[Act.put,IQ,IZ,OI])
   refine zb7 (v:=?_) rfl (fun _ _ _ h=>h) ?_ ?_
   rotate_left
   ·(intro W hSW2 hSW;(try dsimp only at hSW);obtain⟨d0,d1,d2,dg,t0,t1,t2,t3,t4,t5,t6,t7,t8,t9,t10,t11,t12,t13,t14,t15,t16,t17,t18,t19⟩:=HDR.out W hSW;(go_simp<;>with_reducible rfl))
   (try simp only[Act.put,IQ,IZ,OI])
   iterate 2
    refine za8 (v:=?_) rfl (fun _ _ _ h=>h) ?_ ?_
    rotate_left
    ·(intro W hSW2;(go_simp<;>with_reducible rfl))
    (try simp only[Act.put,IQ,IZ,OI])
   refine zb7 (v:=?_) rfl (fun _ _ _ h=>h) ?_ ?_
   rotate_left
   ·(intro W hSW2 hSW;(try dsimp only at hSW);obtain⟨d0,d1,d2,dg,t0,t1,t2,t3,t4,t5,t6,t7,t8,t9,t10,t11,t12,t13,t14,t15,t16,t17,t18,t19⟩:=HDR.out W hSW;(go_simp<;>with_reducible rfl))
   (try simp only[Act.put,IQ,IZ,OI])
   refine zbl false rfl ?_;refine za9 rfl (fun K hK=>?_);go_simp;refine ((fun W (hW:IJ v1 v1 W)=>HEb.out.1 W (BV.out.trans (hW.mono BV.out.size))) _ YB.out).mono ?_;rintro e Y1 ⟨rfl,hb1⟩;have YB1:=btr YB hb1;have YC1:=btr YC hb1;refine hK.out _ _ ⟨YB1.out,fun _=>YC1.out⟩ ?_;clear hK K;have bs1:=hb1.size;have Ykx1:=bkH Ykx hb1;have Ykd1:=bkH Ykd hb1;clear hb1;refine zbl false rfl ?_;refine za9 rfl (fun K hK=>?_);go_simp;refine ((fun W (hW:IJ v1 v1 W)=>HEb.out.2 W (BV.out.trans (hW.mono BV.out.size))) _ YB1.out).mono ?_;rintro e Y2 ⟨rfl,hb2⟩;have YB2:=btr YB1 hb2;have YC2:=btr YC1 hb2;refine hK.out _ _ ⟨YB2.out,fun _=>YC2.out⟩ ?_;clear hK K;have bs2:=hb2.size;have Ykx2:=bkH Ykx1 hb2;have Ykd2:=bkH Ykd1 hb2;clear hb2
   iterate 2
    refine za8 (v:=?_) rfl (fun _ _ _ h=>h) ?_ ?_
    rotate_left
    ·(intro W hSW2;(go_simp<;>with_reducible rfl))
    (try simp only[Act.put,IQ,IZ,OI])
   refine zbl true rfl ?_;refine za9 rfl (fun K hK=>?_);have g0:=bkC (v:=I KA) Ykx2.out 6 rfl;have fz:=bkF Ykx2.out;go_simp;obtain⟨Y3,hW3,hk3,bs3,ho3,hl3⟩:=zds Ykx2 6 (I (KA+KB));rw[hW3];have Ykx3:Hid (Y3.heap[g]? = some (.cells #[I DI,I BE,I EL,I FR,I GA,I DE,I (KA+KB),I 0,.bool CL] 184 (0,0))):=by show _=_;simpa using hk3.out
   clear hk3;have YB3:=J (hl3.out v1 (by have:=YB2.out.size;omega) YB2.out);have Ykd3:=J ((ho3.out _ O).trans Ykd2.out);refine hK.out _ _ ⟨YB3.out,fun h=>by cases h⟩ ?_;clear hK K fz hW3 ho3 hl3 g0;refine zes ?_;simp only[List.drop_succ_cons,List.drop_zero];go_wp2;go_roundw
   case rel=>exact⟨2,(KA+KB),Or.inr (Or.inr ⟨rfl,rfl⟩),rfl,Ykx3.out,YB3.out,O⟩
   case measure=>simp[intOf]
  ·have hk2:(0:Int)≤2:=O
   obtain⟨x0,x1,x2,x3,x4,x5,x6,x7,x8,xf⟩:=bz9 KXr.out;go_upto_region 14 with (fail);rw[← HPT.out];clear x0 x1 x2 x3 x4 x5 x6 x7 x8 xf;obtain⟨v14,hWR1,hkR1,bsR1,hoR1,hlR1⟩:=zds KXr 7 (I PT);rw[hWR1];have kxR1:Hid (v14.heap[g]? = some (.cells #[I DI,I BE,I EL,I FR,I GA,I DE,I (KA+KB),I PT,.bool CL] 184 (0,0))):=by show _=_;simpa using hkR1.out
   clear hkR1;have bbR1:=J (hlR1.out v1 (by have:=BR.out.size;omega) BR.out);clear hWR1 hoR1 hlR1;obtain⟨x0,x1,x2,x3,x4,x5,x6,x7,x8,xf⟩:=bz9 kxR1.out;have BF_:=J (BV.out.trans (bbR1.out.mono BV.out.size));have KR2:=J (bkB KR.out bbR1.out O);have r0:=bkC (v:=I 0) KR2.out 0 rfl;have r1:=bkC (v:=I 0) KR2.out 1 rfl;have r2:=bkC (v:=I 0) KR2.out 2 rfl;have r3:=bkC (v:=I 0) KR2.out 3 rfl;have r4:=bkC (v:=I 0) KR2.out 4 rfl;have r5:=bkC (v:=I 0) KR2.out 5 rfl;have r6:=bkC (v:=I 0) KR2.out 6 rfl;have r7:=bkC (v:=I 0) KR2.out 7 rfl;have r8:=bkC (v:=.bool false) KR2.out 8 rfl;have rf:=bkF KR2.out;go_wp2;refine bodyPost_ret (v:=.agg #[I DI,I BE,I EL,I FR,I GA,I DE,I (KA+KB),I PT,.bool CL]) (by simp[results,Tryz.results125,go_sem, *]) rfl ⟨CL,rfl,(((((((((BF_.out.setCell (p:=⟨w.heap.size+3,0,none⟩) (by show w.heap.size≤w.heap.size+3;omega) (I DI)).setCell (p:=⟨w.heap.size+3,1,none⟩) (by show w.heap.size≤w.heap.size+3;omega) (I BE)).setCell (p:=⟨w.heap.size+3,2,none⟩) (by show w.heap.size≤w.heap.size+3;omega) (I EL)).setCell (p:=⟨w.heap.size+3,3,none⟩) (by show w.heap.size≤w.heap.size+3;omega) (I FR)).setCell (p:=⟨w.heap.size+3,4,none⟩) (by show w.heap.size≤w.heap.size+3;omega) (I GA)).setCell (p:=⟨w.heap.size+3,5,none⟩) (by show w.heap.size≤w.heap.size+3;omega) (I DE)).setCell (p:=⟨w.heap.size+3,6,none⟩) (by show w.heap.size≤w.heap.size+3;omega) (I (KA+KB))).setCell (p:=⟨w.heap.size+3,7,none⟩) (by show w.heap.size≤w.heap.size+3;omega) (I PT)).setCell (p:=⟨w.heap.size+3,8,none⟩) (by show w.heap.size≤w.heap.size+3;omega) (.bool CL))⟩
end Go.Proofs.YtgmapjgodibchaaGreatDoor
