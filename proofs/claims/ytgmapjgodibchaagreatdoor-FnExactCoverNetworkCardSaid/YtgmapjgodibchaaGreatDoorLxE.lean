/- Contract: the levels of a sector on the grid, for the reference. Conditions: a valid terrain and network, a sector that stands in the terrain. -/
import Derived.Test.YtgmapjgodibchaaGreatDoorLxD
set_option linter.unusedVariables false
set_option linter.unusedSimpArgs false
namespace Go.Proofs.YtgmapjgodibchaaGreatDoor
open Go.RowKit
set_option maxHeartbeats 16000000
set_option maxRecDepth 100000
theorem sGrid_any (t:DTerrain) (n:DNetwork) (j:Nat) (hj:j<n.sectors.length) (hnm:zbg n.sectors (zab n.sectors j).name=(j:Int)) (T:TerrOk t) (hV:netB n=true) (v0 v1 v2 v3 v4 v5:Value) (pt po np:Nat) (hs:sizL n.tr≤1048576) (hk:n.ok) (hz_:(zab n.sectors j).name.size≤1048576) (f ab:Int) (pa:inT t (endR n (zab n.sectors j)).place) (eb:1≤ab∧ab≤3000) (f0:1≤f) (f1:f≤100000000) (w:World) (r0:Rd w w (DSite.sT n.sites) v0) (r1:Rd w w (DSector.sT n.sectors) v1) (r2:Rd w w (DAntenna.sT n.antennas) v2) (r3:Rd w w (DRadio.sT n.radios) v3) (r4:Rd w w (zai t.heights) v4) (r5:Rd w w (zai t.clutter) v5) (hnp:np<w.heap.size) (c0:w.cell? ⟨pt,po,none⟩=some (I t.step)) (c1:w.cell? ⟨pt,po+1,none⟩=some (I t.width)) (c2:w.cell? ⟨pt,po+2,none⟩=some (I t.height)) (c3:w.cell? ⟨pt,po+3,none⟩=some (v4)) (c4:w.cell? ⟨pt,po+4,none⟩=some (v5)) (d0:w.cell? ⟨np,0,none⟩=some (v0)) (d1:w.cell? ⟨np,1,none⟩=some (v1)) (d2:w.cell? ⟨np,2,none⟩=some (v2)) (d3:w.cell? ⟨np,3,none⟩=some (v3)) :
  Calls Tryz.prog 45 #[.pointer (some ⟨pt,po,none⟩),.pointer (some ⟨np,0,none⟩),I (j:Int),I f,I ab] w fun e w'=>∃ (a':Option Addr) (c':Nat) (fp:List Nat),e=.returned (II a' (zcx t n (zab n.sectors j) f ab).length c')∧IJ w w w'∧Own w' (zai (zcx t n (zab n.sectors j) f ab)) (II a' (zcx t n (zab n.sectors j) f ab).length c') fp∧In w w'.heap.size fp:=by
 have CMX:Hid (∀ (v:Int) (W:World),Calls Tryz.prog 94 #[I (-300000),I v] W fun e w'=>e=.returned (I (max (-300000) v))∧W=w'):=fun v W=>l00MaxE_any _ _ W
 obtain⟨i0,hi0,hz0,hz1,hz2⟩:=info_parts infoI;obtain⟨ks,hks,his⟩:=netB_sectors hV j hj;obtain⟨ka,kr,hp⟩:=zdk hV hj;have ea:=sector_above hV hj;have hpt:pt<w.heap.size:=zbh c0;obtain⟨A1,C1,ev1,_,_,hcs⟩:=DSector.rd r1;subst ev1;obtain⟨bs,os,rfl,hbs,hats⟩:=hcs O;obtain⟨s0,-,s2,s3,-⟩:=hats j hj;rw[za5 hj] at s0 s2 s3;have l1i:(n.sectors.length:Int)≤1099511627776:=by
  have hq:=DNetwork.siz_tr n;rw[DSite.siz_s,DSector.siz_s,DAntenna.siz_s,DRadio.siz_s] at hq;omega
 have j0:(0:Int)≤(j:Int):=O
 have j1:(j:Int)<(n.sectors.length:Int):=O
 obtain⟨ar,cr,er,_,_,hclr⟩:=DRadio.rd r3;obtain⟨br,ofr,ear,hbr,hatr⟩:=hclr (by have:=hp.lr;omega);subst ear er;obtain⟨a,c,ee,_,_,hcl⟩:=DAntenna.rd r2;obtain⟨b,off,ea_,hbl,hat⟩:=hcl (by have:=hp.la;omega);subst ea_ ee;obtain⟨a4,c4_,e4,_,_,_⟩:=r4.ints;subst e4;have hq:=DNetwork.siz_tr n;rw[DSite.siz_s,DSector.siz_s,DAntenna.siz_s,DRadio.siz_s] at hq;have hr8:(n.radios.length:Int)≤1048576:=O
 have ha8:(n.antennas.length:Int)≤1048576:=O
 obtain⟨q0,q1,q2,q3,q4,⟨um,q5,rum⟩⟩:=hatr kr hp.lr;obtain⟨am,cm,eum,_,_,_⟩:=DMode.rd rum;subst eum;rw[zbo hp.lr] at q0 q1 q2 q3 q4 q5;have B0:Hid (IJ w w w):=Below.refl _ _;have HD:Hid (∀ W:World,IJ w w W→(W.cell? ⟨pt,po,none⟩=some (I t.step)∧W.cell? ⟨pt,po+1,none⟩=some (I t.width)∧W.cell? ⟨pt,po+3,none⟩=some (II a4 t.heights.length c4_)∧W.cell? ⟨np,0,none⟩=some (v0)∧W.cell? ⟨np,1,none⟩=some (II (some ⟨bs,os,none⟩) n.sectors.length C1)∧W.cell? ⟨np,2,none⟩=some (II (some ⟨b,off,none⟩) n.antennas.length c)∧W.cell? ⟨np,3,none⟩=some (II (some ⟨br,ofr,none⟩) n.radios.length cr)∧W.cell? ⟨bs,os+j*9,none⟩=some (F (zab n.sectors j).name)∧W.cell? ⟨bs,os+j*9+2,none⟩=some (F (zab n.sectors j).antenna)∧W.cell? ⟨bs,os+j*9+3,none⟩=some (F (zab n.sectors j).radio))):=fun W hW=>⟨(bat hW pt _ O).trans c0,(bat hW pt _ O).trans c1,(bat hW pt _ O).trans c3,(bat hW np _ O).trans d0,(bat hW np _ O).trans d1,(bat hW np _ O).trans d2,(bat hW np _ O).trans d3,(bat hW bs _ O).trans s0,(bat hW bs _ O).trans s2,(bat hW bs _ O).trans s3⟩
 have HB:Hid (IJ w w w):=Below.refl _ _;have CE:Hid (∀ W:World,IJ w w W→Calls Tryz.prog 90 #[.agg #[v0,II (some ⟨bs,os,none⟩) n.sectors.length C1,II (some ⟨b,off,none⟩) n.antennas.length c,II (some ⟨br,ofr,none⟩) n.radios.length cr],F (zab n.sectors j).name] W fun e w'=>e=.returned (.tuple #[.agg #[I (endR n (zab n.sectors j)).place.x,I (endR n (zab n.sectors j)).place.y,I (endR n (zab n.sectors j)).above],I 0])∧IJ W W w'):=fun W hW=>by
  have:=sEndOf_std n (zab n.sectors j).name v0 _ _ _ W ((r0.below hW).mono hW.size) ((r1.below hW).mono hW.size) ((r2.below hW).mono hW.size) ((r3.below hW).mono hW.size) hs hk hz_;rw[hnm] at this;unfold pickR at this;rw[if_pos hV,if_pos j0,Int.toNat_natCast] at this;exact this
 have CL:Hid (∀ q:DEnd,inT t q.place→endP q→¬ ((endR n (zab n.sectors j)).place.x=q.place.x∧(endR n (zab n.sectors j)).place.y=q.place.y)→∀ W:World,IJ w w W→Calls Tryz.prog 93 #[.pointer (some ⟨pt,po,none⟩),.pointer (some ⟨np,0,none⟩),I (j:Int),I f,.agg #[I q.place.x,I q.place.y,I q.above]] W fun e w'=>e=.returned (I (levI t n (zab n.sectors j) f q))∧IJ W W w'):=fun q g1 g2 g3 W hW=>l14Level_any t n j hj q T v0 _ _ _ _ v5 pt po np pa g1 ea g2 g3 ks hks his ka kr hp O O O O f f0 f1 W ((r0.below hW).mono hW.size) ((r1.below hW).mono hW.size) ((r2.below hW).mono hW.size) ((r3.below hW).mono hW.size) ((r4.below hW).mono hW.size) ((r5.below hW).mono hW.size) (Nat.lt_of_lt_of_le hnp hW.size) ((bat hW pt _ hpt).trans c0) ((bat hW pt _ hpt).trans c1) ((bat hW pt _ hpt).trans c2) ((bat hW pt _ hpt).trans c3) ((bat hW pt _ hpt).trans c4) ((bat hW np _ hnp).trans d0) ((bat hW np _ hnp).trans d1) ((bat hW np _ hnp).trans d2) ((bat hW np _ hnp).trans d3)
 have HRD:Hid (∀ i,i<n.radios.length→∀ W:World,IJ w w W→W.cell? ⟨br,ofr+i*6,none⟩=some (F (za4 n.radios i).name)):=fun i hi W hW=>by
  obtain⟨p0,-⟩:=hatr i hi;rw[zbo hi] at p0;exact (bat hW br _ hbr).trans p0
 have HAD:Hid (∀ i,i<n.antennas.length→∀ W:World,IJ w w W→W.cell? ⟨b,off+i*4,none⟩=some (F (zav n.antennas i).name)∧W.cell? ⟨b,off+i*4+1,none⟩=some (I (zav n.antennas i).gain)):=fun i hi W hW=>by
  obtain⟨p0,p1,-⟩:=hat i hi;rw[zbf hi] at p0 p1;exact⟨(bat hW b _ hbl).trans p0,(bat hW b _ hbl).trans p1⟩
 have HRK:Hid (∀ W:World,IJ w w W→W.cell? ⟨br,ofr+kr*6,none⟩=some (F (za4 n.radios kr).name)∧W.cell? ⟨br,ofr+kr*6+1,none⟩=some (I (za4 n.radios kr).power)∧W.cell? ⟨br,ofr+kr*6+2,none⟩=some (I (za4 n.radios kr).feeder)∧W.cell? ⟨br,ofr+kr*6+3,none⟩=some (I (za4 n.radios kr).noise)∧W.cell? ⟨br,ofr+kr*6+4,none⟩=some (I (za4 n.radios kr).width)∧W.cell? ⟨br,ofr+kr*6+5,none⟩=some (II am (za4 n.radios kr).modes.length cm)):=fun W hW=>⟨(bat hW br _ hbr).trans q0,(bat hW br _ hbr).trans q1,(bat hW br _ hbr).trans q2,(bat hW br _ hbr).trans q3,(bat hW br _ hbr).trans q4,(bat hW br _ hbr).trans q5⟩
 have HRE:Hid (∀ i,i<n.radios.length→((za4 n.radios i).name.toList == (zab n.sectors j).radio.toList)=decide (i=kr)):=fun i hi=>radio_eq hV hp.lr hp.ir hi
 have HAE:Hid (∀ i,i<n.antennas.length→((zav n.antennas i).name.toList == (zab n.sectors j).antenna.toList)=decide (i=ka)):=fun i hi=>antenna_eq hV hp.la hp.ia hi
 have HGA:Hid (∀ i,i=ka→(zav n.antennas i).gain=(zav n.antennas ka).gain):=fun i h=>by rw[h]
 have hlr:=hp.lr;have hla:=hp.la;have hra:=(zdw hp.rok).1;have hrf:=(zdw hp.rok).2;have hga:=ant_gain hp.ok;have HPG:=J (pgI_eq hp);have HTK:Hid (∀ i,i<za6 t→(zcx t n (zab n.sectors j) f ab).take (i+1)=(zcx t n (zab n.sectors j) f ab).take i++[gvI t n (zab n.sectors j) f ⟨ptG t i,ab⟩]):=fun i h=>gridL_take t n (zab n.sectors j) f ab h
 have HRB:Hid (∀ q:DEnd,inT t q.place→¬ ((endR n (zab n.sectors j)).place.x=q.place.x∧(endR n (zab n.sectors j)).place.y=q.place.y)→gvI t n (zab n.sectors j) f q=max (-300000) (levI t n (zab n.sectors j) f q)):=fun q h1 h2=>by
  have:reachB t n (zab n.sectors j) q=true:=reachB_true.2 ⟨pa,h2⟩;rw[gvI,if_pos this,Int.max_comm]
 have HRS:Hid (∀ q:DEnd,((endR n (zab n.sectors j)).place.x=q.place.x∧(endR n (zab n.sectors j)).place.y=q.place.y)→gvI t n (zab n.sectors j) f q=max (-300000) (pgI n (zab n.sectors j))):=fun q h2=>by
  have:¬ reachB t n (zab n.sectors j) q=true:=fun h=>(reachB_true.1 h).2 h2
  have:=(pgI_bd hp).1;rw[gvI,if_neg (by assumption)];omega
 have HGN:=J (zez T);have HGL:=J (ze8 t n (zab n.sectors j) f ab);have HLH:=J T.lh;have hw0:=T.w0;have hw1:=T.w1;have hs0:=T.s0;have hs1:=T.s1;clear r0 r1 r2 r3 r4 r5 hV hk hs hz_ hnm hats hcs hclr hatr rum hcl hat his hks q0 q1 q2 q3 q4 q5 ea pa hq;generalize za4 n.radios kr=R at *;generalize zav n.antennas ka=A at *;go_enter Tryz.func45,Tryz.ntmps45;go_upto_region 1 with (fail);go_cut [11] (fun s11 wx=>∃ g:Nat,s11=.pointer (some ⟨g,0,none⟩)∧wx.heap[g]? = some (.cells #[I (endR n (zab n.sectors j)).place.x,I (endR n (zab n.sectors j)).place.y,I (endR n (zab n.sectors j)).above] 68 (0,0))∧IJ w w wx∧w.heap.size≤g∧g<wx.heap.size)
 case first =>
  refine zap 17 (.read 0 (.read 1 (.read 2 (.read 3 (.read 4 (.read 5 (.read 6 (.read 7 (.read 8 (.read 9 (.read 10 (.two 11 15 (.read 12 (.read 13 (.read 14 (.one 15 (.one 16 .nil))))) (.one 11 (.read 12 (.read 13 (.read 14 (.one 16 .nil))))))))))))))))) (fun W=>IJ w w W) OJ OJ (HB.out.drew) ?_;have YB:=J (HB.out.drew);have Yz:w.heap.size≤w.drew.heap.size:=Nat.le_refl _;generalize w.drew=Y at *
  iterate 11
   refine zag (v:=?_) rfl (fun _ _ _ h=>h) ?_ ?_
   rotate_left
   ·(intro W hSW;(try dsimp only at hSW);obtain⟨t0,t1,t2,t3,t4,t5,t6,t7,t8,t9⟩:=HD.out W hSW;(go_simp<;>with_reducible rfl))
   (try simp only[Act.put,IQ,IZ,OI])
  refine za0 ?_ ?_;refine zae rfl (fun K hK=>?_);go_simp;refine (CE.out _ YB.out).mono ?_;rintro e Y1 ⟨rfl,hb1⟩;have YB1:=btr YB hb1;refine hK.out _ _ YB1.out ?_;clear hK K;have bs1:=hb1.size;clear hb1
  iterate 3
   refine zag (v:=?_) rfl (fun _ _ _ h=>h) ?_ ?_
   rotate_left
   ·(intro W hSW;(try dsimp only at hSW);obtain⟨t0,t1,t2,t3,t4,t5,t6,t7,t8,t9⟩:=HD.out W hSW;(go_simp<;>with_reducible rfl))
   (try simp only[Act.put,IQ,IZ,OI])
  refine zaf ?_;refine zae rfl (fun K hK=>?_);go_simp;obtain⟨Y2,hW2,hb2,zl2,hk2⟩:=zax Y1 #[I 0,I 0,I 0] 68;rw[hW2];have Ykq2:=J hk2;have YB2:=btr YB1 hb2;refine hK.out _ _ YB2.out ?_;have bs2:=hb2.size;clear hK K hW2 hk2 hb2;refine zaf ?_;refine zae rfl (fun K hK=>?_);obtain⟨g0,g1,g2,fz⟩:=bz3 Ykq2.out;go_simp;obtain⟨Y3,hW3,Ykq3,bs3,ho3,hl3⟩:=zca Ykq2 [I (endR n (zab n.sectors j)).place.x,I (endR n (zab n.sectors j)).place.y,I (endR n (zab n.sectors j)).above] rfl;simp only[zb1] at hW3;rw[hW3];have YB3:=J (hl3.out w (by have:=YB2.out.size;omega) YB2.out);refine hK.out _ _ YB3.out ?_;clear hK K fz hW3 ho3 hl3 g0 g1 g2;refine zak ?_
  try simp only[List.drop_succ_cons,List.drop_zero]
  go_wp2_with fail;go_meet;exact⟨_,rfl,Ykq3.out,YB3.out,O,O⟩;refine zae rfl (fun K hK=>?_);go_simp;obtain⟨Y4,hW4,hb4,zl4,hk4⟩:=zax Y #[I 0,I 0,I 0] 68;rw[hW4];have Ykq4:=J hk4;have YB4:=btr YB hb4;refine hK.out _ _ YB4.out ?_;have bs4:=hb4.size;clear hK K hW4 hk4 hb4;refine zaf ?_;refine zae rfl (fun K hK=>?_);go_simp;refine (CE.out _ YB4.out).mono ?_;rintro e Y5 ⟨rfl,hb5⟩;have YB5:=btr YB4 hb5;refine hK.out _ _ YB5.out ?_;clear hK K;have bs5:=hb5.size;have Ykq5:=bkH Ykq4 hb5;clear hb5
  iterate 3
   refine zag (v:=?_) rfl (fun _ _ _ h=>h) ?_ ?_
   rotate_left
   ·(intro W hSW;(try dsimp only at hSW);obtain⟨t0,t1,t2,t3,t4,t5,t6,t7,t8,t9⟩:=HD.out W hSW;(go_simp<;>with_reducible rfl))
   (try simp only[Act.put,IQ,IZ,OI])
  refine zaf ?_;refine zae rfl (fun K hK=>?_);obtain⟨g0,g1,g2,fz⟩:=bz3 Ykq5.out;go_simp;obtain⟨Y6,hW6,Ykq6,bs6,ho6,hl6⟩:=zca Ykq5 [I (endR n (zab n.sectors j)).place.x,I (endR n (zab n.sectors j)).place.y,I (endR n (zab n.sectors j)).above] rfl;simp only[zb1] at hW6;rw[hW6];have YB6:=J (hl6.out w (by have:=YB5.out.size;omega) YB5.out);refine hK.out _ _ YB6.out ?_;clear hK K fz hW6 ho6 hl6 g0 g1 g2;refine zak ?_
  try simp only[List.drop_succ_cons,List.drop_zero]
  go_wp2_with fail;go_meet;exact⟨_,rfl,Ykq6.out,YB6.out,O,O⟩
 obtain⟨g,rfl,kg_,hbW,hg0,hg⟩:=hcut;generalize wc=v3_ at *;have KG:=J kg_;replace HB:=J hbW;have bR:=za2 v3_ (.cells #[F ⟨#[]⟩,I 0,I 0,I 0,I 0,II none 0 0] 153);have KR:=J (bkN v3_ #[F ⟨#[]⟩,I 0,I 0,I 0,I 0,II none 0 0] 153);have BR:Hid (IJ v3_ v3_ (v3_.alloc (.cells #[F ⟨#[]⟩,I 0,I 0,I 0,I 0,II none 0 0] 153))):=bR;have zR:v3_.heap.size<(v3_.alloc (.cells #[F ⟨#[]⟩,I 0,I 0,I 0,I 0,II none 0 0] 153)).heap.size:=by simp
 clear kg_ hbW CE bR;go_wp2_with (fail);go_loopw [14] (fun iv wr=>∃ i:Nat,i≤n.radios.length∧iv=I (i:Int)∧IJ v3_ v3_ wr∧v3_.heap.size<wr.heap.size∧(i≤kr→wr.heap[v3_.heap.size]? = some (.cells #[F ⟨#[]⟩,I 0,I 0,I 0,I 0,II none 0 0] 153 (0,0)))∧(kr<i→wr.heap[v3_.heap.size]? = some (.cells #[F R.name,I R.power,I R.feeder,I R.noise,I R.width,II am R.modes.length cm] 153 (0,0)))) (fun iv wr=>n.radios.length-(intOf iv).toNat)
 case atStart=>exact⟨0,Nat.zero_le _,rfl,BR.out,zR,fun _=>KR.out,fun h=>O⟩
 case round =>
  clear BR KR zR;obtain⟨i,hi,rfl,hb,zr,hk1,hk2⟩:=hrel;have HBi:=J hb;have HK1:=J hk1;have HK2:=J hk2;have HBW:=btr HB hb;clear hb hk1 hk2;have zw:=HBW.out.size;have i1:(0:Int)≤(i:Int):=O
  obtain⟨t0,t1,t2,t3,t4,t5,t6,t7,t8,t9⟩:=HD.out _ HBW.out
  by_cases hlt:i<n.radios.length
  ·have i2:(i:Int)<(n.radios.length:Int):=O
   have x0:=HRD.out i hlt _ HBW.out;have hE:=HRE.out i hlt;generalize za4 n.radios i=Q at *;go_wp2_with (fail)
   go_quiet (fail)
   rename_i nq;have hHBi:IJ v3_ v3_ (wr.drewN nq):=zbc HBi.out nq;have hHBW:IJ w w (wr.drewN nq):=zbc HBW.out nq;have hK1:i≤kr→(wr.drewN nq).heap[v3_.heap.size]? = some (.cells #[F ⟨#[]⟩,I 0,I 0,I 0,I 0,II none 0 0] 153 (0,0)):=HK1.out;have hK2:kr<i→(wr.drewN nq).heap[v3_.heap.size]? = some (.cells #[F R.name,I R.power,I R.feeder,I R.noise,I R.width,II am R.modes.length cm] 153 (0,0)):=HK2.out;have zu:v3_.heap.size<(wr.drewN nq).heap.size:=zr;have UBi:=J hHBi;have UBW:=J hHBW;have UK1:=J hK1;have UK2:=J hK2;clear hHBi hHBW hK1 hK2 HBi HBW HK1 HK2 x0 t0 t1 t2 t3 t4 t5 t6 t7 t8 t9;generalize wr.drewN nq=U at *;obtain⟨t0,t1,t2,t3,t4,t5,t6,t7,t8,t9⟩:=HD.out _ UBW.out
   by_cases hik:i=kr
   ·have hE2:(Q.name.toList == (zab n.sectors j).radio.toList)=true:=by rw[hE,decide_eq_true hik]
    subst hik;obtain⟨y0,y1,y2,y3,y4,y5⟩:=HRK.out _ UBW.out;have kb:=UK1.out O;obtain⟨b0,b1,b2,b3,b4,b5⟩:=by6' kb;have bf:=bkF kb;have KB:=J kb;clear hE kb;go_wp2_with (fail);go_roundw
    case rel =>
     refine⟨i+1,O,by go_num,?_,by simp only[zac];exact zu,fun h=>O,fun _=>?_⟩
     ·exact (((((UBi.out.setCell (by show v3_.heap.size≤v3_.heap.size;omega) _).setCell (by show v3_.heap.size≤v3_.heap.size;omega) _).setCell (by show v3_.heap.size≤v3_.heap.size;omega) _).setCell (by show v3_.heap.size≤v3_.heap.size;omega) _).setCell (by show v3_.heap.size≤v3_.heap.size;omega) _).setCell (by show v3_.heap.size≤v3_.heap.size;omega) _
     ·have:=bkS (bkS (bkS (bkS (bkS (bkS KB.out 0 (F R.name)) 1 (I R.power)) 2 (I R.feeder)) 3 (I R.noise)) 4 (I R.width)) 5 (II am R.modes.length cm)
      simpa using this
    case measure=>simp[intOf];omega
   ·have hE2:(Q.name.toList == (zab n.sectors j).radio.toList)=false:=by rw[hE,decide_eq_false hik]
    have HIK:=J hik;clear hE hik;go_wp2_with (fail);go_roundw
    case rel=>exact⟨i+1,O,by go_num,UBi.out,zu,fun h=>UK1.out O,fun h=>UK2.out (by have:=HIK.out;omega)⟩
    case measure=>simp[intOf];omega
  ·obtain rfl:i=n.radios.length:=O
   have KR:=J (HK2.out hlr);have HBr:=HBi;clear HK1 HK2 HRD HRE HRK HBi;generalize wr=V at *;go_wp2_with (fail);clear t0 t1 t2 t3 t4 t5 t6 t7 t8 t9;go_loopw [15,16] (fun gv iv wr=>∃ (i:Nat) (gn:Int),i≤n.antennas.length∧iv=I (i:Int)∧IJ V V wr∧gv=I gn∧(ka<i→gn=A.gain)) (fun _ iv wr=>n.antennas.length-(intOf iv).toNat)
   case atStart=>exact⟨0,0,Nat.zero_le _,rfl,Below.refl _ _,rfl,fun h=>O⟩
   case round =>
    obtain⟨i,gn,hi,rfl,hb,rfl,hgn⟩:=hrel;have HGN_:=J hgn;clear hgn;have HBi:=J hb;have HBV:=btr HBW hb;clear hb;have i1:(0:Int)≤(i:Int):=O
    obtain⟨t0,t1,t2,t3,t4,t5,t6,t7,t8,t9⟩:=HD.out _ HBV.out
    by_cases hlt:i<n.antennas.length
    ·have i2:(i:Int)<(n.antennas.length:Int):=O
     obtain⟨x0,x1⟩:=HAD.out i hlt _ HBV.out;have hE:=HAE.out i hlt
     by_cases hik:i=ka
     ·have hgA:(zav n.antennas i).gain=A.gain:=HGA.out i hik
      have hE2:((zav n.antennas i).name.toList == (zab n.sectors j).antenna.toList)=true:=by rw[hE,decide_eq_true hik]
      have HIK:=J hik;have HGE:=J hgA;clear hE hik hgA;generalize zav n.antennas i=Q at *;go_wp2_with (fail)
      go_quiet (fail)
      rename_i nq;have hu1:(wr.drewN nq).cell? ⟨b,off+i*4+1,none⟩=some (I Q.gain):=x1;go_wp2_with (fail);go_roundw
      case rel=>exact⟨i+1,Q.gain,O,by go_num,zbc HBi.out nq,rfl,fun _=>HGE.out⟩
      case measure=>simp[intOf];omega
     ·have hE2:((zav n.antennas i).name.toList == (zab n.sectors j).antenna.toList)=false:=by rw[hE,decide_eq_false hik]
      have HIK:=J hik;clear hE hik;generalize zav n.antennas i=Q at *;go_wp2_with (fail)
      go_quiet (fail)
      rename_i nq;go_wp2_with (fail);go_roundw
      case rel=>exact⟨i+1,gn,O,by go_num,zbc HBi.out nq,rfl,fun h=>HGN_.out (by have:=HIK.out;omega)⟩
      case measure=>simp[intOf];omega
    ·obtain rfl:i=n.antennas.length:=O
     obtain rfl:gn=A.gain:=HGN_.out hla;have KRv:=J (bkB KR.out HBi.out zr);have HB3:=J (HBr.out.trans (HBi.out.mono HBr.out.size));have KGv:=J (bkB KG.out HB3.out hg);have zr2:v3_.heap.size<wr.heap.size:=by have:=HBi.out.size;omega
     have hg2:g<wr.heap.size:=by have:=HB3.out.size;omega
     clear HAD HAE HBi KR KG HBr HBW HGA;generalize wr=V2 at *;go_wp2_with (fail);clear t0 t1 t2 t3 t4 t5 t6 t7 t8 t9;have HNN:Hid (t.heights.length=za6 t):=by
      have g1:=HLH.out;have g2:=HGN.out.2.2;show _=_
      omega
     have hnn:=HGN.out.2.1;have BL:Hid (IJ V2 V2 (V2.alloc (.cells #[] 2))):=za2 _ _;have GL:Hid (Grow (V2.alloc (.cells #[] 2)) V2.heap.size 2 1 (II (some ⟨V2,0,none⟩) 0 0) 0 [] []):=grow_empty _ _;go_loopw [17,18] (fun ov iv wr=>∃ i:Nat,i≤za6 t∧iv=I (i:Int)∧IJ V2 V2 wr∧Grow wr V2.heap.size 2 1 ov i (((zcx t n (zab n.sectors j) f ab).take i).map intT) []) (fun _ iv wr=>za6 t-(intOf iv).toNat)
     case atStart=>exact⟨0,Nat.zero_le _,rfl,BL.out,by simpa using GL.out⟩
     case round =>
      clear BL GL;obtain⟨i,hi,rfl,hb,hg_⟩:=hrel;have HBi:=J hb;have HG:=J hg_;have HBW:=btr HB3 hb;clear hb hg_;have HBw:Hid (IJ w w wr):=HB.out.trans (HBW.out.mono HB.out.size);have i1:(0:Int)≤(i:Int):=O
      obtain⟨t0,t1,t2,t3,t4,t5,t6,t7,t8,t9⟩:=HD.out _ HBw.out
      by_cases hlt:i<za6 t
      ·have i2:i<t.heights.length:=by rw[HNN.out];exact hlt
       have i2':(i:Int)<(t.heights.length:Int):=O
       have hIT:=ptG_inT T hlt;have HTKi:=J (HTK.out i hlt);have hbp:=zc3 T hIT;unfold ptB at hbp;have hmy:0≤(i:Int) / t.width∧(i:Int) / t.width≤(i:Int):=⟨Int.ediv_nonneg i1 O,Int.ediv_le_self _ i1⟩
       have hmx:0≤(i:Int) % t.width∧(i:Int) % t.width<t.width:=⟨Int.emod_nonneg _ O,Int.emod_lt_of_pos _ O⟩
       have hpx:(i:Int) % t.width*t.step=(ptG t i).x:=rfl;have hpy:(i:Int) / t.width*t.step=(ptG t i).y:=rfl;have HIT:=J hIT;clear hIT;generalize ptG t i=P at *;have e0:(i:Int).tmod t.width=(i:Int) % t.width:=Int.tmod_eq_emod_of_nonneg i1;have e1:(i:Int).tdiv t.width=(i:Int) / t.width:=Int.tdiv_eq_ediv_of_nonneg i1;have e2:IntKind.i64.wrap ((i:Int) % t.width)=(i:Int) % t.width:=IntWalk.i64_in _ O;have e3:IntKind.i64.wrap ((i:Int) / t.width)=(i:Int) / t.width:=IntWalk.i64_in _ O;have e4:IntKind.i64.wrap ((i:Int) % t.width*t.step)=P.x:=by rw[hpx];exact IntWalk.i64_in _ O
       have e5:IntKind.i64.wrap ((i:Int) / t.width*t.step)=P.y:=by rw[hpy];exact IntWalk.i64_in _ O
       have e6:¬ t.width=0:=O
       have e7:(t.width == 0)=false:=beq_eq_false_iff_ne.2 e6;clear hpx hpy hmy hmx;have HDr:=J (fun (W:World) (h:IJ wr wr W)=>HD.out W (HBw.out.trans (h.mono HBw.out.size)));have BB0:Hid (IJ wr wr wr):=Below.refl _ _;have zwr:V2.heap.size≤wr.heap.size:=HBi.out.size;go_upto_region 18 with (fail);go_cut [19] (fun s19 wx=>∃ h:Nat,s19=.pointer (some ⟨h,0,none⟩)∧wx.heap[h]? = some (.cells #[I P.x,I P.y] 66 (0,0))∧IJ wr wr wx∧wr.heap.size≤h∧h<wx.heap.size)
       case first =>
        refine zap 25 (.read 0 (.read 1 (.read 2 (.read 3 (.read 4 (.read 5 (.read 6 (.read 7 (.read 8 (.read 9 (.read 10 (.read 11 (.read 12 (.read 13 (.read 14 (.read 15 (.read 16 (.read 17 (.read 18 (.read 19 (.read 20 (.read 21 (.read 22 (.one 23 (.one 24 .nil))))))))))))))))))))))))) (fun W=>IJ wr wr W) OJ OJ (BB0.out.drew) ?_;have ZB:=J (BB0.out.drew);have Zz:wr.heap.size≤wr.drew.heap.size:=Nat.le_refl _;generalize wr.drew=Z at *
        iterate 23
         refine zag (v:=?_) rfl (fun _ _ _ h=>h) ?_ ?_
         rotate_left
         ·(intro W hSW;(try dsimp only at hSW);obtain⟨t0,t1,t2,t3,t4,t5,t6,t7,t8,t9⟩:=HDr.out W hSW;(go_simp<;>with_reducible rfl))
         (try simp only[Act.put,IQ,IZ,OI])
        refine zaf ?_;refine zae rfl (fun K hK=>?_);go_simp;obtain⟨Z1,hW1,hb1,zl1,hk1⟩:=zax Z #[I 0,I 0] 66;rw[hW1];have Zkp1:=J hk1;have ZB1:=btr ZB hb1;refine hK.out _ _ ZB1.out ?_;have bs1:=hb1.size;clear hK K hW1 hk1 hb1;refine zaf ?_;refine zae rfl (fun K hK=>?_);obtain⟨g0,g1,fz⟩:=bz2 Zkp1.out;go_simp;obtain⟨Z2,hW2,Zkp2,bs2,ho2,hl2⟩:=zca Zkp1 [I P.x,I P.y] rfl;simp only[zb1] at hW2;rw[hW2];have ZB2:=J (hl2.out wr (by have:=ZB1.out.size;omega) ZB1.out);refine hK.out _ _ ZB2.out ?_;clear hK K fz hW2 ho2 hl2 g0 g1;refine zak ?_
        try simp only[List.drop_succ_cons,List.drop_zero]
        go_wp2_with fail;go_meet;exact⟨_,rfl,Zkp2.out,ZB2.out,O,O⟩
       case rest =>
        obtain⟨h,rfl,kh_,hbv,hh0,hh⟩:=hcut;generalize wc=U at *;clear t0 t1 t2 t3 t4 t5 t6 t7 t8 t9 e0 e1 e2 e3 e4 e5 e6 e7 HDr BB0;have HBv:Hid (IJ w w U):=HBw.out.trans (hbv.mono HBw.out.size);have HB2v:Hid (IJ V2 V2 U):=HBi.out.trans (hbv.mono HBi.out.size);have HGU:=J (HG.out.below (lo:=0) In.nil hbv);have zU:V2.heap.size≤U.heap.size:=HB2v.out.size;have kr_:=bkB KRv.out HB2v.out zr2;obtain⟨b0,b1,b2,b3,b4,b5⟩:=by6' kr_;have kg_:=bkB KGv.out HB2v.out hg2;have g0:=bkC (v:=I (endR n (zab n.sectors j)).place.x) kg_ 0 rfl;have g1:=bkC (v:=I (endR n (zab n.sectors j)).place.y) kg_ 1 rfl;have p0:=bkC (v:=I P.x) kh_ 0 rfl;have p1:=bkC (v:=I P.y) kh_ 1 rfl;clear kr_ kg_ kh_ hbv HG HBi HBw HBW;obtain⟨hra0,hra1⟩:=hra;obtain⟨hrf0,hrf1⟩:=hrf;obtain⟨hga0,hga1⟩:=hga
        by_cases c1:(endR n (zab n.sectors j)).place.x=P.x
        ·have d1:(P.x == (endR n (zab n.sectors j)).place.x)=true:=beq_iff_eq.2 c1.symm
         by_cases c2:(endR n (zab n.sectors j)).place.y=P.y
         ·have d2:(P.y == (endR n (zab n.sectors j)).place.y)=true:=beq_iff_eq.2 c2.symm
          have HC:=J (And.intro c1 c2);clear c1 c2;skip;have HV:Hid (gvI t n (zab n.sectors j) f ⟨P,ab⟩=max (-300000) (R.power-R.feeder+A.gain)):=by show _=_;rw[← HPG.out];exact HRS.out _ HC.out
          go_wp2_with (first|(go_at_call 94;refine (CMX.out _ _).mono ?_;rintro e w6 ⟨rfl,rfl⟩)|(at_builtin;(with_reducible show wpList _ _ _ _ _ (World.alloc _ _));refine zbe rfl (.tmp 156) (.tmp 159) _ rfl V2.heap.size 2 i0 _ 1 8 Tryz.underlying22 hi0 hz0 hz1 hz2 rfl O _ _ _ [] rfl HGU.out [I (max (-300000) (R.power-R.feeder+A.gain))] [intT (max (-300000) (R.power-R.feeder+A.gain))] [] rfl 1 rfl (fun u hu=>by simp at hu;subst hu;rfl) (RepV.lits [I (max (-300000) (R.power-R.feeder+A.gain))]) List.nodup_nil (fun b h=>by simp at h) 0 In.nil In.nil (by simp) (by simp) (by unfold maxLen;omega) O O ?_;intro v7 w7 hgn;have HGA:=J hgn;clear hgn));go_roundw
          case rel =>
           refine⟨i+1,O,by go_num,HB2v.out.trans HGA.out.below,?_⟩;rw[HTKi.out,List.map_append,HV.out];exact HGA.out.grow
          case measure=>simp[intOf];omega
         ·have d2:(P.y == (endR n (zab n.sectors j)).place.y)=false:=beq_eq_false_iff_ne.2 (fun h=>c2 h.symm)
          have HC:Hid (¬ ((endR n (zab n.sectors j)).place.x=P.x∧(endR n (zab n.sectors j)).place.y=P.y)):=fun h=>c2 h.2
          clear c1 c2;skip;have HV:Hid (gvI t n (zab n.sectors j) f ⟨P,ab⟩=max (-300000) (levI t n (zab n.sectors j) f ⟨P,ab⟩)):=HRB.out _ HIT.out HC.out;have CLq0:=CL.out ⟨P,ab⟩ HIT.out eb HC.out
          dsimp only at CLq0
          have CLq:=J CLq0;clear CLq0;go_wp2_with (first|(go_at_call 93;go_loud (with_reducible refine (CLq.out _ HBv.out).mono ?_);rintro e w5 ⟨rfl,hb_⟩;(have HG5:=J (HGU.out.below (lo:=0) In.nil hb_));(have B5:Hid (IJ V2 V2 w5):=HB2v.out.trans (hb_.mono HB2v.out.size));(have z5:V2.heap.size≤w5.heap.size:=B5.out.size);clear hb_)|(go_at_call 94;refine (CMX.out _ _).mono ?_;rintro e w6 ⟨rfl,rfl⟩)|(at_builtin;(with_reducible show wpList _ _ _ _ _ (World.alloc _ _));refine zbe rfl (.tmp 156) (.tmp 159) _ rfl V2.heap.size 2 i0 _ 1 8 Tryz.underlying22 hi0 hz0 hz1 hz2 rfl O _ _ _ [] rfl HG5.out [I (max (-300000) (levI t n (zab n.sectors j) f ⟨P,ab⟩))] [intT (max (-300000) (levI t n (zab n.sectors j) f ⟨P,ab⟩))] [] rfl 1 rfl (fun u hu=>by simp at hu;subst hu;rfl) (RepV.lits [I (max (-300000) (levI t n (zab n.sectors j) f ⟨P,ab⟩))]) List.nodup_nil (fun b h=>by simp at h) 0 In.nil In.nil (by simp) (by simp) (by unfold maxLen;omega) O O ?_;intro v7 w7 hgn;have HGA:=J hgn;clear hgn));go_roundw
          case rel =>
           refine⟨i+1,O,by go_num,B5.out.trans HGA.out.below,?_⟩;rw[HTKi.out,List.map_append,HV.out];exact HGA.out.grow
          case measure=>simp[intOf];omega
        ·have d1:(P.x == (endR n (zab n.sectors j)).place.x)=false:=beq_eq_false_iff_ne.2 (fun h=>c1 h.symm)
         have HC:Hid (¬ ((endR n (zab n.sectors j)).place.x=P.x∧(endR n (zab n.sectors j)).place.y=P.y)):=fun h=>c1 h.1
         clear c1;skip;have HV:Hid (gvI t n (zab n.sectors j) f ⟨P,ab⟩=max (-300000) (levI t n (zab n.sectors j) f ⟨P,ab⟩)):=HRB.out _ HIT.out HC.out;have CLq0:=CL.out ⟨P,ab⟩ HIT.out eb HC.out
         dsimp only at CLq0
         have CLq:=J CLq0;clear CLq0;go_wp2_with (first|(go_at_call 93;go_loud (with_reducible refine (CLq.out _ HBv.out).mono ?_);rintro e w5 ⟨rfl,hb_⟩;(have HG5:=J (HGU.out.below (lo:=0) In.nil hb_));(have B5:Hid (IJ V2 V2 w5):=HB2v.out.trans (hb_.mono HB2v.out.size));(have z5:V2.heap.size≤w5.heap.size:=B5.out.size);clear hb_)|(go_at_call 94;refine (CMX.out _ _).mono ?_;rintro e w6 ⟨rfl,rfl⟩)|(at_builtin;(with_reducible show wpList _ _ _ _ _ (World.alloc _ _));refine zbe rfl (.tmp 156) (.tmp 159) _ rfl V2.heap.size 2 i0 _ 1 8 Tryz.underlying22 hi0 hz0 hz1 hz2 rfl O _ _ _ [] rfl HG5.out [I (max (-300000) (levI t n (zab n.sectors j) f ⟨P,ab⟩))] [intT (max (-300000) (levI t n (zab n.sectors j) f ⟨P,ab⟩))] [] rfl 1 rfl (fun u hu=>by simp at hu;subst hu;rfl) (RepV.lits [I (max (-300000) (levI t n (zab n.sectors j) f ⟨P,ab⟩))]) List.nodup_nil (fun b h=>by simp at h) 0 In.nil In.nil (by simp) (by simp) (by unfold maxLen;omega) O O ?_;intro v7 w7 hgn;have HGA:=J hgn;clear hgn));go_roundw
         case rel =>
          refine⟨i+1,O,by go_num,B5.out.trans HGA.out.below,?_⟩;rw[HTKi.out,List.map_append,HV.out];exact HGA.out.grow
         case measure=>simp[intOf];omega
      ·obtain rfl:i=za6 t:=O
       have hN:=HNN.out;have hi2:(t.heights.length:Int)=((za6 t:Nat):Int):=O
       have hg:=HG.out;rw[List.take_of_length_le (by rw[HGL.out];exact Nat.le_refl _)] at hg;obtain⟨av,cv,fv,ev,ov,iv⟩:=hg.toOwn (lo:=V2.heap.size) O In.nil (Nat.le_refl _);subst ev;have OV:=J ov;have IV:=J iv;clear hg ov iv HG;go_wp2_with (fail);go_ret;refine⟨av,cv,fv,by rw[HGL.out];rfl,HBw.out,?_,IV.out.mono (by have:=HB.out.size;have:=HB3.out.size;omega) (Nat.le_refl _)⟩;rw[HGL.out];exact OV.out
end Go.Proofs.YtgmapjgodibchaaGreatDoor
