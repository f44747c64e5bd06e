/- The walk of the law FnExactCoverNetwork: it returns true. -/
import Derived.Test.YtgmapjgodibchaaGreatDoorLzF
set_option linter.unusedVariables false
set_option linter.unusedSimpArgs false
namespace Go.Proofs.YtgmapjgodibchaaGreatDoor.fnExactCoverNetwork
open Go.RowKit
set_option maxHeartbeats 16000000
set_option maxRecDepth 100000
theorem calls_cast {P:Program} {f:FuncId} {a:Value} {K K':Int} {w:World} {Q:Ending→World→Prop} (hK:K=K') (h:Calls P f #[a,I K'] w Q):Calls P f #[a,I K] w Q:=hK ▸ h
theorem cov_small (t:DTerrain) (n:DNetwork) (f ab le:Int):(covR t n f ab le).1.server.length≤576∧(covR t n f ab le).1.level.length≤576:=by
 unfold covR
 split
 ·rename_i h
  split
  ·split
   ·show (srvC _ _ (za6 t) _).length≤576∧(lvlC _ _ (za6 t) _).length≤576
    rw[zet,zev];exact⟨(zez (terrB_ok h.1)).2.1,(zez (terrB_ok h.1)).2.1⟩
   ·simp[zeroRas]
  ·simp[zeroRas]
 ·simp[zeroRas]
theorem walk (t:DTerrain) (nw:DNetwork) (f:Int) (ab:Int) (le:Int) (vt3 vt4 vnw0 vnw1 vnw2 vnw3:Value) (w:World) (LL:TabW w) (rt3:Rd w w (zai t.heights) vt3) (rt4:Rd w w (zai t.clutter) vt4) (rnw0:Rd w w (DSite.sT nw.sites) vnw0) (rnw1:Rd w w (DSector.sT nw.sectors) vnw1) (rnw2:Rd w w (DAntenna.sT nw.antennas) vnw2) (rnw3:Rd w w (DRadio.sT nw.radios) vnw3) (hk_t:t.ok) (hk_nw:nw.ok) (hk_f:I64 f) (hk_ab:I64 ab) (hk_le:I64 le) :
  Calls Tryz.prog 3 #[.agg #[I t.step,I t.width,I t.height,vt3,vt4],.agg #[vnw0,vnw1,vnw2,vnw3],I f,I ab,I le] w fun e w'=>e=.returned (.bool true)∧IJ w w w':=by
 have HLL:=J LL;clear LL;have Ht3:=J rt3;have Ht4:=J rt4;have Hnw0:=J rnw0;have Hnw1:=J rnw1;have Hnw2:=J rnw2;have Hnw3:=J rnw3;clear rt3 rt4 rnw0 rnw1 rnw2 rnw3;have hq_t:=DTerrain.siz_tr t;have hq_nw:=DNetwork.siz_tr nw;obtain⟨hR1,hR2⟩:=cov_small t nw f ab le;have hRz:=DRaster.siz_tr (covR t nw f ab le).1;have hRz1:siz (zai (covR t nw f ab le).1.server)≤576:=by rw[zcb];exact hR1
 have hRz2:siz (zai (covR t nw f ab le).1.level)≤576:=by rw[zcb];exact hR2
 have hRc1:cnt (zai (covR t nw f ab le).1.server)≤576:=by rw[ze0];exact hR1
 have hRc2:cnt (zai (covR t nw f ab le).1.level)≤576:=by rw[ze0];exact hR2
 have hc0:=DSite.cnt_le nw.sites;have hc1:=DSector.cnt_le nw.sectors;have hc2:=DAntenna.cnt_le nw.antennas;have hc3:=DRadio.cnt_le nw.radios;have hc5:cnt (zai t.heights)=siz (zai t.heights):=by rw[ze0,zcb]
 have hc6:cnt (zai t.clutter)=siz (zai t.clutter):=by rw[ze0,zcb]
 have BB0:Hid (IJ w w w):=Below.refl _ _;generalize hR:covR t nw f ab le=R at *;have HR:=J hR;clear hR;have HS:Hid (∀ (W:World) (xt3 xt4 xnw0 xnw1 xnw2 xnw3:Value),Rd W W (zai t.heights) xt3→Rd W W (zai t.clutter) xt4→Rd W W (DSite.sT nw.sites) xnw0→Rd W W (DSector.sT nw.sectors) xnw1→Rd W W (DAntenna.sT nw.antennas) xnw2→Rd W W (DRadio.sT nw.radios) xnw3→sizL t.tr≤1048576→sizL nw.tr≤1048576→Calls Tryz.prog 8 #[.agg #[I t.step,I t.width,I t.height,xt3,xt4],.agg #[xnw0,xnw1,xnw2,xnw3],I f,I ab,I le] W (fun e w'=>∃ a0_3 c0_3 a0_4 c0_4 fp0,e=.returned (.tuple #[.agg #[I R.1.step,I R.1.width,I R.1.height,II a0_3 R.1.server.length c0_3,II a0_4 R.1.level.length c0_4],I R.2])∧IJ W W w'∧OwnV w' R.1.tr [I R.1.step,I R.1.width,I R.1.height,II a0_3 R.1.server.length c0_3,II a0_4 R.1.level.length c0_4] fp0∧In W w'.heap.size fp0)):=fun W xt3 xt4 xnw0 xnw1 xnw2 xnw3  yt3 yt4 ynw0 ynw1 ynw2 ynw3 z0 z1=>by rw[← HR.out];exact sCoverNetwork_std t nw f ab le xt3 xt4 xnw0 xnw1 xnw2 xnw3 W  yt3 yt4 ynw0 ynw1 ynw2 ynw3 z0 hk_t z1 hk_nw hk_f hk_ab hk_le
 have HI:Hid (∀ (W:World) (xt3 xt4 xnw0 xnw1 xnw2 xnw3:Value),TabW W→Rd W W (zai t.heights) xt3→Rd W W (zai t.clutter) xt4→Rd W W (DSite.sT nw.sites) xnw0→Rd W W (DSector.sT nw.sectors) xnw1→Rd W W (DAntenna.sT nw.antennas) xnw2→Rd W W (DRadio.sT nw.radios) xnw3→sizL t.tr≤1048576→sizL nw.tr≤1048576→Calls Tryz.prog 11 #[.agg #[I t.step,I t.width,I t.height,xt3,xt4],.agg #[xnw0,xnw1,xnw2,xnw3],I f,I ab,I le] W (fun e w'=>∃ a0_3 c0_3 a0_4 c0_4 fp0,e=.returned (.tuple #[.agg #[I R.1.step,I R.1.width,I R.1.height,II a0_3 R.1.server.length c0_3,II a0_4 R.1.level.length c0_4],I R.2])∧IJ W W w'∧OwnV w' R.1.tr [I R.1.step,I R.1.width,I R.1.height,II a0_3 R.1.server.length c0_3,II a0_4 R.1.level.length c0_4] fp0∧In W w'.heap.size fp0)):=fun W xt3 xt4 xnw0 xnw1 xnw2 xnw3 hll yt3 yt4 ynw0 ynw1 ynw2 ynw3 z0 z1=>by rw[← HR.out];exact iCoverNetwork_std t nw f ab le xt3 xt4 xnw0 xnw1 xnw2 xnw3 W hll yt3 yt4 ynw0 ynw1 ynw2 ynw3 z0 hk_t z1 hk_nw hk_f hk_ab hk_le
 go_enter Tryz.func3,Tryz.ntmps3;go_wp2_with fail;have BX1:Hid (IJ w w ((w.alloc (.cells #[I t.step,I t.width,I t.height,vt3,vt4] 24)).alloc (.cells #[vnw0,vnw1,vnw2,vnw3] 30))):=((BB0.out.alloc OO _).alloc OO _)
 have zx1:=BX1.out.size;refine (sz_Terrain t vt3 vt4 w.heap.size _ _ (Ht3.out.below BX1.out) (Ht4.out.below BX1.out) O O O hk_t).mono ?_;rintro e w1 ⟨⟨cz1,rfl⟩|⟨cz1,rfl⟩,hb1⟩
 case inr =>
  go_wp2;go_ret;exact⟨rfl,BX1.out.trans (hb1.mono O)⟩
 have cy1:decide ((1048576:Int)-sizL t.tr<0)=false:=by simp<;>omega
 have hx1:IJ w w ((w.alloc (.cells #[I t.step,I t.width,I t.height,vt3,vt4] 24)).alloc (.cells #[vnw0,vnw1,vnw2,vnw3] 30)):=(((Below.refl _ _).alloc (Nat.le_refl _) _).alloc (by first|(simp;done)|(simp<;>omega)) _)
 have hbb1:IJ w w w1:=hx1.trans (hb1.mono (by first|(simp;done)|(simp<;>omega)));have z1:=hbb1.size;obtain⟨qAt1,_,yAt1⟩:=zah hb1 (b:=w.heap.size) OO;obtain⟨qAnw1,_,yAnw1⟩:=zah hb1 (b:=w.heap.size+1) OO;have BB1:=J (BB0.out.trans (hbb1.mono O));clear hx1;clear hb1 hbb1;have CZ1:=J cy1;go_wp2_with fail;have BX2:Hid (IJ w w w1):=BB1.out;have zx2:=BX2.out.size
 (try clear zx1)
 refine (sz_Network nw vnw0 vnw1 vnw2 vnw3 w.heap.size _ _ (Hnw0.out.below BX2.out) (Hnw1.out.below BX2.out) (Hnw2.out.below BX2.out) (Hnw3.out.below BX2.out) O O O hk_nw).mono ?_;rintro e w2 ⟨⟨cz2,rfl⟩|⟨cz2,rfl⟩,hb2⟩
 case inr =>
  go_wp2;go_ret;exact⟨rfl,BX2.out.trans (hb2.mono O)⟩
 have cy2:decide (((1048576:Int)-sizL t.tr)-sizL nw.tr<0)=false:=by simp<;>omega
 have hbb2:IJ w1 w1 w2:=hb2;have z2:=hbb2.size;obtain⟨qAt2,_,yAt2⟩:=zah hb2 (b:=w.heap.size) OO;obtain⟨qAnw2,_,yAnw2⟩:=zah hb2 (b:=w.heap.size+1) OO;have BB2:=J (BB1.out.trans (hbb2.mono O));clear hbb2;have CZ2:=J cy2;go_wp2;have hcf:w2.cell? ⟨w,0,none⟩=some (I t.step)∧w2.cell? ⟨w,1,none⟩=some (I t.width)∧w2.cell? ⟨w,2,none⟩=some (I t.height)∧w2.cell? ⟨w,3,none⟩=some (vt3)∧w2.cell? ⟨w,4,none⟩=some (vt4)∧w2.cell? ⟨w.heap.size+1,0,none⟩=some (vnw0)∧w2.cell? ⟨w.heap.size+1,1,none⟩=some (vnw1)∧w2.cell? ⟨w.heap.size+1,2,none⟩=some (vnw2)∧w2.cell? ⟨w.heap.size+1,3,none⟩=some (vnw3):=by refine⟨?_,?_,?_,?_,?_,?_,?_,?_,?_⟩<;>simp[go_sem, *]
 have HKB:Hid (∀ W:World,IJ w2 w2 W→W.cell? ⟨w,0,none⟩=some (I t.step)∧W.cell? ⟨w,1,none⟩=some (I t.width)∧W.cell? ⟨w,2,none⟩=some (I t.height)∧W.cell? ⟨w,3,none⟩=some (vt3)∧W.cell? ⟨w,4,none⟩=some (vt4)∧W.cell? ⟨w.heap.size+1,0,none⟩=some (vnw0)∧W.cell? ⟨w.heap.size+1,1,none⟩=some (vnw1)∧W.cell? ⟨w.heap.size+1,2,none⟩=some (vnw2)∧W.cell? ⟨w.heap.size+1,3,none⟩=some (vnw3)):=fun W hW=>by
  obtain⟨e0,e1,e2,e3,e4,e5,e6,e7,e8⟩:=hcf;exact⟨(bat hW _ _ O).trans e0,(bat hW _ _ O).trans e1,(bat hW _ _ O).trans e2,(bat hW _ _ O).trans e3,(bat hW _ _ O).trans e4,(bat hW _ _ O).trans e5,(bat hW _ _ O).trans e6,(bat hW _ _ O).trans e7,(bat hW _ _ O).trans e8⟩
 clear hcf;have BBd:Hid (IJ w2 w2 w2.drew):=(Below.refl _ _).drew;go_cut [12,13] (fun s0 s1 wx=>∃ (hs:Nat) (as03:Option Addr) (cs03:Nat) (as04:Option Addr) (cs04:Nat) (fs0:List Nat) (los his:Nat),s0=.pointer (some ⟨hs,0,none⟩)∧s1=I R.2∧wx.heap[hs]? = some (.cells #[I R.1.step,I R.1.width,I R.1.height,II as03 R.1.server.length cs03,II as04 R.1.level.length cs04] 34 (0,0))∧w2.heap.size≤hs∧hs<wx.heap.size∧IJ w2 w2 wx∧OwnV wx R.1.tr [I R.1.step,I R.1.width,I R.1.height,II as03 R.1.server.length cs03,II as04 R.1.level.length cs04] fs0∧In los his fs0∧w2.heap.size≤los∧his≤wx.heap.size∧(hs<los∨his≤hs))
 case first =>
  refine zap 13 (.read 0 (.read 2 (.read 4 (.read 5 (.read 6 (.two 1 11 (.two 3 11 (.two 7 11 (.read 8 (.read 9 (.read 10 (.one 11 (.one 12 .nil))))) (.one 7 (.read 8 (.read 9 (.read 10 (.one 12 .nil)))))) (.one 3 (.one 7 (.read 8 (.read 9 (.read 10 (.one 12 .nil))))))) (.one 1 (.one 3 (.one 7 (.read 8 (.read 9 (.read 10 (.one 12 .nil))))))))))))) (fun W=>W.cell? ⟨w,0,none⟩=some (I t.step)∧W.cell? ⟨w,1,none⟩=some (I t.width)∧W.cell? ⟨w,2,none⟩=some (I t.height)∧W.cell? ⟨w,3,none⟩=some (vt3)∧W.cell? ⟨w,4,none⟩=some (vt4)∧W.cell? ⟨w.heap.size+1,0,none⟩=some (vnw0)∧W.cell? ⟨w.heap.size+1,1,none⟩=some (vnw1)∧W.cell? ⟨w.heap.size+1,2,none⟩=some (vnw2)∧W.cell? ⟨w.heap.size+1,3,none⟩=some (vnw3)) OJ OJ (HKB.out _ BBd.out) ?_;have zd:w2.heap.size≤w2.drew.heap.size:=Nat.le_refl _;generalize w2.drew=Y at *;refine zag (v:=?_) rfl (fun _ _ _ h=>h) ?_ ?_
  rotate_left
  ·(intro W hSW;(try dsimp only at hSW);(go_simp<;>with_reducible rfl))
  (try simp only[Act.put,IQ,IZ,OI])
  refine zag (v:=?_) rfl (fun _ _ _ h=>h) ?_ ?_
  rotate_left
  ·(intro W hSW;(try dsimp only at hSW);(go_simp<;>with_reducible rfl))
  (try simp only[Act.put,IQ,IZ,OI])
  refine zag (v:=?_) rfl (fun _ _ _ h=>h) ?_ ?_
  rotate_left
  ·(intro W hSW;(try dsimp only at hSW);(go_simp<;>with_reducible rfl))
  (try simp only[Act.put,IQ,IZ,OI])
  refine zag (v:=?_) rfl (fun _ _ _ h=>h) ?_ ?_
  rotate_left
  ·(intro W hSW;(try dsimp only at hSW);(go_simp<;>with_reducible rfl))
  (try simp only[Act.put,IQ,IZ,OI])
  refine zag (v:=?_) rfl (fun _ _ _ h=>h) ?_ ?_
  rotate_left
  ·(intro W hSW;(try dsimp only at hSW);(go_simp<;>with_reducible rfl))
  (try simp only[Act.put,IQ,IZ,OI])
  refine za0 ?_ ?_
  ·refine zae rfl (fun K hK=>?_)
   go_simp;refine (zed t _ _ _ ((Ht3.out.below (BB2.out.trans (BBd.out.mono O))).mono O) ((Ht4.out.below (BB2.out.trans (BBd.out.mono O))).mono O) O).mono ?_;rintro e Y1 ⟨att3,ctt3,att4,ctt4,ftt,rfl,hb1,ov1,iv1⟩;refine hK.out _ _ (HKB.out _ (BBd.out.trans (hb1.mono O))) ?_;clear hK K
   (try simp only[Act.put,IQ,IZ,OI])
   have OT1:=J ov1;have itt:=iv1;clear ov1 iv1;have bs1:Y.heap.size≤Y1.heap.size:=hb1.size;have BY1:=J (BBd.out.trans (hb1.mono O));clear hb1;refine za0 ?_ ?_
   ·refine zae rfl (fun K hK=>?_)
    go_simp;refine (zdf nw _ _ _ _ _ ((Hnw0.out.below (BB2.out.trans (BY1.out.mono O))).mono O) ((Hnw1.out.below (BB2.out.trans (BY1.out.mono O))).mono O) ((Hnw2.out.below (BB2.out.trans (BY1.out.mono O))).mono O) ((Hnw3.out.below (BB2.out.trans (BY1.out.mono O))).mono O) O).mono ?_;rintro e Y2 ⟨atnw0,ctnw0,atnw1,ctnw1,atnw2,ctnw2,atnw3,ctnw3,ftnw,rfl,hb2,ov2,iv2⟩;refine hK.out _ _ (HKB.out _ (BY1.out.trans (hb2.mono O))) ?_;clear hK K
    (try simp only[Act.put,IQ,IZ,OI])
    have OT2:=J ov2;have itnw:=iv2;clear ov2 iv2;have bs2:Y1.heap.size≤Y2.heap.size:=hb2.size;have BY2:=J (BY1.out.trans (hb2.mono O));have OT2_t:=J (OT1.out.below itt O hb2);clear hb2;refine za0 ?_ ?_
    ·refine zae rfl (fun K hK=>?_)
     go_simp;refine (HS.out _ _ _ _ _ _ _ (((OT2_t.out.rd itt).2.2.2.1).mono O) (((OT2_t.out.rd itt).2.2.2.2.1).mono O) (((OT2.out.rd itnw).1).mono O) (((OT2.out.rd itnw).2.1).mono O) (((OT2.out.rd itnw).2.2.1).mono O) (((OT2.out.rd itnw).2.2.2.1).mono O) O O).mono ?_;rintro e Y3 ⟨as03,cs03,as04,cs04,fs0,rfl,hb3,ov3,iv3⟩;refine hK.out _ _ (HKB.out _ (BY2.out.trans (hb3.mono O))) ?_;clear hK K
     (try simp only[Act.put,IQ,IZ,OI])
     have OR3:=J ov3;have ir:=iv3;clear ov3 iv3;have bs3:Y2.heap.size≤Y3.heap.size:=hb3.size;have BY3:=J (BY2.out.trans (hb3.mono O));clear hb3;refine zag (v:=?_) rfl (fun _ _ _ h=>h) ?_ ?_
     rotate_left
     ·(intro W hSW;(try dsimp only at hSW);(go_simp<;>with_reducible rfl))
     (try simp only[Act.put,IQ,IZ,OI])
     refine zag (v:=?_) rfl (fun _ _ _ h=>h) ?_ ?_
     rotate_left
     ·(intro W hSW;(try dsimp only at hSW);(go_simp<;>with_reducible rfl))
     (try simp only[Act.put,IQ,IZ,OI])
     refine zag (v:=?_) rfl (fun _ _ _ h=>h) ?_ ?_
     rotate_left
     ·(intro W hSW;(try dsimp only at hSW);(go_simp<;>with_reducible rfl))
     (try simp only[Act.put,IQ,IZ,OI])
     refine zaf ?_;refine zae rfl (fun K hK=>?_);go_simp;have hb4:IJ Y3 Y3 (Y3.alloc (.cells #[I 0,I 0,I 0,II none 0 0,II none 0 0] 34)):=(Below.refl _ _).alloc (Nat.le_refl _) _;have kh4:=J (bkN Y3 #[I 0,I 0,I 0,II none 0 0,II none 0 0] 34);have zl4:Y3.heap.size+1≤(Y3.alloc (.cells #[I 0,I 0,I 0,II none 0 0,II none 0 0] 34)).heap.size:=by simp
     refine hK.out _ _ (HKB.out _ (BY3.out.trans (hb4.mono O))) ?_;clear hK K
     (try simp only[Act.put,IQ,IZ,OI])
     generalize (Y3.alloc (.cells #[I 0,I 0,I 0,II none 0 0,II none 0 0] 34))=Y4 at *;have bs4:Y3.heap.size≤Y4.heap.size:=hb4.size;have BY4:=J (BY3.out.trans (hb4.mono O));have OR4:=J (OR3.out.below ir O hb4);clear hb4;refine zaf ?_;refine zae rfl (fun K hK=>?_);have g0_:=bkC (v:=I 0) kh4.out 0 rfl;have g1_:=bkC (v:=I 0) kh4.out 1 rfl;have g2_:=bkC (v:=I 0) kh4.out 2 rfl;have g3_:=bkC (v:=II none 0 0) kh4.out 3 rfl;have g4_:=bkC (v:=II none 0 0) kh4.out 4 rfl;have fz:=bkF kh4.out;have kf_:(((((Y4.setCell ⟨Y3,0,none⟩ (I R.1.step)).setCell ⟨Y3,1,none⟩ (I R.1.width)).setCell ⟨Y3,2,none⟩ (I R.1.height)).setCell ⟨Y3,3,none⟩ (II as03 R.1.server.length cs03)).setCell ⟨Y3,4,none⟩ (II as04 R.1.level.length cs04)).heap[Y3.heap.size]? = some (.cells #[I R.1.step,I R.1.width,I R.1.height,II as03 R.1.server.length cs03,II as04 R.1.level.length cs04] 34 (0,0)):=by
      have h_:=bkS (bkS (bkS (bkS (bkS (kh4.out) 0 (I R.1.step)) 1 (I R.1.width)) 2 (I R.1.height)) 3 (II as03 R.1.server.length cs03)) 4 (II as04 R.1.level.length cs04)
      simpa using h_
     have KF:=J kf_;clear kf_;have BF:=J ((((((BY4.out).setCell (p:=⟨Y3,0,none⟩) (by show w2.heap.size≤Y3.heap.size;omega) (I R.1.step)).setCell (p:=⟨Y3,1,none⟩) (by show w2.heap.size≤Y3.heap.size;omega) (I R.1.width)).setCell (p:=⟨Y3,2,none⟩) (by show w2.heap.size≤Y3.heap.size;omega) (I R.1.height)).setCell (p:=⟨Y3,3,none⟩) (by show w2.heap.size≤Y3.heap.size;omega) (II as03 R.1.server.length cs03)).setCell (p:=⟨Y3,4,none⟩) (by show w2.heap.size≤Y3.heap.size;omega) (II as04 R.1.level.length cs04));have OF:=J ((((((OR4.out).setFar (p:=⟨Y3,0,none⟩) (fun e=>by have:=ir _ e;simp only at this;omega) (I R.1.step)).setFar (p:=⟨Y3,1,none⟩) (fun e=>by have:=ir _ e;simp only at this;omega) (I R.1.width)).setFar (p:=⟨Y3,2,none⟩) (fun e=>by have:=ir _ e;simp only at this;omega) (I R.1.height)).setFar (p:=⟨Y3,3,none⟩) (fun e=>by have:=ir _ e;simp only at this;omega) (II as03 R.1.server.length cs03)).setFar (p:=⟨Y3,4,none⟩) (fun e=>by have:=ir _ e;simp only at this;omega) (II as04 R.1.level.length cs04));have zs5:Y4.heap.size≤(((((Y4.setCell ⟨Y3,0,none⟩ (I R.1.step)).setCell ⟨Y3,1,none⟩ (I R.1.width)).setCell ⟨Y3,2,none⟩ (I R.1.height)).setCell ⟨Y3,3,none⟩ (II as03 R.1.server.length cs03)).setCell ⟨Y3,4,none⟩ (II as04 R.1.level.length cs04)).heap.size:=by simp only[zac];omega
     go_simp;refine hK.out _ _ (HKB.out _ BF.out) ?_;clear hK K fz g0_ g1_ g2_ g3_ g4_
     (try simp only[Act.put,IQ,IZ,OI])
     generalize (((((Y4.setCell ⟨Y3,0,none⟩ (I R.1.step)).setCell ⟨Y3,1,none⟩ (I R.1.width)).setCell ⟨Y3,2,none⟩ (I R.1.height)).setCell ⟨Y3,3,none⟩ (II as03 R.1.server.length cs03)).setCell ⟨Y3,4,none⟩ (II as04 R.1.level.length cs04))=Y5 at *;refine zak ?_;simp only[List.drop_succ_cons,List.drop_zero];go_wp2_with fail;go_meet;exact⟨_,as03,cs03,as04,cs04,fs0,_,_,rfl,rfl,KF.out,O,O,BF.out,OF.out,ir,O,O,O⟩
    ·refine zae rfl (fun K hK=>?_)
     go_simp;have hb6:IJ Y2 Y2 (Y2.alloc (.cells #[I 0,I 0,I 0,II none 0 0,II none 0 0] 34)):=(Below.refl _ _).alloc (Nat.le_refl _) _;have kh6:=J (bkN Y2 #[I 0,I 0,I 0,II none 0 0,II none 0 0] 34);have zl6:Y2.heap.size+1≤(Y2.alloc (.cells #[I 0,I 0,I 0,II none 0 0,II none 0 0] 34)).heap.size:=by simp
     refine hK.out _ _ (HKB.out _ (BY2.out.trans (hb6.mono O))) ?_;clear hK K
     (try simp only[Act.put,IQ,IZ,OI])
     generalize (Y2.alloc (.cells #[I 0,I 0,I 0,II none 0 0,II none 0 0] 34))=Y6 at *;have bs6:Y2.heap.size≤Y6.heap.size:=hb6.size;have BY6:=J (BY2.out.trans (hb6.mono O));have OT6_t:=J (OT2_t.out.below itt O hb6);have OT6_nw:=J (OT2.out.below itnw O hb6);clear hb6;refine zaf ?_;refine zae rfl (fun K hK=>?_);go_simp;refine (HS.out _ _ _ _ _ _ _ (((OT6_t.out.rd itt).2.2.2.1).mono O) (((OT6_t.out.rd itt).2.2.2.2.1).mono O) (((OT6_nw.out.rd itnw).1).mono O) (((OT6_nw.out.rd itnw).2.1).mono O) (((OT6_nw.out.rd itnw).2.2.1).mono O) (((OT6_nw.out.rd itnw).2.2.2.1).mono O) O O).mono ?_;rintro e Y7 ⟨as03,cs03,as04,cs04,fs0,rfl,hb7,ov7,iv7⟩;refine hK.out _ _ (HKB.out _ (BY6.out.trans (hb7.mono O))) ?_;clear hK K
     (try simp only[Act.put,IQ,IZ,OI])
     have OR7:=J ov7;have ir:=iv7;clear ov7 iv7;have bs7:Y6.heap.size≤Y7.heap.size:=hb7.size;have BY7:=J (BY6.out.trans (hb7.mono O));have kh7:=J (bkB kh6.out hb7 O);clear hb7;refine zag (v:=?_) rfl (fun _ _ _ h=>h) ?_ ?_
     rotate_left
     ·(intro W hSW;(try dsimp only at hSW);(go_simp<;>with_reducible rfl))
     (try simp only[Act.put,IQ,IZ,OI])
     refine zag (v:=?_) rfl (fun _ _ _ h=>h) ?_ ?_
     rotate_left
     ·(intro W hSW;(try dsimp only at hSW);(go_simp<;>with_reducible rfl))
     (try simp only[Act.put,IQ,IZ,OI])
     refine zag (v:=?_) rfl (fun _ _ _ h=>h) ?_ ?_
     rotate_left
     ·(intro W hSW;(try dsimp only at hSW);(go_simp<;>with_reducible rfl))
     (try simp only[Act.put,IQ,IZ,OI])
     refine zaf ?_;refine zae rfl (fun K hK=>?_);have g0_:=bkC (v:=I 0) kh7.out 0 rfl;have g1_:=bkC (v:=I 0) kh7.out 1 rfl;have g2_:=bkC (v:=I 0) kh7.out 2 rfl;have g3_:=bkC (v:=II none 0 0) kh7.out 3 rfl;have g4_:=bkC (v:=II none 0 0) kh7.out 4 rfl;have fz:=bkF kh7.out;have kf_:(((((Y7.setCell ⟨Y2,0,none⟩ (I R.1.step)).setCell ⟨Y2,1,none⟩ (I R.1.width)).setCell ⟨Y2,2,none⟩ (I R.1.height)).setCell ⟨Y2,3,none⟩ (II as03 R.1.server.length cs03)).setCell ⟨Y2,4,none⟩ (II as04 R.1.level.length cs04)).heap[Y2.heap.size]? = some (.cells #[I R.1.step,I R.1.width,I R.1.height,II as03 R.1.server.length cs03,II as04 R.1.level.length cs04] 34 (0,0)):=by
      have h_:=bkS (bkS (bkS (bkS (bkS (kh7.out) 0 (I R.1.step)) 1 (I R.1.width)) 2 (I R.1.height)) 3 (II as03 R.1.server.length cs03)) 4 (II as04 R.1.level.length cs04)
      simpa using h_
     have KF:=J kf_;clear kf_;have BF:=J ((((((BY7.out).setCell (p:=⟨Y2,0,none⟩) (by show w2.heap.size≤Y2.heap.size;omega) (I R.1.step)).setCell (p:=⟨Y2,1,none⟩) (by show w2.heap.size≤Y2.heap.size;omega) (I R.1.width)).setCell (p:=⟨Y2,2,none⟩) (by show w2.heap.size≤Y2.heap.size;omega) (I R.1.height)).setCell (p:=⟨Y2,3,none⟩) (by show w2.heap.size≤Y2.heap.size;omega) (II as03 R.1.server.length cs03)).setCell (p:=⟨Y2,4,none⟩) (by show w2.heap.size≤Y2.heap.size;omega) (II as04 R.1.level.length cs04));have OF:=J ((((((OR7.out).setFar (p:=⟨Y2,0,none⟩) (fun e=>by have:=ir _ e;simp only at this;omega) (I R.1.step)).setFar (p:=⟨Y2,1,none⟩) (fun e=>by have:=ir _ e;simp only at this;omega) (I R.1.width)).setFar (p:=⟨Y2,2,none⟩) (fun e=>by have:=ir _ e;simp only at this;omega) (I R.1.height)).setFar (p:=⟨Y2,3,none⟩) (fun e=>by have:=ir _ e;simp only at this;omega) (II as03 R.1.server.length cs03)).setFar (p:=⟨Y2,4,none⟩) (fun e=>by have:=ir _ e;simp only at this;omega) (II as04 R.1.level.length cs04));have zs8:Y7.heap.size≤(((((Y7.setCell ⟨Y2,0,none⟩ (I R.1.step)).setCell ⟨Y2,1,none⟩ (I R.1.width)).setCell ⟨Y2,2,none⟩ (I R.1.height)).setCell ⟨Y2,3,none⟩ (II as03 R.1.server.length cs03)).setCell ⟨Y2,4,none⟩ (II as04 R.1.level.length cs04)).heap.size:=by simp only[zac];omega
     go_simp;refine hK.out _ _ (HKB.out _ BF.out) ?_;clear hK K fz g0_ g1_ g2_ g3_ g4_
     (try simp only[Act.put,IQ,IZ,OI])
     generalize (((((Y7.setCell ⟨Y2,0,none⟩ (I R.1.step)).setCell ⟨Y2,1,none⟩ (I R.1.width)).setCell ⟨Y2,2,none⟩ (I R.1.height)).setCell ⟨Y2,3,none⟩ (II as03 R.1.server.length cs03)).setCell ⟨Y2,4,none⟩ (II as04 R.1.level.length cs04))=Y8 at *;refine zak ?_;simp only[List.drop_succ_cons,List.drop_zero];go_wp2_with fail;go_meet;exact⟨_,as03,cs03,as04,cs04,fs0,_,_,rfl,rfl,KF.out,O,O,BF.out,OF.out,ir,O,O,O⟩
   ·refine zae rfl (fun K hK=>?_)
    go_simp;have hb9:IJ Y1 Y1 (Y1.alloc (.cells #[I 0,I 0,I 0,II none 0 0,II none 0 0] 34)):=(Below.refl _ _).alloc (Nat.le_refl _) _;have kh9:=J (bkN Y1 #[I 0,I 0,I 0,II none 0 0,II none 0 0] 34);have zl9:Y1.heap.size+1≤(Y1.alloc (.cells #[I 0,I 0,I 0,II none 0 0,II none 0 0] 34)).heap.size:=by simp
    refine hK.out _ _ (HKB.out _ (BY1.out.trans (hb9.mono O))) ?_;clear hK K
    (try simp only[Act.put,IQ,IZ,OI])
    generalize (Y1.alloc (.cells #[I 0,I 0,I 0,II none 0 0,II none 0 0] 34))=Y9 at *;have bs9:Y1.heap.size≤Y9.heap.size:=hb9.size;have BY9:=J (BY1.out.trans (hb9.mono O));have OT9_t:=J (OT1.out.below itt O hb9);clear hb9;refine zaf ?_;refine zae rfl (fun K hK=>?_);go_simp;refine (zdf nw _ _ _ _ _ ((Hnw0.out.below (BB2.out.trans (BY9.out.mono O))).mono O) ((Hnw1.out.below (BB2.out.trans (BY9.out.mono O))).mono O) ((Hnw2.out.below (BB2.out.trans (BY9.out.mono O))).mono O) ((Hnw3.out.below (BB2.out.trans (BY9.out.mono O))).mono O) O).mono ?_;rintro e Y10 ⟨atnw0,ctnw0,atnw1,ctnw1,atnw2,ctnw2,atnw3,ctnw3,ftnw,rfl,hb10,ov10,iv10⟩;refine hK.out _ _ (HKB.out _ (BY9.out.trans (hb10.mono O))) ?_;clear hK K
    (try simp only[Act.put,IQ,IZ,OI])
    have OT10:=J ov10;have itnw:=iv10;clear ov10 iv10;have bs10:Y9.heap.size≤Y10.heap.size:=hb10.size;have BY10:=J (BY9.out.trans (hb10.mono O));have kh10:=J (bkB kh9.out hb10 O);have OT10_t:=J (OT9_t.out.below itt O hb10);clear hb10;refine zaf ?_;refine zae rfl (fun K hK=>?_);go_simp;refine (HS.out _ _ _ _ _ _ _ (((OT10_t.out.rd itt).2.2.2.1).mono O) (((OT10_t.out.rd itt).2.2.2.2.1).mono O) (((OT10.out.rd itnw).1).mono O) (((OT10.out.rd itnw).2.1).mono O) (((OT10.out.rd itnw).2.2.1).mono O) (((OT10.out.rd itnw).2.2.2.1).mono O) O O).mono ?_;rintro e Y11 ⟨as03,cs03,as04,cs04,fs0,rfl,hb11,ov11,iv11⟩;refine hK.out _ _ (HKB.out _ (BY10.out.trans (hb11.mono O))) ?_;clear hK K
    (try simp only[Act.put,IQ,IZ,OI])
    have OR11:=J ov11;have ir:=iv11;clear ov11 iv11;have bs11:Y10.heap.size≤Y11.heap.size:=hb11.size;have BY11:=J (BY10.out.trans (hb11.mono O));have kh11:=J (bkB kh10.out hb11 O);clear hb11;refine zag (v:=?_) rfl (fun _ _ _ h=>h) ?_ ?_
    rotate_left
    ·(intro W hSW;(try dsimp only at hSW);(go_simp<;>with_reducible rfl))
    (try simp only[Act.put,IQ,IZ,OI])
    refine zag (v:=?_) rfl (fun _ _ _ h=>h) ?_ ?_
    rotate_left
    ·(intro W hSW;(try dsimp only at hSW);(go_simp<;>with_reducible rfl))
    (try simp only[Act.put,IQ,IZ,OI])
    refine zag (v:=?_) rfl (fun _ _ _ h=>h) ?_ ?_
    rotate_left
    ·(intro W hSW;(try dsimp only at hSW);(go_simp<;>with_reducible rfl))
    (try simp only[Act.put,IQ,IZ,OI])
    refine zaf ?_;refine zae rfl (fun K hK=>?_);have g0_:=bkC (v:=I 0) kh11.out 0 rfl;have g1_:=bkC (v:=I 0) kh11.out 1 rfl;have g2_:=bkC (v:=I 0) kh11.out 2 rfl;have g3_:=bkC (v:=II none 0 0) kh11.out 3 rfl;have g4_:=bkC (v:=II none 0 0) kh11.out 4 rfl;have fz:=bkF kh11.out;have kf_:(((((Y11.setCell ⟨Y1,0,none⟩ (I R.1.step)).setCell ⟨Y1,1,none⟩ (I R.1.width)).setCell ⟨Y1,2,none⟩ (I R.1.height)).setCell ⟨Y1,3,none⟩ (II as03 R.1.server.length cs03)).setCell ⟨Y1,4,none⟩ (II as04 R.1.level.length cs04)).heap[Y1.heap.size]? = some (.cells #[I R.1.step,I R.1.width,I R.1.height,II as03 R.1.server.length cs03,II as04 R.1.level.length cs04] 34 (0,0)):=by
     have h_:=bkS (bkS (bkS (bkS (bkS (kh11.out) 0 (I R.1.step)) 1 (I R.1.width)) 2 (I R.1.height)) 3 (II as03 R.1.server.length cs03)) 4 (II as04 R.1.level.length cs04)
     simpa using h_
    have KF:=J kf_;clear kf_;have BF:=J ((((((BY11.out).setCell (p:=⟨Y1,0,none⟩) (by show w2.heap.size≤Y1.heap.size;omega) (I R.1.step)).setCell (p:=⟨Y1,1,none⟩) (by show w2.heap.size≤Y1.heap.size;omega) (I R.1.width)).setCell (p:=⟨Y1,2,none⟩) (by show w2.heap.size≤Y1.heap.size;omega) (I R.1.height)).setCell (p:=⟨Y1,3,none⟩) (by show w2.heap.size≤Y1.heap.size;omega) (II as03 R.1.server.length cs03)).setCell (p:=⟨Y1,4,none⟩) (by show w2.heap.size≤Y1.heap.size;omega) (II as04 R.1.level.length cs04));have OF:=J ((((((OR11.out).setFar (p:=⟨Y1,0,none⟩) (fun e=>by have:=ir _ e;simp only at this;omega) (I R.1.step)).setFar (p:=⟨Y1,1,none⟩) (fun e=>by have:=ir _ e;simp only at this;omega) (I R.1.width)).setFar (p:=⟨Y1,2,none⟩) (fun e=>by have:=ir _ e;simp only at this;omega) (I R.1.height)).setFar (p:=⟨Y1,3,none⟩) (fun e=>by have:=ir _ e;simp only at this;omega) (II as03 R.1.server.length cs03)).setFar (p:=⟨Y1,4,none⟩) (fun e=>by have:=ir _ e;simp only at this;omega) (II as04 R.1.level.length cs04));have zs12:Y11.heap.size≤(((((Y11.setCell ⟨Y1,0,none⟩ (I R.1.step)).setCell ⟨Y1,1,none⟩ (I R.1.width)).setCell ⟨Y1,2,none⟩ (I R.1.height)).setCell ⟨Y1,3,none⟩ (II as03 R.1.server.length cs03)).setCell ⟨Y1,4,none⟩ (II as04 R.1.level.length cs04)).heap.size:=by simp only[zac];omega
    go_simp;refine hK.out _ _ (HKB.out _ BF.out) ?_;clear hK K fz g0_ g1_ g2_ g3_ g4_
    (try simp only[Act.put,IQ,IZ,OI])
    generalize (((((Y11.setCell ⟨Y1,0,none⟩ (I R.1.step)).setCell ⟨Y1,1,none⟩ (I R.1.width)).setCell ⟨Y1,2,none⟩ (I R.1.height)).setCell ⟨Y1,3,none⟩ (II as03 R.1.server.length cs03)).setCell ⟨Y1,4,none⟩ (II as04 R.1.level.length cs04))=Y12 at *;refine zak ?_;simp only[List.drop_succ_cons,List.drop_zero];go_wp2_with fail;go_meet;exact⟨_,as03,cs03,as04,cs04,fs0,_,_,rfl,rfl,KF.out,O,O,BF.out,OF.out,ir,O,O,O⟩
  ·refine zae rfl (fun K hK=>?_)
   go_simp;have hb13:IJ Y Y (Y.alloc (.cells #[I 0,I 0,I 0,II none 0 0,II none 0 0] 34)):=(Below.refl _ _).alloc (Nat.le_refl _) _;have kh13:=J (bkN Y #[I 0,I 0,I 0,II none 0 0,II none 0 0] 34);have zl13:Y.heap.size+1≤(Y.alloc (.cells #[I 0,I 0,I 0,II none 0 0,II none 0 0] 34)).heap.size:=by simp
   refine hK.out _ _ (HKB.out _ (BBd.out.trans (hb13.mono O))) ?_;clear hK K
   (try simp only[Act.put,IQ,IZ,OI])
   generalize (Y.alloc (.cells #[I 0,I 0,I 0,II none 0 0,II none 0 0] 34))=Y13 at *;have bs13:Y.heap.size≤Y13.heap.size:=hb13.size;have BY13:=J (BBd.out.trans (hb13.mono O));clear hb13;refine zaf ?_;refine zae rfl (fun K hK=>?_);go_simp;refine (zed t _ _ _ ((Ht3.out.below (BB2.out.trans (BY13.out.mono O))).mono O) ((Ht4.out.below (BB2.out.trans (BY13.out.mono O))).mono O) O).mono ?_;rintro e Y14 ⟨att3,ctt3,att4,ctt4,ftt,rfl,hb14,ov14,iv14⟩;refine hK.out _ _ (HKB.out _ (BY13.out.trans (hb14.mono O))) ?_;clear hK K
   (try simp only[Act.put,IQ,IZ,OI])
   have OT14:=J ov14;have itt:=iv14;clear ov14 iv14;have bs14:Y13.heap.size≤Y14.heap.size:=hb14.size;have BY14:=J (BY13.out.trans (hb14.mono O));have kh14:=J (bkB kh13.out hb14 O);clear hb14;refine zaf ?_;refine zae rfl (fun K hK=>?_);go_simp;refine (zdf nw _ _ _ _ _ ((Hnw0.out.below (BB2.out.trans (BY14.out.mono O))).mono O) ((Hnw1.out.below (BB2.out.trans (BY14.out.mono O))).mono O) ((Hnw2.out.below (BB2.out.trans (BY14.out.mono O))).mono O) ((Hnw3.out.below (BB2.out.trans (BY14.out.mono O))).mono O) O).mono ?_;rintro e Y15 ⟨atnw0,ctnw0,atnw1,ctnw1,atnw2,ctnw2,atnw3,ctnw3,ftnw,rfl,hb15,ov15,iv15⟩;refine hK.out _ _ (HKB.out _ (BY14.out.trans (hb15.mono O))) ?_;clear hK K
   (try simp only[Act.put,IQ,IZ,OI])
   have OT15:=J ov15;have itnw:=iv15;clear ov15 iv15;have bs15:Y14.heap.size≤Y15.heap.size:=hb15.size;have BY15:=J (BY14.out.trans (hb15.mono O));have kh15:=J (bkB kh14.out hb15 O);have OT15_t:=J (OT14.out.below itt O hb15);clear hb15;refine zaf ?_;refine zae rfl (fun K hK=>?_);go_simp;refine (HS.out _ _ _ _ _ _ _ (((OT15_t.out.rd itt).2.2.2.1).mono O) (((OT15_t.out.rd itt).2.2.2.2.1).mono O) (((OT15.out.rd itnw).1).mono O) (((OT15.out.rd itnw).2.1).mono O) (((OT15.out.rd itnw).2.2.1).mono O) (((OT15.out.rd itnw).2.2.2.1).mono O) O O).mono ?_;rintro e Y16 ⟨as03,cs03,as04,cs04,fs0,rfl,hb16,ov16,iv16⟩;refine hK.out _ _ (HKB.out _ (BY15.out.trans (hb16.mono O))) ?_;clear hK K
   (try simp only[Act.put,IQ,IZ,OI])
   have OR16:=J ov16;have ir:=iv16;clear ov16 iv16;have bs16:Y15.heap.size≤Y16.heap.size:=hb16.size;have BY16:=J (BY15.out.trans (hb16.mono O));have kh16:=J (bkB kh15.out hb16 O);clear hb16;refine zag (v:=?_) rfl (fun _ _ _ h=>h) ?_ ?_
   rotate_left
   ·(intro W hSW;(try dsimp only at hSW);(go_simp<;>with_reducible rfl))
   (try simp only[Act.put,IQ,IZ,OI])
   refine zag (v:=?_) rfl (fun _ _ _ h=>h) ?_ ?_
   rotate_left
   ·(intro W hSW;(try dsimp only at hSW);(go_simp<;>with_reducible rfl))
   (try simp only[Act.put,IQ,IZ,OI])
   refine zag (v:=?_) rfl (fun _ _ _ h=>h) ?_ ?_
   rotate_left
   ·(intro W hSW;(try dsimp only at hSW);(go_simp<;>with_reducible rfl))
   (try simp only[Act.put,IQ,IZ,OI])
   refine zaf ?_;refine zae rfl (fun K hK=>?_);have g0_:=bkC (v:=I 0) kh16.out 0 rfl;have g1_:=bkC (v:=I 0) kh16.out 1 rfl;have g2_:=bkC (v:=I 0) kh16.out 2 rfl;have g3_:=bkC (v:=II none 0 0) kh16.out 3 rfl;have g4_:=bkC (v:=II none 0 0) kh16.out 4 rfl;have fz:=bkF kh16.out;have kf_:(((((Y16.setCell ⟨Y,0,none⟩ (I R.1.step)).setCell ⟨Y,1,none⟩ (I R.1.width)).setCell ⟨Y,2,none⟩ (I R.1.height)).setCell ⟨Y,3,none⟩ (II as03 R.1.server.length cs03)).setCell ⟨Y,4,none⟩ (II as04 R.1.level.length cs04)).heap[Y.heap.size]? = some (.cells #[I R.1.step,I R.1.width,I R.1.height,II as03 R.1.server.length cs03,II as04 R.1.level.length cs04] 34 (0,0)):=by
    have h_:=bkS (bkS (bkS (bkS (bkS (kh16.out) 0 (I R.1.step)) 1 (I R.1.width)) 2 (I R.1.height)) 3 (II as03 R.1.server.length cs03)) 4 (II as04 R.1.level.length cs04)
    simpa using h_
   have KF:=J kf_;clear kf_;have BF:=J ((((((BY16.out).setCell (p:=⟨Y,0,none⟩) (by show w2.heap.size≤Y.heap.size;omega) (I R.1.step)).setCell (p:=⟨Y,1,none⟩) (by show w2.heap.size≤Y.heap.size;omega) (I R.1.width)).setCell (p:=⟨Y,2,none⟩) (by show w2.heap.size≤Y.heap.size;omega) (I R.1.height)).setCell (p:=⟨Y,3,none⟩) (by show w2.heap.size≤Y.heap.size;omega) (II as03 R.1.server.length cs03)).setCell (p:=⟨Y,4,none⟩) (by show w2.heap.size≤Y.heap.size;omega) (II as04 R.1.level.length cs04));have OF:=J ((((((OR16.out).setFar (p:=⟨Y,0,none⟩) (fun e=>by have:=ir _ e;simp only at this;omega) (I R.1.step)).setFar (p:=⟨Y,1,none⟩) (fun e=>by have:=ir _ e;simp only at this;omega) (I R.1.width)).setFar (p:=⟨Y,2,none⟩) (fun e=>by have:=ir _ e;simp only at this;omega) (I R.1.height)).setFar (p:=⟨Y,3,none⟩) (fun e=>by have:=ir _ e;simp only at this;omega) (II as03 R.1.server.length cs03)).setFar (p:=⟨Y,4,none⟩) (fun e=>by have:=ir _ e;simp only at this;omega) (II as04 R.1.level.length cs04));have zs17:Y16.heap.size≤(((((Y16.setCell ⟨Y,0,none⟩ (I R.1.step)).setCell ⟨Y,1,none⟩ (I R.1.width)).setCell ⟨Y,2,none⟩ (I R.1.height)).setCell ⟨Y,3,none⟩ (II as03 R.1.server.length cs03)).setCell ⟨Y,4,none⟩ (II as04 R.1.level.length cs04)).heap.size:=by simp only[zac];omega
   go_simp;refine hK.out _ _ (HKB.out _ BF.out) ?_;clear hK K fz g0_ g1_ g2_ g3_ g4_
   (try simp only[Act.put,IQ,IZ,OI])
   generalize (((((Y16.setCell ⟨Y,0,none⟩ (I R.1.step)).setCell ⟨Y,1,none⟩ (I R.1.width)).setCell ⟨Y,2,none⟩ (I R.1.height)).setCell ⟨Y,3,none⟩ (II as03 R.1.server.length cs03)).setCell ⟨Y,4,none⟩ (II as04 R.1.level.length cs04))=Y17 at *;refine zak ?_;simp only[List.drop_succ_cons,List.drop_zero];go_wp2_with fail;go_meet;exact⟨_,as03,cs03,as04,cs04,fs0,_,_,rfl,rfl,KF.out,O,O,BF.out,OF.out,ir,O,O,O⟩
 obtain⟨hs,as03,cs03,as04,cs04,fs0,los,his,e0_,e1_,khs,hlos,hhis,hb3,ov3,iv3,hlo2s,hhi2s,hnfs⟩:=hcut;subst e0_ e1_;generalize wc=w3 at *;have fcs0:=bkC (v:=I R.1.step) khs 0 rfl;have fcs1:=bkC (v:=I R.1.width) khs 1 rfl;have fcs2:=bkC (v:=I R.1.height) khs 2 rfl;have fcs3:=bkC (v:=II as03 R.1.server.length cs03) khs 3 rfl;have fcs4:=bkC (v:=II as04 R.1.level.length cs04) khs 4 rfl;clear khs HKB BBd;have hbb3:IJ w2 w2 w3:=hb3;have z3:=hbb3.size;obtain⟨qAt3,_,yAt3⟩:=zah hb3 (b:=w.heap.size) OO
 (try clear yAt2)
 obtain⟨qAnw3,_,yAnw3⟩:=zah hb3 (b:=w.heap.size+1) OO
 (try clear yAnw2)
 have BB3:=J (BB2.out.trans (hbb3.mono O));clear hbb3;obtain⟨g3_0,r3_0,e3_0,p3_0,ov3_0,d3_0⟩:=OwnV.uncons ov3;obtain⟨_,hz3_0⟩:=zb0.1 p3_0.rep;subst hz3_0;obtain⟨g3_1,r3_1,e3_1,p3_1,ov3_1,d3_1⟩:=OwnV.uncons ov3_0;obtain⟨_,hz3_1⟩:=zb0.1 p3_1.rep;subst hz3_1;obtain⟨g3_2,r3_2,e3_2,p3_2,ov3_2,d3_2⟩:=OwnV.uncons ov3_1;obtain⟨_,hz3_2⟩:=zb0.1 p3_2.rep;subst hz3_2;obtain⟨g3_3,r3_3,e3_3,p3_3,ov3_3,d3_3⟩:=OwnV.uncons ov3_2;obtain⟨g3_4,r3_4,e3_4,p3_4,ov3_4,d3_4⟩:=OwnV.uncons ov3_3;have iw3:=iv3;have hnil3:=ov3_4.rep;change r3_4 = [] at hnil3
 subst hnil3;subst e3_4;subst e3_3;subst e3_2;subst e3_1;subst e3_0;have is03:In _ _ g3_3:=fun y hy=>iw3 y (by simp[hy])
 have os03_3:=J p3_3;have is04:In _ _ g3_4:=fun y hy=>iw3 y (by simp[hy])
 have os04_3:=J p3_4;have djs03_4:∀ y ∈ g3_3,y ∉ g3_4:=fun y hy e=>d3_3 y hy (by simp[e])
 clear p3_0 ov3_0 d3_0 p3_1 ov3_1 d3_1 p3_2 ov3_2 d3_2 p3_3 ov3_3 d3_3 p3_4 ov3_4 d3_4 ov3 iv3 iw3;go_wp2_with fail;have BX4:Hid (IJ w w w3):=BB3.out;have zx4:=BX4.out.size
 (try clear zx2)
 refine (zed t _ _ _ ((Ht3.out.below BX4.out).mono zx4) ((Ht4.out.below BX4.out).mono zx4) O).mono ?_;rintro e w4 ⟨aut3,cut3,aut4,cut4,fut,rfl,hb4,ov4,iv4⟩;have hbb4:IJ w3 w3 w4:=hb4;have z4:=hbb4.size;obtain⟨qAt4,_,yAt4⟩:=zah hb4 (b:=w.heap.size) OO
 (try clear yAt3)
 obtain⟨qAnw4,_,yAnw4⟩:=zah hb4 (b:=w.heap.size+1) OO
 (try clear yAnw3)
 obtain⟨qS04,_,yS04⟩:=zah hb4 (b:=hs) OO;have BB4:=J (BB3.out.trans (hbb4.mono O));have os03_4:=J (os03_3.out.below is03 O hbb4);have os04_4:=J (os04_3.out.below is04 O hbb4);clear hbb4;obtain⟨g4_0,r4_0,e4_0,p4_0,ov4_0,d4_0⟩:=OwnV.uncons ov4;obtain⟨_,hz4_0⟩:=zb0.1 p4_0.rep;subst hz4_0;obtain⟨g4_1,r4_1,e4_1,p4_1,ov4_1,d4_1⟩:=OwnV.uncons ov4_0;obtain⟨_,hz4_1⟩:=zb0.1 p4_1.rep;subst hz4_1;obtain⟨g4_2,r4_2,e4_2,p4_2,ov4_2,d4_2⟩:=OwnV.uncons ov4_1;obtain⟨_,hz4_2⟩:=zb0.1 p4_2.rep;subst hz4_2;obtain⟨g4_3,r4_3,e4_3,p4_3,ov4_3,d4_3⟩:=OwnV.uncons ov4_2;obtain⟨g4_4,r4_4,e4_4,p4_4,ov4_4,d4_4⟩:=OwnV.uncons ov4_3;have iw4:=iv4.mono (lo':=w3.heap.size+0) OO (Nat.le_refl _);have hnil4:=ov4_4.rep;change r4_4 = [] at hnil4
 subst hnil4;subst e4_4;subst e4_3;subst e4_2;subst e4_1;subst e4_0;have iut3:In _ _ g4_3:=fun y hy=>iw4 y (by simp[hy])
 have out3_4:=J p4_3;have iut4:In _ _ g4_4:=fun y hy=>iw4 y (by simp[hy])
 have out4_4:=J p4_4;have djut3_4:∀ y ∈ g4_3,y ∉ g4_4:=fun y hy e=>d4_3 y hy (by simp[e])
 clear p4_0 ov4_0 d4_0 p4_1 ov4_1 d4_1 p4_2 ov4_2 d4_2 p4_3 ov4_3 d4_3 p4_4 ov4_4 d4_4 ov4 iv4 iw4;go_wp2_with fail;have BX5:Hid (IJ w w (w4.alloc (.cells #[I t.step,I t.width,I t.height,II aut3 t.heights.length cut3,II aut4 t.clutter.length cut4] 37))):=(BB4.out.alloc OO _)
 have zx5:=BX5.out.size
 (try clear zx4)
 refine (zdf nw _ _ _ _ _ ((Hnw0.out.below BX5.out).mono zx5) ((Hnw1.out.below BX5.out).mono zx5) ((Hnw2.out.below BX5.out).mono zx5) ((Hnw3.out.below BX5.out).mono zx5) O).mono ?_;rintro e w5 ⟨aunw0,cunw0,aunw1,cunw1,aunw2,cunw2,aunw3,cunw3,funw,rfl,hb5,ov5,iv5⟩;have hx5:IJ w4 w4 (w4.alloc (.cells #[I t.step,I t.width,I t.height,II aut3 t.heights.length cut3,II aut4 t.clutter.length cut4] 37)):=((Below.refl _ _).alloc (Nat.le_refl _) _)
 have hbb5:IJ w4 w4 w5:=hx5.trans (hb5.mono (by first|(simp;done)|(simp<;>omega)));have z5:=hbb5.size;obtain⟨qAt5,_,yAt5⟩:=zah hb5 (b:=w.heap.size) OO;obtain⟨qAnw5,_,yAnw5⟩:=zah hb5 (b:=w.heap.size+1) OO;obtain⟨qS05,_,yS05⟩:=zah hb5 (b:=hs) OO;obtain⟨qUt5,_,yUt5⟩:=zah hb5 (b:=w4.heap.size) OO;have BB5:=J (BB4.out.trans (hbb5.mono O));have os03_5:=J (os03_4.out.below is03 O hbb5);have os04_5:=J (os04_4.out.below is04 O hbb5);have out3_5:=J (out3_4.out.below iut3 O hbb5);have out4_5:=J (out4_4.out.below iut4 O hbb5);clear hx5;clear hb5 hbb5;obtain⟨g5_0,r5_0,e5_0,p5_0,ov5_0,d5_0⟩:=OwnV.uncons ov5;obtain⟨g5_1,r5_1,e5_1,p5_1,ov5_1,d5_1⟩:=OwnV.uncons ov5_0;obtain⟨g5_2,r5_2,e5_2,p5_2,ov5_2,d5_2⟩:=OwnV.uncons ov5_1;obtain⟨g5_3,r5_3,e5_3,p5_3,ov5_3,d5_3⟩:=OwnV.uncons ov5_2;have iw5:=iv5.mono (lo':=w4.heap.size+1) OO (Nat.le_refl _);have hnil5:=ov5_3.rep;change r5_3 = [] at hnil5
 subst hnil5;subst e5_3;subst e5_2;subst e5_1;subst e5_0;have iunw0:In _ _ g5_0:=fun y hy=>iw5 y (by simp[hy])
 have ounw0_5:=J p5_0;have iunw1:In _ _ g5_1:=fun y hy=>iw5 y (by simp[hy])
 have ounw1_5:=J p5_1;have iunw2:In _ _ g5_2:=fun y hy=>iw5 y (by simp[hy])
 have ounw2_5:=J p5_2;have iunw3:In _ _ g5_3:=fun y hy=>iw5 y (by simp[hy])
 have ounw3_5:=J p5_3;have djunw0_1:∀ y ∈ g5_0,y ∉ g5_1:=fun y hy e=>d5_0 y hy (by simp[e])
 have djunw0_2:∀ y ∈ g5_0,y ∉ g5_2:=fun y hy e=>d5_0 y hy (by simp[e])
 have djunw0_3:∀ y ∈ g5_0,y ∉ g5_3:=fun y hy e=>d5_0 y hy (by simp[e])
 have djunw1_2:∀ y ∈ g5_1,y ∉ g5_2:=fun y hy e=>d5_1 y hy (by simp[e])
 have djunw1_3:∀ y ∈ g5_1,y ∉ g5_3:=fun y hy e=>d5_1 y hy (by simp[e])
 have djunw2_3:∀ y ∈ g5_2,y ∉ g5_3:=fun y hy e=>d5_2 y hy (by simp[e])
 clear p5_0 ov5_0 d5_0 p5_1 ov5_1 d5_1 p5_2 ov5_2 d5_2 p5_3 ov5_3 d5_3 ov5 iv5 iw5;go_wp2_with fail;have BX6:Hid (IJ w w (w5.alloc (.cells #[II aunw0 nw.sites.length cunw0,II aunw1 nw.sectors.length cunw1,II aunw2 nw.antennas.length cunw2,II aunw3 nw.radios.length cunw3] 44))):=(BB5.out.alloc OO _)
 have zx6:=BX6.out.size
 (try clear zx5)
 refine (HI.out _ _ _ _ _ _ _ (HLL.out.mono BX6.out) (((out3_5.out.below iut3 O ((Below.refl _ _).alloc (Nat.le_refl _) _)).rd iut3).mono OO) (((out4_5.out.below iut4 O ((Below.refl _ _).alloc (Nat.le_refl _) _)).rd iut4).mono OO) (((ounw0_5.out.below iunw0 O ((Below.refl _ _).alloc (Nat.le_refl _) _)).rd iunw0).mono OO) (((ounw1_5.out.below iunw1 O ((Below.refl _ _).alloc (Nat.le_refl _) _)).rd iunw1).mono OO) (((ounw2_5.out.below iunw2 O ((Below.refl _ _).alloc (Nat.le_refl _) _)).rd iunw2).mono OO) (((ounw3_5.out.below iunw3 O ((Below.refl _ _).alloc (Nat.le_refl _) _)).rd iunw3).mono OO) O O).mono ?_;rintro e w6 ⟨ag03,cg03,ag04,cg04,fg0,rfl,hb6,ov6,iv6⟩;have hx6:IJ w5 w5 (w5.alloc (.cells #[II aunw0 nw.sites.length cunw0,II aunw1 nw.sectors.length cunw1,II aunw2 nw.antennas.length cunw2,II aunw3 nw.radios.length cunw3] 44)):=((Below.refl _ _).alloc (Nat.le_refl _) _)
 have hbb6:IJ w5 w5 w6:=hx6.trans (hb6.mono (by first|(simp;done)|(simp<;>omega)));have z6:=hbb6.size;obtain⟨qAt6,_,yAt6⟩:=zah hb6 (b:=w.heap.size) OO;obtain⟨qAnw6,_,yAnw6⟩:=zah hb6 (b:=w.heap.size+1) OO;obtain⟨qS06,_,yS06⟩:=zah hb6 (b:=hs) OO;obtain⟨qUt6,_,yUt6⟩:=zah hb6 (b:=w4.heap.size) OO;obtain⟨qUnw6,_,yUnw6⟩:=zah hb6 (b:=w5.heap.size) OO;have BB6:=J (BB5.out.trans (hbb6.mono O));have os03_6:=J (os03_5.out.below is03 O hbb6);have os04_6:=J (os04_5.out.below is04 O hbb6);have out3_6:=J (out3_5.out.below iut3 O hbb6);have out4_6:=J (out4_5.out.below iut4 O hbb6);have ounw0_6:=J (ounw0_5.out.below iunw0 O hbb6);have ounw1_6:=J (ounw1_5.out.below iunw1 O hbb6);have ounw2_6:=J (ounw2_5.out.below iunw2 O hbb6);have ounw3_6:=J (ounw3_5.out.below iunw3 O hbb6);clear hx6;clear hb6 hbb6;obtain⟨g6_0,r6_0,e6_0,p6_0,ov6_0,d6_0⟩:=OwnV.uncons ov6;obtain⟨_,hz6_0⟩:=zb0.1 p6_0.rep;subst hz6_0;obtain⟨g6_1,r6_1,e6_1,p6_1,ov6_1,d6_1⟩:=OwnV.uncons ov6_0;obtain⟨_,hz6_1⟩:=zb0.1 p6_1.rep;subst hz6_1;obtain⟨g6_2,r6_2,e6_2,p6_2,ov6_2,d6_2⟩:=OwnV.uncons ov6_1;obtain⟨_,hz6_2⟩:=zb0.1 p6_2.rep;subst hz6_2;obtain⟨g6_3,r6_3,e6_3,p6_3,ov6_3,d6_3⟩:=OwnV.uncons ov6_2;obtain⟨g6_4,r6_4,e6_4,p6_4,ov6_4,d6_4⟩:=OwnV.uncons ov6_3;have iw6:=iv6.mono (lo':=w5.heap.size+1) OO (Nat.le_refl _);have hnil6:=ov6_4.rep;change r6_4 = [] at hnil6
 subst hnil6;subst e6_4;subst e6_3;subst e6_2;subst e6_1;subst e6_0;have ig03:In _ _ g6_3:=fun y hy=>iw6 y (by simp[hy])
 have og03_6:=J p6_3;have ig04:In _ _ g6_4:=fun y hy=>iw6 y (by simp[hy])
 have og04_6:=J p6_4;have djg03_4:∀ y ∈ g6_3,y ∉ g6_4:=fun y hy e=>d6_3 y hy (by simp[e])
 clear p6_0 ov6_0 d6_0 p6_1 ov6_1 d6_1 p6_2 ov6_2 d6_2 p6_3 ov6_3 d6_3 p6_4 ov6_4 d6_4 ov6 iv6 iw6;go_wp2_with fail;refine ((eq_Raster R.1 _ _ _ _ (w6.alloc (.cells #[I R.1.step,I R.1.width,I R.1.height,II ag03 R.1.server.length cg03,II ag04 R.1.level.length cg04] 34)).heap.size _ (((og03_6.out.below ig03 O ((Below.refl _ _).alloc (Nat.le_refl _) _)).rd ig03).mono OO) (((os03_6.out.below is03 O ((Below.refl _ _).alloc (Nat.le_refl _) _)).rd is03).mono OO) (((og04_6.out.below ig04 O ((Below.refl _ _).alloc (Nat.le_refl _) _)).rd ig04).mono OO) (((os04_6.out.below is04 O ((Below.refl _ _).alloc (Nat.le_refl _) _)).rd is04).mono OO) (Nat.le_refl _) O)).mono ?_;rintro e w7 ⟨rfl,hb7⟩;have hx7:IJ w6 w6 (w6.alloc (.cells #[I R.1.step,I R.1.width,I R.1.height,II ag03 R.1.server.length cg03,II ag04 R.1.level.length cg04] 34)):=((Below.refl _ _).alloc (Nat.le_refl _) _)
 have hbb7:IJ w6 w6 w7:=hx7.trans (hb7.mono (by first|(simp;done)|(simp<;>omega)));have z7:=hbb7.size;obtain⟨qAt7,_,yAt7⟩:=zah hb7 (b:=w.heap.size) OO;obtain⟨qAnw7,_,yAnw7⟩:=zah hb7 (b:=w.heap.size+1) OO;obtain⟨qS07,_,yS07⟩:=zah hb7 (b:=hs) OO;obtain⟨qUt7,_,yUt7⟩:=zah hb7 (b:=w4.heap.size) OO;obtain⟨qUnw7,_,yUnw7⟩:=zah hb7 (b:=w5.heap.size) OO;obtain⟨qG07,_,yG07⟩:=zah hb7 (b:=w6.heap.size) OO;have BB7:=J (BB6.out.trans (hbb7.mono O));have os03_7:=J (os03_6.out.below is03 O hbb7);have os04_7:=J (os04_6.out.below is04 O hbb7);have out3_7:=J (out3_6.out.below iut3 O hbb7);have out4_7:=J (out4_6.out.below iut4 O hbb7);have ounw0_7:=J (ounw0_6.out.below iunw0 O hbb7);have ounw1_7:=J (ounw1_6.out.below iunw1 O hbb7);have ounw2_7:=J (ounw2_6.out.below iunw2 O hbb7);have ounw3_7:=J (ounw3_6.out.below iunw3 O hbb7);have og03_7:=J (og03_6.out.below ig03 O hbb7);have og04_7:=J (og04_6.out.below ig04 O hbb7);clear hx7;clear hb7 hbb7;clear cy1 cy2;have hcf:w7.cell? ⟨w4,0,none⟩=some (I t.step)∧w7.cell? ⟨w4,1,none⟩=some (I t.width)∧w7.cell? ⟨w4,2,none⟩=some (I t.height)∧w7.cell? ⟨w4,3,none⟩=some (II aut3 t.heights.length cut3)∧w7.cell? ⟨w4,4,none⟩=some (II aut4 t.clutter.length cut4)∧w7.cell? ⟨w,0,none⟩=some (I t.step)∧w7.cell? ⟨w,1,none⟩=some (I t.width)∧w7.cell? ⟨w,2,none⟩=some (I t.height)∧w7.cell? ⟨w,3,none⟩=some (vt3)∧w7.cell? ⟨w,4,none⟩=some (vt4):=by refine⟨?_,?_,?_,?_,?_,?_,?_,?_,?_,?_⟩<;>simp[go_sem, *]
 go_wp2;have hsame:IJ w7 w7 w7.drew:=⟨rfl,rfl,rfl,Nat.le_refl _,fun _ _=>rfl⟩
 have BBd:=J BB7.out.drew;have HTO:=J (zed t vt3 vt4 w7.drew ((Ht3.out.below BBd.out).mono (by show w.heap.size≤w7.heap.size;omega)) ((Ht4.out.below BBd.out).mono (by show w.heap.size≤w7.heap.size;omega)) O);have HEQ:Hid (∀ (W:World) (p3 p4 q3 q4:Value),IJ w7 w7 W→RdV W.heap.size W t.tr [I t.step,I t.width,I t.height,q3,q4]→p3=II aut3 t.heights.length cut3→p4=II aut4 t.clutter.length cut4→Calls Tryz.prog 13 #[.agg #[I t.step,I t.width,I t.height,p3,p4],.agg #[I t.step,I t.width,I t.height,q3,q4]] W fun e w'=>e=.returned (.bool true)∧IJ W W w'):=fun W p3 p4 q3 q4 hW hr e3 e4=>by
  subst e3 e4;have hzW:=hW.size;exact eq_Terrain t _ _ _ _ W.heap.size W (((out3_7.out.below iut3 O hW).rd iut3).mono O) hr.2.2.2.1 (((out4_7.out.below iut4 O hW).rd iut4).mono O) hr.2.2.2.2.1 (Nat.le_refl _) O
 go_region_held3 (fun W=>W.cell? ⟨w4,0,none⟩=some (I t.step)∧W.cell? ⟨w4,1,none⟩=some (I t.width)∧W.cell? ⟨w4,2,none⟩=some (I t.height)∧W.cell? ⟨w4,3,none⟩=some (II aut3 t.heights.length cut3)∧W.cell? ⟨w4,4,none⟩=some (II aut4 t.clutter.length cut4)∧W.cell? ⟨w,0,none⟩=some (I t.step)∧W.cell? ⟨w,1,none⟩=some (I t.width)∧W.cell? ⟨w,2,none⟩=some (I t.height)∧W.cell? ⟨w,3,none⟩=some (vt3)∧W.cell? ⟨w,4,none⟩=some (vt4)) (first|exact hcf|(refine⟨?_,?_,?_,?_,?_,?_,?_,?_,?_,?_⟩<;>simp[go_sem, *]))
  (first
   | (go_at_call 9;refine (HTO.out).mono ?_;rintro e wt ⟨at3,ct3,at4,ct4,ft,rfl,hbt,ovt,ivt⟩;obtain⟨qUt,_,yUt⟩:=zah hbt (b:=w4.heap.size) (by show w4.heap.size<w7.heap.size;omega);obtain⟨qAt,_,yAt⟩:=zah hbt (b:=w.heap.size) (by show w.heap.size<w7.heap.size;omega))
   | (go_at_call 13;refine (HEQ.out _ _ _ _ _ (hsame.trans hbt) (ovt.rd ivt) rfl rfl).mono ?_;rintro e w8 ⟨rfl,hbe⟩;obtain⟨qUe,_,yUe⟩:=zah hbe (b:=w4.heap.size) yUt;obtain⟨qAe,_,yAe⟩:=zah hbe (b:=w.heap.size) yAt))
 have hb8:IJ w7 w7 w8:=(hsame.trans hbt).trans (hbe.mono (hsame.trans hbt).size);clear HEQ HTO BBd hcf qUt qAt qUe qAe yUt yAt yUe yAe hbe hbt ovt ivt hsame;have hbb8:IJ w7 w7 w8:=hb8;have z8:=hbb8.size;obtain⟨qAt8,_,yAt8⟩:=zah hb8 (b:=w.heap.size) OO
 (try clear yAt7)
 obtain⟨qAnw8,_,yAnw8⟩:=zah hb8 (b:=w.heap.size+1) OO
 (try clear yAnw7)
 obtain⟨qS08,_,yS08⟩:=zah hb8 (b:=hs) OO
 (try clear yS07)
 obtain⟨qUt8,_,yUt8⟩:=zah hb8 (b:=w4.heap.size) OO
 (try clear yUt7)
 obtain⟨qUnw8,_,yUnw8⟩:=zah hb8 (b:=w5.heap.size) OO
 (try clear yUnw7)
 obtain⟨qG08,_,yG08⟩:=zah hb8 (b:=w6.heap.size) OO;have BB8:=J (BB7.out.trans (hbb8.mono O));have os03_8:=J (os03_7.out.below is03 O hbb8);have os04_8:=J (os04_7.out.below is04 O hbb8);have out3_8:=J (out3_7.out.below iut3 O hbb8);have out4_8:=J (out4_7.out.below iut4 O hbb8);have ounw0_8:=J (ounw0_7.out.below iunw0 O hbb8);have ounw1_8:=J (ounw1_7.out.below iunw1 O hbb8);have ounw2_8:=J (ounw2_7.out.below iunw2 O hbb8);have ounw3_8:=J (ounw3_7.out.below iunw3 O hbb8);have og03_8:=J (og03_7.out.below ig03 O hbb8);have og04_8:=J (og04_7.out.below ig04 O hbb8);clear hbb8;have hcf:w8.cell? ⟨w5,0,none⟩=some (II aunw0 nw.sites.length cunw0)∧w8.cell? ⟨w5,1,none⟩=some (II aunw1 nw.sectors.length cunw1)∧w8.cell? ⟨w5,2,none⟩=some (II aunw2 nw.antennas.length cunw2)∧w8.cell? ⟨w5,3,none⟩=some (II aunw3 nw.radios.length cunw3)∧w8.cell? ⟨w.heap.size+1,0,none⟩=some (vnw0)∧w8.cell? ⟨w.heap.size+1,1,none⟩=some (vnw1)∧w8.cell? ⟨w.heap.size+1,2,none⟩=some (vnw2)∧w8.cell? ⟨w.heap.size+1,3,none⟩=some (vnw3):=by refine⟨?_,?_,?_,?_,?_,?_,?_,?_⟩<;>simp[go_sem, *]
 go_wp2;have hsame:IJ w8 w8 w8.drew:=⟨rfl,rfl,rfl,Nat.le_refl _,fun _ _=>rfl⟩
 have BBd:=J BB8.out.drew;have HTO:=J (zdf nw vnw0 vnw1 vnw2 vnw3 w8.drew ((Hnw0.out.below BBd.out).mono (by show w.heap.size≤w8.heap.size;omega)) ((Hnw1.out.below BBd.out).mono (by show w.heap.size≤w8.heap.size;omega)) ((Hnw2.out.below BBd.out).mono (by show w.heap.size≤w8.heap.size;omega)) ((Hnw3.out.below BBd.out).mono (by show w.heap.size≤w8.heap.size;omega)) O);have HEQ:Hid (∀ (W:World) (p0 p1 p2 p3 q0 q1 q2 q3:Value),IJ w8 w8 W→RdV W.heap.size W nw.tr [q0,q1,q2,q3]→p0=II aunw0 nw.sites.length cunw0→p1=II aunw1 nw.sectors.length cunw1→p2=II aunw2 nw.antennas.length cunw2→p3=II aunw3 nw.radios.length cunw3→Calls Tryz.prog 14 #[.agg #[p0,p1,p2,p3],.agg #[q0,q1,q2,q3]] W fun e w'=>e=.returned (.bool true)∧IJ W W w'):=fun W p0 p1 p2 p3 q0 q1 q2 q3 hW hr e0 e1 e2 e3=>by
  subst e0 e1 e2 e3;have hzW:=hW.size;exact eq_Network nw _ _ _ _ _ _ _ _ W.heap.size W (((ounw0_8.out.below iunw0 O hW).rd iunw0).mono O) hr.1 (((ounw1_8.out.below iunw1 O hW).rd iunw1).mono O) hr.2.1 (((ounw2_8.out.below iunw2 O hW).rd iunw2).mono O) hr.2.2.1 (((ounw3_8.out.below iunw3 O hW).rd iunw3).mono O) hr.2.2.2.1 (Nat.le_refl _) O
 go_region_held3 (fun W=>W.cell? ⟨w5,0,none⟩=some (II aunw0 nw.sites.length cunw0)∧W.cell? ⟨w5,1,none⟩=some (II aunw1 nw.sectors.length cunw1)∧W.cell? ⟨w5,2,none⟩=some (II aunw2 nw.antennas.length cunw2)∧W.cell? ⟨w5,3,none⟩=some (II aunw3 nw.radios.length cunw3)∧W.cell? ⟨w.heap.size+1,0,none⟩=some (vnw0)∧W.cell? ⟨w.heap.size+1,1,none⟩=some (vnw1)∧W.cell? ⟨w.heap.size+1,2,none⟩=some (vnw2)∧W.cell? ⟨w.heap.size+1,3,none⟩=some (vnw3)) (first|exact hcf|(refine⟨?_,?_,?_,?_,?_,?_,?_,?_⟩<;>simp[go_sem, *]))
  (first
   | (go_at_call 10;refine (HTO.out).mono ?_;rintro e wt ⟨at0,ct0,at1,ct1,at2,ct2,at3,ct3,ft,rfl,hbt,ovt,ivt⟩;obtain⟨qUt,_,yUt⟩:=zah hbt (b:=w5.heap.size) (by show w5.heap.size<w8.heap.size;omega);obtain⟨qAt,_,yAt⟩:=zah hbt (b:=w.heap.size+1) (by show w.heap.size+1<w8.heap.size;omega))
   | (go_at_call 14;refine (HEQ.out _ _ _ _ _ _ _ _ _ (hsame.trans hbt) (ovt.rd ivt) rfl rfl rfl rfl).mono ?_;rintro e w9 ⟨rfl,hbe⟩;obtain⟨qUe,_,yUe⟩:=zah hbe (b:=w5.heap.size) yUt;obtain⟨qAe,_,yAe⟩:=zah hbe (b:=w.heap.size+1) yAt))
 have hb9:IJ w8 w8 w9:=(hsame.trans hbt).trans (hbe.mono (hsame.trans hbt).size);clear HEQ HTO BBd hcf qUt qAt qUe qAe yUt yAt yUe yAe hbe hbt ovt ivt hsame;have hbb9:IJ w8 w8 w9:=hb9;have z9:=hbb9.size;obtain⟨qAt9,_,yAt9⟩:=zah hb9 (b:=w.heap.size) OO
 (try clear yAt8)
 obtain⟨qAnw9,_,yAnw9⟩:=zah hb9 (b:=w.heap.size+1) OO
 (try clear yAnw8)
 obtain⟨qS09,_,yS09⟩:=zah hb9 (b:=hs) OO
 (try clear yS08)
 obtain⟨qUt9,_,yUt9⟩:=zah hb9 (b:=w4.heap.size) OO
 (try clear yUt8)
 obtain⟨qUnw9,_,yUnw9⟩:=zah hb9 (b:=w5.heap.size) OO
 (try clear yUnw8)
 obtain⟨qG09,_,yG09⟩:=zah hb9 (b:=w6.heap.size) OO
 (try clear yG08)
 have BB9:=J (BB8.out.trans (hbb9.mono O));have os03_9:=J (os03_8.out.below is03 O hbb9);have os04_9:=J (os04_8.out.below is04 O hbb9);have out3_9:=J (out3_8.out.below iut3 O hbb9);have out4_9:=J (out4_8.out.below iut4 O hbb9);have ounw0_9:=J (ounw0_8.out.below iunw0 O hbb9);have ounw1_9:=J (ounw1_8.out.below iunw1 O hbb9);have ounw2_9:=J (ounw2_8.out.below iunw2 O hbb9);have ounw3_9:=J (ounw3_8.out.below iunw3 O hbb9);have og03_9:=J (og03_8.out.below ig03 O hbb9);have og04_9:=J (og04_8.out.below ig04 O hbb9);clear hbb9;go_wp2_with fail;refine ((mark_Terrain t _ _ g4_3 g4_4 (1) _ _ _ _ _ out3_9.out iut3 OO out4_9.out iut4 OO djut3_4 O O O)).mono ?_;rintro e w10 ⟨rfl,mut3,mut4,hc10⟩;have hcc10:Chg (g4_3++g4_4) w9 w10:=hc10;have z10:=hcc10.size;have hkAt10:=hc10.block (w.heap.size) OO (fun e=>by simp only[List.mem_append] at e;rcases e with (e|e)<;>first|(have h2:=iut3 _ e;omega)|(have h2:=iut4 _ e;omega));have qAt10:∀ o,w10.cell? ⟨w.heap.size,o,none⟩=_:=fun o=>World.cell?_of_block (a:=⟨w.heap.size,o,none⟩) hkAt10
 have yAt10:w.heap.size<w10.heap.size:=by first|omega|(have:=hc10.size;simp at this;omega)
 (try clear yAt9)
 clear hkAt10;have hkAnw10:=hc10.block (w.heap.size+1) OO (fun e=>by simp only[List.mem_append] at e;rcases e with (e|e)<;>first|(have h2:=iut3 _ e;omega)|(have h2:=iut4 _ e;omega));have qAnw10:∀ o,w10.cell? ⟨w.heap.size+1,o,none⟩=_:=fun o=>World.cell?_of_block (a:=⟨w.heap.size+1,o,none⟩) hkAnw10
 have yAnw10:w.heap.size+1<w10.heap.size:=by first|omega|(have:=hc10.size;simp at this;omega)
 (try clear yAnw9)
 clear hkAnw10;have hkS010:=hc10.block (hs) OO (fun e=>by simp only[List.mem_append] at e;rcases e with (e|e)<;>first|(have h2:=iut3 _ e;omega)|(have h2:=iut4 _ e;omega));have qS010:∀ o,w10.cell? ⟨hs,o,none⟩=_:=fun o=>World.cell?_of_block (a:=⟨hs,o,none⟩) hkS010
 have yS010:hs<w10.heap.size:=by first|omega|(have:=hc10.size;simp at this;omega)
 (try clear yS09)
 clear hkS010;have hkUt10:=hc10.block (w4.heap.size) OO (fun e=>by simp only[List.mem_append] at e;rcases e with (e|e)<;>first|(have h2:=iut3 _ e;omega)|(have h2:=iut4 _ e;omega));have qUt10:∀ o,w10.cell? ⟨w4.heap.size,o,none⟩=_:=fun o=>World.cell?_of_block (a:=⟨w4.heap.size,o,none⟩) hkUt10
 have yUt10:w4.heap.size<w10.heap.size:=by first|omega|(have:=hc10.size;simp at this;omega)
 (try clear yUt9)
 clear hkUt10;have hkUnw10:=hc10.block (w5.heap.size) OO (fun e=>by simp only[List.mem_append] at e;rcases e with (e|e)<;>first|(have h2:=iut3 _ e;omega)|(have h2:=iut4 _ e;omega));have qUnw10:∀ o,w10.cell? ⟨w5.heap.size,o,none⟩=_:=fun o=>World.cell?_of_block (a:=⟨w5.heap.size,o,none⟩) hkUnw10
 have yUnw10:w5.heap.size<w10.heap.size:=by first|omega|(have:=hc10.size;simp at this;omega)
 (try clear yUnw9)
 clear hkUnw10;have hkG010:=hc10.block (w6.heap.size) OO (fun e=>by simp only[List.mem_append] at e;rcases e with (e|e)<;>first|(have h2:=iut3 _ e;omega)|(have h2:=iut4 _ e;omega));have qG010:∀ o,w10.cell? ⟨w6.heap.size,o,none⟩=_:=fun o=>World.cell?_of_block (a:=⟨w6.heap.size,o,none⟩) hkG010
 have yG010:w6.heap.size<w10.heap.size:=by first|omega|(have:=hc10.size;simp at this;omega)
 (try clear yG09)
 clear hkG010;have BB10:=J (BB9.out.trans (hcc10.below O (fun x hx=>by simp only[List.mem_append] at hx;rcases hx with (hx|hx)<;>first|(have h2:=iut3 x hx;omega)|(have h2:=iut4 x hx;omega))));have os03_10:=J (os03_9.out.chg is03 O hcc10 (fun x hx e=>by have hx0:=is03 x hx;simp only[List.mem_append] at e;rcases e with (e|e)<;>first|(have h2:=iut3 x e;omega)|(have h2:=iut4 x e;omega)));have os04_10:=J (os04_9.out.chg is04 O hcc10 (fun x hx e=>by have hx0:=is04 x hx;simp only[List.mem_append] at e;rcases e with (e|e)<;>first|(have h2:=iut3 x e;omega)|(have h2:=iut4 x e;omega)));have ounw0_10:=J (ounw0_9.out.chg iunw0 O hcc10 (fun x hx e=>by have hx0:=iunw0 x hx;simp only[List.mem_append] at e;rcases e with (e|e)<;>first|(have h2:=iut3 x e;omega)|(have h2:=iut4 x e;omega)));have ounw1_10:=J (ounw1_9.out.chg iunw1 O hcc10 (fun x hx e=>by have hx0:=iunw1 x hx;simp only[List.mem_append] at e;rcases e with (e|e)<;>first|(have h2:=iut3 x e;omega)|(have h2:=iut4 x e;omega)));have ounw2_10:=J (ounw2_9.out.chg iunw2 O hcc10 (fun x hx e=>by have hx0:=iunw2 x hx;simp only[List.mem_append] at e;rcases e with (e|e)<;>first|(have h2:=iut3 x e;omega)|(have h2:=iut4 x e;omega)));have ounw3_10:=J (ounw3_9.out.chg iunw3 O hcc10 (fun x hx e=>by have hx0:=iunw3 x hx;simp only[List.mem_append] at e;rcases e with (e|e)<;>first|(have h2:=iut3 x e;omega)|(have h2:=iut4 x e;omega)));have og03_10:=J (og03_9.out.chg ig03 O hcc10 (fun x hx e=>by have hx0:=ig03 x hx;simp only[List.mem_append] at e;rcases e with (e|e)<;>first|(have h2:=iut3 x e;omega)|(have h2:=iut4 x e;omega)));have og04_10:=J (og04_9.out.chg ig04 O hcc10 (fun x hx e=>by have hx0:=ig04 x hx;simp only[List.mem_append] at e;rcases e with (e|e)<;>first|(have h2:=iut3 x e;omega)|(have h2:=iut4 x e;omega)));clear hcc10;have kout3_10:=J mut3;clear mut3;have kout4_10:=J mut4;clear mut4;go_wp2_with fail;refine ((calls_cast (K':=((1+cnt (zai t.heights)+cnt (zai t.clutter):Nat):Int)) O (mark_Network nw _ _ _ _ g5_0 g5_1 g5_2 g5_3 (1+cnt (zai t.heights)+cnt (zai t.clutter)) _ _ _ _ _ _ _ _ _ ounw0_10.out iunw0 OO ounw1_10.out iunw1 OO ounw2_10.out iunw2 OO ounw3_10.out iunw3 OO djunw0_1 djunw0_2 djunw0_3 djunw1_2 djunw1_3 djunw2_3 O O O))).mono ?_;rintro e w11 ⟨rfl,munw0,munw1,munw2,munw3,hc11⟩;have hcc11:Chg (g5_0++g5_1++g5_2++g5_3) w10 w11:=hc11;have z11:=hcc11.size;have hkAt11:=hc11.block (w.heap.size) OO (fun e=>by simp only[List.mem_append] at e;rcases e with (((e|e)|e)|e)<;>first|(have h2:=iunw0 _ e;omega)|(have h2:=iunw1 _ e;omega)|(have h2:=iunw2 _ e;omega)|(have h2:=iunw3 _ e;omega));have qAt11:∀ o,w11.cell? ⟨w.heap.size,o,none⟩=_:=fun o=>World.cell?_of_block (a:=⟨w.heap.size,o,none⟩) hkAt11
 have yAt11:w.heap.size<w11.heap.size:=by first|omega|(have:=hc11.size;simp at this;omega)
 (try clear yAt10)
 clear hkAt11;have hkAnw11:=hc11.block (w.heap.size+1) OO (fun e=>by simp only[List.mem_append] at e;rcases e with (((e|e)|e)|e)<;>first|(have h2:=iunw0 _ e;omega)|(have h2:=iunw1 _ e;omega)|(have h2:=iunw2 _ e;omega)|(have h2:=iunw3 _ e;omega));have qAnw11:∀ o,w11.cell? ⟨w.heap.size+1,o,none⟩=_:=fun o=>World.cell?_of_block (a:=⟨w.heap.size+1,o,none⟩) hkAnw11
 have yAnw11:w.heap.size+1<w11.heap.size:=by first|omega|(have:=hc11.size;simp at this;omega)
 (try clear yAnw10)
 clear hkAnw11;have hkS011:=hc11.block (hs) OO (fun e=>by simp only[List.mem_append] at e;rcases e with (((e|e)|e)|e)<;>first|(have h2:=iunw0 _ e;omega)|(have h2:=iunw1 _ e;omega)|(have h2:=iunw2 _ e;omega)|(have h2:=iunw3 _ e;omega));have qS011:∀ o,w11.cell? ⟨hs,o,none⟩=_:=fun o=>World.cell?_of_block (a:=⟨hs,o,none⟩) hkS011
 have yS011:hs<w11.heap.size:=by first|omega|(have:=hc11.size;simp at this;omega)
 (try clear yS010)
 clear hkS011;have hkUt11:=hc11.block (w4.heap.size) OO (fun e=>by simp only[List.mem_append] at e;rcases e with (((e|e)|e)|e)<;>first|(have h2:=iunw0 _ e;omega)|(have h2:=iunw1 _ e;omega)|(have h2:=iunw2 _ e;omega)|(have h2:=iunw3 _ e;omega));have qUt11:∀ o,w11.cell? ⟨w4.heap.size,o,none⟩=_:=fun o=>World.cell?_of_block (a:=⟨w4.heap.size,o,none⟩) hkUt11
 have yUt11:w4.heap.size<w11.heap.size:=by first|omega|(have:=hc11.size;simp at this;omega)
 (try clear yUt10)
 clear hkUt11;have hkUnw11:=hc11.block (w5.heap.size) OO (fun e=>by simp only[List.mem_append] at e;rcases e with (((e|e)|e)|e)<;>first|(have h2:=iunw0 _ e;omega)|(have h2:=iunw1 _ e;omega)|(have h2:=iunw2 _ e;omega)|(have h2:=iunw3 _ e;omega));have qUnw11:∀ o,w11.cell? ⟨w5.heap.size,o,none⟩=_:=fun o=>World.cell?_of_block (a:=⟨w5.heap.size,o,none⟩) hkUnw11
 have yUnw11:w5.heap.size<w11.heap.size:=by first|omega|(have:=hc11.size;simp at this;omega)
 (try clear yUnw10)
 clear hkUnw11;have hkG011:=hc11.block (w6.heap.size) OO (fun e=>by simp only[List.mem_append] at e;rcases e with (((e|e)|e)|e)<;>first|(have h2:=iunw0 _ e;omega)|(have h2:=iunw1 _ e;omega)|(have h2:=iunw2 _ e;omega)|(have h2:=iunw3 _ e;omega));have qG011:∀ o,w11.cell? ⟨w6.heap.size,o,none⟩=_:=fun o=>World.cell?_of_block (a:=⟨w6.heap.size,o,none⟩) hkG011
 have yG011:w6.heap.size<w11.heap.size:=by first|omega|(have:=hc11.size;simp at this;omega)
 (try clear yG010)
 clear hkG011;have BB11:=J (BB10.out.trans (hcc11.below O (fun x hx=>by simp only[List.mem_append] at hx;rcases hx with (((hx|hx)|hx)|hx)<;>first|(have h2:=iunw0 x hx;omega)|(have h2:=iunw1 x hx;omega)|(have h2:=iunw2 x hx;omega)|(have h2:=iunw3 x hx;omega))));have os03_11:=J (os03_10.out.chg is03 O hcc11 (fun x hx e=>by have hx0:=is03 x hx;simp only[List.mem_append] at e;rcases e with (((e|e)|e)|e)<;>first|(have h2:=iunw0 x e;omega)|(have h2:=iunw1 x e;omega)|(have h2:=iunw2 x e;omega)|(have h2:=iunw3 x e;omega)));have os04_11:=J (os04_10.out.chg is04 O hcc11 (fun x hx e=>by have hx0:=is04 x hx;simp only[List.mem_append] at e;rcases e with (((e|e)|e)|e)<;>first|(have h2:=iunw0 x e;omega)|(have h2:=iunw1 x e;omega)|(have h2:=iunw2 x e;omega)|(have h2:=iunw3 x e;omega)));have og03_11:=J (og03_10.out.chg ig03 O hcc11 (fun x hx e=>by have hx0:=ig03 x hx;simp only[List.mem_append] at e;rcases e with (((e|e)|e)|e)<;>first|(have h2:=iunw0 x e;omega)|(have h2:=iunw1 x e;omega)|(have h2:=iunw2 x e;omega)|(have h2:=iunw3 x e;omega)));have og04_11:=J (og04_10.out.chg ig04 O hcc11 (fun x hx e=>by have hx0:=ig04 x hx;simp only[List.mem_append] at e;rcases e with (((e|e)|e)|e)<;>first|(have h2:=iunw0 x e;omega)|(have h2:=iunw1 x e;omega)|(have h2:=iunw2 x e;omega)|(have h2:=iunw3 x e;omega)));clear hcc11;have kounw0_11:=J munw0;clear munw0;have kounw1_11:=J munw1;clear munw1;have kounw2_11:=J munw2;clear munw2;have kounw3_11:=J munw3;clear munw3;have kd11:decide (((1+cnt (zai t.heights)+cnt (zai t.clutter)+cnt (DSite.sT nw.sites)+cnt (DSector.sT nw.sectors)+cnt (DAntenna.sT nw.antennas)+cnt (DRadio.sT nw.radios):Nat):Int)<0)=false:=by simp<;>omega
 go_wp2_with fail;refine ((eq_Raster R.1 _ _ _ _ w11.heap.size _ ((og03_11.out.rd ig03).mono O) ((os03_11.out.rd is03).mono O) ((og04_11.out.rd ig04).mono O) ((os04_11.out.rd is04).mono O) (Nat.le_refl _) O)).mono ?_;rintro e w12 ⟨rfl,hb12⟩;have hbb12:IJ w11 w11 w12:=hb12;have z12:=hbb12.size;obtain⟨qAt12,_,yAt12⟩:=zah hb12 (b:=w.heap.size) OO
 (try clear yAt11)
 obtain⟨qAnw12,_,yAnw12⟩:=zah hb12 (b:=w.heap.size+1) OO
 (try clear yAnw11)
 obtain⟨qS012,_,yS012⟩:=zah hb12 (b:=hs) OO
 (try clear yS011)
 obtain⟨qUt12,_,yUt12⟩:=zah hb12 (b:=w4.heap.size) OO
 (try clear yUt11)
 obtain⟨qUnw12,_,yUnw12⟩:=zah hb12 (b:=w5.heap.size) OO
 (try clear yUnw11)
 obtain⟨qG012,_,yG012⟩:=zah hb12 (b:=w6.heap.size) OO
 (try clear yG011)
 have BB12:=J (BB11.out.trans (hbb12.mono O));have os03_12:=J (os03_11.out.below is03 O hbb12);have os04_12:=J (os04_11.out.below is04 O hbb12);have og03_12:=J (og03_11.out.below ig03 O hbb12);have og04_12:=J (og04_11.out.below ig04 O hbb12);clear hbb12;go_wp2_with fail;refine ((mark_Raster R.1 _ _ g6_3 g6_4 (1) _ _ _ _ _ og03_12.out ig03 OO og04_12.out ig04 OO djg03_4 O O O)).mono ?_;rintro e w13 ⟨rfl,mg03,mg04,hc13⟩;have hcc13:Chg (g6_3++g6_4) w12 w13:=hc13;have z13:=hcc13.size;have hkAt13:=hc13.block (w.heap.size) OO (fun e=>by simp only[List.mem_append] at e;rcases e with (e|e)<;>first|(have h2:=ig03 _ e;omega)|(have h2:=ig04 _ e;omega));have qAt13:∀ o,w13.cell? ⟨w.heap.size,o,none⟩=_:=fun o=>World.cell?_of_block (a:=⟨w.heap.size,o,none⟩) hkAt13
 have yAt13:w.heap.size<w13.heap.size:=by first|omega|(have:=hc13.size;simp at this;omega)
 (try clear yAt12)
 clear hkAt13;have hkAnw13:=hc13.block (w.heap.size+1) OO (fun e=>by simp only[List.mem_append] at e;rcases e with (e|e)<;>first|(have h2:=ig03 _ e;omega)|(have h2:=ig04 _ e;omega));have qAnw13:∀ o,w13.cell? ⟨w.heap.size+1,o,none⟩=_:=fun o=>World.cell?_of_block (a:=⟨w.heap.size+1,o,none⟩) hkAnw13
 have yAnw13:w.heap.size+1<w13.heap.size:=by first|omega|(have:=hc13.size;simp at this;omega)
 (try clear yAnw12)
 clear hkAnw13;have hkS013:=hc13.block (hs) OO (fun e=>by simp only[List.mem_append] at e;rcases e with (e|e)<;>first|(have h2:=ig03 _ e;omega)|(have h2:=ig04 _ e;omega));have qS013:∀ o,w13.cell? ⟨hs,o,none⟩=_:=fun o=>World.cell?_of_block (a:=⟨hs,o,none⟩) hkS013
 have yS013:hs<w13.heap.size:=by first|omega|(have:=hc13.size;simp at this;omega)
 (try clear yS012)
 clear hkS013;have hkUt13:=hc13.block (w4.heap.size) OO (fun e=>by simp only[List.mem_append] at e;rcases e with (e|e)<;>first|(have h2:=ig03 _ e;omega)|(have h2:=ig04 _ e;omega));have qUt13:∀ o,w13.cell? ⟨w4.heap.size,o,none⟩=_:=fun o=>World.cell?_of_block (a:=⟨w4.heap.size,o,none⟩) hkUt13
 have yUt13:w4.heap.size<w13.heap.size:=by first|omega|(have:=hc13.size;simp at this;omega)
 (try clear yUt12)
 clear hkUt13;have hkUnw13:=hc13.block (w5.heap.size) OO (fun e=>by simp only[List.mem_append] at e;rcases e with (e|e)<;>first|(have h2:=ig03 _ e;omega)|(have h2:=ig04 _ e;omega));have qUnw13:∀ o,w13.cell? ⟨w5.heap.size,o,none⟩=_:=fun o=>World.cell?_of_block (a:=⟨w5.heap.size,o,none⟩) hkUnw13
 have yUnw13:w5.heap.size<w13.heap.size:=by first|omega|(have:=hc13.size;simp at this;omega)
 (try clear yUnw12)
 clear hkUnw13;have hkG013:=hc13.block (w6.heap.size) OO (fun e=>by simp only[List.mem_append] at e;rcases e with (e|e)<;>first|(have h2:=ig03 _ e;omega)|(have h2:=ig04 _ e;omega));have qG013:∀ o,w13.cell? ⟨w6.heap.size,o,none⟩=_:=fun o=>World.cell?_of_block (a:=⟨w6.heap.size,o,none⟩) hkG013
 have yG013:w6.heap.size<w13.heap.size:=by first|omega|(have:=hc13.size;simp at this;omega)
 (try clear yG012)
 clear hkG013;have BB13:=J (BB12.out.trans (hcc13.below O (fun x hx=>by simp only[List.mem_append] at hx;rcases hx with (hx|hx)<;>first|(have h2:=ig03 x hx;omega)|(have h2:=ig04 x hx;omega))));have os03_13:=J (os03_12.out.chg is03 O hcc13 (fun x hx e=>by have hx0:=is03 x hx;simp only[List.mem_append] at e;rcases e with (e|e)<;>first|(have h2:=ig03 x e;omega)|(have h2:=ig04 x e;omega)));have os04_13:=J (os04_12.out.chg is04 O hcc13 (fun x hx e=>by have hx0:=is04 x hx;simp only[List.mem_append] at e;rcases e with (e|e)<;>first|(have h2:=ig03 x e;omega)|(have h2:=ig04 x e;omega)));clear hcc13;have kog03_13:=J mg03;clear mg03;have kog04_13:=J mg04;clear mg04;go_wp2_with fail;refine (held_Raster R.1 _ _ w13.heap.size (1) _ ((kog03_13.out.rd ig03).mono O) ((kog04_13.out.rd ig04).mono O) (Nat.le_refl _) O O O).mono ?_;rintro e w14 ⟨rfl,hb14⟩;have hbb14:IJ w13 w13 w14:=hb14;have z14:=hbb14.size;obtain⟨qAt14,_,yAt14⟩:=zah hb14 (b:=w.heap.size) OO
 (try clear yAt13)
 obtain⟨qAnw14,_,yAnw14⟩:=zah hb14 (b:=w.heap.size+1) OO
 (try clear yAnw13)
 obtain⟨qS014,_,yS014⟩:=zah hb14 (b:=hs) OO
 (try clear yS013)
 obtain⟨qUt14,_,yUt14⟩:=zah hb14 (b:=w4.heap.size) OO
 (try clear yUt13)
 obtain⟨qUnw14,_,yUnw14⟩:=zah hb14 (b:=w5.heap.size) OO
 (try clear yUnw13)
 obtain⟨qG014,_,yG014⟩:=zah hb14 (b:=w6.heap.size) OO
 (try clear yG013)
 have BB14:=J (BB13.out.trans (hbb14.mono O));have os03_14:=J (os03_13.out.below is03 O hbb14);have os04_14:=J (os04_13.out.below is04 O hbb14);have kog03_14:=J (kog03_13.out.below ig03 O hbb14);have kog04_14:=J (kog04_13.out.below ig04 O hbb14);clear hbb14;go_wp2;have hcf:w14.cell? ⟨w,0,none⟩=some (I t.step)∧w14.cell? ⟨w,1,none⟩=some (I t.width)∧w14.cell? ⟨w,2,none⟩=some (I t.height)∧w14.cell? ⟨w,3,none⟩=some (vt3)∧w14.cell? ⟨w,4,none⟩=some (vt4)∧w14.cell? ⟨w.heap.size+1,0,none⟩=some (vnw0)∧w14.cell? ⟨w.heap.size+1,1,none⟩=some (vnw1)∧w14.cell? ⟨w.heap.size+1,2,none⟩=some (vnw2)∧w14.cell? ⟨w.heap.size+1,3,none⟩=some (vnw3):=by refine⟨?_,?_,?_,?_,?_,?_,?_,?_,?_⟩<;>simp[go_sem, *]
 have HKB:Hid (∀ W:World,IJ w14 w14 W→W.cell? ⟨w,0,none⟩=some (I t.step)∧W.cell? ⟨w,1,none⟩=some (I t.width)∧W.cell? ⟨w,2,none⟩=some (I t.height)∧W.cell? ⟨w,3,none⟩=some (vt3)∧W.cell? ⟨w,4,none⟩=some (vt4)∧W.cell? ⟨w.heap.size+1,0,none⟩=some (vnw0)∧W.cell? ⟨w.heap.size+1,1,none⟩=some (vnw1)∧W.cell? ⟨w.heap.size+1,2,none⟩=some (vnw2)∧W.cell? ⟨w.heap.size+1,3,none⟩=some (vnw3)):=fun W hW=>by
  obtain⟨e0,e1,e2,e3,e4,e5,e6,e7,e8⟩:=hcf;exact⟨(bat hW _ _ O).trans e0,(bat hW _ _ O).trans e1,(bat hW _ _ O).trans e2,(bat hW _ _ O).trans e3,(bat hW _ _ O).trans e4,(bat hW _ _ O).trans e5,(bat hW _ _ O).trans e6,(bat hW _ _ O).trans e7,(bat hW _ _ O).trans e8⟩
 clear hcf;have BBd:Hid (IJ w14 w14 w14.drew):=(Below.refl _ _).drew;go_cut [21,22] (fun s0 s1 wx=>∃ (hh:Nat) (ah03:Option Addr) (ch03:Nat) (ah04:Option Addr) (ch04:Nat) (fh0:List Nat) (loh hih:Nat),s0=.pointer (some ⟨hh,0,none⟩)∧s1=I R.2∧wx.heap[hh]? = some (.cells #[I R.1.step,I R.1.width,I R.1.height,II ah03 R.1.server.length ch03,II ah04 R.1.level.length ch04] 34 (0,0))∧w14.heap.size≤hh∧hh<wx.heap.size∧IJ w14 w14 wx∧OwnV wx R.1.tr [I R.1.step,I R.1.width,I R.1.height,II ah03 R.1.server.length ch03,II ah04 R.1.level.length ch04] fh0∧In loh hih fh0∧w14.heap.size≤loh∧hih≤wx.heap.size∧(hh<loh∨hih≤hh))
 case first =>
  refine zap 13 (.read 0 (.read 2 (.read 4 (.read 5 (.read 6 (.two 1 11 (.two 3 11 (.two 7 11 (.read 8 (.read 9 (.read 10 (.one 11 (.one 12 .nil))))) (.one 7 (.read 8 (.read 9 (.read 10 (.one 12 .nil)))))) (.one 3 (.one 7 (.read 8 (.read 9 (.read 10 (.one 12 .nil))))))) (.one 1 (.one 3 (.one 7 (.read 8 (.read 9 (.read 10 (.one 12 .nil))))))))))))) (fun W=>W.cell? ⟨w,0,none⟩=some (I t.step)∧W.cell? ⟨w,1,none⟩=some (I t.width)∧W.cell? ⟨w,2,none⟩=some (I t.height)∧W.cell? ⟨w,3,none⟩=some (vt3)∧W.cell? ⟨w,4,none⟩=some (vt4)∧W.cell? ⟨w.heap.size+1,0,none⟩=some (vnw0)∧W.cell? ⟨w.heap.size+1,1,none⟩=some (vnw1)∧W.cell? ⟨w.heap.size+1,2,none⟩=some (vnw2)∧W.cell? ⟨w.heap.size+1,3,none⟩=some (vnw3)) OJ OJ (HKB.out _ BBd.out) ?_;have zd:w14.heap.size≤w14.drew.heap.size:=Nat.le_refl _;generalize w14.drew=Y at *;refine zag (v:=?_) rfl (fun _ _ _ h=>h) ?_ ?_
  rotate_left
  ·(intro W hSW;(try dsimp only at hSW);(go_simp<;>with_reducible rfl))
  (try simp only[Act.put,IQ,IZ,OI])
  refine zag (v:=?_) rfl (fun _ _ _ h=>h) ?_ ?_
  rotate_left
  ·(intro W hSW;(try dsimp only at hSW);(go_simp<;>with_reducible rfl))
  (try simp only[Act.put,IQ,IZ,OI])
  refine zag (v:=?_) rfl (fun _ _ _ h=>h) ?_ ?_
  rotate_left
  ·(intro W hSW;(try dsimp only at hSW);(go_simp<;>with_reducible rfl))
  (try simp only[Act.put,IQ,IZ,OI])
  refine zag (v:=?_) rfl (fun _ _ _ h=>h) ?_ ?_
  rotate_left
  ·(intro W hSW;(try dsimp only at hSW);(go_simp<;>with_reducible rfl))
  (try simp only[Act.put,IQ,IZ,OI])
  refine zag (v:=?_) rfl (fun _ _ _ h=>h) ?_ ?_
  rotate_left
  ·(intro W hSW;(try dsimp only at hSW);(go_simp<;>with_reducible rfl))
  (try simp only[Act.put,IQ,IZ,OI])
  refine za0 ?_ ?_
  ·refine zae rfl (fun K hK=>?_)
   go_simp;refine (zed t _ _ _ ((Ht3.out.below (BB14.out.trans (BBd.out.mono O))).mono O) ((Ht4.out.below (BB14.out.trans (BBd.out.mono O))).mono O) O).mono ?_;rintro e Y1 ⟨att3,ctt3,att4,ctt4,ftt,rfl,hb1,ov1,iv1⟩;refine hK.out _ _ (HKB.out _ (BBd.out.trans (hb1.mono O))) ?_;clear hK K
   (try simp only[Act.put,IQ,IZ,OI])
   have OT1:=J ov1;have itt:=iv1;clear ov1 iv1;have bs1:Y.heap.size≤Y1.heap.size:=hb1.size;have BY1:=J (BBd.out.trans (hb1.mono O));clear hb1;refine za0 ?_ ?_
   ·refine zae rfl (fun K hK=>?_)
    go_simp;refine (zdf nw _ _ _ _ _ ((Hnw0.out.below (BB14.out.trans (BY1.out.mono O))).mono O) ((Hnw1.out.below (BB14.out.trans (BY1.out.mono O))).mono O) ((Hnw2.out.below (BB14.out.trans (BY1.out.mono O))).mono O) ((Hnw3.out.below (BB14.out.trans (BY1.out.mono O))).mono O) O).mono ?_;rintro e Y2 ⟨atnw0,ctnw0,atnw1,ctnw1,atnw2,ctnw2,atnw3,ctnw3,ftnw,rfl,hb2,ov2,iv2⟩;refine hK.out _ _ (HKB.out _ (BY1.out.trans (hb2.mono O))) ?_;clear hK K
    (try simp only[Act.put,IQ,IZ,OI])
    have OT2:=J ov2;have itnw:=iv2;clear ov2 iv2;have bs2:Y1.heap.size≤Y2.heap.size:=hb2.size;have BY2:=J (BY1.out.trans (hb2.mono O));have OT2_t:=J (OT1.out.below itt O hb2);clear hb2;refine za0 ?_ ?_
    ·refine zae rfl (fun K hK=>?_)
     go_simp;refine (HI.out _ _ _ _ _ _ _ (HLL.out.mono (BB14.out.trans (BY2.out.mono O))) (((OT2_t.out.rd itt).2.2.2.1).mono O) (((OT2_t.out.rd itt).2.2.2.2.1).mono O) (((OT2.out.rd itnw).1).mono O) (((OT2.out.rd itnw).2.1).mono O) (((OT2.out.rd itnw).2.2.1).mono O) (((OT2.out.rd itnw).2.2.2.1).mono O) O O).mono ?_;rintro e Y3 ⟨ah03,ch03,ah04,ch04,fh0,rfl,hb3,ov3,iv3⟩;refine hK.out _ _ (HKB.out _ (BY2.out.trans (hb3.mono O))) ?_;clear hK K
     (try simp only[Act.put,IQ,IZ,OI])
     have OR3:=J ov3;have ir:=iv3;clear ov3 iv3;have bs3:Y2.heap.size≤Y3.heap.size:=hb3.size;have BY3:=J (BY2.out.trans (hb3.mono O));clear hb3;refine zag (v:=?_) rfl (fun _ _ _ h=>h) ?_ ?_
     rotate_left
     ·(intro W hSW;(try dsimp only at hSW);(go_simp<;>with_reducible rfl))
     (try simp only[Act.put,IQ,IZ,OI])
     refine zag (v:=?_) rfl (fun _ _ _ h=>h) ?_ ?_
     rotate_left
     ·(intro W hSW;(try dsimp only at hSW);(go_simp<;>with_reducible rfl))
     (try simp only[Act.put,IQ,IZ,OI])
     refine zag (v:=?_) rfl (fun _ _ _ h=>h) ?_ ?_
     rotate_left
     ·(intro W hSW;(try dsimp only at hSW);(go_simp<;>with_reducible rfl))
     (try simp only[Act.put,IQ,IZ,OI])
     refine zaf ?_;refine zae rfl (fun K hK=>?_);go_simp;have hb4:IJ Y3 Y3 (Y3.alloc (.cells #[I 0,I 0,I 0,II none 0 0,II none 0 0] 34)):=(Below.refl _ _).alloc (Nat.le_refl _) _;have kh4:=J (bkN Y3 #[I 0,I 0,I 0,II none 0 0,II none 0 0] 34);have zl4:Y3.heap.size+1≤(Y3.alloc (.cells #[I 0,I 0,I 0,II none 0 0,II none 0 0] 34)).heap.size:=by simp
     refine hK.out _ _ (HKB.out _ (BY3.out.trans (hb4.mono O))) ?_;clear hK K
     (try simp only[Act.put,IQ,IZ,OI])
     generalize (Y3.alloc (.cells #[I 0,I 0,I 0,II none 0 0,II none 0 0] 34))=Y4 at *;have bs4:Y3.heap.size≤Y4.heap.size:=hb4.size;have BY4:=J (BY3.out.trans (hb4.mono O));have OR4:=J (OR3.out.below ir O hb4);clear hb4;refine zaf ?_;refine zae rfl (fun K hK=>?_);have g0_:=bkC (v:=I 0) kh4.out 0 rfl;have g1_:=bkC (v:=I 0) kh4.out 1 rfl;have g2_:=bkC (v:=I 0) kh4.out 2 rfl;have g3_:=bkC (v:=II none 0 0) kh4.out 3 rfl;have g4_:=bkC (v:=II none 0 0) kh4.out 4 rfl;have fz:=bkF kh4.out;have kf_:(((((Y4.setCell ⟨Y3,0,none⟩ (I R.1.step)).setCell ⟨Y3,1,none⟩ (I R.1.width)).setCell ⟨Y3,2,none⟩ (I R.1.height)).setCell ⟨Y3,3,none⟩ (II ah03 R.1.server.length ch03)).setCell ⟨Y3,4,none⟩ (II ah04 R.1.level.length ch04)).heap[Y3.heap.size]? = some (.cells #[I R.1.step,I R.1.width,I R.1.height,II ah03 R.1.server.length ch03,II ah04 R.1.level.length ch04] 34 (0,0)):=by
      have h_:=bkS (bkS (bkS (bkS (bkS (kh4.out) 0 (I R.1.step)) 1 (I R.1.width)) 2 (I R.1.height)) 3 (II ah03 R.1.server.length ch03)) 4 (II ah04 R.1.level.length ch04)
      simpa using h_
     have KF:=J kf_;clear kf_;have BF:=J ((((((BY4.out).setCell (p:=⟨Y3,0,none⟩) (by show w14.heap.size≤Y3.heap.size;omega) (I R.1.step)).setCell (p:=⟨Y3,1,none⟩) (by show w14.heap.size≤Y3.heap.size;omega) (I R.1.width)).setCell (p:=⟨Y3,2,none⟩) (by show w14.heap.size≤Y3.heap.size;omega) (I R.1.height)).setCell (p:=⟨Y3,3,none⟩) (by show w14.heap.size≤Y3.heap.size;omega) (II ah03 R.1.server.length ch03)).setCell (p:=⟨Y3,4,none⟩) (by show w14.heap.size≤Y3.heap.size;omega) (II ah04 R.1.level.length ch04));have OF:=J ((((((OR4.out).setFar (p:=⟨Y3,0,none⟩) (fun e=>by have:=ir _ e;simp only at this;omega) (I R.1.step)).setFar (p:=⟨Y3,1,none⟩) (fun e=>by have:=ir _ e;simp only at this;omega) (I R.1.width)).setFar (p:=⟨Y3,2,none⟩) (fun e=>by have:=ir _ e;simp only at this;omega) (I R.1.height)).setFar (p:=⟨Y3,3,none⟩) (fun e=>by have:=ir _ e;simp only at this;omega) (II ah03 R.1.server.length ch03)).setFar (p:=⟨Y3,4,none⟩) (fun e=>by have:=ir _ e;simp only at this;omega) (II ah04 R.1.level.length ch04));have zs5:Y4.heap.size≤(((((Y4.setCell ⟨Y3,0,none⟩ (I R.1.step)).setCell ⟨Y3,1,none⟩ (I R.1.width)).setCell ⟨Y3,2,none⟩ (I R.1.height)).setCell ⟨Y3,3,none⟩ (II ah03 R.1.server.length ch03)).setCell ⟨Y3,4,none⟩ (II ah04 R.1.level.length ch04)).heap.size:=by simp only[zac];omega
     go_simp;refine hK.out _ _ (HKB.out _ BF.out) ?_;clear hK K fz g0_ g1_ g2_ g3_ g4_
     (try simp only[Act.put,IQ,IZ,OI])
     generalize (((((Y4.setCell ⟨Y3,0,none⟩ (I R.1.step)).setCell ⟨Y3,1,none⟩ (I R.1.width)).setCell ⟨Y3,2,none⟩ (I R.1.height)).setCell ⟨Y3,3,none⟩ (II ah03 R.1.server.length ch03)).setCell ⟨Y3,4,none⟩ (II ah04 R.1.level.length ch04))=Y5 at *;refine zak ?_;simp only[List.drop_succ_cons,List.drop_zero];go_wp2_with fail;go_meet;exact⟨_,ah03,ch03,ah04,ch04,fh0,_,_,rfl,rfl,KF.out,O,O,BF.out,OF.out,ir,O,O,O⟩
    ·refine zae rfl (fun K hK=>?_)
     go_simp;have hb6:IJ Y2 Y2 (Y2.alloc (.cells #[I 0,I 0,I 0,II none 0 0,II none 0 0] 34)):=(Below.refl _ _).alloc (Nat.le_refl _) _;have kh6:=J (bkN Y2 #[I 0,I 0,I 0,II none 0 0,II none 0 0] 34);have zl6:Y2.heap.size+1≤(Y2.alloc (.cells #[I 0,I 0,I 0,II none 0 0,II none 0 0] 34)).heap.size:=by simp
     refine hK.out _ _ (HKB.out _ (BY2.out.trans (hb6.mono O))) ?_;clear hK K
     (try simp only[Act.put,IQ,IZ,OI])
     generalize (Y2.alloc (.cells #[I 0,I 0,I 0,II none 0 0,II none 0 0] 34))=Y6 at *;have bs6:Y2.heap.size≤Y6.heap.size:=hb6.size;have BY6:=J (BY2.out.trans (hb6.mono O));have OT6_t:=J (OT2_t.out.below itt O hb6);have OT6_nw:=J (OT2.out.below itnw O hb6);clear hb6;refine zaf ?_;refine zae rfl (fun K hK=>?_);go_simp;refine (HI.out _ _ _ _ _ _ _ (HLL.out.mono (BB14.out.trans (BY6.out.mono O))) (((OT6_t.out.rd itt).2.2.2.1).mono O) (((OT6_t.out.rd itt).2.2.2.2.1).mono O) (((OT6_nw.out.rd itnw).1).mono O) (((OT6_nw.out.rd itnw).2.1).mono O) (((OT6_nw.out.rd itnw).2.2.1).mono O) (((OT6_nw.out.rd itnw).2.2.2.1).mono O) O O).mono ?_;rintro e Y7 ⟨ah03,ch03,ah04,ch04,fh0,rfl,hb7,ov7,iv7⟩;refine hK.out _ _ (HKB.out _ (BY6.out.trans (hb7.mono O))) ?_;clear hK K
     (try simp only[Act.put,IQ,IZ,OI])
     have OR7:=J ov7;have ir:=iv7;clear ov7 iv7;have bs7:Y6.heap.size≤Y7.heap.size:=hb7.size;have BY7:=J (BY6.out.trans (hb7.mono O));have kh7:=J (bkB kh6.out hb7 O);clear hb7;refine zag (v:=?_) rfl (fun _ _ _ h=>h) ?_ ?_
     rotate_left
     ·(intro W hSW;(try dsimp only at hSW);(go_simp<;>with_reducible rfl))
     (try simp only[Act.put,IQ,IZ,OI])
     refine zag (v:=?_) rfl (fun _ _ _ h=>h) ?_ ?_
     rotate_left
     ·(intro W hSW;(try dsimp only at hSW);(go_simp<;>with_reducible rfl))
     (try simp only[Act.put,IQ,IZ,OI])
     refine zag (v:=?_) rfl (fun _ _ _ h=>h) ?_ ?_
     rotate_left
     ·(intro W hSW;(try dsimp only at hSW);(go_simp<;>with_reducible rfl))
     (try simp only[Act.put,IQ,IZ,OI])
     refine zaf ?_;refine zae rfl (fun K hK=>?_);have g0_:=bkC (v:=I 0) kh7.out 0 rfl;have g1_:=bkC (v:=I 0) kh7.out 1 rfl;have g2_:=bkC (v:=I 0) kh7.out 2 rfl;have g3_:=bkC (v:=II none 0 0) kh7.out 3 rfl;have g4_:=bkC (v:=II none 0 0) kh7.out 4 rfl;have fz:=bkF kh7.out;have kf_:(((((Y7.setCell ⟨Y2,0,none⟩ (I R.1.step)).setCell ⟨Y2,1,none⟩ (I R.1.width)).setCell ⟨Y2,2,none⟩ (I R.1.height)).setCell ⟨Y2,3,none⟩ (II ah03 R.1.server.length ch03)).setCell ⟨Y2,4,none⟩ (II ah04 R.1.level.length ch04)).heap[Y2.heap.size]? = some (.cells #[I R.1.step,I R.1.width,I R.1.height,II ah03 R.1.server.length ch03,II ah04 R.1.level.length ch04] 34 (0,0)):=by
      have h_:=bkS (bkS (bkS (bkS (bkS (kh7.out) 0 (I R.1.step)) 1 (I R.1.width)) 2 (I R.1.height)) 3 (II ah03 R.1.server.length ch03)) 4 (II ah04 R.1.level.length ch04)
      simpa using h_
     have KF:=J kf_;clear kf_;have BF:=J ((((((BY7.out).setCell (p:=⟨Y2,0,none⟩) (by show w14.heap.size≤Y2.heap.size;omega) (I R.1.step)).setCell (p:=⟨Y2,1,none⟩) (by show w14.heap.size≤Y2.heap.size;omega) (I R.1.width)).setCell (p:=⟨Y2,2,none⟩) (by show w14.heap.size≤Y2.heap.size;omega) (I R.1.height)).setCell (p:=⟨Y2,3,none⟩) (by show w14.heap.size≤Y2.heap.size;omega) (II ah03 R.1.server.length ch03)).setCell (p:=⟨Y2,4,none⟩) (by show w14.heap.size≤Y2.heap.size;omega) (II ah04 R.1.level.length ch04));have OF:=J ((((((OR7.out).setFar (p:=⟨Y2,0,none⟩) (fun e=>by have:=ir _ e;simp only at this;omega) (I R.1.step)).setFar (p:=⟨Y2,1,none⟩) (fun e=>by have:=ir _ e;simp only at this;omega) (I R.1.width)).setFar (p:=⟨Y2,2,none⟩) (fun e=>by have:=ir _ e;simp only at this;omega) (I R.1.height)).setFar (p:=⟨Y2,3,none⟩) (fun e=>by have:=ir _ e;simp only at this;omega) (II ah03 R.1.server.length ch03)).setFar (p:=⟨Y2,4,none⟩) (fun e=>by have:=ir _ e;simp only at this;omega) (II ah04 R.1.level.length ch04));have zs8:Y7.heap.size≤(((((Y7.setCell ⟨Y2,0,none⟩ (I R.1.step)).setCell ⟨Y2,1,none⟩ (I R.1.width)).setCell ⟨Y2,2,none⟩ (I R.1.height)).setCell ⟨Y2,3,none⟩ (II ah03 R.1.server.length ch03)).setCell ⟨Y2,4,none⟩ (II ah04 R.1.level.length ch04)).heap.size:=by simp only[zac];omega
     go_simp;refine hK.out _ _ (HKB.out _ BF.out) ?_;clear hK K fz g0_ g1_ g2_ g3_ g4_
     (try simp only[Act.put,IQ,IZ,OI])
     generalize (((((Y7.setCell ⟨Y2,0,none⟩ (I R.1.step)).setCell ⟨Y2,1,none⟩ (I R.1.width)).setCell ⟨Y2,2,none⟩ (I R.1.height)).setCell ⟨Y2,3,none⟩ (II ah03 R.1.server.length ch03)).setCell ⟨Y2,4,none⟩ (II ah04 R.1.level.length ch04))=Y8 at *;refine zak ?_;simp only[List.drop_succ_cons,List.drop_zero];go_wp2_with fail;go_meet;exact⟨_,ah03,ch03,ah04,ch04,fh0,_,_,rfl,rfl,KF.out,O,O,BF.out,OF.out,ir,O,O,O⟩
   ·refine zae rfl (fun K hK=>?_)
    go_simp;have hb9:IJ Y1 Y1 (Y1.alloc (.cells #[I 0,I 0,I 0,II none 0 0,II none 0 0] 34)):=(Below.refl _ _).alloc (Nat.le_refl _) _;have kh9:=J (bkN Y1 #[I 0,I 0,I 0,II none 0 0,II none 0 0] 34);have zl9:Y1.heap.size+1≤(Y1.alloc (.cells #[I 0,I 0,I 0,II none 0 0,II none 0 0] 34)).heap.size:=by simp
    refine hK.out _ _ (HKB.out _ (BY1.out.trans (hb9.mono O))) ?_;clear hK K
    (try simp only[Act.put,IQ,IZ,OI])
    generalize (Y1.alloc (.cells #[I 0,I 0,I 0,II none 0 0,II none 0 0] 34))=Y9 at *;have bs9:Y1.heap.size≤Y9.heap.size:=hb9.size;have BY9:=J (BY1.out.trans (hb9.mono O));have OT9_t:=J (OT1.out.below itt O hb9);clear hb9;refine zaf ?_;refine zae rfl (fun K hK=>?_);go_simp;refine (zdf nw _ _ _ _ _ ((Hnw0.out.below (BB14.out.trans (BY9.out.mono O))).mono O) ((Hnw1.out.below (BB14.out.trans (BY9.out.mono O))).mono O) ((Hnw2.out.below (BB14.out.trans (BY9.out.mono O))).mono O) ((Hnw3.out.below (BB14.out.trans (BY9.out.mono O))).mono O) O).mono ?_;rintro e Y10 ⟨atnw0,ctnw0,atnw1,ctnw1,atnw2,ctnw2,atnw3,ctnw3,ftnw,rfl,hb10,ov10,iv10⟩;refine hK.out _ _ (HKB.out _ (BY9.out.trans (hb10.mono O))) ?_;clear hK K
    (try simp only[Act.put,IQ,IZ,OI])
    have OT10:=J ov10;have itnw:=iv10;clear ov10 iv10;have bs10:Y9.heap.size≤Y10.heap.size:=hb10.size;have BY10:=J (BY9.out.trans (hb10.mono O));have kh10:=J (bkB kh9.out hb10 O);have OT10_t:=J (OT9_t.out.below itt O hb10);clear hb10;refine zaf ?_;refine zae rfl (fun K hK=>?_);go_simp;refine (HI.out _ _ _ _ _ _ _ (HLL.out.mono (BB14.out.trans (BY10.out.mono O))) (((OT10_t.out.rd itt).2.2.2.1).mono O) (((OT10_t.out.rd itt).2.2.2.2.1).mono O) (((OT10.out.rd itnw).1).mono O) (((OT10.out.rd itnw).2.1).mono O) (((OT10.out.rd itnw).2.2.1).mono O) (((OT10.out.rd itnw).2.2.2.1).mono O) O O).mono ?_;rintro e Y11 ⟨ah03,ch03,ah04,ch04,fh0,rfl,hb11,ov11,iv11⟩;refine hK.out _ _ (HKB.out _ (BY10.out.trans (hb11.mono O))) ?_;clear hK K
    (try simp only[Act.put,IQ,IZ,OI])
    have OR11:=J ov11;have ir:=iv11;clear ov11 iv11;have bs11:Y10.heap.size≤Y11.heap.size:=hb11.size;have BY11:=J (BY10.out.trans (hb11.mono O));have kh11:=J (bkB kh10.out hb11 O);clear hb11;refine zag (v:=?_) rfl (fun _ _ _ h=>h) ?_ ?_
    rotate_left
    ·(intro W hSW;(try dsimp only at hSW);(go_simp<;>with_reducible rfl))
    (try simp only[Act.put,IQ,IZ,OI])
    refine zag (v:=?_) rfl (fun _ _ _ h=>h) ?_ ?_
    rotate_left
    ·(intro W hSW;(try dsimp only at hSW);(go_simp<;>with_reducible rfl))
    (try simp only[Act.put,IQ,IZ,OI])
    refine zag (v:=?_) rfl (fun _ _ _ h=>h) ?_ ?_
    rotate_left
    ·(intro W hSW;(try dsimp only at hSW);(go_simp<;>with_reducible rfl))
    (try simp only[Act.put,IQ,IZ,OI])
    refine zaf ?_;refine zae rfl (fun K hK=>?_);have g0_:=bkC (v:=I 0) kh11.out 0 rfl;have g1_:=bkC (v:=I 0) kh11.out 1 rfl;have g2_:=bkC (v:=I 0) kh11.out 2 rfl;have g3_:=bkC (v:=II none 0 0) kh11.out 3 rfl;have g4_:=bkC (v:=II none 0 0) kh11.out 4 rfl;have fz:=bkF kh11.out;have kf_:(((((Y11.setCell ⟨Y1,0,none⟩ (I R.1.step)).setCell ⟨Y1,1,none⟩ (I R.1.width)).setCell ⟨Y1,2,none⟩ (I R.1.height)).setCell ⟨Y1,3,none⟩ (II ah03 R.1.server.length ch03)).setCell ⟨Y1,4,none⟩ (II ah04 R.1.level.length ch04)).heap[Y1.heap.size]? = some (.cells #[I R.1.step,I R.1.width,I R.1.height,II ah03 R.1.server.length ch03,II ah04 R.1.level.length ch04] 34 (0,0)):=by
     have h_:=bkS (bkS (bkS (bkS (bkS (kh11.out) 0 (I R.1.step)) 1 (I R.1.width)) 2 (I R.1.height)) 3 (II ah03 R.1.server.length ch03)) 4 (II ah04 R.1.level.length ch04)
     simpa using h_
    have KF:=J kf_;clear kf_;have BF:=J ((((((BY11.out).setCell (p:=⟨Y1,0,none⟩) (by show w14.heap.size≤Y1.heap.size;omega) (I R.1.step)).setCell (p:=⟨Y1,1,none⟩) (by show w14.heap.size≤Y1.heap.size;omega) (I R.1.width)).setCell (p:=⟨Y1,2,none⟩) (by show w14.heap.size≤Y1.heap.size;omega) (I R.1.height)).setCell (p:=⟨Y1,3,none⟩) (by show w14.heap.size≤Y1.heap.size;omega) (II ah03 R.1.server.length ch03)).setCell (p:=⟨Y1,4,none⟩) (by show w14.heap.size≤Y1.heap.size;omega) (II ah04 R.1.level.length ch04));have OF:=J ((((((OR11.out).setFar (p:=⟨Y1,0,none⟩) (fun e=>by have:=ir _ e;simp only at this;omega) (I R.1.step)).setFar (p:=⟨Y1,1,none⟩) (fun e=>by have:=ir _ e;simp only at this;omega) (I R.1.width)).setFar (p:=⟨Y1,2,none⟩) (fun e=>by have:=ir _ e;simp only at this;omega) (I R.1.height)).setFar (p:=⟨Y1,3,none⟩) (fun e=>by have:=ir _ e;simp only at this;omega) (II ah03 R.1.server.length ch03)).setFar (p:=⟨Y1,4,none⟩) (fun e=>by have:=ir _ e;simp only at this;omega) (II ah04 R.1.level.length ch04));have zs12:Y11.heap.size≤(((((Y11.setCell ⟨Y1,0,none⟩ (I R.1.step)).setCell ⟨Y1,1,none⟩ (I R.1.width)).setCell ⟨Y1,2,none⟩ (I R.1.height)).setCell ⟨Y1,3,none⟩ (II ah03 R.1.server.length ch03)).setCell ⟨Y1,4,none⟩ (II ah04 R.1.level.length ch04)).heap.size:=by simp only[zac];omega
    go_simp;refine hK.out _ _ (HKB.out _ BF.out) ?_;clear hK K fz g0_ g1_ g2_ g3_ g4_
    (try simp only[Act.put,IQ,IZ,OI])
    generalize (((((Y11.setCell ⟨Y1,0,none⟩ (I R.1.step)).setCell ⟨Y1,1,none⟩ (I R.1.width)).setCell ⟨Y1,2,none⟩ (I R.1.height)).setCell ⟨Y1,3,none⟩ (II ah03 R.1.server.length ch03)).setCell ⟨Y1,4,none⟩ (II ah04 R.1.level.length ch04))=Y12 at *;refine zak ?_;simp only[List.drop_succ_cons,List.drop_zero];go_wp2_with fail;go_meet;exact⟨_,ah03,ch03,ah04,ch04,fh0,_,_,rfl,rfl,KF.out,O,O,BF.out,OF.out,ir,O,O,O⟩
  ·refine zae rfl (fun K hK=>?_)
   go_simp;have hb13:IJ Y Y (Y.alloc (.cells #[I 0,I 0,I 0,II none 0 0,II none 0 0] 34)):=(Below.refl _ _).alloc (Nat.le_refl _) _;have kh13:=J (bkN Y #[I 0,I 0,I 0,II none 0 0,II none 0 0] 34);have zl13:Y.heap.size+1≤(Y.alloc (.cells #[I 0,I 0,I 0,II none 0 0,II none 0 0] 34)).heap.size:=by simp
   refine hK.out _ _ (HKB.out _ (BBd.out.trans (hb13.mono O))) ?_;clear hK K
   (try simp only[Act.put,IQ,IZ,OI])
   generalize (Y.alloc (.cells #[I 0,I 0,I 0,II none 0 0,II none 0 0] 34))=Y13 at *;have bs13:Y.heap.size≤Y13.heap.size:=hb13.size;have BY13:=J (BBd.out.trans (hb13.mono O));clear hb13;refine zaf ?_;refine zae rfl (fun K hK=>?_);go_simp;refine (zed t _ _ _ ((Ht3.out.below (BB14.out.trans (BY13.out.mono O))).mono O) ((Ht4.out.below (BB14.out.trans (BY13.out.mono O))).mono O) O).mono ?_;rintro e Y14 ⟨att3,ctt3,att4,ctt4,ftt,rfl,hb14,ov14,iv14⟩;refine hK.out _ _ (HKB.out _ (BY13.out.trans (hb14.mono O))) ?_;clear hK K
   (try simp only[Act.put,IQ,IZ,OI])
   have OT14:=J ov14;have itt:=iv14;clear ov14 iv14;have bs14:Y13.heap.size≤Y14.heap.size:=hb14.size;have BY14:=J (BY13.out.trans (hb14.mono O));have kh14:=J (bkB kh13.out hb14 O);clear hb14;refine zaf ?_;refine zae rfl (fun K hK=>?_);go_simp;refine (zdf nw _ _ _ _ _ ((Hnw0.out.below (BB14.out.trans (BY14.out.mono O))).mono O) ((Hnw1.out.below (BB14.out.trans (BY14.out.mono O))).mono O) ((Hnw2.out.below (BB14.out.trans (BY14.out.mono O))).mono O) ((Hnw3.out.below (BB14.out.trans (BY14.out.mono O))).mono O) O).mono ?_;rintro e Y15 ⟨atnw0,ctnw0,atnw1,ctnw1,atnw2,ctnw2,atnw3,ctnw3,ftnw,rfl,hb15,ov15,iv15⟩;refine hK.out _ _ (HKB.out _ (BY14.out.trans (hb15.mono O))) ?_;clear hK K
   (try simp only[Act.put,IQ,IZ,OI])
   have OT15:=J ov15;have itnw:=iv15;clear ov15 iv15;have bs15:Y14.heap.size≤Y15.heap.size:=hb15.size;have BY15:=J (BY14.out.trans (hb15.mono O));have kh15:=J (bkB kh14.out hb15 O);have OT15_t:=J (OT14.out.below itt O hb15);clear hb15;refine zaf ?_;refine zae rfl (fun K hK=>?_);go_simp;refine (HI.out _ _ _ _ _ _ _ (HLL.out.mono (BB14.out.trans (BY15.out.mono O))) (((OT15_t.out.rd itt).2.2.2.1).mono O) (((OT15_t.out.rd itt).2.2.2.2.1).mono O) (((OT15.out.rd itnw).1).mono O) (((OT15.out.rd itnw).2.1).mono O) (((OT15.out.rd itnw).2.2.1).mono O) (((OT15.out.rd itnw).2.2.2.1).mono O) O O).mono ?_;rintro e Y16 ⟨ah03,ch03,ah04,ch04,fh0,rfl,hb16,ov16,iv16⟩;refine hK.out _ _ (HKB.out _ (BY15.out.trans (hb16.mono O))) ?_;clear hK K
   (try simp only[Act.put,IQ,IZ,OI])
   have OR16:=J ov16;have ir:=iv16;clear ov16 iv16;have bs16:Y15.heap.size≤Y16.heap.size:=hb16.size;have BY16:=J (BY15.out.trans (hb16.mono O));have kh16:=J (bkB kh15.out hb16 O);clear hb16;refine zag (v:=?_) rfl (fun _ _ _ h=>h) ?_ ?_
   rotate_left
   ·(intro W hSW;(try dsimp only at hSW);(go_simp<;>with_reducible rfl))
   (try simp only[Act.put,IQ,IZ,OI])
   refine zag (v:=?_) rfl (fun _ _ _ h=>h) ?_ ?_
   rotate_left
   ·(intro W hSW;(try dsimp only at hSW);(go_simp<;>with_reducible rfl))
   (try simp only[Act.put,IQ,IZ,OI])
   refine zag (v:=?_) rfl (fun _ _ _ h=>h) ?_ ?_
   rotate_left
   ·(intro W hSW;(try dsimp only at hSW);(go_simp<;>with_reducible rfl))
   (try simp only[Act.put,IQ,IZ,OI])
   refine zaf ?_;refine zae rfl (fun K hK=>?_);have g0_:=bkC (v:=I 0) kh16.out 0 rfl;have g1_:=bkC (v:=I 0) kh16.out 1 rfl;have g2_:=bkC (v:=I 0) kh16.out 2 rfl;have g3_:=bkC (v:=II none 0 0) kh16.out 3 rfl;have g4_:=bkC (v:=II none 0 0) kh16.out 4 rfl;have fz:=bkF kh16.out;have kf_:(((((Y16.setCell ⟨Y,0,none⟩ (I R.1.step)).setCell ⟨Y,1,none⟩ (I R.1.width)).setCell ⟨Y,2,none⟩ (I R.1.height)).setCell ⟨Y,3,none⟩ (II ah03 R.1.server.length ch03)).setCell ⟨Y,4,none⟩ (II ah04 R.1.level.length ch04)).heap[Y.heap.size]? = some (.cells #[I R.1.step,I R.1.width,I R.1.height,II ah03 R.1.server.length ch03,II ah04 R.1.level.length ch04] 34 (0,0)):=by
    have h_:=bkS (bkS (bkS (bkS (bkS (kh16.out) 0 (I R.1.step)) 1 (I R.1.width)) 2 (I R.1.height)) 3 (II ah03 R.1.server.length ch03)) 4 (II ah04 R.1.level.length ch04)
    simpa using h_
   have KF:=J kf_;clear kf_;have BF:=J ((((((BY16.out).setCell (p:=⟨Y,0,none⟩) (by show w14.heap.size≤Y.heap.size;omega) (I R.1.step)).setCell (p:=⟨Y,1,none⟩) (by show w14.heap.size≤Y.heap.size;omega) (I R.1.width)).setCell (p:=⟨Y,2,none⟩) (by show w14.heap.size≤Y.heap.size;omega) (I R.1.height)).setCell (p:=⟨Y,3,none⟩) (by show w14.heap.size≤Y.heap.size;omega) (II ah03 R.1.server.length ch03)).setCell (p:=⟨Y,4,none⟩) (by show w14.heap.size≤Y.heap.size;omega) (II ah04 R.1.level.length ch04));have OF:=J ((((((OR16.out).setFar (p:=⟨Y,0,none⟩) (fun e=>by have:=ir _ e;simp only at this;omega) (I R.1.step)).setFar (p:=⟨Y,1,none⟩) (fun e=>by have:=ir _ e;simp only at this;omega) (I R.1.width)).setFar (p:=⟨Y,2,none⟩) (fun e=>by have:=ir _ e;simp only at this;omega) (I R.1.height)).setFar (p:=⟨Y,3,none⟩) (fun e=>by have:=ir _ e;simp only at this;omega) (II ah03 R.1.server.length ch03)).setFar (p:=⟨Y,4,none⟩) (fun e=>by have:=ir _ e;simp only at this;omega) (II ah04 R.1.level.length ch04));have zs17:Y16.heap.size≤(((((Y16.setCell ⟨Y,0,none⟩ (I R.1.step)).setCell ⟨Y,1,none⟩ (I R.1.width)).setCell ⟨Y,2,none⟩ (I R.1.height)).setCell ⟨Y,3,none⟩ (II ah03 R.1.server.length ch03)).setCell ⟨Y,4,none⟩ (II ah04 R.1.level.length ch04)).heap.size:=by simp only[zac];omega
   go_simp;refine hK.out _ _ (HKB.out _ BF.out) ?_;clear hK K fz g0_ g1_ g2_ g3_ g4_
   (try simp only[Act.put,IQ,IZ,OI])
   generalize (((((Y16.setCell ⟨Y,0,none⟩ (I R.1.step)).setCell ⟨Y,1,none⟩ (I R.1.width)).setCell ⟨Y,2,none⟩ (I R.1.height)).setCell ⟨Y,3,none⟩ (II ah03 R.1.server.length ch03)).setCell ⟨Y,4,none⟩ (II ah04 R.1.level.length ch04))=Y17 at *;refine zak ?_;simp only[List.drop_succ_cons,List.drop_zero];go_wp2_with fail;go_meet;exact⟨_,ah03,ch03,ah04,ch04,fh0,_,_,rfl,rfl,KF.out,O,O,BF.out,OF.out,ir,O,O,O⟩
 obtain⟨hh,ah03,ch03,ah04,ch04,fh0,loh,hih,e0_,e1_,khh,hloh,hhih,hb15,ov15,iv15,hlo2h,hhi2h,hnfh⟩:=hcut;subst e0_ e1_;generalize wc=w15 at *;have fch0:=bkC (v:=I R.1.step) khh 0 rfl;have fch1:=bkC (v:=I R.1.width) khh 1 rfl;have fch2:=bkC (v:=I R.1.height) khh 2 rfl;have fch3:=bkC (v:=II ah03 R.1.server.length ch03) khh 3 rfl;have fch4:=bkC (v:=II ah04 R.1.level.length ch04) khh 4 rfl;clear khh HKB BBd;have hbb15:IJ w14 w14 w15:=hb15;have z15:=hbb15.size;obtain⟨qAt15,_,yAt15⟩:=zah hb15 (b:=w.heap.size) OO
 (try clear yAt14)
 obtain⟨qAnw15,_,yAnw15⟩:=zah hb15 (b:=w.heap.size+1) OO
 (try clear yAnw14)
 obtain⟨qS015,_,yS015⟩:=zah hb15 (b:=hs) OO
 (try clear yS014)
 obtain⟨qUt15,_,yUt15⟩:=zah hb15 (b:=w4.heap.size) OO
 (try clear yUt14)
 obtain⟨qUnw15,_,yUnw15⟩:=zah hb15 (b:=w5.heap.size) OO
 (try clear yUnw14)
 obtain⟨qG015,_,yG015⟩:=zah hb15 (b:=w6.heap.size) OO
 (try clear yG014)
 have BB15:=J (BB14.out.trans (hbb15.mono O));have os03_15:=J (os03_14.out.below is03 O hbb15);have os04_15:=J (os04_14.out.below is04 O hbb15);have kog03_15:=J (kog03_14.out.below ig03 O hbb15);have kog04_15:=J (kog04_14.out.below ig04 O hbb15);clear hbb15;obtain⟨g15_0,r15_0,e15_0,p15_0,ov15_0,d15_0⟩:=OwnV.uncons ov15;obtain⟨_,hz15_0⟩:=zb0.1 p15_0.rep;subst hz15_0;obtain⟨g15_1,r15_1,e15_1,p15_1,ov15_1,d15_1⟩:=OwnV.uncons ov15_0;obtain⟨_,hz15_1⟩:=zb0.1 p15_1.rep;subst hz15_1;obtain⟨g15_2,r15_2,e15_2,p15_2,ov15_2,d15_2⟩:=OwnV.uncons ov15_1;obtain⟨_,hz15_2⟩:=zb0.1 p15_2.rep;subst hz15_2;obtain⟨g15_3,r15_3,e15_3,p15_3,ov15_3,d15_3⟩:=OwnV.uncons ov15_2;obtain⟨g15_4,r15_4,e15_4,p15_4,ov15_4,d15_4⟩:=OwnV.uncons ov15_3;have iw15:=iv15;have hnil15:=ov15_4.rep;change r15_4 = [] at hnil15
 subst hnil15;subst e15_4;subst e15_3;subst e15_2;subst e15_1;subst e15_0;have ih03:In _ _ g15_3:=fun y hy=>iw15 y (by simp[hy])
 have oh03_15:=J p15_3;have ih04:In _ _ g15_4:=fun y hy=>iw15 y (by simp[hy])
 have oh04_15:=J p15_4;have djh03_4:∀ y ∈ g15_3,y ∉ g15_4:=fun y hy e=>d15_3 y hy (by simp[e])
 clear p15_0 ov15_0 d15_0 p15_1 ov15_1 d15_1 p15_2 ov15_2 d15_2 p15_3 ov15_3 d15_3 p15_4 ov15_4 d15_4 ov15 iv15 iw15;go_wp2_with fail;refine ((eq_Raster R.1 _ _ _ _ w15.heap.size _ ((oh03_15.out.rd ih03).mono O) ((os03_15.out.rd is03).mono O) ((oh04_15.out.rd ih04).mono O) ((os04_15.out.rd is04).mono O) (Nat.le_refl _) O)).mono ?_;rintro e w16 ⟨rfl,hb16⟩;have hbb16:IJ w15 w15 w16:=hb16;have z16:=hbb16.size;obtain⟨qAt16,_,yAt16⟩:=zah hb16 (b:=w.heap.size) OO
 (try clear yAt15)
 obtain⟨qAnw16,_,yAnw16⟩:=zah hb16 (b:=w.heap.size+1) OO
 (try clear yAnw15)
 obtain⟨qS016,_,yS016⟩:=zah hb16 (b:=hs) OO
 (try clear yS015)
 obtain⟨qUt16,_,yUt16⟩:=zah hb16 (b:=w4.heap.size) OO
 (try clear yUt15)
 obtain⟨qUnw16,_,yUnw16⟩:=zah hb16 (b:=w5.heap.size) OO
 (try clear yUnw15)
 obtain⟨qG016,_,yG016⟩:=zah hb16 (b:=w6.heap.size) OO
 (try clear yG015)
 obtain⟨qH016,_,yH016⟩:=zah hb16 (b:=hh) OO;have BB16:=J (BB15.out.trans (hbb16.mono O));have os03_16:=J (os03_15.out.below is03 O hbb16);have os04_16:=J (os04_15.out.below is04 O hbb16);have kog03_16:=J (kog03_15.out.below ig03 O hbb16);have kog04_16:=J (kog04_15.out.below ig04 O hbb16);have oh03_16:=J (oh03_15.out.below ih03 O hbb16);have oh04_16:=J (oh04_15.out.below ih04 O hbb16);clear hbb16;go_wp2_with fail;refine (held_Raster R.1 _ _ w16.heap.size (1) _ ((kog03_16.out.rd ig03).mono O) ((kog04_16.out.rd ig04).mono O) (Nat.le_refl _) O O O).mono ?_;rintro e w17 ⟨rfl,hb17⟩;have hbb17:IJ w16 w16 w17:=hb17;have z17:=hbb17.size;obtain⟨qAt17,_,yAt17⟩:=zah hb17 (b:=w.heap.size) OO
 (try clear yAt16)
 obtain⟨qAnw17,_,yAnw17⟩:=zah hb17 (b:=w.heap.size+1) OO
 (try clear yAnw16)
 obtain⟨qS017,_,yS017⟩:=zah hb17 (b:=hs) OO
 (try clear yS016)
 obtain⟨qUt17,_,yUt17⟩:=zah hb17 (b:=w4.heap.size) OO
 (try clear yUt16)
 obtain⟨qUnw17,_,yUnw17⟩:=zah hb17 (b:=w5.heap.size) OO
 (try clear yUnw16)
 obtain⟨qG017,_,yG017⟩:=zah hb17 (b:=w6.heap.size) OO
 (try clear yG016)
 obtain⟨qH017,_,yH017⟩:=zah hb17 (b:=hh) OO;have BB17:=J (BB16.out.trans (hbb17.mono O));have kog03_17:=J (kog03_16.out.below ig03 O hbb17);have kog04_17:=J (kog04_16.out.below ig04 O hbb17);clear hbb17;go_wp2;go_ret;exact⟨rfl,BB17.out⟩
end Go.Proofs.YtgmapjgodibchaaGreatDoor.fnExactCoverNetwork
