/- The walk of the law FnExactSectorLevels: it returns true. -/
import Derived.Test.YtdgmgchdjlfchaaGreatDoorLxG
set_option linter.unusedVariables false
set_option linter.unusedSimpArgs false
namespace Go.Proofs.YtdgmgchdjlfchaaGreatDoor.fnExactSectorLevels
open Go.RowKit
set_option maxHeartbeats 16000000
set_option maxRecDepth 100000
theorem calls_cast {P:Program} {f:FuncId} {a:Value} {K K':Int} {w:World} {Q:Ending→World→Prop} (hK:K=K') (h:Calls P f #[a,.int .i64 K'] w Q):Calls P f #[a,.int .i64 K] w Q:=hK ▸ h
theorem secLev_small (t:DTerrain) (n:DNetwork) (nm:ByteArray) (f ab:Int):(zbd t n nm f ab).1.length≤576:=by
 unfold zbd
 split
 ·rename_i h
  split
  ·split
   ·split
    ·show (zda t n _ f ab).length≤576
     rw[gridL_len];exact (gridN_eq (terrB_ok h.1)).2.1
    ·simp
   ·simp
  ·simp
 ·simp
theorem walk (t:DTerrain) (nw:DNetwork) (nm:ByteArray) (f:Int) (ab:Int) (vt3 vt4 vnw0 vnw1 vnw2 vnw3:Value) (w:World) (LL:TabW w) (rt3:Rd w.heap.size w (zaj t.heights) vt3) (rt4:Rd w.heap.size w (zaj t.clutter) vt4) (rnw0:Rd w.heap.size w (DSite.sT nw.sites) vnw0) (rnw1:Rd w.heap.size w (DSector.sT nw.sectors) vnw1) (rnw2:Rd w.heap.size w (DAntenna.sT nw.antennas) vnw2) (rnw3:Rd w.heap.size w (DRadio.sT nw.radios) vnw3) (hk_t:t.ok) (hk_nw:nw.ok) (hk_nm:nm.size≤maxLen) (hk_f:I64 f) (hk_ab:I64 ab) :
  Calls Tryz.prog 5 #[.agg #[.int .i64 t.step,.int .i64 t.width,.int .i64 t.height,vt3,vt4],.agg #[vnw0,vnw1,vnw2,vnw3],.string nm,.int .i64 f,.int .i64 ab] w fun e w'=>e=.returned (.bool true)∧Below w.heap.size w w':=by
 have HLL:=Lib.hid LL;clear LL;have Ht3:=Lib.hid rt3;have Ht4:=Lib.hid rt4;have Hnw0:=Lib.hid rnw0;have Hnw1:=Lib.hid rnw1;have Hnw2:=Lib.hid rnw2;have Hnw3:=Lib.hid rnw3;clear rt3 rt4 rnw0 rnw1 rnw2 rnw3;unfold maxLen at hk_nm;have hq_t:=DTerrain.siz_tr t;have hq_nw:=DNetwork.siz_tr nw;have hRl:=secLev_small t nw nm f ab;have hRz:siz (zaj (zbd t nw nm f ab).1)≤576:=by rw[zcc];exact hRl
 have hRc:cnt (zaj (zbd t nw nm f ab).1)≤576:=by rw[zfc];exact hRl
 have hc0:=DSite.cnt_le nw.sites;have hc1:=DSector.cnt_le nw.sectors;have hc2:=DAntenna.cnt_le nw.antennas;have hc3:=DRadio.cnt_le nw.radios;have hc5:cnt (zaj t.heights)=siz (zaj t.heights):=by rw[zfc,zcc]
 have hc6:cnt (zaj t.clutter)=siz (zaj t.clutter):=by rw[zfc,zcc]
 have BB0:Hid (Below w.heap.size w w):=Below.refl _ _;generalize hR:zbd t nw nm f ab=R at *;have HR:=Lib.hid hR;clear hR;have HS:Hid (∀ (W:World) (xt3 xt4 xnw0 xnw1 xnw2 xnw3:Value),Rd W.heap.size W (zaj t.heights) xt3→Rd W.heap.size W (zaj t.clutter) xt4→Rd W.heap.size W (DSite.sT nw.sites) xnw0→Rd W.heap.size W (DSector.sT nw.sectors) xnw1→Rd W.heap.size W (DAntenna.sT nw.antennas) xnw2→Rd W.heap.size W (DRadio.sT nw.radios) xnw3→sizL t.tr≤1048576→sizL nw.tr≤1048576→nm.size≤1048576→Calls Tryz.prog 23 #[.agg #[.int .i64 t.step,.int .i64 t.width,.int .i64 t.height,xt3,xt4],.agg #[xnw0,xnw1,xnw2,xnw3],.string nm,.int .i64 f,.int .i64 ab] W (fun e w'=>∃ a0_0 c0_0 fp0,e=.returned (.tuple #[.slice a0_0 R.1.length c0_0,.int .i64 R.2])∧Below W.heap.size W w'∧Own w' (zaj R.1) (.slice a0_0 R.1.length c0_0) fp0∧In W.heap.size w'.heap.size fp0)):=fun W xt3 xt4 xnw0 xnw1 xnw2 xnw3  yt3 yt4 ynw0 ynw1 ynw2 ynw3 z0 z1 z2=>by rw[← HR.out];exact sSectorLevels_std t nw nm f ab xt3 xt4 xnw0 xnw1 xnw2 xnw3 W  yt3 yt4 ynw0 ynw1 ynw2 ynw3 z0 hk_t z1 hk_nw z2 hk_f hk_ab
 have HI:Hid (∀ (W:World) (xt3 xt4 xnw0 xnw1 xnw2 xnw3:Value),TabW W→Rd W.heap.size W (zaj t.heights) xt3→Rd W.heap.size W (zaj t.clutter) xt4→Rd W.heap.size W (DSite.sT nw.sites) xnw0→Rd W.heap.size W (DSector.sT nw.sectors) xnw1→Rd W.heap.size W (DAntenna.sT nw.antennas) xnw2→Rd W.heap.size W (DRadio.sT nw.radios) xnw3→sizL t.tr≤1048576→sizL nw.tr≤1048576→nm.size≤1048576→Calls Tryz.prog 24 #[.agg #[.int .i64 t.step,.int .i64 t.width,.int .i64 t.height,xt3,xt4],.agg #[xnw0,xnw1,xnw2,xnw3],.string nm,.int .i64 f,.int .i64 ab] W (fun e w'=>∃ a0_0 c0_0 fp0,e=.returned (.tuple #[.slice a0_0 R.1.length c0_0,.int .i64 R.2])∧Below W.heap.size W w'∧Own w' (zaj R.1) (.slice a0_0 R.1.length c0_0) fp0∧In W.heap.size w'.heap.size fp0)):=fun W xt3 xt4 xnw0 xnw1 xnw2 xnw3 hll yt3 yt4 ynw0 ynw1 ynw2 ynw3 z0 z1 z2=>by rw[← HR.out];exact iSectorLevels_std t nw nm f ab xt3 xt4 xnw0 xnw1 xnw2 xnw3 W hll yt3 yt4 ynw0 ynw1 ynw2 ynw3 z0 hk_t z1 hk_nw z2 hk_f hk_ab
 by_cases hl_nm:nm.size≤1048576
 case neg =>
  have hl1_nm:(1048576:Int)<((nm.size:Nat):Int):=by omega
  have hl2_nm:1048576<nm.size:=by omega
  go_enter Tryz.func5,Tryz.ntmps5;go_wp2;go_ret;exact⟨rfl,Below.alloc (Below.alloc (Below.refl _ _) (by first|exact Nat.le_refl _|(simp;done)|(simp<;>omega)) _) (by first|exact Nat.le_refl _|(simp;done)|(simp<;>omega)) _⟩
 have hl1_nm:((nm.size:Nat):Int)≤1048576:=by omega
 go_enter Tryz.func5,Tryz.ntmps5;go_wp2_with fail;have BX1:Hid (Below w.heap.size w ((w.alloc (.cells #[.int .i64 t.step,.int .i64 t.width,.int .i64 t.height,vt3,vt4] 24)).alloc (.cells #[vnw0,vnw1,vnw2,vnw3] 30))):=((BB0.out.alloc (by first|omega|(simp;done)|(simp<;>omega)) _).alloc (by first|omega|(simp;done)|(simp<;>omega)) _)
 have zx1:=BX1.out.size;refine (sz_Terrain t vt3 vt4 w.heap.size _ _ (Ht3.out.below BX1.out) (Ht4.out.below BX1.out) (by omega) (by omega) (by omega) hk_t).mono ?_;rintro e w1 ⟨⟨cz1,rfl⟩|⟨cz1,rfl⟩,hb1⟩
 case inr =>
  go_wp2;go_ret;exact⟨rfl,BX1.out.trans (hb1.mono (by omega))⟩
 have cy1:decide ((1048576:Int)-sizL t.tr<0)=false:=by simp<;>omega
 have hx1:Below w.heap.size w ((w.alloc (.cells #[.int .i64 t.step,.int .i64 t.width,.int .i64 t.height,vt3,vt4] 24)).alloc (.cells #[vnw0,vnw1,vnw2,vnw3] 30)):=(((Below.refl _ _).alloc (Nat.le_refl _) _).alloc (by first|(simp;done)|(simp<;>omega)) _)
 have hbb1:Below w.heap.size w w1:=hx1.trans (hb1.mono (by first|(simp;done)|(simp<;>omega)));have z1:=hbb1.size;obtain⟨qAt1,_,yAt1⟩:=zah hb1 (b:=w.heap.size) (by first|omega|(simp;done)|(simp<;>omega));obtain⟨qAnw1,_,yAnw1⟩:=zah hb1 (b:=w.heap.size+1) (by first|omega|(simp;done)|(simp<;>omega));have BB1:=Lib.hid (BB0.out.trans (hbb1.mono (by omega)));clear hx1;clear hb1 hbb1;have CZ1:=Lib.hid cy1;go_wp2_with fail;have BX2:Hid (Below w.heap.size w w1):=BB1.out;have zx2:=BX2.out.size
 (try clear zx1)
 refine (sz_Network nw vnw0 vnw1 vnw2 vnw3 w.heap.size _ _ (Hnw0.out.below BX2.out) (Hnw1.out.below BX2.out) (Hnw2.out.below BX2.out) (Hnw3.out.below BX2.out) (by omega) (by omega) (by omega) hk_nw).mono ?_;rintro e w2 ⟨⟨cz2,rfl⟩|⟨cz2,rfl⟩,hb2⟩
 case inr =>
  go_wp2;go_ret;exact⟨rfl,BX2.out.trans (hb2.mono (by omega))⟩
 have cy2:decide (((1048576:Int)-sizL t.tr)-sizL nw.tr<0)=false:=by simp<;>omega
 have hbb2:Below w1.heap.size w1 w2:=hb2;have z2:=hbb2.size;obtain⟨qAt2,_,yAt2⟩:=zah hb2 (b:=w.heap.size) (by first|omega|(simp;done)|(simp<;>omega));obtain⟨qAnw2,_,yAnw2⟩:=zah hb2 (b:=w.heap.size+1) (by first|omega|(simp;done)|(simp<;>omega));have BB2:=Lib.hid (BB1.out.trans (hbb2.mono (by omega)));clear hbb2;have CZ2:=Lib.hid cy2;go_wp2;have hcf:w2.cell? ⟨w.heap.size,0,none⟩=some (.int .i64 t.step)∧w2.cell? ⟨w.heap.size,1,none⟩=some (.int .i64 t.width)∧w2.cell? ⟨w.heap.size,2,none⟩=some (.int .i64 t.height)∧w2.cell? ⟨w.heap.size,3,none⟩=some (vt3)∧w2.cell? ⟨w.heap.size,4,none⟩=some (vt4)∧w2.cell? ⟨w.heap.size+1,0,none⟩=some (vnw0)∧w2.cell? ⟨w.heap.size+1,1,none⟩=some (vnw1)∧w2.cell? ⟨w.heap.size+1,2,none⟩=some (vnw2)∧w2.cell? ⟨w.heap.size+1,3,none⟩=some (vnw3):=by refine⟨?_,?_,?_,?_,?_,?_,?_,?_,?_⟩<;>simp[go_sem, *]
 have HKB:Hid (∀ W:World,Below w2.heap.size w2 W→W.cell? ⟨w.heap.size,0,none⟩=some (.int .i64 t.step)∧W.cell? ⟨w.heap.size,1,none⟩=some (.int .i64 t.width)∧W.cell? ⟨w.heap.size,2,none⟩=some (.int .i64 t.height)∧W.cell? ⟨w.heap.size,3,none⟩=some (vt3)∧W.cell? ⟨w.heap.size,4,none⟩=some (vt4)∧W.cell? ⟨w.heap.size+1,0,none⟩=some (vnw0)∧W.cell? ⟨w.heap.size+1,1,none⟩=some (vnw1)∧W.cell? ⟨w.heap.size+1,2,none⟩=some (vnw2)∧W.cell? ⟨w.heap.size+1,3,none⟩=some (vnw3)):=fun W hW=>by
  obtain⟨e0,e1,e2,e3,e4,e5,e6,e7,e8⟩:=hcf;exact⟨(bat hW _ _ (by omega)).trans e0,(bat hW _ _ (by omega)).trans e1,(bat hW _ _ (by omega)).trans e2,(bat hW _ _ (by omega)).trans e3,(bat hW _ _ (by omega)).trans e4,(bat hW _ _ (by omega)).trans e5,(bat hW _ _ (by omega)).trans e6,(bat hW _ _ (by omega)).trans e7,(bat hW _ _ (by omega)).trans e8⟩
 clear hcf;have BBd:Hid (Below w2.heap.size w2 w2.drew):=(Below.refl _ _).drew;go_cut [12,13] (fun s0 s1 wx=>∃ (as00:Option Addr) (cs00:Nat) (fs00:List Nat),s0=.slice as00 R.1.length cs00∧s1=.int .i64 R.2∧Below w2.heap.size w2 wx∧Own wx (zaj R.1) (.slice as00 R.1.length cs00) fs00∧In w2.heap.size wx.heap.size fs00)
 case first =>
  refine zap 12 (.read 0 (.read 2 (.read 4 (.read 5 (.read 6 (.one 1 (.one 3 (.one 7 (.read 8 (.read 9 (.read 10 (.read 11 .nil)))))))))))) (fun W=>W.cell? ⟨w.heap.size,0,none⟩=some (.int .i64 t.step)∧W.cell? ⟨w.heap.size,1,none⟩=some (.int .i64 t.width)∧W.cell? ⟨w.heap.size,2,none⟩=some (.int .i64 t.height)∧W.cell? ⟨w.heap.size,3,none⟩=some (vt3)∧W.cell? ⟨w.heap.size,4,none⟩=some (vt4)∧W.cell? ⟨w.heap.size+1,0,none⟩=some (vnw0)∧W.cell? ⟨w.heap.size+1,1,none⟩=some (vnw1)∧W.cell? ⟨w.heap.size+1,2,none⟩=some (vnw2)∧W.cell? ⟨w.heap.size+1,3,none⟩=some (vnw3)) (by kernel_rfl) (by kernel_rfl) (HKB.out _ BBd.out) ?_;have zd:w2.heap.size≤w2.drew.heap.size:=Nat.le_refl _;generalize w2.drew=Y at *;refine zag (v:=?_) rfl (fun _ _ _ h=>h) ?_ ?_
  rotate_left
  ·(intro W hSW;(try dsimp only at hSW);(go_simp<;>with_reducible rfl))
  (try simp only[Act.put,List.setIfInBounds_toArray,List.set_cons_zero,List.set_cons_succ])
  refine zag (v:=?_) rfl (fun _ _ _ h=>h) ?_ ?_
  rotate_left
  ·(intro W hSW;(try dsimp only at hSW);(go_simp<;>with_reducible rfl))
  (try simp only[Act.put,List.setIfInBounds_toArray,List.set_cons_zero,List.set_cons_succ])
  refine zag (v:=?_) rfl (fun _ _ _ h=>h) ?_ ?_
  rotate_left
  ·(intro W hSW;(try dsimp only at hSW);(go_simp<;>with_reducible rfl))
  (try simp only[Act.put,List.setIfInBounds_toArray,List.set_cons_zero,List.set_cons_succ])
  refine zag (v:=?_) rfl (fun _ _ _ h=>h) ?_ ?_
  rotate_left
  ·(intro W hSW;(try dsimp only at hSW);(go_simp<;>with_reducible rfl))
  (try simp only[Act.put,List.setIfInBounds_toArray,List.set_cons_zero,List.set_cons_succ])
  refine zag (v:=?_) rfl (fun _ _ _ h=>h) ?_ ?_
  rotate_left
  ·(intro W hSW;(try dsimp only at hSW);(go_simp<;>with_reducible rfl))
  (try simp only[Act.put,List.setIfInBounds_toArray,List.set_cons_zero,List.set_cons_succ])
  refine zac ?_;refine zab rfl (fun K hK=>?_);go_simp;refine (to_Terrain t _ _ _ ((Ht3.out.below (BB2.out.trans (BBd.out.mono (by omega)))).mono (by omega)) ((Ht4.out.below (BB2.out.trans (BBd.out.mono (by omega)))).mono (by omega)) (by omega)).mono ?_;rintro e Y1 ⟨att3,ctt3,att4,ctt4,ftt,rfl,hb1,ov1,iv1⟩;refine hK.out _ _ (HKB.out _ (BBd.out.trans (hb1.mono (by omega)))) ?_;clear hK K
  (try simp only[Act.put,List.setIfInBounds_toArray,List.set_cons_zero,List.set_cons_succ])
  have OT1:=Lib.hid ov1;have itt:=iv1;clear ov1 iv1;have bs1:Y.heap.size≤Y1.heap.size:=hb1.size;have BY1:=Lib.hid (BBd.out.trans (hb1.mono (by omega)));clear hb1;refine zac ?_;refine zab rfl (fun K hK=>?_);go_simp;refine (to_Network nw _ _ _ _ _ ((Hnw0.out.below (BB2.out.trans (BY1.out.mono (by omega)))).mono (by omega)) ((Hnw1.out.below (BB2.out.trans (BY1.out.mono (by omega)))).mono (by omega)) ((Hnw2.out.below (BB2.out.trans (BY1.out.mono (by omega)))).mono (by omega)) ((Hnw3.out.below (BB2.out.trans (BY1.out.mono (by omega)))).mono (by omega)) (by omega)).mono ?_;rintro e Y2 ⟨atnw0,ctnw0,atnw1,ctnw1,atnw2,ctnw2,atnw3,ctnw3,ftnw,rfl,hb2,ov2,iv2⟩;refine hK.out _ _ (HKB.out _ (BY1.out.trans (hb2.mono (by omega)))) ?_;clear hK K
  (try simp only[Act.put,List.setIfInBounds_toArray,List.set_cons_zero,List.set_cons_succ])
  have OT2:=Lib.hid ov2;have itnw:=iv2;clear ov2 iv2;have bs2:Y1.heap.size≤Y2.heap.size:=hb2.size;have BY2:=Lib.hid (BY1.out.trans (hb2.mono (by omega)));have OT2_t:=Lib.hid (OT1.out.below itt (by omega) hb2);clear hb2;refine zac ?_;refine zab rfl (fun K hK=>?_);go_simp;refine (HS.out _ _ _ _ _ _ _ (((OT2_t.out.rd itt).2.2.2.1).mono (by omega)) (((OT2_t.out.rd itt).2.2.2.2.1).mono (by omega)) (((OT2.out.rd itnw).1).mono (by omega)) (((OT2.out.rd itnw).2.1).mono (by omega)) (((OT2.out.rd itnw).2.2.1).mono (by omega)) (((OT2.out.rd itnw).2.2.2.1).mono (by omega)) (by omega) (by omega) (by omega)).mono ?_;rintro e Y3 ⟨as00,cs00,fs00,rfl,hb3,ov3,iv3⟩;refine hK.out _ _ (HKB.out _ (BY2.out.trans (hb3.mono (by omega)))) ?_;clear hK K
  (try simp only[Act.put,List.setIfInBounds_toArray,List.set_cons_zero,List.set_cons_succ])
  have OR3:=Lib.hid ov3;have IR3:=Lib.hid iv3;clear ov3 iv3;have bs3:Y2.heap.size≤Y3.heap.size:=hb3.size;have BY3:=Lib.hid (BY2.out.trans (hb3.mono (by omega)));clear hb3;refine zag (v:=?_) rfl (fun _ _ _ h=>h) ?_ ?_
  rotate_left
  ·(intro W hSW;(try dsimp only at hSW);(go_simp<;>with_reducible rfl))
  (try simp only[Act.put,List.setIfInBounds_toArray,List.set_cons_zero,List.set_cons_succ])
  refine zag (v:=?_) rfl (fun _ _ _ h=>h) ?_ ?_
  rotate_left
  ·(intro W hSW;(try dsimp only at hSW);(go_simp<;>with_reducible rfl))
  (try simp only[Act.put,List.setIfInBounds_toArray,List.set_cons_zero,List.set_cons_succ])
  refine zag (v:=?_) rfl (fun _ _ _ h=>h) ?_ ?_
  rotate_left
  ·(intro W hSW;(try dsimp only at hSW);(go_simp<;>with_reducible rfl))
  (try simp only[Act.put,List.setIfInBounds_toArray,List.set_cons_zero,List.set_cons_succ])
  refine zag (v:=?_) rfl (fun _ _ _ h=>h) ?_ ?_
  rotate_left
  ·(intro W hSW;(try dsimp only at hSW);(go_simp<;>with_reducible rfl))
  (try simp only[Act.put,List.setIfInBounds_toArray,List.set_cons_zero,List.set_cons_succ])
  refine zak ?_;simp only[List.drop_succ_cons,List.drop_zero];go_wp2_with fail;go_meet;exact⟨_,_,_,rfl,rfl,BY3.out,OR3.out,IR3.out.mono (by omega) (Nat.le_refl _)⟩
 obtain⟨as00,cs00,fs00,rfl,rfl,hb3,ows0,iws0⟩:=hcut;generalize wc=w3 at *;clear HKB BBd;have hbb3:Below w2.heap.size w2 w3:=hb3;have z3:=hbb3.size;obtain⟨qAt3,_,yAt3⟩:=zah hb3 (b:=w.heap.size) (by first|omega|(simp;done)|(simp<;>omega))
 (try clear yAt2)
 obtain⟨qAnw3,_,yAnw3⟩:=zah hb3 (b:=w.heap.size+1) (by first|omega|(simp;done)|(simp<;>omega))
 (try clear yAnw2)
 have BB3:=Lib.hid (BB2.out.trans (hbb3.mono (by omega)));clear hbb3;have is00:=iws0;have os00_3:=Lib.hid ows0;clear iws0 ows0;go_wp2_with fail;have BX4:Hid (Below w.heap.size w w3):=BB3.out;have zx4:=BX4.out.size
 (try clear zx2)
 refine (to_Terrain t _ _ _ ((Ht3.out.below BX4.out).mono zx4) ((Ht4.out.below BX4.out).mono zx4) (by omega)).mono ?_;rintro e w4 ⟨aut3,cut3,aut4,cut4,fut,rfl,hb4,ov4,iv4⟩;have hbb4:Below w3.heap.size w3 w4:=hb4;have z4:=hbb4.size;obtain⟨qAt4,_,yAt4⟩:=zah hb4 (b:=w.heap.size) (by first|omega|(simp;done)|(simp<;>omega))
 (try clear yAt3)
 obtain⟨qAnw4,_,yAnw4⟩:=zah hb4 (b:=w.heap.size+1) (by first|omega|(simp;done)|(simp<;>omega))
 (try clear yAnw3)
 have BB4:=Lib.hid (BB3.out.trans (hbb4.mono (by omega)));have os00_4:=Lib.hid (os00_3.out.below is00 (by omega) hbb4);clear hbb4;obtain⟨g4_0,r4_0,e4_0,p4_0,ov4_0,d4_0⟩:=OwnV.uncons ov4;obtain⟨_,hz4_0⟩:=zct.1 p4_0.rep;subst hz4_0;obtain⟨g4_1,r4_1,e4_1,p4_1,ov4_1,d4_1⟩:=OwnV.uncons ov4_0;obtain⟨_,hz4_1⟩:=zct.1 p4_1.rep;subst hz4_1;obtain⟨g4_2,r4_2,e4_2,p4_2,ov4_2,d4_2⟩:=OwnV.uncons ov4_1;obtain⟨_,hz4_2⟩:=zct.1 p4_2.rep;subst hz4_2;obtain⟨g4_3,r4_3,e4_3,p4_3,ov4_3,d4_3⟩:=OwnV.uncons ov4_2;obtain⟨g4_4,r4_4,e4_4,p4_4,ov4_4,d4_4⟩:=OwnV.uncons ov4_3;have iw4:=iv4.mono (lo':=w3.heap.size+0) (by first|omega|(simp;done)|(simp<;>omega)) (Nat.le_refl _);have hnil4:=ov4_4.rep;change r4_4 = [] at hnil4
 subst hnil4;subst e4_4;subst e4_3;subst e4_2;subst e4_1;subst e4_0;have iut3:In _ _ g4_3:=fun y hy=>iw4 y (by simp[hy])
 have out3_4:=Lib.hid p4_3;have iut4:In _ _ g4_4:=fun y hy=>iw4 y (by simp[hy])
 have out4_4:=Lib.hid p4_4;have djut3_4:∀ y ∈ g4_3,y ∉ g4_4:=fun y hy e=>d4_3 y hy (by simp[e])
 clear p4_0 ov4_0 d4_0 p4_1 ov4_1 d4_1 p4_2 ov4_2 d4_2 p4_3 ov4_3 d4_3 p4_4 ov4_4 d4_4 ov4 iv4 iw4;go_wp2_with fail;have BX5:Hid (Below w.heap.size w (w4.alloc (.cells #[.int .i64 t.step,.int .i64 t.width,.int .i64 t.height,.slice aut3 t.heights.length cut3,.slice aut4 t.clutter.length cut4] 39))):=(BB4.out.alloc (by first|omega|(simp;done)|(simp<;>omega)) _)
 have zx5:=BX5.out.size
 (try clear zx4)
 refine (to_Network nw _ _ _ _ _ ((Hnw0.out.below BX5.out).mono zx5) ((Hnw1.out.below BX5.out).mono zx5) ((Hnw2.out.below BX5.out).mono zx5) ((Hnw3.out.below BX5.out).mono zx5) (by omega)).mono ?_;rintro e w5 ⟨aunw0,cunw0,aunw1,cunw1,aunw2,cunw2,aunw3,cunw3,funw,rfl,hb5,ov5,iv5⟩;have hx5:Below w4.heap.size w4 (w4.alloc (.cells #[.int .i64 t.step,.int .i64 t.width,.int .i64 t.height,.slice aut3 t.heights.length cut3,.slice aut4 t.clutter.length cut4] 39)):=((Below.refl _ _).alloc (Nat.le_refl _) _)
 have hbb5:Below w4.heap.size w4 w5:=hx5.trans (hb5.mono (by first|(simp;done)|(simp<;>omega)));have z5:=hbb5.size;obtain⟨qAt5,_,yAt5⟩:=zah hb5 (b:=w.heap.size) (by first|omega|(simp;done)|(simp<;>omega));obtain⟨qAnw5,_,yAnw5⟩:=zah hb5 (b:=w.heap.size+1) (by first|omega|(simp;done)|(simp<;>omega));obtain⟨qUt5,_,yUt5⟩:=zah hb5 (b:=w4.heap.size) (by first|omega|(simp;done)|(simp<;>omega));have BB5:=Lib.hid (BB4.out.trans (hbb5.mono (by omega)));have os00_5:=Lib.hid (os00_4.out.below is00 (by omega) hbb5);have out3_5:=Lib.hid (out3_4.out.below iut3 (by omega) hbb5);have out4_5:=Lib.hid (out4_4.out.below iut4 (by omega) hbb5);clear hx5;clear hb5 hbb5;obtain⟨g5_0,r5_0,e5_0,p5_0,ov5_0,d5_0⟩:=OwnV.uncons ov5;obtain⟨g5_1,r5_1,e5_1,p5_1,ov5_1,d5_1⟩:=OwnV.uncons ov5_0;obtain⟨g5_2,r5_2,e5_2,p5_2,ov5_2,d5_2⟩:=OwnV.uncons ov5_1;obtain⟨g5_3,r5_3,e5_3,p5_3,ov5_3,d5_3⟩:=OwnV.uncons ov5_2;have iw5:=iv5.mono (lo':=w4.heap.size+1) (by first|omega|(simp;done)|(simp<;>omega)) (Nat.le_refl _);have hnil5:=ov5_3.rep;change r5_3 = [] at hnil5
 subst hnil5;subst e5_3;subst e5_2;subst e5_1;subst e5_0;have iunw0:In _ _ g5_0:=fun y hy=>iw5 y (by simp[hy])
 have ounw0_5:=Lib.hid p5_0;have iunw1:In _ _ g5_1:=fun y hy=>iw5 y (by simp[hy])
 have ounw1_5:=Lib.hid p5_1;have iunw2:In _ _ g5_2:=fun y hy=>iw5 y (by simp[hy])
 have ounw2_5:=Lib.hid p5_2;have iunw3:In _ _ g5_3:=fun y hy=>iw5 y (by simp[hy])
 have ounw3_5:=Lib.hid p5_3;have djunw0_1:∀ y ∈ g5_0,y ∉ g5_1:=fun y hy e=>d5_0 y hy (by simp[e])
 have djunw0_2:∀ y ∈ g5_0,y ∉ g5_2:=fun y hy e=>d5_0 y hy (by simp[e])
 have djunw0_3:∀ y ∈ g5_0,y ∉ g5_3:=fun y hy e=>d5_0 y hy (by simp[e])
 have djunw1_2:∀ y ∈ g5_1,y ∉ g5_2:=fun y hy e=>d5_1 y hy (by simp[e])
 have djunw1_3:∀ y ∈ g5_1,y ∉ g5_3:=fun y hy e=>d5_1 y hy (by simp[e])
 have djunw2_3:∀ y ∈ g5_2,y ∉ g5_3:=fun y hy e=>d5_2 y hy (by simp[e])
 clear p5_0 ov5_0 d5_0 p5_1 ov5_1 d5_1 p5_2 ov5_2 d5_2 p5_3 ov5_3 d5_3 ov5 iv5 iw5;go_wp2_with fail;have BX6:Hid (Below w.heap.size w (w5.alloc (.cells #[.slice aunw0 nw.sites.length cunw0,.slice aunw1 nw.sectors.length cunw1,.slice aunw2 nw.antennas.length cunw2,.slice aunw3 nw.radios.length cunw3] 46))):=(BB5.out.alloc (by first|omega|(simp;done)|(simp<;>omega)) _)
 have zx6:=BX6.out.size
 (try clear zx5)
 refine (HI.out _ _ _ _ _ _ _ (HLL.out.mono BX6.out) (((out3_5.out.below iut3 (by omega) ((Below.refl _ _).alloc (Nat.le_refl _) _)).rd iut3).mono (by first|omega|(simp;done)|(simp<;>omega))) (((out4_5.out.below iut4 (by omega) ((Below.refl _ _).alloc (Nat.le_refl _) _)).rd iut4).mono (by first|omega|(simp;done)|(simp<;>omega))) (((ounw0_5.out.below iunw0 (by omega) ((Below.refl _ _).alloc (Nat.le_refl _) _)).rd iunw0).mono (by first|omega|(simp;done)|(simp<;>omega))) (((ounw1_5.out.below iunw1 (by omega) ((Below.refl _ _).alloc (Nat.le_refl _) _)).rd iunw1).mono (by first|omega|(simp;done)|(simp<;>omega))) (((ounw2_5.out.below iunw2 (by omega) ((Below.refl _ _).alloc (Nat.le_refl _) _)).rd iunw2).mono (by first|omega|(simp;done)|(simp<;>omega))) (((ounw3_5.out.below iunw3 (by omega) ((Below.refl _ _).alloc (Nat.le_refl _) _)).rd iunw3).mono (by first|omega|(simp;done)|(simp<;>omega))) (by omega) (by omega) (by omega)).mono ?_;rintro e w6 ⟨ag00,cg00,fg00,rfl,hb6,owg0,iwg0⟩;have ig00:=iwg0.mono (lo':=w5.heap.size+1) (by first|omega|(simp;done)|(simp<;>omega)) (Nat.le_refl _);clear iwg0;have hx6:Below w5.heap.size w5 (w5.alloc (.cells #[.slice aunw0 nw.sites.length cunw0,.slice aunw1 nw.sectors.length cunw1,.slice aunw2 nw.antennas.length cunw2,.slice aunw3 nw.radios.length cunw3] 46)):=((Below.refl _ _).alloc (Nat.le_refl _) _)
 have hbb6:Below w5.heap.size w5 w6:=hx6.trans (hb6.mono (by first|(simp;done)|(simp<;>omega)));have z6:=hbb6.size;obtain⟨qAt6,_,yAt6⟩:=zah hb6 (b:=w.heap.size) (by first|omega|(simp;done)|(simp<;>omega));obtain⟨qAnw6,_,yAnw6⟩:=zah hb6 (b:=w.heap.size+1) (by first|omega|(simp;done)|(simp<;>omega));obtain⟨qUt6,_,yUt6⟩:=zah hb6 (b:=w4.heap.size) (by first|omega|(simp;done)|(simp<;>omega));obtain⟨qUnw6,_,yUnw6⟩:=zah hb6 (b:=w5.heap.size) (by first|omega|(simp;done)|(simp<;>omega));have BB6:=Lib.hid (BB5.out.trans (hbb6.mono (by omega)));have os00_6:=Lib.hid (os00_5.out.below is00 (by omega) hbb6);have out3_6:=Lib.hid (out3_5.out.below iut3 (by omega) hbb6);have out4_6:=Lib.hid (out4_5.out.below iut4 (by omega) hbb6);have ounw0_6:=Lib.hid (ounw0_5.out.below iunw0 (by omega) hbb6);have ounw1_6:=Lib.hid (ounw1_5.out.below iunw1 (by omega) hbb6);have ounw2_6:=Lib.hid (ounw2_5.out.below iunw2 (by omega) hbb6);have ounw3_6:=Lib.hid (ounw3_5.out.below iunw3 (by omega) hbb6);clear hx6;clear hb6 hbb6;have og00_6:=Lib.hid owg0;clear owg0;go_wp2_with fail;refine ((zei R.1 _ _ w6.heap.size _ ((og00_6.out.rd ig00).mono (by omega)) ((os00_6.out.rd is00).mono (by omega)) (Nat.le_refl _) (by omega))).mono ?_;rintro e w7 ⟨rfl,hb7⟩;have hbb7:Below w6.heap.size w6 w7:=hb7;have z7:=hbb7.size;obtain⟨qAt7,_,yAt7⟩:=zah hb7 (b:=w.heap.size) (by first|omega|(simp;done)|(simp<;>omega))
 (try clear yAt6)
 obtain⟨qAnw7,_,yAnw7⟩:=zah hb7 (b:=w.heap.size+1) (by first|omega|(simp;done)|(simp<;>omega))
 (try clear yAnw6)
 obtain⟨qUt7,_,yUt7⟩:=zah hb7 (b:=w4.heap.size) (by first|omega|(simp;done)|(simp<;>omega))
 (try clear yUt6)
 obtain⟨qUnw7,_,yUnw7⟩:=zah hb7 (b:=w5.heap.size) (by first|omega|(simp;done)|(simp<;>omega));have BB7:=Lib.hid (BB6.out.trans (hbb7.mono (by omega)));have os00_7:=Lib.hid (os00_6.out.below is00 (by omega) hbb7);have out3_7:=Lib.hid (out3_6.out.below iut3 (by omega) hbb7);have out4_7:=Lib.hid (out4_6.out.below iut4 (by omega) hbb7);have ounw0_7:=Lib.hid (ounw0_6.out.below iunw0 (by omega) hbb7);have ounw1_7:=Lib.hid (ounw1_6.out.below iunw1 (by omega) hbb7);have ounw2_7:=Lib.hid (ounw2_6.out.below iunw2 (by omega) hbb7);have ounw3_7:=Lib.hid (ounw3_6.out.below iunw3 (by omega) hbb7);have og00_7:=Lib.hid (og00_6.out.below ig00 (by omega) hbb7);clear hbb7;clear cy1 cy2;have hcf:w7.cell? ⟨w4.heap.size,0,none⟩=some (.int .i64 t.step)∧w7.cell? ⟨w4.heap.size,1,none⟩=some (.int .i64 t.width)∧w7.cell? ⟨w4.heap.size,2,none⟩=some (.int .i64 t.height)∧w7.cell? ⟨w4.heap.size,3,none⟩=some (.slice aut3 t.heights.length cut3)∧w7.cell? ⟨w4.heap.size,4,none⟩=some (.slice aut4 t.clutter.length cut4)∧w7.cell? ⟨w.heap.size,0,none⟩=some (.int .i64 t.step)∧w7.cell? ⟨w.heap.size,1,none⟩=some (.int .i64 t.width)∧w7.cell? ⟨w.heap.size,2,none⟩=some (.int .i64 t.height)∧w7.cell? ⟨w.heap.size,3,none⟩=some (vt3)∧w7.cell? ⟨w.heap.size,4,none⟩=some (vt4):=by refine⟨?_,?_,?_,?_,?_,?_,?_,?_,?_,?_⟩<;>simp[go_sem, *]
 go_wp2;have hsame:Below w7.heap.size w7 w7.drew:=⟨rfl,rfl,rfl,Nat.le_refl _,fun _ _=>rfl⟩
 have BBd:=Lib.hid BB7.out.drew;have HTO:=Lib.hid (to_Terrain t vt3 vt4 w7.drew ((Ht3.out.below BBd.out).mono (by show w.heap.size≤w7.heap.size;omega)) ((Ht4.out.below BBd.out).mono (by show w.heap.size≤w7.heap.size;omega)) (by omega));have HEQ:Hid (∀ (W:World) (p3 p4 q3 q4:Value),Below w7.heap.size w7 W→RdV W.heap.size W t.tr [.int .i64 t.step,.int .i64 t.width,.int .i64 t.height,q3,q4]→p3=.slice aut3 t.heights.length cut3→p4=.slice aut4 t.clutter.length cut4→Calls Tryz.prog 14 #[.agg #[.int .i64 t.step,.int .i64 t.width,.int .i64 t.height,p3,p4],.agg #[.int .i64 t.step,.int .i64 t.width,.int .i64 t.height,q3,q4]] W fun e w'=>e=.returned (.bool true)∧Below W.heap.size W w'):=fun W p3 p4 q3 q4 hW hr e3 e4=>by
  subst e3 e4;have hzW:=hW.size;exact eq_Terrain t _ _ _ _ W.heap.size W (((out3_7.out.below iut3 (by omega) hW).rd iut3).mono (by omega)) hr.2.2.2.1 (((out4_7.out.below iut4 (by omega) hW).rd iut4).mono (by omega)) hr.2.2.2.2.1 (Nat.le_refl _) (by omega)
 go_region_held3 (fun W=>W.cell? ⟨w4.heap.size,0,none⟩=some (.int .i64 t.step)∧W.cell? ⟨w4.heap.size,1,none⟩=some (.int .i64 t.width)∧W.cell? ⟨w4.heap.size,2,none⟩=some (.int .i64 t.height)∧W.cell? ⟨w4.heap.size,3,none⟩=some (.slice aut3 t.heights.length cut3)∧W.cell? ⟨w4.heap.size,4,none⟩=some (.slice aut4 t.clutter.length cut4)∧W.cell? ⟨w.heap.size,0,none⟩=some (.int .i64 t.step)∧W.cell? ⟨w.heap.size,1,none⟩=some (.int .i64 t.width)∧W.cell? ⟨w.heap.size,2,none⟩=some (.int .i64 t.height)∧W.cell? ⟨w.heap.size,3,none⟩=some (vt3)∧W.cell? ⟨w.heap.size,4,none⟩=some (vt4)) (first|exact hcf|(refine⟨?_,?_,?_,?_,?_,?_,?_,?_,?_,?_⟩<;>simp[go_sem, *]))
  (first
   | (go_at_call 10;refine (HTO.out).mono ?_;rintro e wt ⟨at3,ct3,at4,ct4,ft,rfl,hbt,ovt,ivt⟩;obtain⟨qUt,_,yUt⟩:=zah hbt (b:=w4.heap.size) (by show w4.heap.size<w7.heap.size;omega);obtain⟨qAt,_,yAt⟩:=zah hbt (b:=w.heap.size) (by show w.heap.size<w7.heap.size;omega))
   | (go_at_call 14;refine (HEQ.out _ _ _ _ _ (hsame.trans hbt) (ovt.rd ivt) rfl rfl).mono ?_;rintro e w8 ⟨rfl,hbe⟩;obtain⟨qUe,_,yUe⟩:=zah hbe (b:=w4.heap.size) yUt;obtain⟨qAe,_,yAe⟩:=zah hbe (b:=w.heap.size) yAt))
 have hb8:Below w7.heap.size w7 w8:=(hsame.trans hbt).trans (hbe.mono (hsame.trans hbt).size);clear HEQ HTO BBd hcf qUt qAt qUe qAe yUt yAt yUe yAe hbe hbt ovt ivt hsame;have hbb8:Below w7.heap.size w7 w8:=hb8;have z8:=hbb8.size;obtain⟨qAt8,_,yAt8⟩:=zah hb8 (b:=w.heap.size) (by first|omega|(simp;done)|(simp<;>omega))
 (try clear yAt7)
 obtain⟨qAnw8,_,yAnw8⟩:=zah hb8 (b:=w.heap.size+1) (by first|omega|(simp;done)|(simp<;>omega))
 (try clear yAnw7)
 obtain⟨qUt8,_,yUt8⟩:=zah hb8 (b:=w4.heap.size) (by first|omega|(simp;done)|(simp<;>omega))
 (try clear yUt7)
 obtain⟨qUnw8,_,yUnw8⟩:=zah hb8 (b:=w5.heap.size) (by first|omega|(simp;done)|(simp<;>omega))
 (try clear yUnw7)
 have BB8:=Lib.hid (BB7.out.trans (hbb8.mono (by omega)));have os00_8:=Lib.hid (os00_7.out.below is00 (by omega) hbb8);have out3_8:=Lib.hid (out3_7.out.below iut3 (by omega) hbb8);have out4_8:=Lib.hid (out4_7.out.below iut4 (by omega) hbb8);have ounw0_8:=Lib.hid (ounw0_7.out.below iunw0 (by omega) hbb8);have ounw1_8:=Lib.hid (ounw1_7.out.below iunw1 (by omega) hbb8);have ounw2_8:=Lib.hid (ounw2_7.out.below iunw2 (by omega) hbb8);have ounw3_8:=Lib.hid (ounw3_7.out.below iunw3 (by omega) hbb8);have og00_8:=Lib.hid (og00_7.out.below ig00 (by omega) hbb8);clear hbb8;have hcf:w8.cell? ⟨w5.heap.size,0,none⟩=some (.slice aunw0 nw.sites.length cunw0)∧w8.cell? ⟨w5.heap.size,1,none⟩=some (.slice aunw1 nw.sectors.length cunw1)∧w8.cell? ⟨w5.heap.size,2,none⟩=some (.slice aunw2 nw.antennas.length cunw2)∧w8.cell? ⟨w5.heap.size,3,none⟩=some (.slice aunw3 nw.radios.length cunw3)∧w8.cell? ⟨w.heap.size+1,0,none⟩=some (vnw0)∧w8.cell? ⟨w.heap.size+1,1,none⟩=some (vnw1)∧w8.cell? ⟨w.heap.size+1,2,none⟩=some (vnw2)∧w8.cell? ⟨w.heap.size+1,3,none⟩=some (vnw3):=by refine⟨?_,?_,?_,?_,?_,?_,?_,?_⟩<;>simp[go_sem, *]
 go_wp2;have hsame:Below w8.heap.size w8 w8.drew:=⟨rfl,rfl,rfl,Nat.le_refl _,fun _ _=>rfl⟩
 have BBd:=Lib.hid BB8.out.drew;have HTO:=Lib.hid (to_Network nw vnw0 vnw1 vnw2 vnw3 w8.drew ((Hnw0.out.below BBd.out).mono (by show w.heap.size≤w8.heap.size;omega)) ((Hnw1.out.below BBd.out).mono (by show w.heap.size≤w8.heap.size;omega)) ((Hnw2.out.below BBd.out).mono (by show w.heap.size≤w8.heap.size;omega)) ((Hnw3.out.below BBd.out).mono (by show w.heap.size≤w8.heap.size;omega)) (by omega));have HEQ:Hid (∀ (W:World) (p0 p1 p2 p3 q0 q1 q2 q3:Value),Below w8.heap.size w8 W→RdV W.heap.size W nw.tr [q0,q1,q2,q3]→p0=.slice aunw0 nw.sites.length cunw0→p1=.slice aunw1 nw.sectors.length cunw1→p2=.slice aunw2 nw.antennas.length cunw2→p3=.slice aunw3 nw.radios.length cunw3→Calls Tryz.prog 15 #[.agg #[p0,p1,p2,p3],.agg #[q0,q1,q2,q3]] W fun e w'=>e=.returned (.bool true)∧Below W.heap.size W w'):=fun W p0 p1 p2 p3 q0 q1 q2 q3 hW hr e0 e1 e2 e3=>by
  subst e0 e1 e2 e3;have hzW:=hW.size;exact eq_Network nw _ _ _ _ _ _ _ _ W.heap.size W (((ounw0_8.out.below iunw0 (by omega) hW).rd iunw0).mono (by omega)) hr.1 (((ounw1_8.out.below iunw1 (by omega) hW).rd iunw1).mono (by omega)) hr.2.1 (((ounw2_8.out.below iunw2 (by omega) hW).rd iunw2).mono (by omega)) hr.2.2.1 (((ounw3_8.out.below iunw3 (by omega) hW).rd iunw3).mono (by omega)) hr.2.2.2.1 (Nat.le_refl _) (by omega)
 go_region_held3 (fun W=>W.cell? ⟨w5.heap.size,0,none⟩=some (.slice aunw0 nw.sites.length cunw0)∧W.cell? ⟨w5.heap.size,1,none⟩=some (.slice aunw1 nw.sectors.length cunw1)∧W.cell? ⟨w5.heap.size,2,none⟩=some (.slice aunw2 nw.antennas.length cunw2)∧W.cell? ⟨w5.heap.size,3,none⟩=some (.slice aunw3 nw.radios.length cunw3)∧W.cell? ⟨w.heap.size+1,0,none⟩=some (vnw0)∧W.cell? ⟨w.heap.size+1,1,none⟩=some (vnw1)∧W.cell? ⟨w.heap.size+1,2,none⟩=some (vnw2)∧W.cell? ⟨w.heap.size+1,3,none⟩=some (vnw3)) (first|exact hcf|(refine⟨?_,?_,?_,?_,?_,?_,?_,?_⟩<;>simp[go_sem, *]))
  (first
   | (go_at_call 11;refine (HTO.out).mono ?_;rintro e wt ⟨at0,ct0,at1,ct1,at2,ct2,at3,ct3,ft,rfl,hbt,ovt,ivt⟩;obtain⟨qUt,_,yUt⟩:=zah hbt (b:=w5.heap.size) (by show w5.heap.size<w8.heap.size;omega);obtain⟨qAt,_,yAt⟩:=zah hbt (b:=w.heap.size+1) (by show w.heap.size+1<w8.heap.size;omega))
   | (go_at_call 15;refine (HEQ.out _ _ _ _ _ _ _ _ _ (hsame.trans hbt) (ovt.rd ivt) rfl rfl rfl rfl).mono ?_;rintro e w9 ⟨rfl,hbe⟩;obtain⟨qUe,_,yUe⟩:=zah hbe (b:=w5.heap.size) yUt;obtain⟨qAe,_,yAe⟩:=zah hbe (b:=w.heap.size+1) yAt))
 have hb9:Below w8.heap.size w8 w9:=(hsame.trans hbt).trans (hbe.mono (hsame.trans hbt).size);clear HEQ HTO BBd hcf qUt qAt qUe qAe yUt yAt yUe yAe hbe hbt ovt ivt hsame;have hbb9:Below w8.heap.size w8 w9:=hb9;have z9:=hbb9.size;obtain⟨qAt9,_,yAt9⟩:=zah hb9 (b:=w.heap.size) (by first|omega|(simp;done)|(simp<;>omega))
 (try clear yAt8)
 obtain⟨qAnw9,_,yAnw9⟩:=zah hb9 (b:=w.heap.size+1) (by first|omega|(simp;done)|(simp<;>omega))
 (try clear yAnw8)
 obtain⟨qUt9,_,yUt9⟩:=zah hb9 (b:=w4.heap.size) (by first|omega|(simp;done)|(simp<;>omega))
 (try clear yUt8)
 obtain⟨qUnw9,_,yUnw9⟩:=zah hb9 (b:=w5.heap.size) (by first|omega|(simp;done)|(simp<;>omega))
 (try clear yUnw8)
 have BB9:=Lib.hid (BB8.out.trans (hbb9.mono (by omega)));have os00_9:=Lib.hid (os00_8.out.below is00 (by omega) hbb9);have out3_9:=Lib.hid (out3_8.out.below iut3 (by omega) hbb9);have out4_9:=Lib.hid (out4_8.out.below iut4 (by omega) hbb9);have ounw0_9:=Lib.hid (ounw0_8.out.below iunw0 (by omega) hbb9);have ounw1_9:=Lib.hid (ounw1_8.out.below iunw1 (by omega) hbb9);have ounw2_9:=Lib.hid (ounw2_8.out.below iunw2 (by omega) hbb9);have ounw3_9:=Lib.hid (ounw3_8.out.below iunw3 (by omega) hbb9);have og00_9:=Lib.hid (og00_8.out.below ig00 (by omega) hbb9);clear hbb9;go_wp2_with fail;refine ((mark_Terrain t _ _ g4_3 g4_4 (1) _ _ _ _ _ out3_9.out iut3 (by first|omega|(simp;done)|(simp<;>omega)) out4_9.out iut4 (by first|omega|(simp;done)|(simp<;>omega)) djut3_4 (by omega) (by omega) (by omega))).mono ?_;rintro e w10 ⟨rfl,mut3,mut4,hc10⟩;have hcc10:Chg (g4_3++g4_4) w9 w10:=hc10;have z10:=hcc10.size;have hkAt10:=hc10.block (w.heap.size) (by first|omega|(simp;done)|(simp<;>omega)) (fun e=>by simp only[List.mem_append] at e;rcases e with (e|e)<;>first|(have h2:=iut3 _ e;omega)|(have h2:=iut4 _ e;omega));have qAt10:∀ o,w10.cell? ⟨w.heap.size,o,none⟩=_:=fun o=>World.cell?_of_block (a:=⟨w.heap.size,o,none⟩) hkAt10
 have yAt10:w.heap.size<w10.heap.size:=by first|omega|(have:=hc10.size;simp at this;omega)
 (try clear yAt9)
 clear hkAt10;have hkAnw10:=hc10.block (w.heap.size+1) (by first|omega|(simp;done)|(simp<;>omega)) (fun e=>by simp only[List.mem_append] at e;rcases e with (e|e)<;>first|(have h2:=iut3 _ e;omega)|(have h2:=iut4 _ e;omega));have qAnw10:∀ o,w10.cell? ⟨w.heap.size+1,o,none⟩=_:=fun o=>World.cell?_of_block (a:=⟨w.heap.size+1,o,none⟩) hkAnw10
 have yAnw10:w.heap.size+1<w10.heap.size:=by first|omega|(have:=hc10.size;simp at this;omega)
 (try clear yAnw9)
 clear hkAnw10;have hkUt10:=hc10.block (w4.heap.size) (by first|omega|(simp;done)|(simp<;>omega)) (fun e=>by simp only[List.mem_append] at e;rcases e with (e|e)<;>first|(have h2:=iut3 _ e;omega)|(have h2:=iut4 _ e;omega));have qUt10:∀ o,w10.cell? ⟨w4.heap.size,o,none⟩=_:=fun o=>World.cell?_of_block (a:=⟨w4.heap.size,o,none⟩) hkUt10
 have yUt10:w4.heap.size<w10.heap.size:=by first|omega|(have:=hc10.size;simp at this;omega)
 (try clear yUt9)
 clear hkUt10;have hkUnw10:=hc10.block (w5.heap.size) (by first|omega|(simp;done)|(simp<;>omega)) (fun e=>by simp only[List.mem_append] at e;rcases e with (e|e)<;>first|(have h2:=iut3 _ e;omega)|(have h2:=iut4 _ e;omega));have qUnw10:∀ o,w10.cell? ⟨w5.heap.size,o,none⟩=_:=fun o=>World.cell?_of_block (a:=⟨w5.heap.size,o,none⟩) hkUnw10
 have yUnw10:w5.heap.size<w10.heap.size:=by first|omega|(have:=hc10.size;simp at this;omega)
 (try clear yUnw9)
 clear hkUnw10;have BB10:=Lib.hid (BB9.out.trans (hcc10.below (by omega) (fun x hx=>by simp only[List.mem_append] at hx;rcases hx with (hx|hx)<;>first|(have h2:=iut3 x hx;omega)|(have h2:=iut4 x hx;omega))));have os00_10:=Lib.hid (os00_9.out.chg is00 (by omega) hcc10 (fun x hx e=>by have hx0:=is00 x hx;simp only[List.mem_append] at e;rcases e with (e|e)<;>first|(have h2:=iut3 x e;omega)|(have h2:=iut4 x e;omega)));have ounw0_10:=Lib.hid (ounw0_9.out.chg iunw0 (by omega) hcc10 (fun x hx e=>by have hx0:=iunw0 x hx;simp only[List.mem_append] at e;rcases e with (e|e)<;>first|(have h2:=iut3 x e;omega)|(have h2:=iut4 x e;omega)));have ounw1_10:=Lib.hid (ounw1_9.out.chg iunw1 (by omega) hcc10 (fun x hx e=>by have hx0:=iunw1 x hx;simp only[List.mem_append] at e;rcases e with (e|e)<;>first|(have h2:=iut3 x e;omega)|(have h2:=iut4 x e;omega)));have ounw2_10:=Lib.hid (ounw2_9.out.chg iunw2 (by omega) hcc10 (fun x hx e=>by have hx0:=iunw2 x hx;simp only[List.mem_append] at e;rcases e with (e|e)<;>first|(have h2:=iut3 x e;omega)|(have h2:=iut4 x e;omega)));have ounw3_10:=Lib.hid (ounw3_9.out.chg iunw3 (by omega) hcc10 (fun x hx e=>by have hx0:=iunw3 x hx;simp only[List.mem_append] at e;rcases e with (e|e)<;>first|(have h2:=iut3 x e;omega)|(have h2:=iut4 x e;omega)));have og00_10:=Lib.hid (og00_9.out.chg ig00 (by omega) hcc10 (fun x hx e=>by have hx0:=ig00 x hx;simp only[List.mem_append] at e;rcases e with (e|e)<;>first|(have h2:=iut3 x e;omega)|(have h2:=iut4 x e;omega)));clear hcc10;have kout3_10:=Lib.hid mut3;clear mut3;have kout4_10:=Lib.hid mut4;clear mut4;go_wp2_with fail;refine ((calls_cast (K':=((1+cnt (zaj t.heights)+cnt (zaj t.clutter):Nat):Int)) (by omega) (mark_Network nw _ _ _ _ g5_0 g5_1 g5_2 g5_3 (1+cnt (zaj t.heights)+cnt (zaj t.clutter)) _ _ _ _ _ _ _ _ _ ounw0_10.out iunw0 (by first|omega|(simp;done)|(simp<;>omega)) ounw1_10.out iunw1 (by first|omega|(simp;done)|(simp<;>omega)) ounw2_10.out iunw2 (by first|omega|(simp;done)|(simp<;>omega)) ounw3_10.out iunw3 (by first|omega|(simp;done)|(simp<;>omega)) djunw0_1 djunw0_2 djunw0_3 djunw1_2 djunw1_3 djunw2_3 (by omega) (by omega) (by omega)))).mono ?_;rintro e w11 ⟨rfl,munw0,munw1,munw2,munw3,hc11⟩;have hcc11:Chg (g5_0++g5_1++g5_2++g5_3) w10 w11:=hc11;have z11:=hcc11.size;have hkAt11:=hc11.block (w.heap.size) (by first|omega|(simp;done)|(simp<;>omega)) (fun e=>by simp only[List.mem_append] at e;rcases e with (((e|e)|e)|e)<;>first|(have h2:=iunw0 _ e;omega)|(have h2:=iunw1 _ e;omega)|(have h2:=iunw2 _ e;omega)|(have h2:=iunw3 _ e;omega));have qAt11:∀ o,w11.cell? ⟨w.heap.size,o,none⟩=_:=fun o=>World.cell?_of_block (a:=⟨w.heap.size,o,none⟩) hkAt11
 have yAt11:w.heap.size<w11.heap.size:=by first|omega|(have:=hc11.size;simp at this;omega)
 (try clear yAt10)
 clear hkAt11;have hkAnw11:=hc11.block (w.heap.size+1) (by first|omega|(simp;done)|(simp<;>omega)) (fun e=>by simp only[List.mem_append] at e;rcases e with (((e|e)|e)|e)<;>first|(have h2:=iunw0 _ e;omega)|(have h2:=iunw1 _ e;omega)|(have h2:=iunw2 _ e;omega)|(have h2:=iunw3 _ e;omega));have qAnw11:∀ o,w11.cell? ⟨w.heap.size+1,o,none⟩=_:=fun o=>World.cell?_of_block (a:=⟨w.heap.size+1,o,none⟩) hkAnw11
 have yAnw11:w.heap.size+1<w11.heap.size:=by first|omega|(have:=hc11.size;simp at this;omega)
 (try clear yAnw10)
 clear hkAnw11;have hkUt11:=hc11.block (w4.heap.size) (by first|omega|(simp;done)|(simp<;>omega)) (fun e=>by simp only[List.mem_append] at e;rcases e with (((e|e)|e)|e)<;>first|(have h2:=iunw0 _ e;omega)|(have h2:=iunw1 _ e;omega)|(have h2:=iunw2 _ e;omega)|(have h2:=iunw3 _ e;omega));have qUt11:∀ o,w11.cell? ⟨w4.heap.size,o,none⟩=_:=fun o=>World.cell?_of_block (a:=⟨w4.heap.size,o,none⟩) hkUt11
 have yUt11:w4.heap.size<w11.heap.size:=by first|omega|(have:=hc11.size;simp at this;omega)
 (try clear yUt10)
 clear hkUt11;have hkUnw11:=hc11.block (w5.heap.size) (by first|omega|(simp;done)|(simp<;>omega)) (fun e=>by simp only[List.mem_append] at e;rcases e with (((e|e)|e)|e)<;>first|(have h2:=iunw0 _ e;omega)|(have h2:=iunw1 _ e;omega)|(have h2:=iunw2 _ e;omega)|(have h2:=iunw3 _ e;omega));have qUnw11:∀ o,w11.cell? ⟨w5.heap.size,o,none⟩=_:=fun o=>World.cell?_of_block (a:=⟨w5.heap.size,o,none⟩) hkUnw11
 have yUnw11:w5.heap.size<w11.heap.size:=by first|omega|(have:=hc11.size;simp at this;omega)
 (try clear yUnw10)
 clear hkUnw11;have BB11:=Lib.hid (BB10.out.trans (hcc11.below (by omega) (fun x hx=>by simp only[List.mem_append] at hx;rcases hx with (((hx|hx)|hx)|hx)<;>first|(have h2:=iunw0 x hx;omega)|(have h2:=iunw1 x hx;omega)|(have h2:=iunw2 x hx;omega)|(have h2:=iunw3 x hx;omega))));have os00_11:=Lib.hid (os00_10.out.chg is00 (by omega) hcc11 (fun x hx e=>by have hx0:=is00 x hx;simp only[List.mem_append] at e;rcases e with (((e|e)|e)|e)<;>first|(have h2:=iunw0 x e;omega)|(have h2:=iunw1 x e;omega)|(have h2:=iunw2 x e;omega)|(have h2:=iunw3 x e;omega)));have og00_11:=Lib.hid (og00_10.out.chg ig00 (by omega) hcc11 (fun x hx e=>by have hx0:=ig00 x hx;simp only[List.mem_append] at e;rcases e with (((e|e)|e)|e)<;>first|(have h2:=iunw0 x e;omega)|(have h2:=iunw1 x e;omega)|(have h2:=iunw2 x e;omega)|(have h2:=iunw3 x e;omega)));clear hcc11;have kounw0_11:=Lib.hid munw0;clear munw0;have kounw1_11:=Lib.hid munw1;clear munw1;have kounw2_11:=Lib.hid munw2;clear munw2;have kounw3_11:=Lib.hid munw3;clear munw3;have kd11:decide (((1+cnt (zaj t.heights)+cnt (zaj t.clutter)+cnt (DSite.sT nw.sites)+cnt (DSector.sT nw.sectors)+cnt (DAntenna.sT nw.antennas)+cnt (DRadio.sT nw.radios):Nat):Int)<0)=false:=by simp<;>omega
 go_wp2_with fail;refine ((zei R.1 _ _ w11.heap.size _ ((og00_11.out.rd ig00).mono (by omega)) ((os00_11.out.rd is00).mono (by omega)) (Nat.le_refl _) (by omega))).mono ?_;rintro e w12 ⟨rfl,hb12⟩;have hbb12:Below w11.heap.size w11 w12:=hb12;have z12:=hbb12.size;obtain⟨qAt12,_,yAt12⟩:=zah hb12 (b:=w.heap.size) (by first|omega|(simp;done)|(simp<;>omega))
 (try clear yAt11)
 obtain⟨qAnw12,_,yAnw12⟩:=zah hb12 (b:=w.heap.size+1) (by first|omega|(simp;done)|(simp<;>omega))
 (try clear yAnw11)
 obtain⟨qUt12,_,yUt12⟩:=zah hb12 (b:=w4.heap.size) (by first|omega|(simp;done)|(simp<;>omega))
 (try clear yUt11)
 obtain⟨qUnw12,_,yUnw12⟩:=zah hb12 (b:=w5.heap.size) (by first|omega|(simp;done)|(simp<;>omega))
 (try clear yUnw11)
 have BB12:=Lib.hid (BB11.out.trans (hbb12.mono (by omega)));have os00_12:=Lib.hid (os00_11.out.below is00 (by omega) hbb12);have og00_12:=Lib.hid (og00_11.out.below ig00 (by omega) hbb12);clear hbb12;go_wp2_with fail;refine ((mark_Int64S R.1 _ fg00 (1) _ _ og00_12.out (ig00.mono (Nat.le_refl _) (by first|omega|(simp;done)|(simp<;>omega))) (by omega) (by omega))).mono ?_;rintro e w13 ⟨rfl,mg00,hc13⟩;have hcc13:Chg fg00 w12 w13:=hc13;have z13:=hcc13.size;have hkAt13:=hc13.block (w.heap.size) (by first|omega|(simp;done)|(simp<;>omega)) (fun e=>by have h2:=ig00 _ e;omega);have qAt13:∀ o,w13.cell? ⟨w.heap.size,o,none⟩=_:=fun o=>World.cell?_of_block (a:=⟨w.heap.size,o,none⟩) hkAt13
 have yAt13:w.heap.size<w13.heap.size:=by first|omega|(have:=hc13.size;simp at this;omega)
 (try clear yAt12)
 clear hkAt13;have hkAnw13:=hc13.block (w.heap.size+1) (by first|omega|(simp;done)|(simp<;>omega)) (fun e=>by have h2:=ig00 _ e;omega);have qAnw13:∀ o,w13.cell? ⟨w.heap.size+1,o,none⟩=_:=fun o=>World.cell?_of_block (a:=⟨w.heap.size+1,o,none⟩) hkAnw13
 have yAnw13:w.heap.size+1<w13.heap.size:=by first|omega|(have:=hc13.size;simp at this;omega)
 (try clear yAnw12)
 clear hkAnw13;have hkUt13:=hc13.block (w4.heap.size) (by first|omega|(simp;done)|(simp<;>omega)) (fun e=>by have h2:=ig00 _ e;omega);have qUt13:∀ o,w13.cell? ⟨w4.heap.size,o,none⟩=_:=fun o=>World.cell?_of_block (a:=⟨w4.heap.size,o,none⟩) hkUt13
 have yUt13:w4.heap.size<w13.heap.size:=by first|omega|(have:=hc13.size;simp at this;omega)
 (try clear yUt12)
 clear hkUt13;have hkUnw13:=hc13.block (w5.heap.size) (by first|omega|(simp;done)|(simp<;>omega)) (fun e=>by have h2:=ig00 _ e;omega);have qUnw13:∀ o,w13.cell? ⟨w5.heap.size,o,none⟩=_:=fun o=>World.cell?_of_block (a:=⟨w5.heap.size,o,none⟩) hkUnw13
 have yUnw13:w5.heap.size<w13.heap.size:=by first|omega|(have:=hc13.size;simp at this;omega)
 (try clear yUnw12)
 clear hkUnw13;have BB13:=Lib.hid (BB12.out.trans (hcc13.below (by omega) (fun x hx=>by have h2:=ig00 x hx;omega)));have os00_13:=Lib.hid (os00_12.out.chg is00 (by omega) hcc13 (fun x hx e=>by have hx0:=is00 x hx;have h2:=ig00 x e;omega));clear hcc13;have kog00_13:=Lib.hid mg00;clear mg00;go_wp2_with fail;refine (held_Int64S R.1 _ w13.heap.size (1) _ ((kog00_13.out.rd ig00).mono (by omega)) (Nat.le_refl _) (by omega) (by omega)).mono ?_;rintro e w14 ⟨rfl,hb14⟩;have hbb14:Below w13.heap.size w13 w14:=hb14;have z14:=hbb14.size;obtain⟨qAt14,_,yAt14⟩:=zah hb14 (b:=w.heap.size) (by first|omega|(simp;done)|(simp<;>omega))
 (try clear yAt13)
 obtain⟨qAnw14,_,yAnw14⟩:=zah hb14 (b:=w.heap.size+1) (by first|omega|(simp;done)|(simp<;>omega))
 (try clear yAnw13)
 obtain⟨qUt14,_,yUt14⟩:=zah hb14 (b:=w4.heap.size) (by first|omega|(simp;done)|(simp<;>omega))
 (try clear yUt13)
 obtain⟨qUnw14,_,yUnw14⟩:=zah hb14 (b:=w5.heap.size) (by first|omega|(simp;done)|(simp<;>omega))
 (try clear yUnw13)
 have BB14:=Lib.hid (BB13.out.trans (hbb14.mono (by omega)));have os00_14:=Lib.hid (os00_13.out.below is00 (by omega) hbb14);have kog00_14:=Lib.hid (kog00_13.out.below ig00 (by omega) hbb14);clear hbb14;go_wp2;have hcf:w14.cell? ⟨w.heap.size,0,none⟩=some (.int .i64 t.step)∧w14.cell? ⟨w.heap.size,1,none⟩=some (.int .i64 t.width)∧w14.cell? ⟨w.heap.size,2,none⟩=some (.int .i64 t.height)∧w14.cell? ⟨w.heap.size,3,none⟩=some (vt3)∧w14.cell? ⟨w.heap.size,4,none⟩=some (vt4)∧w14.cell? ⟨w.heap.size+1,0,none⟩=some (vnw0)∧w14.cell? ⟨w.heap.size+1,1,none⟩=some (vnw1)∧w14.cell? ⟨w.heap.size+1,2,none⟩=some (vnw2)∧w14.cell? ⟨w.heap.size+1,3,none⟩=some (vnw3):=by refine⟨?_,?_,?_,?_,?_,?_,?_,?_,?_⟩<;>simp[go_sem, *]
 have HKB:Hid (∀ W:World,Below w14.heap.size w14 W→W.cell? ⟨w.heap.size,0,none⟩=some (.int .i64 t.step)∧W.cell? ⟨w.heap.size,1,none⟩=some (.int .i64 t.width)∧W.cell? ⟨w.heap.size,2,none⟩=some (.int .i64 t.height)∧W.cell? ⟨w.heap.size,3,none⟩=some (vt3)∧W.cell? ⟨w.heap.size,4,none⟩=some (vt4)∧W.cell? ⟨w.heap.size+1,0,none⟩=some (vnw0)∧W.cell? ⟨w.heap.size+1,1,none⟩=some (vnw1)∧W.cell? ⟨w.heap.size+1,2,none⟩=some (vnw2)∧W.cell? ⟨w.heap.size+1,3,none⟩=some (vnw3)):=fun W hW=>by
  obtain⟨e0,e1,e2,e3,e4,e5,e6,e7,e8⟩:=hcf;exact⟨(bat hW _ _ (by omega)).trans e0,(bat hW _ _ (by omega)).trans e1,(bat hW _ _ (by omega)).trans e2,(bat hW _ _ (by omega)).trans e3,(bat hW _ _ (by omega)).trans e4,(bat hW _ _ (by omega)).trans e5,(bat hW _ _ (by omega)).trans e6,(bat hW _ _ (by omega)).trans e7,(bat hW _ _ (by omega)).trans e8⟩
 clear hcf;have BBd:Hid (Below w14.heap.size w14 w14.drew):=(Below.refl _ _).drew;go_cut [21,22] (fun s0 s1 wx=>∃ (ah00:Option Addr) (ch00:Nat) (fh00:List Nat),s0=.slice ah00 R.1.length ch00∧s1=.int .i64 R.2∧Below w14.heap.size w14 wx∧Own wx (zaj R.1) (.slice ah00 R.1.length ch00) fh00∧In w14.heap.size wx.heap.size fh00)
 case first =>
  refine zap 12 (.read 0 (.read 2 (.read 4 (.read 5 (.read 6 (.one 1 (.one 3 (.one 7 (.read 8 (.read 9 (.read 10 (.read 11 .nil)))))))))))) (fun W=>W.cell? ⟨w.heap.size,0,none⟩=some (.int .i64 t.step)∧W.cell? ⟨w.heap.size,1,none⟩=some (.int .i64 t.width)∧W.cell? ⟨w.heap.size,2,none⟩=some (.int .i64 t.height)∧W.cell? ⟨w.heap.size,3,none⟩=some (vt3)∧W.cell? ⟨w.heap.size,4,none⟩=some (vt4)∧W.cell? ⟨w.heap.size+1,0,none⟩=some (vnw0)∧W.cell? ⟨w.heap.size+1,1,none⟩=some (vnw1)∧W.cell? ⟨w.heap.size+1,2,none⟩=some (vnw2)∧W.cell? ⟨w.heap.size+1,3,none⟩=some (vnw3)) (by kernel_rfl) (by kernel_rfl) (HKB.out _ BBd.out) ?_;have zd:w14.heap.size≤w14.drew.heap.size:=Nat.le_refl _;generalize w14.drew=Y at *;refine zag (v:=?_) rfl (fun _ _ _ h=>h) ?_ ?_
  rotate_left
  ·(intro W hSW;(try dsimp only at hSW);(go_simp<;>with_reducible rfl))
  (try simp only[Act.put,List.setIfInBounds_toArray,List.set_cons_zero,List.set_cons_succ])
  refine zag (v:=?_) rfl (fun _ _ _ h=>h) ?_ ?_
  rotate_left
  ·(intro W hSW;(try dsimp only at hSW);(go_simp<;>with_reducible rfl))
  (try simp only[Act.put,List.setIfInBounds_toArray,List.set_cons_zero,List.set_cons_succ])
  refine zag (v:=?_) rfl (fun _ _ _ h=>h) ?_ ?_
  rotate_left
  ·(intro W hSW;(try dsimp only at hSW);(go_simp<;>with_reducible rfl))
  (try simp only[Act.put,List.setIfInBounds_toArray,List.set_cons_zero,List.set_cons_succ])
  refine zag (v:=?_) rfl (fun _ _ _ h=>h) ?_ ?_
  rotate_left
  ·(intro W hSW;(try dsimp only at hSW);(go_simp<;>with_reducible rfl))
  (try simp only[Act.put,List.setIfInBounds_toArray,List.set_cons_zero,List.set_cons_succ])
  refine zag (v:=?_) rfl (fun _ _ _ h=>h) ?_ ?_
  rotate_left
  ·(intro W hSW;(try dsimp only at hSW);(go_simp<;>with_reducible rfl))
  (try simp only[Act.put,List.setIfInBounds_toArray,List.set_cons_zero,List.set_cons_succ])
  refine zac ?_;refine zab rfl (fun K hK=>?_);go_simp;refine (to_Terrain t _ _ _ ((Ht3.out.below (BB14.out.trans (BBd.out.mono (by omega)))).mono (by omega)) ((Ht4.out.below (BB14.out.trans (BBd.out.mono (by omega)))).mono (by omega)) (by omega)).mono ?_;rintro e Y1 ⟨att3,ctt3,att4,ctt4,ftt,rfl,hb1,ov1,iv1⟩;refine hK.out _ _ (HKB.out _ (BBd.out.trans (hb1.mono (by omega)))) ?_;clear hK K
  (try simp only[Act.put,List.setIfInBounds_toArray,List.set_cons_zero,List.set_cons_succ])
  have OT1:=Lib.hid ov1;have itt:=iv1;clear ov1 iv1;have bs1:Y.heap.size≤Y1.heap.size:=hb1.size;have BY1:=Lib.hid (BBd.out.trans (hb1.mono (by omega)));clear hb1;refine zac ?_;refine zab rfl (fun K hK=>?_);go_simp;refine (to_Network nw _ _ _ _ _ ((Hnw0.out.below (BB14.out.trans (BY1.out.mono (by omega)))).mono (by omega)) ((Hnw1.out.below (BB14.out.trans (BY1.out.mono (by omega)))).mono (by omega)) ((Hnw2.out.below (BB14.out.trans (BY1.out.mono (by omega)))).mono (by omega)) ((Hnw3.out.below (BB14.out.trans (BY1.out.mono (by omega)))).mono (by omega)) (by omega)).mono ?_;rintro e Y2 ⟨atnw0,ctnw0,atnw1,ctnw1,atnw2,ctnw2,atnw3,ctnw3,ftnw,rfl,hb2,ov2,iv2⟩;refine hK.out _ _ (HKB.out _ (BY1.out.trans (hb2.mono (by omega)))) ?_;clear hK K
  (try simp only[Act.put,List.setIfInBounds_toArray,List.set_cons_zero,List.set_cons_succ])
  have OT2:=Lib.hid ov2;have itnw:=iv2;clear ov2 iv2;have bs2:Y1.heap.size≤Y2.heap.size:=hb2.size;have BY2:=Lib.hid (BY1.out.trans (hb2.mono (by omega)));have OT2_t:=Lib.hid (OT1.out.below itt (by omega) hb2);clear hb2;refine zac ?_;refine zab rfl (fun K hK=>?_);go_simp;refine (HI.out _ _ _ _ _ _ _ (HLL.out.mono (BB14.out.trans (BY2.out.mono (by omega)))) (((OT2_t.out.rd itt).2.2.2.1).mono (by omega)) (((OT2_t.out.rd itt).2.2.2.2.1).mono (by omega)) (((OT2.out.rd itnw).1).mono (by omega)) (((OT2.out.rd itnw).2.1).mono (by omega)) (((OT2.out.rd itnw).2.2.1).mono (by omega)) (((OT2.out.rd itnw).2.2.2.1).mono (by omega)) (by omega) (by omega) (by omega)).mono ?_;rintro e Y3 ⟨ah00,ch00,fh00,rfl,hb3,ov3,iv3⟩;refine hK.out _ _ (HKB.out _ (BY2.out.trans (hb3.mono (by omega)))) ?_;clear hK K
  (try simp only[Act.put,List.setIfInBounds_toArray,List.set_cons_zero,List.set_cons_succ])
  have OR3:=Lib.hid ov3;have IR3:=Lib.hid iv3;clear ov3 iv3;have bs3:Y2.heap.size≤Y3.heap.size:=hb3.size;have BY3:=Lib.hid (BY2.out.trans (hb3.mono (by omega)));clear hb3;refine zag (v:=?_) rfl (fun _ _ _ h=>h) ?_ ?_
  rotate_left
  ·(intro W hSW;(try dsimp only at hSW);(go_simp<;>with_reducible rfl))
  (try simp only[Act.put,List.setIfInBounds_toArray,List.set_cons_zero,List.set_cons_succ])
  refine zag (v:=?_) rfl (fun _ _ _ h=>h) ?_ ?_
  rotate_left
  ·(intro W hSW;(try dsimp only at hSW);(go_simp<;>with_reducible rfl))
  (try simp only[Act.put,List.setIfInBounds_toArray,List.set_cons_zero,List.set_cons_succ])
  refine zag (v:=?_) rfl (fun _ _ _ h=>h) ?_ ?_
  rotate_left
  ·(intro W hSW;(try dsimp only at hSW);(go_simp<;>with_reducible rfl))
  (try simp only[Act.put,List.setIfInBounds_toArray,List.set_cons_zero,List.set_cons_succ])
  refine zag (v:=?_) rfl (fun _ _ _ h=>h) ?_ ?_
  rotate_left
  ·(intro W hSW;(try dsimp only at hSW);(go_simp<;>with_reducible rfl))
  (try simp only[Act.put,List.setIfInBounds_toArray,List.set_cons_zero,List.set_cons_succ])
  refine zak ?_;simp only[List.drop_succ_cons,List.drop_zero];go_wp2_with fail;go_meet;exact⟨_,_,_,rfl,rfl,BY3.out,OR3.out,IR3.out.mono (by omega) (Nat.le_refl _)⟩
 obtain⟨ah00,ch00,fh00,rfl,rfl,hb15,owh0,iwh0⟩:=hcut;generalize wc=w15 at *;clear HKB BBd;have hbb15:Below w14.heap.size w14 w15:=hb15;have z15:=hbb15.size;obtain⟨qAt15,_,yAt15⟩:=zah hb15 (b:=w.heap.size) (by first|omega|(simp;done)|(simp<;>omega))
 (try clear yAt14)
 obtain⟨qAnw15,_,yAnw15⟩:=zah hb15 (b:=w.heap.size+1) (by first|omega|(simp;done)|(simp<;>omega))
 (try clear yAnw14)
 obtain⟨qUt15,_,yUt15⟩:=zah hb15 (b:=w4.heap.size) (by first|omega|(simp;done)|(simp<;>omega))
 (try clear yUt14)
 obtain⟨qUnw15,_,yUnw15⟩:=zah hb15 (b:=w5.heap.size) (by first|omega|(simp;done)|(simp<;>omega))
 (try clear yUnw14)
 have BB15:=Lib.hid (BB14.out.trans (hbb15.mono (by omega)));have os00_15:=Lib.hid (os00_14.out.below is00 (by omega) hbb15);have kog00_15:=Lib.hid (kog00_14.out.below ig00 (by omega) hbb15);clear hbb15;have ih00:=iwh0;have oh00_15:=Lib.hid owh0;clear iwh0 owh0;go_wp2_with fail;refine ((zei R.1 _ _ w15.heap.size _ ((oh00_15.out.rd ih00).mono (by omega)) ((os00_15.out.rd is00).mono (by omega)) (Nat.le_refl _) (by omega))).mono ?_;rintro e w16 ⟨rfl,hb16⟩;have hbb16:Below w15.heap.size w15 w16:=hb16;have z16:=hbb16.size;obtain⟨qAt16,_,yAt16⟩:=zah hb16 (b:=w.heap.size) (by first|omega|(simp;done)|(simp<;>omega))
 (try clear yAt15)
 obtain⟨qAnw16,_,yAnw16⟩:=zah hb16 (b:=w.heap.size+1) (by first|omega|(simp;done)|(simp<;>omega))
 (try clear yAnw15)
 obtain⟨qUt16,_,yUt16⟩:=zah hb16 (b:=w4.heap.size) (by first|omega|(simp;done)|(simp<;>omega))
 (try clear yUt15)
 obtain⟨qUnw16,_,yUnw16⟩:=zah hb16 (b:=w5.heap.size) (by first|omega|(simp;done)|(simp<;>omega))
 (try clear yUnw15)
 have BB16:=Lib.hid (BB15.out.trans (hbb16.mono (by omega)));have os00_16:=Lib.hid (os00_15.out.below is00 (by omega) hbb16);have kog00_16:=Lib.hid (kog00_15.out.below ig00 (by omega) hbb16);have oh00_16:=Lib.hid (oh00_15.out.below ih00 (by omega) hbb16);clear hbb16;go_wp2_with fail;refine (held_Int64S R.1 _ w16.heap.size (1) _ ((kog00_16.out.rd ig00).mono (by omega)) (Nat.le_refl _) (by omega) (by omega)).mono ?_;rintro e w17 ⟨rfl,hb17⟩;have hbb17:Below w16.heap.size w16 w17:=hb17;have z17:=hbb17.size;obtain⟨qAt17,_,yAt17⟩:=zah hb17 (b:=w.heap.size) (by first|omega|(simp;done)|(simp<;>omega))
 (try clear yAt16)
 obtain⟨qAnw17,_,yAnw17⟩:=zah hb17 (b:=w.heap.size+1) (by first|omega|(simp;done)|(simp<;>omega))
 (try clear yAnw16)
 obtain⟨qUt17,_,yUt17⟩:=zah hb17 (b:=w4.heap.size) (by first|omega|(simp;done)|(simp<;>omega))
 (try clear yUt16)
 obtain⟨qUnw17,_,yUnw17⟩:=zah hb17 (b:=w5.heap.size) (by first|omega|(simp;done)|(simp<;>omega))
 (try clear yUnw16)
 have BB17:=Lib.hid (BB16.out.trans (hbb17.mono (by omega)));have kog00_17:=Lib.hid (kog00_16.out.below ig00 (by omega) hbb17);clear hbb17;go_wp2;go_ret;exact⟨rfl,BB17.out⟩
end Go.Proofs.YtdgmgchdjlfchaaGreatDoor.fnExactSectorLevels
