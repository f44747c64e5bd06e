/- The walk of the law FnExactLevelRows: it returns true. -/
import Derived.Test.YtdgmgchdjlfchaaGreatDoorLwD
set_option linter.unusedVariables false
set_option linter.unusedSimpArgs false
namespace Go.Proofs.YtdgmgchdjlfchaaGreatDoor.fnExactLevelRows
open Go.RowKit
set_option maxHeartbeats 16000000
set_option maxRecDepth 100000
theorem calls_cast {P:Program} {f:FuncId} {a:Value} {K K':Int} {w:World} {Q:Ending→World→Prop} (hK:K=K') (h:Calls P f #[a,.int .i64 K'] w Q):Calls P f #[a,.int .i64 K] w Q:=hK ▸ h
theorem end_cnt (l:List DEnd):cnt (DEnd.sT l)≤16*siz (DEnd.sT l):=zds DEnd.tr 3 16 (by decide) DEnd.tr_len (fun x=>by simp only[DEnd.tr,cntL,cnt,intT];omega) l
theorem sumLen_map {α:Type} (g:α→List Int) (m:Nat):∀ l:List α,(∀ x ∈ l,(g x).length≤m)→zbm (l.map g)≤l.length*m:=by
 intro l
 induction l with
 | nil=>intro _;simp[zbm]
 | cons x l ih =>
  intro h;have h1:=h x (by simp);have h2:=ih (fun y hy=>h y (by simp[hy]));simp only[zbm,List.map_cons,List.sum_cons,List.length_cons,Nat.succ_mul] at h2 ⊢;omega
theorem levRows_small (t:DTerrain) (n:DNetwork) (f:Int) (l:List DEnd):(za6 t n f l).1.length≤32∧zbm (za6 t n f l).1≤768:=by
 unfold za6
 split
 ·rename_i h
  split
  ·rename_i h2
   split
   ·have hs:n.sectors.length≤24:=by
     have:=h.2.1;unfold netB at this;simp only[Bool.and_eq_true,decide_eq_true_eq] at this;exact this.2.1
    have hm:=sumLen_map (rowL t n f) 24 l (fun e _=>by rw[rowL_len];exact hs);have:=h2.2.1.2;refine⟨by show (l.map _).length≤32;rw[List.length_map];exact this,?_⟩;show zbm (l.map _)≤768
    omega
   ·exact⟨by simp,by simp[zbm]⟩
  ·exact⟨by simp,by simp[zbm]⟩
 ·exact⟨by simp,by simp[zbm]⟩
theorem walk (t:DTerrain) (nw:DNetwork) (f:Int) (l:List DEnd) (vt3 vt4 vnw0 vnw1 vnw2 vnw3 vl0:Value) (w:World) (LL:TabW w) (rt3:Rd w.heap.size w (zai t.heights) vt3) (rt4:Rd w.heap.size w (zai t.clutter) vt4) (rnw0:Rd w.heap.size w (DSite.sT nw.sites) vnw0) (rnw1:Rd w.heap.size w (DSector.sT nw.sectors) vnw1) (rnw2:Rd w.heap.size w (DAntenna.sT nw.antennas) vnw2) (rnw3:Rd w.heap.size w (DRadio.sT nw.radios) vnw3) (rl0:Rd w.heap.size w (DEnd.sT l) vl0) (hk_t:t.ok) (hk_nw:nw.ok) (hk_f:I64 f) (hk_l:∀ y ∈ l,y.ok) :
  Calls Tryz.prog 6 #[.agg #[.int .i64 t.step,.int .i64 t.width,.int .i64 t.height,vt3,vt4],.agg #[vnw0,vnw1,vnw2,vnw3],.int .i64 f,vl0] w fun e w'=>e=.returned (.bool true)∧Below w.heap.size w w':=by
 have HLL:=Lib.hid LL;clear LL;have Ht3:=Lib.hid rt3;have Ht4:=Lib.hid rt4;have Hnw0:=Lib.hid rnw0;have Hnw1:=Lib.hid rnw1;have Hnw2:=Lib.hid rnw2;have Hnw3:=Lib.hid rnw3;have Hl0:=Lib.hid rl0;clear rt3 rt4 rnw0 rnw1 rnw2 rnw3 rl0;obtain⟨avl,cvl,evl,_,_,_⟩:=DEnd.rd Hl0.out;subst evl;have hq_t:=DTerrain.siz_tr t;have hq_nw:=DNetwork.siz_tr nw;obtain⟨hRl,hRs⟩:=levRows_small t nw f l;have hRz:siz (zbw (za6 t nw f l).1)≤2000:=by rw[siz_intss];omega
 have hRc:cnt (zbw (za6 t nw f l).1)≤2000:=by rw[cnt_intss];omega
 have hc0:=DSite.cnt_le nw.sites;have hc1:=DSector.cnt_le nw.sectors;have hc2:=DAntenna.cnt_le nw.antennas;have hc3:=DRadio.cnt_le nw.radios;have hc4:=end_cnt l;have hc5:cnt (zai t.heights)=siz (zai t.heights):=by rw[cnt_ints,zch]
 have hc6:cnt (zai t.clutter)=siz (zai t.clutter):=by rw[cnt_ints,zch]
 have BB0:Hid (Below w.heap.size w w):=Below.refl _ _;generalize hR:za6 t nw f l=R at *;have HR:=Lib.hid hR;clear hR;have HS:Hid (∀ (W:World) (xt3 xt4 xnw0 xnw1 xnw2 xnw3 xl0:Value),Rd W.heap.size W (zai t.heights) xt3→Rd W.heap.size W (zai t.clutter) xt4→Rd W.heap.size W (DSite.sT nw.sites) xnw0→Rd W.heap.size W (DSector.sT nw.sectors) xnw1→Rd W.heap.size W (DAntenna.sT nw.antennas) xnw2→Rd W.heap.size W (DRadio.sT nw.radios) xnw3→Rd W.heap.size W (DEnd.sT l) xl0→sizL t.tr≤1048576→sizL nw.tr≤1048576→siz (DEnd.sT l)≤1048576→Calls Tryz.prog 26 #[.agg #[.int .i64 t.step,.int .i64 t.width,.int .i64 t.height,xt3,xt4],.agg #[xnw0,xnw1,xnw2,xnw3],.int .i64 f,xl0] W (fun e w'=>∃ a0_0 c0_0 fp0,e=.returned (.tuple #[.slice a0_0 R.1.length c0_0,.int .i64 R.2])∧Below W.heap.size W w'∧Own w' (zbw R.1) (.slice a0_0 R.1.length c0_0) fp0∧In W.heap.size w'.heap.size fp0)):=fun W xt3 xt4 xnw0 xnw1 xnw2 xnw3 xl0  yt3 yt4 ynw0 ynw1 ynw2 ynw3 yl0 z0 z1 z2=>by rw[← HR.out];exact sLevelRows_std t nw f l xt3 xt4 xnw0 xnw1 xnw2 xnw3 xl0 W  yt3 yt4 ynw0 ynw1 ynw2 ynw3 yl0 z0 hk_t z1 hk_nw hk_f z2 hk_l
 have HI:Hid (∀ (W:World) (xt3 xt4 xnw0 xnw1 xnw2 xnw3 xl0:Value),TabW W→Rd W.heap.size W (zai t.heights) xt3→Rd W.heap.size W (zai t.clutter) xt4→Rd W.heap.size W (DSite.sT nw.sites) xnw0→Rd W.heap.size W (DSector.sT nw.sectors) xnw1→Rd W.heap.size W (DAntenna.sT nw.antennas) xnw2→Rd W.heap.size W (DRadio.sT nw.radios) xnw3→Rd W.heap.size W (DEnd.sT l) xl0→sizL t.tr≤1048576→sizL nw.tr≤1048576→siz (DEnd.sT l)≤1048576→Calls Tryz.prog 28 #[.agg #[.int .i64 t.step,.int .i64 t.width,.int .i64 t.height,xt3,xt4],.agg #[xnw0,xnw1,xnw2,xnw3],.int .i64 f,xl0] W (fun e w'=>∃ a0_0 c0_0 fp0,e=.returned (.tuple #[.slice a0_0 R.1.length c0_0,.int .i64 R.2])∧Below W.heap.size W w'∧Own w' (zbw R.1) (.slice a0_0 R.1.length c0_0) fp0∧In W.heap.size w'.heap.size fp0)):=fun W xt3 xt4 xnw0 xnw1 xnw2 xnw3 xl0 hll yt3 yt4 ynw0 ynw1 ynw2 ynw3 yl0 z0 z1 z2=>by rw[← HR.out];exact iLevelRows_std t nw f l xt3 xt4 xnw0 xnw1 xnw2 xnw3 xl0 W hll yt3 yt4 ynw0 ynw1 ynw2 ynw3 yl0 z0 hk_t z1 hk_nw hk_f z2 hk_l
 go_enter Tryz.func6,Tryz.ntmps6;go_wp2_with fail;have BX1:Hid (Below w.heap.size w ((w.alloc (.cells #[.int .i64 t.step,.int .i64 t.width,.int .i64 t.height,vt3,vt4] 24)).alloc (.cells #[vnw0,vnw1,vnw2,vnw3] 30))):=((BB0.out.alloc (by first|omega|(simp;done)|(simp<;>omega)) _).alloc (by first|omega|(simp;done)|(simp<;>omega)) _)
 have zx1:=BX1.out.size;refine (sz_Terrain t vt3 vt4 w.heap.size _ _ (Ht3.out.below BX1.out) (Ht4.out.below BX1.out) (by omega) (by omega) (by omega) hk_t).mono ?_;rintro e w1 ⟨⟨cz1,rfl⟩|⟨cz1,rfl⟩,hb1⟩
 case inr =>
  go_wp2;go_ret;exact⟨rfl,BX1.out.trans (hb1.mono (by omega))⟩
 have cy1:decide ((1048576:Int)-sizL t.tr<0)=false:=by simp<;>omega
 have hx1:Below w.heap.size w ((w.alloc (.cells #[.int .i64 t.step,.int .i64 t.width,.int .i64 t.height,vt3,vt4] 24)).alloc (.cells #[vnw0,vnw1,vnw2,vnw3] 30)):=(((Below.refl _ _).alloc (Nat.le_refl _) _).alloc (by first|(simp;done)|(simp<;>omega)) _)
 have hbb1:Below w.heap.size w w1:=hx1.trans (hb1.mono (by first|(simp;done)|(simp<;>omega)));have z1:=hbb1.size;obtain⟨qAt1,_,yAt1⟩:=zag hb1 (b:=w.heap.size) (by first|omega|(simp;done)|(simp<;>omega));obtain⟨qAnw1,_,yAnw1⟩:=zag hb1 (b:=w.heap.size+1) (by first|omega|(simp;done)|(simp<;>omega));have BB1:=Lib.hid (BB0.out.trans (hbb1.mono (by omega)));clear hx1;clear hb1 hbb1;have CZ1:=Lib.hid cy1;go_wp2_with fail;have BX2:Hid (Below w.heap.size w w1):=BB1.out;have zx2:=BX2.out.size
 (try clear zx1)
 refine (sz_Network nw vnw0 vnw1 vnw2 vnw3 w.heap.size _ _ (Hnw0.out.below BX2.out) (Hnw1.out.below BX2.out) (Hnw2.out.below BX2.out) (Hnw3.out.below BX2.out) (by omega) (by omega) (by omega) hk_nw).mono ?_;rintro e w2 ⟨⟨cz2,rfl⟩|⟨cz2,rfl⟩,hb2⟩
 case inr =>
  go_wp2;go_ret;exact⟨rfl,BX2.out.trans (hb2.mono (by omega))⟩
 have cy2:decide (((1048576:Int)-sizL t.tr)-sizL nw.tr<0)=false:=by simp<;>omega
 have hbb2:Below w1.heap.size w1 w2:=hb2;have z2:=hbb2.size;obtain⟨qAt2,_,yAt2⟩:=zag hb2 (b:=w.heap.size) (by first|omega|(simp;done)|(simp<;>omega));obtain⟨qAnw2,_,yAnw2⟩:=zag hb2 (b:=w.heap.size+1) (by first|omega|(simp;done)|(simp<;>omega));have BB2:=Lib.hid (BB1.out.trans (hbb2.mono (by omega)));clear hbb2;have CZ2:=Lib.hid cy2;go_wp2_with fail;have BX3:Hid (Below w.heap.size w w2):=BB2.out;have zx3:=BX3.out.size
 (try clear zx2)
 refine (sz_EndS l _ w.heap.size _ _ (Hl0.out.below BX3.out) (by omega) (by omega) (by omega)).mono ?_;rintro e w3 ⟨⟨cz3,rfl⟩|⟨cz3,rfl⟩,hb3⟩
 case inr =>
  go_wp2;go_ret;exact⟨rfl,BX3.out.trans (hb3.mono (by omega))⟩
 have cy3:decide ((((1048576:Int)-sizL t.tr)-sizL nw.tr)-siz (DEnd.sT l)<0)=false:=by simp<;>omega
 have hbb3:Below w2.heap.size w2 w3:=hb3;have z3:=hbb3.size;obtain⟨qAt3,_,yAt3⟩:=zag hb3 (b:=w.heap.size) (by first|omega|(simp;done)|(simp<;>omega))
 (try clear yAt2)
 obtain⟨qAnw3,_,yAnw3⟩:=zag hb3 (b:=w.heap.size+1) (by first|omega|(simp;done)|(simp<;>omega))
 (try clear yAnw2)
 have BB3:=Lib.hid (BB2.out.trans (hbb3.mono (by omega)));clear hbb3;have CZ3:=Lib.hid cy3;go_wp2;have hcf:w3.cell? ⟨w.heap.size,0,none⟩=some (.int .i64 t.step)∧w3.cell? ⟨w.heap.size,1,none⟩=some (.int .i64 t.width)∧w3.cell? ⟨w.heap.size,2,none⟩=some (.int .i64 t.height)∧w3.cell? ⟨w.heap.size,3,none⟩=some (vt3)∧w3.cell? ⟨w.heap.size,4,none⟩=some (vt4)∧w3.cell? ⟨w.heap.size+1,0,none⟩=some (vnw0)∧w3.cell? ⟨w.heap.size+1,1,none⟩=some (vnw1)∧w3.cell? ⟨w.heap.size+1,2,none⟩=some (vnw2)∧w3.cell? ⟨w.heap.size+1,3,none⟩=some (vnw3):=by refine⟨?_,?_,?_,?_,?_,?_,?_,?_,?_⟩<;>simp[go_sem, *]
 have HKB:Hid (∀ W:World,Below w3.heap.size w3 W→W.cell? ⟨w.heap.size,0,none⟩=some (.int .i64 t.step)∧W.cell? ⟨w.heap.size,1,none⟩=some (.int .i64 t.width)∧W.cell? ⟨w.heap.size,2,none⟩=some (.int .i64 t.height)∧W.cell? ⟨w.heap.size,3,none⟩=some (vt3)∧W.cell? ⟨w.heap.size,4,none⟩=some (vt4)∧W.cell? ⟨w.heap.size+1,0,none⟩=some (vnw0)∧W.cell? ⟨w.heap.size+1,1,none⟩=some (vnw1)∧W.cell? ⟨w.heap.size+1,2,none⟩=some (vnw2)∧W.cell? ⟨w.heap.size+1,3,none⟩=some (vnw3)):=fun W hW=>by
  obtain⟨e0,e1,e2,e3,e4,e5,e6,e7,e8⟩:=hcf;exact⟨(bat hW _ _ (by omega)).trans e0,(bat hW _ _ (by omega)).trans e1,(bat hW _ _ (by omega)).trans e2,(bat hW _ _ (by omega)).trans e3,(bat hW _ _ (by omega)).trans e4,(bat hW _ _ (by omega)).trans e5,(bat hW _ _ (by omega)).trans e6,(bat hW _ _ (by omega)).trans e7,(bat hW _ _ (by omega)).trans e8⟩
 clear hcf;have BBd:Hid (Below w3.heap.size w3 w3.drew):=(Below.refl _ _).drew;go_cut [10,11] (fun s0 s1 wx=>∃ (as00:Option Addr) (cs00:Nat) (fs00:List Nat),s0=.slice as00 R.1.length cs00∧s1=.int .i64 R.2∧Below w3.heap.size w3 wx∧Own wx (zbw R.1) (.slice as00 R.1.length cs00) fs00∧In w3.heap.size wx.heap.size fs00)
 case first =>
  refine zaw 12 (.read 0 (.read 2 (.read 4 (.read 5 (.one 1 (.one 3 (.one 6 (.one 7 (.read 8 (.read 9 (.read 10 (.read 11 .nil)))))))))))) (fun W=>W.cell? ⟨w.heap.size,0,none⟩=some (.int .i64 t.step)∧W.cell? ⟨w.heap.size,1,none⟩=some (.int .i64 t.width)∧W.cell? ⟨w.heap.size,2,none⟩=some (.int .i64 t.height)∧W.cell? ⟨w.heap.size,3,none⟩=some (vt3)∧W.cell? ⟨w.heap.size,4,none⟩=some (vt4)∧W.cell? ⟨w.heap.size+1,0,none⟩=some (vnw0)∧W.cell? ⟨w.heap.size+1,1,none⟩=some (vnw1)∧W.cell? ⟨w.heap.size+1,2,none⟩=some (vnw2)∧W.cell? ⟨w.heap.size+1,3,none⟩=some (vnw3)) (by kernel_rfl) (by kernel_rfl) (HKB.out _ BBd.out) ?_;have zd:w3.heap.size≤w3.drew.heap.size:=Nat.le_refl _;generalize w3.drew=Y at *;refine zaf (v:=?_) rfl (fun _ _ _ h=>h) ?_ ?_
  rotate_left
  ·(intro W hSW;(try dsimp only at hSW);(go_simp<;>with_reducible rfl))
  (try simp only[Act.put,List.setIfInBounds_toArray,List.set_cons_zero,List.set_cons_succ])
  refine zaf (v:=?_) rfl (fun _ _ _ h=>h) ?_ ?_
  rotate_left
  ·(intro W hSW;(try dsimp only at hSW);(go_simp<;>with_reducible rfl))
  (try simp only[Act.put,List.setIfInBounds_toArray,List.set_cons_zero,List.set_cons_succ])
  refine zaf (v:=?_) rfl (fun _ _ _ h=>h) ?_ ?_
  rotate_left
  ·(intro W hSW;(try dsimp only at hSW);(go_simp<;>with_reducible rfl))
  (try simp only[Act.put,List.setIfInBounds_toArray,List.set_cons_zero,List.set_cons_succ])
  refine zaf (v:=?_) rfl (fun _ _ _ h=>h) ?_ ?_
  rotate_left
  ·(intro W hSW;(try dsimp only at hSW);(go_simp<;>with_reducible rfl))
  (try simp only[Act.put,List.setIfInBounds_toArray,List.set_cons_zero,List.set_cons_succ])
  refine zac ?_;refine zab rfl (fun K hK=>?_);go_simp;refine (to_Terrain t _ _ _ ((Ht3.out.below (BB3.out.trans (BBd.out.mono (by omega)))).mono (by omega)) ((Ht4.out.below (BB3.out.trans (BBd.out.mono (by omega)))).mono (by omega)) (by omega)).mono ?_;rintro e Y1 ⟨att3,ctt3,att4,ctt4,ftt,rfl,hb1,ov1,iv1⟩;refine hK.out _ _ (HKB.out _ (BBd.out.trans (hb1.mono (by omega)))) ?_;clear hK K
  (try simp only[Act.put,List.setIfInBounds_toArray,List.set_cons_zero,List.set_cons_succ])
  have OT1:=Lib.hid ov1;have itt:=iv1;clear ov1 iv1;have bs1:Y.heap.size≤Y1.heap.size:=hb1.size;have BY1:=Lib.hid (BBd.out.trans (hb1.mono (by omega)));clear hb1;refine zac ?_;refine zab rfl (fun K hK=>?_);go_simp;refine (to_Network nw _ _ _ _ _ ((Hnw0.out.below (BB3.out.trans (BY1.out.mono (by omega)))).mono (by omega)) ((Hnw1.out.below (BB3.out.trans (BY1.out.mono (by omega)))).mono (by omega)) ((Hnw2.out.below (BB3.out.trans (BY1.out.mono (by omega)))).mono (by omega)) ((Hnw3.out.below (BB3.out.trans (BY1.out.mono (by omega)))).mono (by omega)) (by omega)).mono ?_;rintro e Y2 ⟨atnw0,ctnw0,atnw1,ctnw1,atnw2,ctnw2,atnw3,ctnw3,ftnw,rfl,hb2,ov2,iv2⟩;refine hK.out _ _ (HKB.out _ (BY1.out.trans (hb2.mono (by omega)))) ?_;clear hK K
  (try simp only[Act.put,List.setIfInBounds_toArray,List.set_cons_zero,List.set_cons_succ])
  have OT2:=Lib.hid ov2;have itnw:=iv2;clear ov2 iv2;have bs2:Y1.heap.size≤Y2.heap.size:=hb2.size;have BY2:=Lib.hid (BY1.out.trans (hb2.mono (by omega)));have OT2_t:=Lib.hid (OT1.out.below itt (by omega) hb2);clear hb2;refine zac ?_;refine zab rfl (fun K hK=>?_);go_simp;refine (to_EndS l _ _ ((Hl0.out.below (BB3.out.trans (BY2.out.mono (by omega)))).mono (by omega)) (by omega)).mono ?_;rintro e Y3 ⟨atl0,ctl0,ftl,rfl,hb3,ov3,iv3⟩;refine hK.out _ _ (HKB.out _ (BY2.out.trans (hb3.mono (by omega)))) ?_;clear hK K
  (try simp only[Act.put,List.setIfInBounds_toArray,List.set_cons_zero,List.set_cons_succ])
  have OT3:=Lib.hid ov3;have itl:=iv3;clear ov3 iv3;have bs3:Y2.heap.size≤Y3.heap.size:=hb3.size;have BY3:=Lib.hid (BY2.out.trans (hb3.mono (by omega)));have OT3_t:=Lib.hid (OT2_t.out.below itt (by omega) hb3);have OT3_nw:=Lib.hid (OT2.out.below itnw (by omega) hb3);clear hb3;refine zac ?_;refine zab rfl (fun K hK=>?_);go_simp;refine (HS.out _ _ _ _ _ _ _ _ (((OT3_t.out.rd itt).2.2.2.1).mono (by omega)) (((OT3_t.out.rd itt).2.2.2.2.1).mono (by omega)) (((OT3_nw.out.rd itnw).1).mono (by omega)) (((OT3_nw.out.rd itnw).2.1).mono (by omega)) (((OT3_nw.out.rd itnw).2.2.1).mono (by omega)) (((OT3_nw.out.rd itnw).2.2.2.1).mono (by omega)) (((OT3.out.rd itl)).mono (by omega)) (by omega) (by omega) (by omega)).mono ?_;rintro e Y4 ⟨as00,cs00,fs00,rfl,hb4,ov4,iv4⟩;refine hK.out _ _ (HKB.out _ (BY3.out.trans (hb4.mono (by omega)))) ?_;clear hK K
  (try simp only[Act.put,List.setIfInBounds_toArray,List.set_cons_zero,List.set_cons_succ])
  have OR4:=Lib.hid ov4;have IR4:=Lib.hid iv4;clear ov4 iv4;have bs4:Y3.heap.size≤Y4.heap.size:=hb4.size;have BY4:=Lib.hid (BY3.out.trans (hb4.mono (by omega)));clear hb4;refine zaf (v:=?_) rfl (fun _ _ _ h=>h) ?_ ?_
  rotate_left
  ·(intro W hSW;(try dsimp only at hSW);(go_simp<;>with_reducible rfl))
  (try simp only[Act.put,List.setIfInBounds_toArray,List.set_cons_zero,List.set_cons_succ])
  refine zaf (v:=?_) rfl (fun _ _ _ h=>h) ?_ ?_
  rotate_left
  ·(intro W hSW;(try dsimp only at hSW);(go_simp<;>with_reducible rfl))
  (try simp only[Act.put,List.setIfInBounds_toArray,List.set_cons_zero,List.set_cons_succ])
  refine zaf (v:=?_) rfl (fun _ _ _ h=>h) ?_ ?_
  rotate_left
  ·(intro W hSW;(try dsimp only at hSW);(go_simp<;>with_reducible rfl))
  (try simp only[Act.put,List.setIfInBounds_toArray,List.set_cons_zero,List.set_cons_succ])
  refine zaf (v:=?_) rfl (fun _ _ _ h=>h) ?_ ?_
  rotate_left
  ·(intro W hSW;(try dsimp only at hSW);(go_simp<;>with_reducible rfl))
  (try simp only[Act.put,List.setIfInBounds_toArray,List.set_cons_zero,List.set_cons_succ])
  refine zak ?_;simp only[List.drop_succ_cons,List.drop_zero];go_wp2_with fail;go_meet;exact⟨_,_,_,rfl,rfl,BY4.out,OR4.out,IR4.out.mono (by omega) (Nat.le_refl _)⟩
 obtain⟨as00,cs00,fs00,rfl,rfl,hb4,ows0,iws0⟩:=hcut;generalize wc=w4 at *;clear HKB BBd;have hbb4:Below w3.heap.size w3 w4:=hb4;have z4:=hbb4.size;obtain⟨qAt4,_,yAt4⟩:=zag hb4 (b:=w.heap.size) (by first|omega|(simp;done)|(simp<;>omega))
 (try clear yAt3)
 obtain⟨qAnw4,_,yAnw4⟩:=zag hb4 (b:=w.heap.size+1) (by first|omega|(simp;done)|(simp<;>omega))
 (try clear yAnw3)
 have BB4:=Lib.hid (BB3.out.trans (hbb4.mono (by omega)));clear hbb4;have is00:=iws0;have os00_4:=Lib.hid ows0;clear iws0 ows0;go_wp2_with fail;have BX5:Hid (Below w.heap.size w w4):=BB4.out;have zx5:=BX5.out.size
 (try clear zx3)
 refine (to_Terrain t _ _ _ ((Ht3.out.below BX5.out).mono zx5) ((Ht4.out.below BX5.out).mono zx5) (by omega)).mono ?_;rintro e w5 ⟨aut3,cut3,aut4,cut4,fut,rfl,hb5,ov5,iv5⟩;have hbb5:Below w4.heap.size w4 w5:=hb5;have z5:=hbb5.size;obtain⟨qAt5,_,yAt5⟩:=zag hb5 (b:=w.heap.size) (by first|omega|(simp;done)|(simp<;>omega))
 (try clear yAt4)
 obtain⟨qAnw5,_,yAnw5⟩:=zag hb5 (b:=w.heap.size+1) (by first|omega|(simp;done)|(simp<;>omega))
 (try clear yAnw4)
 have BB5:=Lib.hid (BB4.out.trans (hbb5.mono (by omega)));have os00_5:=Lib.hid (os00_4.out.below is00 (by omega) hbb5);clear hbb5;obtain⟨g5_0,r5_0,e5_0,p5_0,ov5_0,d5_0⟩:=OwnV.uncons ov5;obtain⟨_,hz5_0⟩:=zc3.1 p5_0.rep;subst hz5_0;obtain⟨g5_1,r5_1,e5_1,p5_1,ov5_1,d5_1⟩:=OwnV.uncons ov5_0;obtain⟨_,hz5_1⟩:=zc3.1 p5_1.rep;subst hz5_1;obtain⟨g5_2,r5_2,e5_2,p5_2,ov5_2,d5_2⟩:=OwnV.uncons ov5_1;obtain⟨_,hz5_2⟩:=zc3.1 p5_2.rep;subst hz5_2;obtain⟨g5_3,r5_3,e5_3,p5_3,ov5_3,d5_3⟩:=OwnV.uncons ov5_2;obtain⟨g5_4,r5_4,e5_4,p5_4,ov5_4,d5_4⟩:=OwnV.uncons ov5_3;have iw5:=iv5.mono (lo':=w4.heap.size+0) (by first|omega|(simp;done)|(simp<;>omega)) (Nat.le_refl _);have hnil5:=ov5_4.rep;change r5_4 = [] at hnil5
 subst hnil5;subst e5_4;subst e5_3;subst e5_2;subst e5_1;subst e5_0;have iut3:In _ _ g5_3:=fun y hy=>iw5 y (by simp[hy])
 have out3_5:=Lib.hid p5_3;have iut4:In _ _ g5_4:=fun y hy=>iw5 y (by simp[hy])
 have out4_5:=Lib.hid p5_4;have djut3_4:∀ y ∈ g5_3,y ∉ g5_4:=fun y hy e=>d5_3 y hy (by simp[e])
 clear p5_0 ov5_0 d5_0 p5_1 ov5_1 d5_1 p5_2 ov5_2 d5_2 p5_3 ov5_3 d5_3 p5_4 ov5_4 d5_4 ov5 iv5 iw5;go_wp2_with fail;have BX6:Hid (Below w.heap.size w (w5.alloc (.cells #[.int .i64 t.step,.int .i64 t.width,.int .i64 t.height,.slice aut3 t.heights.length cut3,.slice aut4 t.clutter.length cut4] 39))):=(BB5.out.alloc (by first|omega|(simp;done)|(simp<;>omega)) _)
 have zx6:=BX6.out.size
 (try clear zx5)
 refine (to_Network nw _ _ _ _ _ ((Hnw0.out.below BX6.out).mono zx6) ((Hnw1.out.below BX6.out).mono zx6) ((Hnw2.out.below BX6.out).mono zx6) ((Hnw3.out.below BX6.out).mono zx6) (by omega)).mono ?_;rintro e w6 ⟨aunw0,cunw0,aunw1,cunw1,aunw2,cunw2,aunw3,cunw3,funw,rfl,hb6,ov6,iv6⟩;have hx6:Below w5.heap.size w5 (w5.alloc (.cells #[.int .i64 t.step,.int .i64 t.width,.int .i64 t.height,.slice aut3 t.heights.length cut3,.slice aut4 t.clutter.length cut4] 39)):=((Below.refl _ _).alloc (Nat.le_refl _) _)
 have hbb6:Below w5.heap.size w5 w6:=hx6.trans (hb6.mono (by first|(simp;done)|(simp<;>omega)));have z6:=hbb6.size;obtain⟨qAt6,_,yAt6⟩:=zag hb6 (b:=w.heap.size) (by first|omega|(simp;done)|(simp<;>omega));obtain⟨qAnw6,_,yAnw6⟩:=zag hb6 (b:=w.heap.size+1) (by first|omega|(simp;done)|(simp<;>omega));obtain⟨qUt6,_,yUt6⟩:=zag hb6 (b:=w5.heap.size) (by first|omega|(simp;done)|(simp<;>omega));have BB6:=Lib.hid (BB5.out.trans (hbb6.mono (by omega)));have os00_6:=Lib.hid (os00_5.out.below is00 (by omega) hbb6);have out3_6:=Lib.hid (out3_5.out.below iut3 (by omega) hbb6);have out4_6:=Lib.hid (out4_5.out.below iut4 (by omega) hbb6);clear hx6;clear hb6 hbb6;obtain⟨g6_0,r6_0,e6_0,p6_0,ov6_0,d6_0⟩:=OwnV.uncons ov6;obtain⟨g6_1,r6_1,e6_1,p6_1,ov6_1,d6_1⟩:=OwnV.uncons ov6_0;obtain⟨g6_2,r6_2,e6_2,p6_2,ov6_2,d6_2⟩:=OwnV.uncons ov6_1;obtain⟨g6_3,r6_3,e6_3,p6_3,ov6_3,d6_3⟩:=OwnV.uncons ov6_2;have iw6:=iv6.mono (lo':=w5.heap.size+1) (by first|omega|(simp;done)|(simp<;>omega)) (Nat.le_refl _);have hnil6:=ov6_3.rep;change r6_3 = [] at hnil6
 subst hnil6;subst e6_3;subst e6_2;subst e6_1;subst e6_0;have iunw0:In _ _ g6_0:=fun y hy=>iw6 y (by simp[hy])
 have ounw0_6:=Lib.hid p6_0;have iunw1:In _ _ g6_1:=fun y hy=>iw6 y (by simp[hy])
 have ounw1_6:=Lib.hid p6_1;have iunw2:In _ _ g6_2:=fun y hy=>iw6 y (by simp[hy])
 have ounw2_6:=Lib.hid p6_2;have iunw3:In _ _ g6_3:=fun y hy=>iw6 y (by simp[hy])
 have ounw3_6:=Lib.hid p6_3;have djunw0_1:∀ y ∈ g6_0,y ∉ g6_1:=fun y hy e=>d6_0 y hy (by simp[e])
 have djunw0_2:∀ y ∈ g6_0,y ∉ g6_2:=fun y hy e=>d6_0 y hy (by simp[e])
 have djunw0_3:∀ y ∈ g6_0,y ∉ g6_3:=fun y hy e=>d6_0 y hy (by simp[e])
 have djunw1_2:∀ y ∈ g6_1,y ∉ g6_2:=fun y hy e=>d6_1 y hy (by simp[e])
 have djunw1_3:∀ y ∈ g6_1,y ∉ g6_3:=fun y hy e=>d6_1 y hy (by simp[e])
 have djunw2_3:∀ y ∈ g6_2,y ∉ g6_3:=fun y hy e=>d6_2 y hy (by simp[e])
 clear p6_0 ov6_0 d6_0 p6_1 ov6_1 d6_1 p6_2 ov6_2 d6_2 p6_3 ov6_3 d6_3 ov6 iv6 iw6;go_wp2_with fail;have BX7:Hid (Below w.heap.size w (w6.alloc (.cells #[.slice aunw0 nw.sites.length cunw0,.slice aunw1 nw.sectors.length cunw1,.slice aunw2 nw.antennas.length cunw2,.slice aunw3 nw.radios.length cunw3] 46))):=(BB6.out.alloc (by first|omega|(simp;done)|(simp<;>omega)) _)
 have zx7:=BX7.out.size
 (try clear zx6)
 refine (to_EndS l _ _ ((Hl0.out.below BX7.out).mono zx7) (by omega)).mono ?_;rintro e w7 ⟨aul0,cul0,ful0,rfl,hb7,ov7,iqul0⟩;have iul0:=iqul0.mono (lo':=w6.heap.size+1) (by first|omega|(simp;done)|(simp<;>omega)) (Nat.le_refl _);clear iqul0;have hx7:Below w6.heap.size w6 (w6.alloc (.cells #[.slice aunw0 nw.sites.length cunw0,.slice aunw1 nw.sectors.length cunw1,.slice aunw2 nw.antennas.length cunw2,.slice aunw3 nw.radios.length cunw3] 46)):=((Below.refl _ _).alloc (Nat.le_refl _) _)
 have hbb7:Below w6.heap.size w6 w7:=hx7.trans (hb7.mono (by first|(simp;done)|(simp<;>omega)));have z7:=hbb7.size;obtain⟨qAt7,_,yAt7⟩:=zag hb7 (b:=w.heap.size) (by first|omega|(simp;done)|(simp<;>omega));obtain⟨qAnw7,_,yAnw7⟩:=zag hb7 (b:=w.heap.size+1) (by first|omega|(simp;done)|(simp<;>omega));obtain⟨qUt7,_,yUt7⟩:=zag hb7 (b:=w5.heap.size) (by first|omega|(simp;done)|(simp<;>omega));obtain⟨qUnw7,_,yUnw7⟩:=zag hb7 (b:=w6.heap.size) (by first|omega|(simp;done)|(simp<;>omega));have BB7:=Lib.hid (BB6.out.trans (hbb7.mono (by omega)));have os00_7:=Lib.hid (os00_6.out.below is00 (by omega) hbb7);have out3_7:=Lib.hid (out3_6.out.below iut3 (by omega) hbb7);have out4_7:=Lib.hid (out4_6.out.below iut4 (by omega) hbb7);have ounw0_7:=Lib.hid (ounw0_6.out.below iunw0 (by omega) hbb7);have ounw1_7:=Lib.hid (ounw1_6.out.below iunw1 (by omega) hbb7);have ounw2_7:=Lib.hid (ounw2_6.out.below iunw2 (by omega) hbb7);have ounw3_7:=Lib.hid (ounw3_6.out.below iunw3 (by omega) hbb7);clear hx7;clear hb7 hbb7;have oul0_7:=Lib.hid ov7;clear ov7;go_wp2_with fail;have BX8:Hid (Below w.heap.size w w7):=BB7.out;have zx8:=BX8.out.size
 (try clear zx7)
 refine (HI.out _ _ _ _ _ _ _ _ (HLL.out.mono BX8.out) ((out3_7.out.rd iut3).mono (by omega)) ((out4_7.out.rd iut4).mono (by omega)) ((ounw0_7.out.rd iunw0).mono (by omega)) ((ounw1_7.out.rd iunw1).mono (by omega)) ((ounw2_7.out.rd iunw2).mono (by omega)) ((ounw3_7.out.rd iunw3).mono (by omega)) ((oul0_7.out.rd iul0).mono (by omega)) (by omega) (by omega) (by omega)).mono ?_;rintro e w8 ⟨ag00,cg00,fg00,rfl,hb8,owg0,iwg0⟩;have ig00:=iwg0.mono (lo':=w7.heap.size+0) (by first|omega|(simp;done)|(simp<;>omega)) (Nat.le_refl _);clear iwg0;have hbb8:Below w7.heap.size w7 w8:=hb8;have z8:=hbb8.size;obtain⟨qAt8,_,yAt8⟩:=zag hb8 (b:=w.heap.size) (by first|omega|(simp;done)|(simp<;>omega))
 (try clear yAt7)
 obtain⟨qAnw8,_,yAnw8⟩:=zag hb8 (b:=w.heap.size+1) (by first|omega|(simp;done)|(simp<;>omega))
 (try clear yAnw7)
 obtain⟨qUt8,_,yUt8⟩:=zag hb8 (b:=w5.heap.size) (by first|omega|(simp;done)|(simp<;>omega))
 (try clear yUt7)
 obtain⟨qUnw8,_,yUnw8⟩:=zag hb8 (b:=w6.heap.size) (by first|omega|(simp;done)|(simp<;>omega));have BB8:=Lib.hid (BB7.out.trans (hbb8.mono (by omega)));have os00_8:=Lib.hid (os00_7.out.below is00 (by omega) hbb8);have out3_8:=Lib.hid (out3_7.out.below iut3 (by omega) hbb8);have out4_8:=Lib.hid (out4_7.out.below iut4 (by omega) hbb8);have ounw0_8:=Lib.hid (ounw0_7.out.below iunw0 (by omega) hbb8);have ounw1_8:=Lib.hid (ounw1_7.out.below iunw1 (by omega) hbb8);have ounw2_8:=Lib.hid (ounw2_7.out.below iunw2 (by omega) hbb8);have ounw3_8:=Lib.hid (ounw3_7.out.below iunw3 (by omega) hbb8);have oul0_8:=Lib.hid (oul0_7.out.below iul0 (by omega) hbb8);clear hbb8;have og00_8:=Lib.hid owg0;clear owg0;go_wp2_with fail;refine ((eq_Int64SS R.1 _ _ w8.heap.size _ ((og00_8.out.rd ig00).mono (by omega)) ((os00_8.out.rd is00).mono (by omega)) (Nat.le_refl _) (by omega))).mono ?_;rintro e w9 ⟨rfl,hb9⟩;have hbb9:Below w8.heap.size w8 w9:=hb9;have z9:=hbb9.size;obtain⟨qAt9,_,yAt9⟩:=zag hb9 (b:=w.heap.size) (by first|omega|(simp;done)|(simp<;>omega))
 (try clear yAt8)
 obtain⟨qAnw9,_,yAnw9⟩:=zag hb9 (b:=w.heap.size+1) (by first|omega|(simp;done)|(simp<;>omega))
 (try clear yAnw8)
 obtain⟨qUt9,_,yUt9⟩:=zag hb9 (b:=w5.heap.size) (by first|omega|(simp;done)|(simp<;>omega))
 (try clear yUt8)
 obtain⟨qUnw9,_,yUnw9⟩:=zag hb9 (b:=w6.heap.size) (by first|omega|(simp;done)|(simp<;>omega))
 (try clear yUnw8)
 have BB9:=Lib.hid (BB8.out.trans (hbb9.mono (by omega)));have os00_9:=Lib.hid (os00_8.out.below is00 (by omega) hbb9);have out3_9:=Lib.hid (out3_8.out.below iut3 (by omega) hbb9);have out4_9:=Lib.hid (out4_8.out.below iut4 (by omega) hbb9);have ounw0_9:=Lib.hid (ounw0_8.out.below iunw0 (by omega) hbb9);have ounw1_9:=Lib.hid (ounw1_8.out.below iunw1 (by omega) hbb9);have ounw2_9:=Lib.hid (ounw2_8.out.below iunw2 (by omega) hbb9);have ounw3_9:=Lib.hid (ounw3_8.out.below iunw3 (by omega) hbb9);have oul0_9:=Lib.hid (oul0_8.out.below iul0 (by omega) hbb9);have og00_9:=Lib.hid (og00_8.out.below ig00 (by omega) hbb9);clear hbb9;clear cy1 cy2 cy3;have hcf:w9.cell? ⟨w5.heap.size,0,none⟩=some (.int .i64 t.step)∧w9.cell? ⟨w5.heap.size,1,none⟩=some (.int .i64 t.width)∧w9.cell? ⟨w5.heap.size,2,none⟩=some (.int .i64 t.height)∧w9.cell? ⟨w5.heap.size,3,none⟩=some (.slice aut3 t.heights.length cut3)∧w9.cell? ⟨w5.heap.size,4,none⟩=some (.slice aut4 t.clutter.length cut4)∧w9.cell? ⟨w.heap.size,0,none⟩=some (.int .i64 t.step)∧w9.cell? ⟨w.heap.size,1,none⟩=some (.int .i64 t.width)∧w9.cell? ⟨w.heap.size,2,none⟩=some (.int .i64 t.height)∧w9.cell? ⟨w.heap.size,3,none⟩=some (vt3)∧w9.cell? ⟨w.heap.size,4,none⟩=some (vt4):=by refine⟨?_,?_,?_,?_,?_,?_,?_,?_,?_,?_⟩<;>simp[go_sem, *]
 go_wp2;have hsame:Below w9.heap.size w9 w9.drew:=⟨rfl,rfl,rfl,Nat.le_refl _,fun _ _=>rfl⟩
 have BBd:=Lib.hid BB9.out.drew;have HTO:=Lib.hid (to_Terrain t vt3 vt4 w9.drew ((Ht3.out.below BBd.out).mono (by show w.heap.size≤w9.heap.size;omega)) ((Ht4.out.below BBd.out).mono (by show w.heap.size≤w9.heap.size;omega)) (by omega));have HEQ:Hid (∀ (W:World) (p3 p4 q3 q4:Value),Below w9.heap.size w9 W→RdV W.heap.size W t.tr [.int .i64 t.step,.int .i64 t.width,.int .i64 t.height,q3,q4]→p3=.slice aut3 t.heights.length cut3→p4=.slice aut4 t.clutter.length cut4→Calls Tryz.prog 14 #[.agg #[.int .i64 t.step,.int .i64 t.width,.int .i64 t.height,p3,p4],.agg #[.int .i64 t.step,.int .i64 t.width,.int .i64 t.height,q3,q4]] W fun e w'=>e=.returned (.bool true)∧Below W.heap.size W w'):=fun W p3 p4 q3 q4 hW hr e3 e4=>by
  subst e3 e4;have hzW:=hW.size;exact eq_Terrain t _ _ _ _ W.heap.size W (((out3_9.out.below iut3 (by omega) hW).rd iut3).mono (by omega)) hr.2.2.2.1 (((out4_9.out.below iut4 (by omega) hW).rd iut4).mono (by omega)) hr.2.2.2.2.1 (Nat.le_refl _) (by omega)
 go_region_held3 (fun W=>W.cell? ⟨w5.heap.size,0,none⟩=some (.int .i64 t.step)∧W.cell? ⟨w5.heap.size,1,none⟩=some (.int .i64 t.width)∧W.cell? ⟨w5.heap.size,2,none⟩=some (.int .i64 t.height)∧W.cell? ⟨w5.heap.size,3,none⟩=some (.slice aut3 t.heights.length cut3)∧W.cell? ⟨w5.heap.size,4,none⟩=some (.slice aut4 t.clutter.length cut4)∧W.cell? ⟨w.heap.size,0,none⟩=some (.int .i64 t.step)∧W.cell? ⟨w.heap.size,1,none⟩=some (.int .i64 t.width)∧W.cell? ⟨w.heap.size,2,none⟩=some (.int .i64 t.height)∧W.cell? ⟨w.heap.size,3,none⟩=some (vt3)∧W.cell? ⟨w.heap.size,4,none⟩=some (vt4)) (first|exact hcf|(refine⟨?_,?_,?_,?_,?_,?_,?_,?_,?_,?_⟩<;>simp[go_sem, *]))
  (first
   | (go_at_call 10;refine (HTO.out).mono ?_;rintro e wt ⟨at3,ct3,at4,ct4,ft,rfl,hbt,ovt,ivt⟩;obtain⟨qUt,_,yUt⟩:=zag hbt (b:=w5.heap.size) (by show w5.heap.size<w9.heap.size;omega);obtain⟨qAt,_,yAt⟩:=zag hbt (b:=w.heap.size) (by show w.heap.size<w9.heap.size;omega))
   | (go_at_call 14;refine (HEQ.out _ _ _ _ _ (hsame.trans hbt) (ovt.rd ivt) rfl rfl).mono ?_;rintro e w10 ⟨rfl,hbe⟩;obtain⟨qUe,_,yUe⟩:=zag hbe (b:=w5.heap.size) yUt;obtain⟨qAe,_,yAe⟩:=zag hbe (b:=w.heap.size) yAt))
 have hb10:Below w9.heap.size w9 w10:=(hsame.trans hbt).trans (hbe.mono (hsame.trans hbt).size);clear HEQ HTO BBd hcf qUt qAt qUe qAe yUt yAt yUe yAe hbe hbt ovt ivt hsame;have hbb10:Below w9.heap.size w9 w10:=hb10;have z10:=hbb10.size;obtain⟨qAt10,_,yAt10⟩:=zag hb10 (b:=w.heap.size) (by first|omega|(simp;done)|(simp<;>omega))
 (try clear yAt9)
 obtain⟨qAnw10,_,yAnw10⟩:=zag hb10 (b:=w.heap.size+1) (by first|omega|(simp;done)|(simp<;>omega))
 (try clear yAnw9)
 obtain⟨qUt10,_,yUt10⟩:=zag hb10 (b:=w5.heap.size) (by first|omega|(simp;done)|(simp<;>omega))
 (try clear yUt9)
 obtain⟨qUnw10,_,yUnw10⟩:=zag hb10 (b:=w6.heap.size) (by first|omega|(simp;done)|(simp<;>omega))
 (try clear yUnw9)
 have BB10:=Lib.hid (BB9.out.trans (hbb10.mono (by omega)));have os00_10:=Lib.hid (os00_9.out.below is00 (by omega) hbb10);have out3_10:=Lib.hid (out3_9.out.below iut3 (by omega) hbb10);have out4_10:=Lib.hid (out4_9.out.below iut4 (by omega) hbb10);have ounw0_10:=Lib.hid (ounw0_9.out.below iunw0 (by omega) hbb10);have ounw1_10:=Lib.hid (ounw1_9.out.below iunw1 (by omega) hbb10);have ounw2_10:=Lib.hid (ounw2_9.out.below iunw2 (by omega) hbb10);have ounw3_10:=Lib.hid (ounw3_9.out.below iunw3 (by omega) hbb10);have oul0_10:=Lib.hid (oul0_9.out.below iul0 (by omega) hbb10);have og00_10:=Lib.hid (og00_9.out.below ig00 (by omega) hbb10);clear hbb10;have hcf:w10.cell? ⟨w6.heap.size,0,none⟩=some (.slice aunw0 nw.sites.length cunw0)∧w10.cell? ⟨w6.heap.size,1,none⟩=some (.slice aunw1 nw.sectors.length cunw1)∧w10.cell? ⟨w6.heap.size,2,none⟩=some (.slice aunw2 nw.antennas.length cunw2)∧w10.cell? ⟨w6.heap.size,3,none⟩=some (.slice aunw3 nw.radios.length cunw3)∧w10.cell? ⟨w.heap.size+1,0,none⟩=some (vnw0)∧w10.cell? ⟨w.heap.size+1,1,none⟩=some (vnw1)∧w10.cell? ⟨w.heap.size+1,2,none⟩=some (vnw2)∧w10.cell? ⟨w.heap.size+1,3,none⟩=some (vnw3):=by refine⟨?_,?_,?_,?_,?_,?_,?_,?_⟩<;>simp[go_sem, *]
 go_wp2;have hsame:Below w10.heap.size w10 w10.drew:=⟨rfl,rfl,rfl,Nat.le_refl _,fun _ _=>rfl⟩
 have BBd:=Lib.hid BB10.out.drew;have HTO:=Lib.hid (to_Network nw vnw0 vnw1 vnw2 vnw3 w10.drew ((Hnw0.out.below BBd.out).mono (by show w.heap.size≤w10.heap.size;omega)) ((Hnw1.out.below BBd.out).mono (by show w.heap.size≤w10.heap.size;omega)) ((Hnw2.out.below BBd.out).mono (by show w.heap.size≤w10.heap.size;omega)) ((Hnw3.out.below BBd.out).mono (by show w.heap.size≤w10.heap.size;omega)) (by omega));have HEQ:Hid (∀ (W:World) (p0 p1 p2 p3 q0 q1 q2 q3:Value),Below w10.heap.size w10 W→RdV W.heap.size W nw.tr [q0,q1,q2,q3]→p0=.slice aunw0 nw.sites.length cunw0→p1=.slice aunw1 nw.sectors.length cunw1→p2=.slice aunw2 nw.antennas.length cunw2→p3=.slice aunw3 nw.radios.length cunw3→Calls Tryz.prog 15 #[.agg #[p0,p1,p2,p3],.agg #[q0,q1,q2,q3]] W fun e w'=>e=.returned (.bool true)∧Below W.heap.size W w'):=fun W p0 p1 p2 p3 q0 q1 q2 q3 hW hr e0 e1 e2 e3=>by
  subst e0 e1 e2 e3;have hzW:=hW.size;exact eq_Network nw _ _ _ _ _ _ _ _ W.heap.size W (((ounw0_10.out.below iunw0 (by omega) hW).rd iunw0).mono (by omega)) hr.1 (((ounw1_10.out.below iunw1 (by omega) hW).rd iunw1).mono (by omega)) hr.2.1 (((ounw2_10.out.below iunw2 (by omega) hW).rd iunw2).mono (by omega)) hr.2.2.1 (((ounw3_10.out.below iunw3 (by omega) hW).rd iunw3).mono (by omega)) hr.2.2.2.1 (Nat.le_refl _) (by omega)
 go_region_held3 (fun W=>W.cell? ⟨w6.heap.size,0,none⟩=some (.slice aunw0 nw.sites.length cunw0)∧W.cell? ⟨w6.heap.size,1,none⟩=some (.slice aunw1 nw.sectors.length cunw1)∧W.cell? ⟨w6.heap.size,2,none⟩=some (.slice aunw2 nw.antennas.length cunw2)∧W.cell? ⟨w6.heap.size,3,none⟩=some (.slice aunw3 nw.radios.length cunw3)∧W.cell? ⟨w.heap.size+1,0,none⟩=some (vnw0)∧W.cell? ⟨w.heap.size+1,1,none⟩=some (vnw1)∧W.cell? ⟨w.heap.size+1,2,none⟩=some (vnw2)∧W.cell? ⟨w.heap.size+1,3,none⟩=some (vnw3)) (first|exact hcf|(refine⟨?_,?_,?_,?_,?_,?_,?_,?_⟩<;>simp[go_sem, *]))
  (first
   | (go_at_call 11;refine (HTO.out).mono ?_;rintro e wt ⟨at0,ct0,at1,ct1,at2,ct2,at3,ct3,ft,rfl,hbt,ovt,ivt⟩;obtain⟨qUt,_,yUt⟩:=zag hbt (b:=w6.heap.size) (by show w6.heap.size<w10.heap.size;omega);obtain⟨qAt,_,yAt⟩:=zag hbt (b:=w.heap.size+1) (by show w.heap.size+1<w10.heap.size;omega))
   | (go_at_call 15;refine (HEQ.out _ _ _ _ _ _ _ _ _ (hsame.trans hbt) (ovt.rd ivt) rfl rfl rfl rfl).mono ?_;rintro e w11 ⟨rfl,hbe⟩;obtain⟨qUe,_,yUe⟩:=zag hbe (b:=w6.heap.size) yUt;obtain⟨qAe,_,yAe⟩:=zag hbe (b:=w.heap.size+1) yAt))
 have hb11:Below w10.heap.size w10 w11:=(hsame.trans hbt).trans (hbe.mono (hsame.trans hbt).size);clear HEQ HTO BBd hcf qUt qAt qUe qAe yUt yAt yUe yAe hbe hbt ovt ivt hsame;have hbb11:Below w10.heap.size w10 w11:=hb11;have z11:=hbb11.size;obtain⟨qAt11,_,yAt11⟩:=zag hb11 (b:=w.heap.size) (by first|omega|(simp;done)|(simp<;>omega))
 (try clear yAt10)
 obtain⟨qAnw11,_,yAnw11⟩:=zag hb11 (b:=w.heap.size+1) (by first|omega|(simp;done)|(simp<;>omega))
 (try clear yAnw10)
 obtain⟨qUt11,_,yUt11⟩:=zag hb11 (b:=w5.heap.size) (by first|omega|(simp;done)|(simp<;>omega))
 (try clear yUt10)
 obtain⟨qUnw11,_,yUnw11⟩:=zag hb11 (b:=w6.heap.size) (by first|omega|(simp;done)|(simp<;>omega))
 (try clear yUnw10)
 have BB11:=Lib.hid (BB10.out.trans (hbb11.mono (by omega)));have os00_11:=Lib.hid (os00_10.out.below is00 (by omega) hbb11);have out3_11:=Lib.hid (out3_10.out.below iut3 (by omega) hbb11);have out4_11:=Lib.hid (out4_10.out.below iut4 (by omega) hbb11);have ounw0_11:=Lib.hid (ounw0_10.out.below iunw0 (by omega) hbb11);have ounw1_11:=Lib.hid (ounw1_10.out.below iunw1 (by omega) hbb11);have ounw2_11:=Lib.hid (ounw2_10.out.below iunw2 (by omega) hbb11);have ounw3_11:=Lib.hid (ounw3_10.out.below iunw3 (by omega) hbb11);have oul0_11:=Lib.hid (oul0_10.out.below iul0 (by omega) hbb11);have og00_11:=Lib.hid (og00_10.out.below ig00 (by omega) hbb11);clear hbb11;go_wp2_with fail;have BX12:Hid (Below w.heap.size w w11):=BB11.out;have zx12:=BX12.out.size
 (try clear zx8)
 refine (to_EndS l _ _ ((Hl0.out.below BX12.out).mono zx12) (by omega)).mono ?_;rintro e w12 ⟨anl0,cnl0,fnl0,rfl,hb12,ov12,iqnl0⟩;have inl0:=iqnl0.mono (lo':=w11.heap.size+0) (by first|omega|(simp;done)|(simp<;>omega)) (Nat.le_refl _);clear iqnl0;have hbb12:Below w11.heap.size w11 w12:=hb12;have z12:=hbb12.size;obtain⟨qAt12,_,yAt12⟩:=zag hb12 (b:=w.heap.size) (by first|omega|(simp;done)|(simp<;>omega))
 (try clear yAt11)
 obtain⟨qAnw12,_,yAnw12⟩:=zag hb12 (b:=w.heap.size+1) (by first|omega|(simp;done)|(simp<;>omega))
 (try clear yAnw11)
 obtain⟨qUt12,_,yUt12⟩:=zag hb12 (b:=w5.heap.size) (by first|omega|(simp;done)|(simp<;>omega))
 (try clear yUt11)
 obtain⟨qUnw12,_,yUnw12⟩:=zag hb12 (b:=w6.heap.size) (by first|omega|(simp;done)|(simp<;>omega))
 (try clear yUnw11)
 have BB12:=Lib.hid (BB11.out.trans (hbb12.mono (by omega)));have os00_12:=Lib.hid (os00_11.out.below is00 (by omega) hbb12);have out3_12:=Lib.hid (out3_11.out.below iut3 (by omega) hbb12);have out4_12:=Lib.hid (out4_11.out.below iut4 (by omega) hbb12);have ounw0_12:=Lib.hid (ounw0_11.out.below iunw0 (by omega) hbb12);have ounw1_12:=Lib.hid (ounw1_11.out.below iunw1 (by omega) hbb12);have ounw2_12:=Lib.hid (ounw2_11.out.below iunw2 (by omega) hbb12);have ounw3_12:=Lib.hid (ounw3_11.out.below iunw3 (by omega) hbb12);have oul0_12:=Lib.hid (oul0_11.out.below iul0 (by omega) hbb12);have og00_12:=Lib.hid (og00_11.out.below ig00 (by omega) hbb12);clear hbb12;have onl0_12:=Lib.hid ov12;clear ov12;go_wp2_with fail;refine ((eq_EndS l _ _ w12.heap.size _ ((oul0_12.out.rd iul0).mono (by omega)) ((onl0_12.out.rd inl0).mono (by omega)) (Nat.le_refl _) (by omega))).mono ?_;rintro e w13 ⟨rfl,hb13⟩;have hbb13:Below w12.heap.size w12 w13:=hb13;have z13:=hbb13.size;obtain⟨qAt13,_,yAt13⟩:=zag hb13 (b:=w.heap.size) (by first|omega|(simp;done)|(simp<;>omega))
 (try clear yAt12)
 obtain⟨qAnw13,_,yAnw13⟩:=zag hb13 (b:=w.heap.size+1) (by first|omega|(simp;done)|(simp<;>omega))
 (try clear yAnw12)
 obtain⟨qUt13,_,yUt13⟩:=zag hb13 (b:=w5.heap.size) (by first|omega|(simp;done)|(simp<;>omega))
 (try clear yUt12)
 obtain⟨qUnw13,_,yUnw13⟩:=zag hb13 (b:=w6.heap.size) (by first|omega|(simp;done)|(simp<;>omega))
 (try clear yUnw12)
 have BB13:=Lib.hid (BB12.out.trans (hbb13.mono (by omega)));have os00_13:=Lib.hid (os00_12.out.below is00 (by omega) hbb13);have out3_13:=Lib.hid (out3_12.out.below iut3 (by omega) hbb13);have out4_13:=Lib.hid (out4_12.out.below iut4 (by omega) hbb13);have ounw0_13:=Lib.hid (ounw0_12.out.below iunw0 (by omega) hbb13);have ounw1_13:=Lib.hid (ounw1_12.out.below iunw1 (by omega) hbb13);have ounw2_13:=Lib.hid (ounw2_12.out.below iunw2 (by omega) hbb13);have ounw3_13:=Lib.hid (ounw3_12.out.below iunw3 (by omega) hbb13);have oul0_13:=Lib.hid (oul0_12.out.below iul0 (by omega) hbb13);have og00_13:=Lib.hid (og00_12.out.below ig00 (by omega) hbb13);have onl0_13:=Lib.hid (onl0_12.out.below inl0 (by omega) hbb13);clear hbb13;go_wp2_with fail;refine ((mark_Terrain t _ _ g5_3 g5_4 (1) _ _ _ _ _ out3_13.out iut3 (by first|omega|(simp;done)|(simp<;>omega)) out4_13.out iut4 (by first|omega|(simp;done)|(simp<;>omega)) djut3_4 (by omega) (by omega) (by omega))).mono ?_;rintro e w14 ⟨rfl,mut3,mut4,hc14⟩;have hcc14:Chg (g5_3++g5_4) w13 w14:=hc14;have z14:=hcc14.size;have hkAt14:=hc14.block (w.heap.size) (by first|omega|(simp;done)|(simp<;>omega)) (fun e=>by simp only[List.mem_append] at e;rcases e with (e|e)<;>first|(have h2:=iut3 _ e;omega)|(have h2:=iut4 _ e;omega));have qAt14:∀ o,w14.cell? ⟨w.heap.size,o,none⟩=_:=fun o=>World.cell?_of_block (a:=⟨w.heap.size,o,none⟩) hkAt14
 have yAt14:w.heap.size<w14.heap.size:=by first|omega|(have:=hc14.size;simp at this;omega)
 (try clear yAt13)
 clear hkAt14;have hkAnw14:=hc14.block (w.heap.size+1) (by first|omega|(simp;done)|(simp<;>omega)) (fun e=>by simp only[List.mem_append] at e;rcases e with (e|e)<;>first|(have h2:=iut3 _ e;omega)|(have h2:=iut4 _ e;omega));have qAnw14:∀ o,w14.cell? ⟨w.heap.size+1,o,none⟩=_:=fun o=>World.cell?_of_block (a:=⟨w.heap.size+1,o,none⟩) hkAnw14
 have yAnw14:w.heap.size+1<w14.heap.size:=by first|omega|(have:=hc14.size;simp at this;omega)
 (try clear yAnw13)
 clear hkAnw14;have hkUt14:=hc14.block (w5.heap.size) (by first|omega|(simp;done)|(simp<;>omega)) (fun e=>by simp only[List.mem_append] at e;rcases e with (e|e)<;>first|(have h2:=iut3 _ e;omega)|(have h2:=iut4 _ e;omega));have qUt14:∀ o,w14.cell? ⟨w5.heap.size,o,none⟩=_:=fun o=>World.cell?_of_block (a:=⟨w5.heap.size,o,none⟩) hkUt14
 have yUt14:w5.heap.size<w14.heap.size:=by first|omega|(have:=hc14.size;simp at this;omega)
 (try clear yUt13)
 clear hkUt14;have hkUnw14:=hc14.block (w6.heap.size) (by first|omega|(simp;done)|(simp<;>omega)) (fun e=>by simp only[List.mem_append] at e;rcases e with (e|e)<;>first|(have h2:=iut3 _ e;omega)|(have h2:=iut4 _ e;omega));have qUnw14:∀ o,w14.cell? ⟨w6.heap.size,o,none⟩=_:=fun o=>World.cell?_of_block (a:=⟨w6.heap.size,o,none⟩) hkUnw14
 have yUnw14:w6.heap.size<w14.heap.size:=by first|omega|(have:=hc14.size;simp at this;omega)
 (try clear yUnw13)
 clear hkUnw14;have BB14:=Lib.hid (BB13.out.trans (hcc14.below (by omega) (fun x hx=>by simp only[List.mem_append] at hx;rcases hx with (hx|hx)<;>first|(have h2:=iut3 x hx;omega)|(have h2:=iut4 x hx;omega))));have os00_14:=Lib.hid (os00_13.out.chg is00 (by omega) hcc14 (fun x hx e=>by have hx0:=is00 x hx;simp only[List.mem_append] at e;rcases e with (e|e)<;>first|(have h2:=iut3 x e;omega)|(have h2:=iut4 x e;omega)));have ounw0_14:=Lib.hid (ounw0_13.out.chg iunw0 (by omega) hcc14 (fun x hx e=>by have hx0:=iunw0 x hx;simp only[List.mem_append] at e;rcases e with (e|e)<;>first|(have h2:=iut3 x e;omega)|(have h2:=iut4 x e;omega)));have ounw1_14:=Lib.hid (ounw1_13.out.chg iunw1 (by omega) hcc14 (fun x hx e=>by have hx0:=iunw1 x hx;simp only[List.mem_append] at e;rcases e with (e|e)<;>first|(have h2:=iut3 x e;omega)|(have h2:=iut4 x e;omega)));have ounw2_14:=Lib.hid (ounw2_13.out.chg iunw2 (by omega) hcc14 (fun x hx e=>by have hx0:=iunw2 x hx;simp only[List.mem_append] at e;rcases e with (e|e)<;>first|(have h2:=iut3 x e;omega)|(have h2:=iut4 x e;omega)));have ounw3_14:=Lib.hid (ounw3_13.out.chg iunw3 (by omega) hcc14 (fun x hx e=>by have hx0:=iunw3 x hx;simp only[List.mem_append] at e;rcases e with (e|e)<;>first|(have h2:=iut3 x e;omega)|(have h2:=iut4 x e;omega)));have oul0_14:=Lib.hid (oul0_13.out.chg iul0 (by omega) hcc14 (fun x hx e=>by have hx0:=iul0 x hx;simp only[List.mem_append] at e;rcases e with (e|e)<;>first|(have h2:=iut3 x e;omega)|(have h2:=iut4 x e;omega)));have og00_14:=Lib.hid (og00_13.out.chg ig00 (by omega) hcc14 (fun x hx e=>by have hx0:=ig00 x hx;simp only[List.mem_append] at e;rcases e with (e|e)<;>first|(have h2:=iut3 x e;omega)|(have h2:=iut4 x e;omega)));clear hcc14;have kout3_14:=Lib.hid mut3;clear mut3;have kout4_14:=Lib.hid mut4;clear mut4;go_wp2_with fail;refine ((calls_cast (K':=((1+cnt (zai t.heights)+cnt (zai t.clutter):Nat):Int)) (by omega) (mark_Network nw _ _ _ _ g6_0 g6_1 g6_2 g6_3 (1+cnt (zai t.heights)+cnt (zai t.clutter)) _ _ _ _ _ _ _ _ _ ounw0_14.out iunw0 (by first|omega|(simp;done)|(simp<;>omega)) ounw1_14.out iunw1 (by first|omega|(simp;done)|(simp<;>omega)) ounw2_14.out iunw2 (by first|omega|(simp;done)|(simp<;>omega)) ounw3_14.out iunw3 (by first|omega|(simp;done)|(simp<;>omega)) djunw0_1 djunw0_2 djunw0_3 djunw1_2 djunw1_3 djunw2_3 (by omega) (by omega) (by omega)))).mono ?_;rintro e w15 ⟨rfl,munw0,munw1,munw2,munw3,hc15⟩;have hcc15:Chg (g6_0++g6_1++g6_2++g6_3) w14 w15:=hc15;have z15:=hcc15.size;have hkAt15:=hc15.block (w.heap.size) (by first|omega|(simp;done)|(simp<;>omega)) (fun e=>by simp only[List.mem_append] at e;rcases e with (((e|e)|e)|e)<;>first|(have h2:=iunw0 _ e;omega)|(have h2:=iunw1 _ e;omega)|(have h2:=iunw2 _ e;omega)|(have h2:=iunw3 _ e;omega));have qAt15:∀ o,w15.cell? ⟨w.heap.size,o,none⟩=_:=fun o=>World.cell?_of_block (a:=⟨w.heap.size,o,none⟩) hkAt15
 have yAt15:w.heap.size<w15.heap.size:=by first|omega|(have:=hc15.size;simp at this;omega)
 (try clear yAt14)
 clear hkAt15;have hkAnw15:=hc15.block (w.heap.size+1) (by first|omega|(simp;done)|(simp<;>omega)) (fun e=>by simp only[List.mem_append] at e;rcases e with (((e|e)|e)|e)<;>first|(have h2:=iunw0 _ e;omega)|(have h2:=iunw1 _ e;omega)|(have h2:=iunw2 _ e;omega)|(have h2:=iunw3 _ e;omega));have qAnw15:∀ o,w15.cell? ⟨w.heap.size+1,o,none⟩=_:=fun o=>World.cell?_of_block (a:=⟨w.heap.size+1,o,none⟩) hkAnw15
 have yAnw15:w.heap.size+1<w15.heap.size:=by first|omega|(have:=hc15.size;simp at this;omega)
 (try clear yAnw14)
 clear hkAnw15;have hkUt15:=hc15.block (w5.heap.size) (by first|omega|(simp;done)|(simp<;>omega)) (fun e=>by simp only[List.mem_append] at e;rcases e with (((e|e)|e)|e)<;>first|(have h2:=iunw0 _ e;omega)|(have h2:=iunw1 _ e;omega)|(have h2:=iunw2 _ e;omega)|(have h2:=iunw3 _ e;omega));have qUt15:∀ o,w15.cell? ⟨w5.heap.size,o,none⟩=_:=fun o=>World.cell?_of_block (a:=⟨w5.heap.size,o,none⟩) hkUt15
 have yUt15:w5.heap.size<w15.heap.size:=by first|omega|(have:=hc15.size;simp at this;omega)
 (try clear yUt14)
 clear hkUt15;have hkUnw15:=hc15.block (w6.heap.size) (by first|omega|(simp;done)|(simp<;>omega)) (fun e=>by simp only[List.mem_append] at e;rcases e with (((e|e)|e)|e)<;>first|(have h2:=iunw0 _ e;omega)|(have h2:=iunw1 _ e;omega)|(have h2:=iunw2 _ e;omega)|(have h2:=iunw3 _ e;omega));have qUnw15:∀ o,w15.cell? ⟨w6.heap.size,o,none⟩=_:=fun o=>World.cell?_of_block (a:=⟨w6.heap.size,o,none⟩) hkUnw15
 have yUnw15:w6.heap.size<w15.heap.size:=by first|omega|(have:=hc15.size;simp at this;omega)
 (try clear yUnw14)
 clear hkUnw15;have BB15:=Lib.hid (BB14.out.trans (hcc15.below (by omega) (fun x hx=>by simp only[List.mem_append] at hx;rcases hx with (((hx|hx)|hx)|hx)<;>first|(have h2:=iunw0 x hx;omega)|(have h2:=iunw1 x hx;omega)|(have h2:=iunw2 x hx;omega)|(have h2:=iunw3 x hx;omega))));have os00_15:=Lib.hid (os00_14.out.chg is00 (by omega) hcc15 (fun x hx e=>by have hx0:=is00 x hx;simp only[List.mem_append] at e;rcases e with (((e|e)|e)|e)<;>first|(have h2:=iunw0 x e;omega)|(have h2:=iunw1 x e;omega)|(have h2:=iunw2 x e;omega)|(have h2:=iunw3 x e;omega)));have oul0_15:=Lib.hid (oul0_14.out.chg iul0 (by omega) hcc15 (fun x hx e=>by have hx0:=iul0 x hx;simp only[List.mem_append] at e;rcases e with (((e|e)|e)|e)<;>first|(have h2:=iunw0 x e;omega)|(have h2:=iunw1 x e;omega)|(have h2:=iunw2 x e;omega)|(have h2:=iunw3 x e;omega)));have og00_15:=Lib.hid (og00_14.out.chg ig00 (by omega) hcc15 (fun x hx e=>by have hx0:=ig00 x hx;simp only[List.mem_append] at e;rcases e with (((e|e)|e)|e)<;>first|(have h2:=iunw0 x e;omega)|(have h2:=iunw1 x e;omega)|(have h2:=iunw2 x e;omega)|(have h2:=iunw3 x e;omega)));clear hcc15;have kounw0_15:=Lib.hid munw0;clear munw0;have kounw1_15:=Lib.hid munw1;clear munw1;have kounw2_15:=Lib.hid munw2;clear munw2;have kounw3_15:=Lib.hid munw3;clear munw3;go_wp2_with fail;refine ((calls_cast (K':=((1+cnt (zai t.heights)+cnt (zai t.clutter)+cnt (DSite.sT nw.sites)+cnt (DSector.sT nw.sectors)+cnt (DAntenna.sT nw.antennas)+cnt (DRadio.sT nw.radios):Nat):Int)) (by omega) (mark_EndS l _ ful0 (1+cnt (zai t.heights)+cnt (zai t.clutter)+cnt (DSite.sT nw.sites)+cnt (DSector.sT nw.sectors)+cnt (DAntenna.sT nw.antennas)+cnt (DRadio.sT nw.radios)) _ _ oul0_15.out (iul0.mono (Nat.le_refl _) (by first|omega|(simp;done)|(simp<;>omega))) (by omega) (by omega) (by omega)))).mono ?_;rintro e w16 ⟨rfl,mul0,hc16⟩;have hcc16:Chg ful0 w15 w16:=hc16;have z16:=hcc16.size;have hkAt16:=hc16.block (w.heap.size) (by first|omega|(simp;done)|(simp<;>omega)) (fun e=>by have h2:=iul0 _ e;omega);have qAt16:∀ o,w16.cell? ⟨w.heap.size,o,none⟩=_:=fun o=>World.cell?_of_block (a:=⟨w.heap.size,o,none⟩) hkAt16
 have yAt16:w.heap.size<w16.heap.size:=by first|omega|(have:=hc16.size;simp at this;omega)
 (try clear yAt15)
 clear hkAt16;have hkAnw16:=hc16.block (w.heap.size+1) (by first|omega|(simp;done)|(simp<;>omega)) (fun e=>by have h2:=iul0 _ e;omega);have qAnw16:∀ o,w16.cell? ⟨w.heap.size+1,o,none⟩=_:=fun o=>World.cell?_of_block (a:=⟨w.heap.size+1,o,none⟩) hkAnw16
 have yAnw16:w.heap.size+1<w16.heap.size:=by first|omega|(have:=hc16.size;simp at this;omega)
 (try clear yAnw15)
 clear hkAnw16;have hkUt16:=hc16.block (w5.heap.size) (by first|omega|(simp;done)|(simp<;>omega)) (fun e=>by have h2:=iul0 _ e;omega);have qUt16:∀ o,w16.cell? ⟨w5.heap.size,o,none⟩=_:=fun o=>World.cell?_of_block (a:=⟨w5.heap.size,o,none⟩) hkUt16
 have yUt16:w5.heap.size<w16.heap.size:=by first|omega|(have:=hc16.size;simp at this;omega)
 (try clear yUt15)
 clear hkUt16;have hkUnw16:=hc16.block (w6.heap.size) (by first|omega|(simp;done)|(simp<;>omega)) (fun e=>by have h2:=iul0 _ e;omega);have qUnw16:∀ o,w16.cell? ⟨w6.heap.size,o,none⟩=_:=fun o=>World.cell?_of_block (a:=⟨w6.heap.size,o,none⟩) hkUnw16
 have yUnw16:w6.heap.size<w16.heap.size:=by first|omega|(have:=hc16.size;simp at this;omega)
 (try clear yUnw15)
 clear hkUnw16;have BB16:=Lib.hid (BB15.out.trans (hcc16.below (by omega) (fun x hx=>by have h2:=iul0 x hx;omega)));have os00_16:=Lib.hid (os00_15.out.chg is00 (by omega) hcc16 (fun x hx e=>by have hx0:=is00 x hx;have h2:=iul0 x e;omega));have og00_16:=Lib.hid (og00_15.out.chg ig00 (by omega) hcc16 (fun x hx e=>by have hx0:=ig00 x hx;have h2:=iul0 x e;omega));clear hcc16;have koul0_16:=Lib.hid mul0;clear mul0;have kd16:decide (((1+cnt (zai t.heights)+cnt (zai t.clutter)+cnt (DSite.sT nw.sites)+cnt (DSector.sT nw.sectors)+cnt (DAntenna.sT nw.antennas)+cnt (DRadio.sT nw.radios)+cnt (DEnd.sT l):Nat):Int)<0)=false:=by simp<;>omega
 go_wp2_with fail;refine ((eq_Int64SS R.1 _ _ w16.heap.size _ ((og00_16.out.rd ig00).mono (by omega)) ((os00_16.out.rd is00).mono (by omega)) (Nat.le_refl _) (by omega))).mono ?_;rintro e w17 ⟨rfl,hb17⟩;have hbb17:Below w16.heap.size w16 w17:=hb17;have z17:=hbb17.size;obtain⟨qAt17,_,yAt17⟩:=zag hb17 (b:=w.heap.size) (by first|omega|(simp;done)|(simp<;>omega))
 (try clear yAt16)
 obtain⟨qAnw17,_,yAnw17⟩:=zag hb17 (b:=w.heap.size+1) (by first|omega|(simp;done)|(simp<;>omega))
 (try clear yAnw16)
 obtain⟨qUt17,_,yUt17⟩:=zag hb17 (b:=w5.heap.size) (by first|omega|(simp;done)|(simp<;>omega))
 (try clear yUt16)
 obtain⟨qUnw17,_,yUnw17⟩:=zag hb17 (b:=w6.heap.size) (by first|omega|(simp;done)|(simp<;>omega))
 (try clear yUnw16)
 have BB17:=Lib.hid (BB16.out.trans (hbb17.mono (by omega)));have os00_17:=Lib.hid (os00_16.out.below is00 (by omega) hbb17);have og00_17:=Lib.hid (og00_16.out.below ig00 (by omega) hbb17);clear hbb17;go_wp2_with fail;refine ((mark_Int64SS R.1 _ fg00 (1) _ _ og00_17.out (ig00.mono (Nat.le_refl _) (by first|omega|(simp;done)|(simp<;>omega))) (by omega) (by omega))).mono ?_;rintro e w18 ⟨rfl,mg00,hc18⟩;have hcc18:Chg fg00 w17 w18:=hc18;have z18:=hcc18.size;have hkAt18:=hc18.block (w.heap.size) (by first|omega|(simp;done)|(simp<;>omega)) (fun e=>by have h2:=ig00 _ e;omega);have qAt18:∀ o,w18.cell? ⟨w.heap.size,o,none⟩=_:=fun o=>World.cell?_of_block (a:=⟨w.heap.size,o,none⟩) hkAt18
 have yAt18:w.heap.size<w18.heap.size:=by first|omega|(have:=hc18.size;simp at this;omega)
 (try clear yAt17)
 clear hkAt18;have hkAnw18:=hc18.block (w.heap.size+1) (by first|omega|(simp;done)|(simp<;>omega)) (fun e=>by have h2:=ig00 _ e;omega);have qAnw18:∀ o,w18.cell? ⟨w.heap.size+1,o,none⟩=_:=fun o=>World.cell?_of_block (a:=⟨w.heap.size+1,o,none⟩) hkAnw18
 have yAnw18:w.heap.size+1<w18.heap.size:=by first|omega|(have:=hc18.size;simp at this;omega)
 (try clear yAnw17)
 clear hkAnw18;have hkUt18:=hc18.block (w5.heap.size) (by first|omega|(simp;done)|(simp<;>omega)) (fun e=>by have h2:=ig00 _ e;omega);have qUt18:∀ o,w18.cell? ⟨w5.heap.size,o,none⟩=_:=fun o=>World.cell?_of_block (a:=⟨w5.heap.size,o,none⟩) hkUt18
 have yUt18:w5.heap.size<w18.heap.size:=by first|omega|(have:=hc18.size;simp at this;omega)
 (try clear yUt17)
 clear hkUt18;have hkUnw18:=hc18.block (w6.heap.size) (by first|omega|(simp;done)|(simp<;>omega)) (fun e=>by have h2:=ig00 _ e;omega);have qUnw18:∀ o,w18.cell? ⟨w6.heap.size,o,none⟩=_:=fun o=>World.cell?_of_block (a:=⟨w6.heap.size,o,none⟩) hkUnw18
 have yUnw18:w6.heap.size<w18.heap.size:=by first|omega|(have:=hc18.size;simp at this;omega)
 (try clear yUnw17)
 clear hkUnw18;have BB18:=Lib.hid (BB17.out.trans (hcc18.below (by omega) (fun x hx=>by have h2:=ig00 x hx;omega)));have os00_18:=Lib.hid (os00_17.out.chg is00 (by omega) hcc18 (fun x hx e=>by have hx0:=is00 x hx;have h2:=ig00 x e;omega));clear hcc18;have kog00_18:=Lib.hid mg00;clear mg00;go_wp2_with fail;refine (held_Int64SS R.1 _ w18.heap.size (1) _ ((kog00_18.out.rd ig00).mono (by omega)) (Nat.le_refl _) (by omega) (by omega)).mono ?_;rintro e w19 ⟨rfl,hb19⟩;have hbb19:Below w18.heap.size w18 w19:=hb19;have z19:=hbb19.size;obtain⟨qAt19,_,yAt19⟩:=zag hb19 (b:=w.heap.size) (by first|omega|(simp;done)|(simp<;>omega))
 (try clear yAt18)
 obtain⟨qAnw19,_,yAnw19⟩:=zag hb19 (b:=w.heap.size+1) (by first|omega|(simp;done)|(simp<;>omega))
 (try clear yAnw18)
 obtain⟨qUt19,_,yUt19⟩:=zag hb19 (b:=w5.heap.size) (by first|omega|(simp;done)|(simp<;>omega))
 (try clear yUt18)
 obtain⟨qUnw19,_,yUnw19⟩:=zag hb19 (b:=w6.heap.size) (by first|omega|(simp;done)|(simp<;>omega))
 (try clear yUnw18)
 have BB19:=Lib.hid (BB18.out.trans (hbb19.mono (by omega)));have os00_19:=Lib.hid (os00_18.out.below is00 (by omega) hbb19);have kog00_19:=Lib.hid (kog00_18.out.below ig00 (by omega) hbb19);clear hbb19;go_wp2;have hcf:w19.cell? ⟨w.heap.size,0,none⟩=some (.int .i64 t.step)∧w19.cell? ⟨w.heap.size,1,none⟩=some (.int .i64 t.width)∧w19.cell? ⟨w.heap.size,2,none⟩=some (.int .i64 t.height)∧w19.cell? ⟨w.heap.size,3,none⟩=some (vt3)∧w19.cell? ⟨w.heap.size,4,none⟩=some (vt4)∧w19.cell? ⟨w.heap.size+1,0,none⟩=some (vnw0)∧w19.cell? ⟨w.heap.size+1,1,none⟩=some (vnw1)∧w19.cell? ⟨w.heap.size+1,2,none⟩=some (vnw2)∧w19.cell? ⟨w.heap.size+1,3,none⟩=some (vnw3):=by refine⟨?_,?_,?_,?_,?_,?_,?_,?_,?_⟩<;>simp[go_sem, *]
 have HKB:Hid (∀ W:World,Below w19.heap.size w19 W→W.cell? ⟨w.heap.size,0,none⟩=some (.int .i64 t.step)∧W.cell? ⟨w.heap.size,1,none⟩=some (.int .i64 t.width)∧W.cell? ⟨w.heap.size,2,none⟩=some (.int .i64 t.height)∧W.cell? ⟨w.heap.size,3,none⟩=some (vt3)∧W.cell? ⟨w.heap.size,4,none⟩=some (vt4)∧W.cell? ⟨w.heap.size+1,0,none⟩=some (vnw0)∧W.cell? ⟨w.heap.size+1,1,none⟩=some (vnw1)∧W.cell? ⟨w.heap.size+1,2,none⟩=some (vnw2)∧W.cell? ⟨w.heap.size+1,3,none⟩=some (vnw3)):=fun W hW=>by
  obtain⟨e0,e1,e2,e3,e4,e5,e6,e7,e8⟩:=hcf;exact⟨(bat hW _ _ (by omega)).trans e0,(bat hW _ _ (by omega)).trans e1,(bat hW _ _ (by omega)).trans e2,(bat hW _ _ (by omega)).trans e3,(bat hW _ _ (by omega)).trans e4,(bat hW _ _ (by omega)).trans e5,(bat hW _ _ (by omega)).trans e6,(bat hW _ _ (by omega)).trans e7,(bat hW _ _ (by omega)).trans e8⟩
 clear hcf;have BBd:Hid (Below w19.heap.size w19 w19.drew):=(Below.refl _ _).drew;go_cut [20,21] (fun s0 s1 wx=>∃ (ah00:Option Addr) (ch00:Nat) (fh00:List Nat),s0=.slice ah00 R.1.length ch00∧s1=.int .i64 R.2∧Below w19.heap.size w19 wx∧Own wx (zbw R.1) (.slice ah00 R.1.length ch00) fh00∧In w19.heap.size wx.heap.size fh00)
 case first =>
  refine zaw 12 (.read 0 (.read 2 (.read 4 (.read 5 (.one 1 (.one 3 (.one 6 (.one 7 (.read 8 (.read 9 (.read 10 (.read 11 .nil)))))))))))) (fun W=>W.cell? ⟨w.heap.size,0,none⟩=some (.int .i64 t.step)∧W.cell? ⟨w.heap.size,1,none⟩=some (.int .i64 t.width)∧W.cell? ⟨w.heap.size,2,none⟩=some (.int .i64 t.height)∧W.cell? ⟨w.heap.size,3,none⟩=some (vt3)∧W.cell? ⟨w.heap.size,4,none⟩=some (vt4)∧W.cell? ⟨w.heap.size+1,0,none⟩=some (vnw0)∧W.cell? ⟨w.heap.size+1,1,none⟩=some (vnw1)∧W.cell? ⟨w.heap.size+1,2,none⟩=some (vnw2)∧W.cell? ⟨w.heap.size+1,3,none⟩=some (vnw3)) (by kernel_rfl) (by kernel_rfl) (HKB.out _ BBd.out) ?_;have zd:w19.heap.size≤w19.drew.heap.size:=Nat.le_refl _;generalize w19.drew=Y at *;refine zaf (v:=?_) rfl (fun _ _ _ h=>h) ?_ ?_
  rotate_left
  ·(intro W hSW;(try dsimp only at hSW);(go_simp<;>with_reducible rfl))
  (try simp only[Act.put,List.setIfInBounds_toArray,List.set_cons_zero,List.set_cons_succ])
  refine zaf (v:=?_) rfl (fun _ _ _ h=>h) ?_ ?_
  rotate_left
  ·(intro W hSW;(try dsimp only at hSW);(go_simp<;>with_reducible rfl))
  (try simp only[Act.put,List.setIfInBounds_toArray,List.set_cons_zero,List.set_cons_succ])
  refine zaf (v:=?_) rfl (fun _ _ _ h=>h) ?_ ?_
  rotate_left
  ·(intro W hSW;(try dsimp only at hSW);(go_simp<;>with_reducible rfl))
  (try simp only[Act.put,List.setIfInBounds_toArray,List.set_cons_zero,List.set_cons_succ])
  refine zaf (v:=?_) rfl (fun _ _ _ h=>h) ?_ ?_
  rotate_left
  ·(intro W hSW;(try dsimp only at hSW);(go_simp<;>with_reducible rfl))
  (try simp only[Act.put,List.setIfInBounds_toArray,List.set_cons_zero,List.set_cons_succ])
  refine zac ?_;refine zab rfl (fun K hK=>?_);go_simp;refine (to_Terrain t _ _ _ ((Ht3.out.below (BB19.out.trans (BBd.out.mono (by omega)))).mono (by omega)) ((Ht4.out.below (BB19.out.trans (BBd.out.mono (by omega)))).mono (by omega)) (by omega)).mono ?_;rintro e Y1 ⟨att3,ctt3,att4,ctt4,ftt,rfl,hb1,ov1,iv1⟩;refine hK.out _ _ (HKB.out _ (BBd.out.trans (hb1.mono (by omega)))) ?_;clear hK K
  (try simp only[Act.put,List.setIfInBounds_toArray,List.set_cons_zero,List.set_cons_succ])
  have OT1:=Lib.hid ov1;have itt:=iv1;clear ov1 iv1;have bs1:Y.heap.size≤Y1.heap.size:=hb1.size;have BY1:=Lib.hid (BBd.out.trans (hb1.mono (by omega)));clear hb1;refine zac ?_;refine zab rfl (fun K hK=>?_);go_simp;refine (to_Network nw _ _ _ _ _ ((Hnw0.out.below (BB19.out.trans (BY1.out.mono (by omega)))).mono (by omega)) ((Hnw1.out.below (BB19.out.trans (BY1.out.mono (by omega)))).mono (by omega)) ((Hnw2.out.below (BB19.out.trans (BY1.out.mono (by omega)))).mono (by omega)) ((Hnw3.out.below (BB19.out.trans (BY1.out.mono (by omega)))).mono (by omega)) (by omega)).mono ?_;rintro e Y2 ⟨atnw0,ctnw0,atnw1,ctnw1,atnw2,ctnw2,atnw3,ctnw3,ftnw,rfl,hb2,ov2,iv2⟩;refine hK.out _ _ (HKB.out _ (BY1.out.trans (hb2.mono (by omega)))) ?_;clear hK K
  (try simp only[Act.put,List.setIfInBounds_toArray,List.set_cons_zero,List.set_cons_succ])
  have OT2:=Lib.hid ov2;have itnw:=iv2;clear ov2 iv2;have bs2:Y1.heap.size≤Y2.heap.size:=hb2.size;have BY2:=Lib.hid (BY1.out.trans (hb2.mono (by omega)));have OT2_t:=Lib.hid (OT1.out.below itt (by omega) hb2);clear hb2;refine zac ?_;refine zab rfl (fun K hK=>?_);go_simp;refine (to_EndS l _ _ ((Hl0.out.below (BB19.out.trans (BY2.out.mono (by omega)))).mono (by omega)) (by omega)).mono ?_;rintro e Y3 ⟨atl0,ctl0,ftl,rfl,hb3,ov3,iv3⟩;refine hK.out _ _ (HKB.out _ (BY2.out.trans (hb3.mono (by omega)))) ?_;clear hK K
  (try simp only[Act.put,List.setIfInBounds_toArray,List.set_cons_zero,List.set_cons_succ])
  have OT3:=Lib.hid ov3;have itl:=iv3;clear ov3 iv3;have bs3:Y2.heap.size≤Y3.heap.size:=hb3.size;have BY3:=Lib.hid (BY2.out.trans (hb3.mono (by omega)));have OT3_t:=Lib.hid (OT2_t.out.below itt (by omega) hb3);have OT3_nw:=Lib.hid (OT2.out.below itnw (by omega) hb3);clear hb3;refine zac ?_;refine zab rfl (fun K hK=>?_);go_simp;refine (HI.out _ _ _ _ _ _ _ _ (HLL.out.mono (BB19.out.trans (BY3.out.mono (by omega)))) (((OT3_t.out.rd itt).2.2.2.1).mono (by omega)) (((OT3_t.out.rd itt).2.2.2.2.1).mono (by omega)) (((OT3_nw.out.rd itnw).1).mono (by omega)) (((OT3_nw.out.rd itnw).2.1).mono (by omega)) (((OT3_nw.out.rd itnw).2.2.1).mono (by omega)) (((OT3_nw.out.rd itnw).2.2.2.1).mono (by omega)) (((OT3.out.rd itl)).mono (by omega)) (by omega) (by omega) (by omega)).mono ?_;rintro e Y4 ⟨ah00,ch00,fh00,rfl,hb4,ov4,iv4⟩;refine hK.out _ _ (HKB.out _ (BY3.out.trans (hb4.mono (by omega)))) ?_;clear hK K
  (try simp only[Act.put,List.setIfInBounds_toArray,List.set_cons_zero,List.set_cons_succ])
  have OR4:=Lib.hid ov4;have IR4:=Lib.hid iv4;clear ov4 iv4;have bs4:Y3.heap.size≤Y4.heap.size:=hb4.size;have BY4:=Lib.hid (BY3.out.trans (hb4.mono (by omega)));clear hb4;refine zaf (v:=?_) rfl (fun _ _ _ h=>h) ?_ ?_
  rotate_left
  ·(intro W hSW;(try dsimp only at hSW);(go_simp<;>with_reducible rfl))
  (try simp only[Act.put,List.setIfInBounds_toArray,List.set_cons_zero,List.set_cons_succ])
  refine zaf (v:=?_) rfl (fun _ _ _ h=>h) ?_ ?_
  rotate_left
  ·(intro W hSW;(try dsimp only at hSW);(go_simp<;>with_reducible rfl))
  (try simp only[Act.put,List.setIfInBounds_toArray,List.set_cons_zero,List.set_cons_succ])
  refine zaf (v:=?_) rfl (fun _ _ _ h=>h) ?_ ?_
  rotate_left
  ·(intro W hSW;(try dsimp only at hSW);(go_simp<;>with_reducible rfl))
  (try simp only[Act.put,List.setIfInBounds_toArray,List.set_cons_zero,List.set_cons_succ])
  refine zaf (v:=?_) rfl (fun _ _ _ h=>h) ?_ ?_
  rotate_left
  ·(intro W hSW;(try dsimp only at hSW);(go_simp<;>with_reducible rfl))
  (try simp only[Act.put,List.setIfInBounds_toArray,List.set_cons_zero,List.set_cons_succ])
  refine zak ?_;simp only[List.drop_succ_cons,List.drop_zero];go_wp2_with fail;go_meet;exact⟨_,_,_,rfl,rfl,BY4.out,OR4.out,IR4.out.mono (by omega) (Nat.le_refl _)⟩
 obtain⟨ah00,ch00,fh00,rfl,rfl,hb20,owh0,iwh0⟩:=hcut;generalize wc=w20 at *;clear HKB BBd;have hbb20:Below w19.heap.size w19 w20:=hb20;have z20:=hbb20.size;obtain⟨qAt20,_,yAt20⟩:=zag hb20 (b:=w.heap.size) (by first|omega|(simp;done)|(simp<;>omega))
 (try clear yAt19)
 obtain⟨qAnw20,_,yAnw20⟩:=zag hb20 (b:=w.heap.size+1) (by first|omega|(simp;done)|(simp<;>omega))
 (try clear yAnw19)
 obtain⟨qUt20,_,yUt20⟩:=zag hb20 (b:=w5.heap.size) (by first|omega|(simp;done)|(simp<;>omega))
 (try clear yUt19)
 obtain⟨qUnw20,_,yUnw20⟩:=zag hb20 (b:=w6.heap.size) (by first|omega|(simp;done)|(simp<;>omega))
 (try clear yUnw19)
 have BB20:=Lib.hid (BB19.out.trans (hbb20.mono (by omega)));have os00_20:=Lib.hid (os00_19.out.below is00 (by omega) hbb20);have kog00_20:=Lib.hid (kog00_19.out.below ig00 (by omega) hbb20);clear hbb20;have ih00:=iwh0;have oh00_20:=Lib.hid owh0;clear iwh0 owh0;go_wp2_with fail;refine ((eq_Int64SS R.1 _ _ w20.heap.size _ ((oh00_20.out.rd ih00).mono (by omega)) ((os00_20.out.rd is00).mono (by omega)) (Nat.le_refl _) (by omega))).mono ?_;rintro e w21 ⟨rfl,hb21⟩;have hbb21:Below w20.heap.size w20 w21:=hb21;have z21:=hbb21.size;obtain⟨qAt21,_,yAt21⟩:=zag hb21 (b:=w.heap.size) (by first|omega|(simp;done)|(simp<;>omega))
 (try clear yAt20)
 obtain⟨qAnw21,_,yAnw21⟩:=zag hb21 (b:=w.heap.size+1) (by first|omega|(simp;done)|(simp<;>omega))
 (try clear yAnw20)
 obtain⟨qUt21,_,yUt21⟩:=zag hb21 (b:=w5.heap.size) (by first|omega|(simp;done)|(simp<;>omega))
 (try clear yUt20)
 obtain⟨qUnw21,_,yUnw21⟩:=zag hb21 (b:=w6.heap.size) (by first|omega|(simp;done)|(simp<;>omega))
 (try clear yUnw20)
 have BB21:=Lib.hid (BB20.out.trans (hbb21.mono (by omega)));have os00_21:=Lib.hid (os00_20.out.below is00 (by omega) hbb21);have kog00_21:=Lib.hid (kog00_20.out.below ig00 (by omega) hbb21);have oh00_21:=Lib.hid (oh00_20.out.below ih00 (by omega) hbb21);clear hbb21;go_wp2_with fail;refine (held_Int64SS R.1 _ w21.heap.size (1) _ ((kog00_21.out.rd ig00).mono (by omega)) (Nat.le_refl _) (by omega) (by omega)).mono ?_;rintro e w22 ⟨rfl,hb22⟩;have hbb22:Below w21.heap.size w21 w22:=hb22;have z22:=hbb22.size;obtain⟨qAt22,_,yAt22⟩:=zag hb22 (b:=w.heap.size) (by first|omega|(simp;done)|(simp<;>omega))
 (try clear yAt21)
 obtain⟨qAnw22,_,yAnw22⟩:=zag hb22 (b:=w.heap.size+1) (by first|omega|(simp;done)|(simp<;>omega))
 (try clear yAnw21)
 obtain⟨qUt22,_,yUt22⟩:=zag hb22 (b:=w5.heap.size) (by first|omega|(simp;done)|(simp<;>omega))
 (try clear yUt21)
 obtain⟨qUnw22,_,yUnw22⟩:=zag hb22 (b:=w6.heap.size) (by first|omega|(simp;done)|(simp<;>omega))
 (try clear yUnw21)
 have BB22:=Lib.hid (BB21.out.trans (hbb22.mono (by omega)));have kog00_22:=Lib.hid (kog00_21.out.below ig00 (by omega) hbb22);clear hbb22;go_wp2;go_ret;exact⟨rfl,BB22.out⟩
end Go.Proofs.YtdgmgchdjlfchaaGreatDoor.fnExactLevelRows
