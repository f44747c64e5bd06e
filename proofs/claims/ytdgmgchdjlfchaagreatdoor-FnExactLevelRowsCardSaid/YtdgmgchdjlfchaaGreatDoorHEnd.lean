/- Contracts of the laws' helpers over the type End and slices of it. Conditions: bounded lengths. -/
import Derived.Test.YtdgmgchdjlfchaaGreatDoorStrs
set_option linter.unusedVariables false
set_option linter.unusedSimpArgs false
namespace Go.Proofs.YtdgmgchdjlfchaaGreatDoor
open Go.RowKit
set_option maxHeartbeats 4000000
set_option maxRecDepth 100000
theorem DTerrain.siz_tr (x:DTerrain):sizL x.tr=siz (zai x.heights)+siz (zai x.clutter):=by
 simp only[DTerrain.tr,sizL,siz,intT];omega
theorem sz_Terrain (x:DTerrain) (v3 v4:Value) (B:Nat) (left:Int) (w:World) (h3:Rd B w (zai x.heights) v3) (h4:Rd B w (zai x.clutter) v4) (hB:B≤w.heap.size) (hl:0≤left) (hl2:left≤1048576) (hok:x.ok) :
  Calls Tryz.prog 7 #[.agg #[.int .i64 x.step,.int .i64 x.width,.int .i64 x.height,v3,v4],.int .i64 left] w (SzPost (sizL x.tr) left w):=by
 have hsum:=DTerrain.siz_tr x;have b0:Below w.heap.size w (w.alloc (.cells #[.int .i64 x.step,.int .i64 x.width,.int .i64 x.height,v3,v4] 24)):=(Below.refl _ _).alloc (Nat.le_refl _) _;have B0:=Lib.hid b0;have z0:w.heap.size≤(w.alloc (.cells #[.int .i64 x.step,.int .i64 x.width,.int .i64 x.height,v3,v4] 24)).heap.size:=b0.size;have y0:w.heap.size<(w.alloc (.cells #[.int .i64 x.step,.int .i64 x.width,.int .i64 x.height,v3,v4] 24)).heap.size:=by simp
 have R0_3:=Lib.hid (h3.below (b0.mono hB));have R0_4:=Lib.hid (h4.below (b0.mono hB));clear b0 h3 h4;go_enter Tryz.func7,Tryz.ntmps7;go_wp2_with fail;refine (sz_Int64S x.heights v3 B _ _ R0_3.out (by omega) (by omega) (by omega)).mono ?_;rintro e w1 ⟨⟨c0,rfl⟩|⟨c0,rfl⟩,hb1⟩
 case inr =>
  go_wp2;go_ret;exact⟨Or.inr ⟨by omega,rfl⟩,B0.out.trans (hb1.mono z0)⟩
 obtain⟨q1,_,y1⟩:=zag hb1 (b:=w.heap.size) y0;have z1:w.heap.size≤w1.heap.size:=by omega
 have B1:=Lib.hid (B0.out.trans (hb1.mono z0));have R1_3:=Lib.hid (R0_3.out.below (hb1.mono (by omega)));have R1_4:=Lib.hid (R0_4.out.below (hb1.mono (by omega)));clear hb1;have d0:decide (left-(siz (zai x.heights):Int)<0)=false:=by simp<;>omega
 go_wp2_with fail;refine (sz_Int64S x.clutter v4 B _ _ R1_4.out (by omega) (by omega) (by omega)).mono ?_;rintro e w2 ⟨⟨c1,rfl⟩|⟨c1,rfl⟩,hb2⟩
 case inr =>
  go_wp2;go_ret;exact⟨Or.inr ⟨by omega,rfl⟩,B1.out.trans (hb2.mono z1)⟩
 obtain⟨q2,_,y2⟩:=zag hb2 (b:=w.heap.size) y1;have z2:w.heap.size≤w2.heap.size:=by omega
 have B2:=Lib.hid (B1.out.trans (hb2.mono z1));have R2_3:=Lib.hid (R1_3.out.below (hb2.mono (by omega)));have R2_4:=Lib.hid (R1_4.out.below (hb2.mono (by omega)));clear hb2;have d1:decide (left-(siz (zai x.heights):Int)-(siz (zai x.clutter):Int)<0)=false:=by simp<;>omega
 go_wp2;go_ret;exact⟨Or.inl ⟨by omega,zb2 (by omega)⟩,B2.out⟩
theorem to_Terrain (x:DTerrain) (v3 v4:Value) (w:World) (h3:Rd w.heap.size w (zai x.heights) v3) (h4:Rd w.heap.size w (zai x.clutter) v4) (hn:sizL x.tr≤1048576) :
  Calls Tryz.prog 10 #[.agg #[.int .i64 x.step,.int .i64 x.width,.int .i64 x.height,v3,v4]] w fun e w'=>∃ a3 c3 a4 c4 fp,e=.returned (.agg #[.int .i64 x.step,.int .i64 x.width,.int .i64 x.height,.slice a3 x.heights.length c3,.slice a4 x.clutter.length c4])∧Below w.heap.size w w'∧OwnV w' x.tr [.int .i64 x.step,.int .i64 x.width,.int .i64 x.height,.slice a3 x.heights.length c3,.slice a4 x.clutter.length c4] fp∧In w.heap.size w'.heap.size fp:=by
 have hsum:=DTerrain.siz_tr x;go_enter Tryz.func10,Tryz.ntmps10;have bX0:Below w.heap.size w (((w.alloc (.cells #[.int .i64 x.step,.int .i64 x.width,.int .i64 x.height,v3,v4] 24)).alloc (.cells #[.int .i64 0,.int .i64 0,.int .i64 0,.slice none 0 0,.slice none 0 0] 39)).alloc (.cells #[.int .i64 x.step,.int .i64 x.width,.int .i64 x.height,.slice none 0 0,.slice none 0 0] 39)):=(((Below.refl _ _).alloc (Nat.le_refl _) _).alloc (by simp) _).alloc (by first|(simp;done)|(simp<;>omega)) _;have BX0:=Lib.hid bX0;have zX0:w.heap.size+3≤(((w.alloc (.cells #[.int .i64 x.step,.int .i64 x.width,.int .i64 x.height,v3,v4] 24)).alloc (.cells #[.int .i64 0,.int .i64 0,.int .i64 0,.slice none 0 0,.slice none 0 0] 39)).alloc (.cells #[.int .i64 x.step,.int .i64 x.width,.int .i64 x.height,.slice none 0 0,.slice none 0 0] 39)).heap.size:=by first|(simp;done)|(simp<;>omega)
 clear bX0;go_wp2_with fail;refine (to_Int64S x.heights v3 (((w.alloc (.cells #[.int .i64 x.step,.int .i64 x.width,.int .i64 x.height,v3,v4] 24)).alloc (.cells #[.int .i64 0,.int .i64 0,.int .i64 0,.slice none 0 0,.slice none 0 0] 39)).alloc (.cells #[.int .i64 x.step,.int .i64 x.width,.int .i64 x.height,.slice none 0 0,.slice none 0 0] 39)) ((h3.below BX0.out).mono (by omega)) (by omega)).mono ?_;rintro e w1 ⟨a3,c3,fp1,rfl,hb1,o1,i1⟩;obtain⟨qa1,_,ya1⟩:=zag hb1 (b:=w.heap.size) (by omega);obtain⟨qb1,qf1,yb1⟩:=zag hb1 (b:=w.heap.size+1) (by omega);obtain⟨qc1,qg1,yc1⟩:=zag hb1 (b:=w.heap.size+1+1) (by omega);have z1:=hb1.size;have B1:=Lib.hid (BX0.out.trans (hb1.mono (by omega)));have y1:w.heap.size+3≤w1.heap.size:=by omega
 have j1:In (w.heap.size+3) w1.heap.size fp1:=i1.mono (by omega) (Nat.le_refl _);have P1_1:=Lib.hid o1;clear hb1 o1 i1;have BX1:=Lib.hid (B1.out.setCell (p:=⟨w.heap.size+1+1,3,none⟩) (by show w.heap.size≤w.heap.size+1+1;omega) (.slice a3 x.heights.length c3));have zX1:w.heap.size+3≤((w1.setCell ⟨w.heap.size+1+1,3,none⟩ (.slice a3 x.heights.length c3))).heap.size:=by simp only[zae];omega
 go_wp2_with fail;refine (to_Int64S x.clutter v4 ((w1.setCell ⟨w.heap.size+1+1,3,none⟩ (.slice a3 x.heights.length c3))) ((h4.below BX1.out).mono (by omega)) (by omega)).mono ?_;rintro e w2 ⟨a4,c4,fp2,rfl,hb2,o2,i2⟩;obtain⟨qa2,_,ya2⟩:=zag hb2 (b:=w.heap.size) (by omega);obtain⟨qb2,qf2,yb2⟩:=zag hb2 (b:=w.heap.size+1) (by omega);obtain⟨qc2,qg2,yc2⟩:=zag hb2 (b:=w.heap.size+1+1) (by omega);have z2:=hb2.size;simp only[zae] at z2;have B2:=Lib.hid (BX1.out.trans (hb2.mono (by omega)));have y2:w.heap.size+3≤w2.heap.size:=by omega
 have P1_2:=Lib.hid ((P1_1.out.setFar (p:=⟨w.heap.size+1+1,3,none⟩) (fun e=>by have:=(j1 _ e).1;simp only at this;omega) (.slice a3 x.heights.length c3)).below j1 (by first|omega|(simp only[zae];omega)) hb2);have j2:In (w1.heap.size) w2.heap.size fp2:=i2.mono (by simp only[zae];omega) (Nat.le_refl _);have P2_2:=Lib.hid o2;clear hb2 o2 i2;go_wp2;have F1:=Lib.hid ((((((P1_2.out.setFar (p:=⟨w.heap.size+1+1,4,none⟩) (fun e=>by have:=(j1 _ e).1;simp only at this;omega) (.slice a4 x.clutter.length c4)).setFar (p:=⟨w.heap.size+1,0,none⟩) (fun e=>by have:=(j1 _ e).1;simp only at this;omega) (.int .i64 x.step)).setFar (p:=⟨w.heap.size+1,1,none⟩) (fun e=>by have:=(j1 _ e).1;simp only at this;omega) (.int .i64 x.width)).setFar (p:=⟨w.heap.size+1,2,none⟩) (fun e=>by have:=(j1 _ e).1;simp only at this;omega) (.int .i64 x.height)).setFar (p:=⟨w.heap.size+1,3,none⟩) (fun e=>by have:=(j1 _ e).1;simp only at this;omega) (.slice a3 x.heights.length c3)).setFar (p:=⟨w.heap.size+1,4,none⟩) (fun e=>by have:=(j1 _ e).1;simp only at this;omega) (.slice a4 x.clutter.length c4));have F2:=Lib.hid ((((((P2_2.out.setFar (p:=⟨w.heap.size+1+1,4,none⟩) (fun e=>by have:=(j2 _ e).1;simp only at this;omega) (.slice a4 x.clutter.length c4)).setFar (p:=⟨w.heap.size+1,0,none⟩) (fun e=>by have:=(j2 _ e).1;simp only at this;omega) (.int .i64 x.step)).setFar (p:=⟨w.heap.size+1,1,none⟩) (fun e=>by have:=(j2 _ e).1;simp only at this;omega) (.int .i64 x.width)).setFar (p:=⟨w.heap.size+1,2,none⟩) (fun e=>by have:=(j2 _ e).1;simp only at this;omega) (.int .i64 x.height)).setFar (p:=⟨w.heap.size+1,3,none⟩) (fun e=>by have:=(j2 _ e).1;simp only at this;omega) (.slice a3 x.heights.length c3)).setFar (p:=⟨w.heap.size+1,4,none⟩) (fun e=>by have:=(j2 _ e).1;simp only at this;omega) (.slice a4 x.clutter.length c4));have BF:=Lib.hid ((((((B2.out.setCell (p:=⟨w.heap.size+1+1,4,none⟩) (by show w.heap.size≤w.heap.size+1+1;omega) (.slice a4 x.clutter.length c4)).setCell (p:=⟨w.heap.size+1,0,none⟩) (by show w.heap.size≤w.heap.size+1;omega) (.int .i64 x.step)).setCell (p:=⟨w.heap.size+1,1,none⟩) (by show w.heap.size≤w.heap.size+1;omega) (.int .i64 x.width)).setCell (p:=⟨w.heap.size+1,2,none⟩) (by show w.heap.size≤w.heap.size+1;omega) (.int .i64 x.height)).setCell (p:=⟨w.heap.size+1,3,none⟩) (by show w.heap.size≤w.heap.size+1;omega) (.slice a3 x.heights.length c3)).setCell (p:=⟨w.heap.size+1,4,none⟩) (by show w.heap.size≤w.heap.size+1;omega) (.slice a4 x.clutter.length c4));refine bodyPost_ret (v:=.agg #[.int .i64 x.step,.int .i64 x.width,.int .i64 x.height,.slice a3 x.heights.length c3,.slice a4 x.clutter.length c4]) (by simp[results,Tryz.results10,go_sem, *]) rfl ⟨a3,c3,a4,c4,fp1++(fp2++[]),rfl,BF.out,?_,?_⟩
 ·exact (OwnV.consLit (OwnV.consLit (OwnV.consLit (OwnV.cons F1.out (OwnV.cons F2.out OwnV.nil (fun x hx e=>by have h1:=j2 x hx;simp at e)) (fun x hx e=>by have h1:=j1 x hx;simp only[List.mem_append,List.not_mem_nil,or_false] at e;have h2:=j2 x e;omega)) rfl) rfl) rfl)
 ·simp only[zae]
  exact ((j1.mono (by omega) (by omega)).append ((j2.mono (by omega) (by omega)).append In.nil))
theorem eq_Terrain (x:DTerrain) (v3 u3 v4 u4:Value) (B:Nat) (w:World) (h3:Rd B w (zai x.heights) v3) (g3:Rd B w (zai x.heights) u3) (h4:Rd B w (zai x.clutter) v4) (g4:Rd B w (zai x.clutter) u4) (hB:B≤w.heap.size) (hn:sizL x.tr≤1099511627776) :
  Calls Tryz.prog 14 #[.agg #[.int .i64 x.step,.int .i64 x.width,.int .i64 x.height,v3,v4],.agg #[.int .i64 x.step,.int .i64 x.width,.int .i64 x.height,u3,u4]] w fun e w'=>e=.returned (.bool true)∧Below w.heap.size w w':=by
 have hsum:=DTerrain.siz_tr x;have b0:Below w.heap.size w ((w.alloc (.cells #[.int .i64 x.step,.int .i64 x.width,.int .i64 x.height,v3,v4] 39)).alloc (.cells #[.int .i64 x.step,.int .i64 x.width,.int .i64 x.height,u3,u4] 39)):=((Below.refl _ _).alloc (Nat.le_refl _) _).alloc (by simp) _;have B0:=Lib.hid b0;have y0:w.heap.size+2≤((w.alloc (.cells #[.int .i64 x.step,.int .i64 x.width,.int .i64 x.height,v3,v4] 39)).alloc (.cells #[.int .i64 x.step,.int .i64 x.width,.int .i64 x.height,u3,u4] 39)).heap.size:=by first|(simp;done)|(simp<;>omega)
 clear b0;go_enter Tryz.func14,Tryz.ntmps14;go_wp2_with fail;refine (eq_Int64S x.heights v3 u3 B _ (h3.below (B0.out.mono hB)) (g3.below (B0.out.mono hB)) (by omega) (by omega)).mono ?_;rintro e w1 ⟨rfl,hb1⟩;obtain⟨qa1,_,ya1⟩:=zag hb1 (b:=w.heap.size) (by omega);obtain⟨qb1,_,yb1⟩:=zag hb1 (b:=w.heap.size+1) (by omega);have y1:w.heap.size+2≤w1.heap.size:=by have:=hb1.size;omega
 have B1:=Lib.hid (B0.out.trans (hb1.mono (by omega)));clear hb1;go_wp2_with fail;refine (eq_Int64S x.clutter v4 u4 B _ (h4.below (B1.out.mono hB)) (g4.below (B1.out.mono hB)) (by omega) (by omega)).mono ?_;rintro e w2 ⟨rfl,hb2⟩;obtain⟨qa2,_,ya2⟩:=zag hb2 (b:=w.heap.size) (by omega);obtain⟨qb2,_,yb2⟩:=zag hb2 (b:=w.heap.size+1) (by omega);have y2:w.heap.size+2≤w2.heap.size:=by have:=hb2.size;omega
 have B2:=Lib.hid (B1.out.trans (hb2.mono (by omega)));clear hb2;go_wp2;go_ret;exact⟨rfl,B2.out⟩
theorem mark_Terrain (x:DTerrain) (v3 v4:Value) (f3 f4:List Nat) (k0 l3 m3 l4 m4:Nat) (w:World) (o3:Own w (zai x.heights) v3 f3) (i3:In l3 m3 f3) (n3:m3≤w.heap.size) (o4:Own w (zai x.clutter) v4 f4) (i4:In l4 m4 f4) (n4:m4≤w.heap.size) (d3_4:∀ y ∈ f3,y ∉ f4) (hs:sizL x.tr≤1099511627776) (hk0:k0+cnt (zai x.heights)+cnt (zai x.clutter)≤1099511627776) (hk1:0<k0) :
  Calls Tryz.prog 19 #[.agg #[.int .i64 x.step,.int .i64 x.width,.int .i64 x.height,v3,v4],.int .i64 k0] w fun e w'=>e=.returned (.int .i64 ((k0+cnt (zai x.heights)+cnt (zai x.clutter):Nat):Int))∧Own w' (mkT (zai x.heights) (k0)) v3 f3∧Own w' (mkT (zai x.clutter) (k0+cnt (zai x.heights))) v4 f4∧Chg (f3++f4) w w':=by
 have hsum:=DTerrain.siz_tr x;have b0:Below w.heap.size w (w.alloc (.cells #[.int .i64 x.step,.int .i64 x.width,.int .i64 x.height,v3,v4] 39)):=(Below.refl _ _).alloc (Nat.le_refl _) _;have C0:=Lib.hid (Chg.of_below (fp:=(f3++f4)) b0);have y0:w.heap.size<(w.alloc (.cells #[.int .i64 x.step,.int .i64 x.width,.int .i64 x.height,v3,v4] 39)).heap.size:=by simp
 have O0_3:=Lib.hid (o3.below i3 n3 b0);have O0_4:=Lib.hid (o4.below i4 n4 b0);clear b0 o3 o4;go_enter Tryz.func19,Tryz.ntmps19;go_wp2_with fail;refine (zex x.heights v3 f3 (k0) l3 _ _ O0_3.out (i3.mono (Nat.le_refl _) (by omega)) (by omega) (by first|rfl|simp only[Int.natCast_add]) (by omega) (by omega)).mono ?_;rintro e w1 ⟨rfl,p3,c1⟩;have y1:w.heap.size<w1.heap.size:=by have:=c1.size;omega
 have hk1c:∀ q,w1.cell? ⟨w.heap.size,q,none⟩=_:=fun q=>World.cell?_of_block (a:=⟨w.heap.size,q,none⟩) (c1.block w.heap.size y0 (fun e=>by have:=(i3 _ e).2;omega))
 have C1:=Lib.hid (C0.out.trans (c1.mono (fun y hy=>by simp[hy])));have O1_3:=Lib.hid p3;have O1_4:=Lib.hid (O0_4.out.chg i4 (by omega) c1 (fun y hy e=>d3_4 y e hy));clear c1 p3;go_wp2_with fail;refine (zex x.clutter v4 f4 (k0+cnt (zai x.heights)) l4 _ _ O1_4.out (i4.mono (Nat.le_refl _) (by omega)) (by omega) (by first|rfl|simp only[Int.natCast_add]) (by omega) (by omega)).mono ?_;rintro e w2 ⟨rfl,p4,c2⟩;have y2:w.heap.size<w2.heap.size:=by have:=c2.size;omega
 have hk2c:∀ q,w2.cell? ⟨w.heap.size,q,none⟩=_:=fun q=>World.cell?_of_block (a:=⟨w.heap.size,q,none⟩) (c2.block w.heap.size y1 (fun e=>by have:=(i4 _ e).2;omega))
 have C2:=Lib.hid (C1.out.trans (c2.mono (fun y hy=>by simp[hy])));have O2_3:=Lib.hid (O1_3.out.chg i3 (by omega) c2 (fun y hy e=>d3_4 y hy e));have O2_4:=Lib.hid p4;clear c2 p4;go_wp2;go_ret;exact⟨zb2 (by simp only[Int.natCast_add]),O2_3.out,O2_4.out,C2.out⟩
set_option maxHeartbeats 4000000
set_option maxRecDepth 100000
theorem DRadio.siz_tr (x:DRadio):sizL x.tr=x.name.size+siz (DMode.sT x.modes):=by
 simp only[DRadio.tr,sizL,siz,intT,strT];omega
theorem sz_Radio (x:DRadio) (v5:Value) (B:Nat) (left:Int) (w:World) (h5:Rd B w (DMode.sT x.modes) v5) (hB:B≤w.heap.size) (hl:0≤left) (hl2:left≤1048576) (hok:x.ok) :
  Calls Tryz.prog 85 #[.agg #[.string x.name,.int .i64 x.power,.int .i64 x.feeder,.int .i64 x.noise,.int .i64 x.width,v5],.int .i64 left] w (SzPost (sizL x.tr) left w):=by
 have hsum:=DRadio.siz_tr x;have b0:Below w.heap.size w (w.alloc (.cells #[.string x.name,.int .i64 x.power,.int .i64 x.feeder,.int .i64 x.noise,.int .i64 x.width,v5] 133)):=(Below.refl _ _).alloc (Nat.le_refl _) _;have B0:=Lib.hid b0;have z0:w.heap.size≤(w.alloc (.cells #[.string x.name,.int .i64 x.power,.int .i64 x.feeder,.int .i64 x.noise,.int .i64 x.width,v5] 133)).heap.size:=b0.size;have y0:w.heap.size<(w.alloc (.cells #[.string x.name,.int .i64 x.power,.int .i64 x.feeder,.int .i64 x.noise,.int .i64 x.width,v5] 133)).heap.size:=by simp
 have R0_5:=Lib.hid (h5.below (b0.mono hB));clear b0 h5;go_enter Tryz.func85,Tryz.ntmps85;have hm0:x.name.size≤9223372036854775807:=hok.name
 by_cases c0:(x.name.size:Int)≤left
 case neg =>
  go_wp2;go_ret;exact⟨Or.inr ⟨by omega,rfl⟩,B0.out⟩
 have d0:decide (left-(x.name.size:Int)<0)=false:=by simp<;>omega
 go_wp2_with fail;refine (sz_ModeS x.modes v5 B _ _ R0_5.out (by omega) (by omega) (by omega)).mono ?_;rintro e w1 ⟨⟨c1,rfl⟩|⟨c1,rfl⟩,hb1⟩
 case inr =>
  go_wp2;go_ret;exact⟨Or.inr ⟨by omega,rfl⟩,B0.out.trans (hb1.mono z0)⟩
 obtain⟨q1,_,y1⟩:=zag hb1 (b:=w.heap.size) y0;have z1:w.heap.size≤w1.heap.size:=by omega
 have B1:=Lib.hid (B0.out.trans (hb1.mono z0));have R1_5:=Lib.hid (R0_5.out.below (hb1.mono (by omega)));clear hb1;have d1:decide (left-(x.name.size:Int)-(siz (DMode.sT x.modes):Int)<0)=false:=by simp<;>omega
 go_wp2;go_ret;exact⟨Or.inl ⟨by omega,zb2 (by omega)⟩,B1.out⟩
theorem to_Radio (x:DRadio) (v5:Value) (w:World) (h5:Rd w.heap.size w (DMode.sT x.modes) v5) (hn:sizL x.tr≤1048576) :
  Calls Tryz.prog 98 #[.agg #[.string x.name,.int .i64 x.power,.int .i64 x.feeder,.int .i64 x.noise,.int .i64 x.width,v5]] w fun e w'=>∃ a5 c5 fp,e=.returned (.agg #[.string x.name,.int .i64 x.power,.int .i64 x.feeder,.int .i64 x.noise,.int .i64 x.width,.slice a5 x.modes.length c5])∧Below w.heap.size w w'∧OwnV w' x.tr [.string x.name,.int .i64 x.power,.int .i64 x.feeder,.int .i64 x.noise,.int .i64 x.width,.slice a5 x.modes.length c5] fp∧In w.heap.size w'.heap.size fp:=by
 have hsum:=DRadio.siz_tr x;go_enter Tryz.func98,Tryz.ntmps98;have bX0:Below w.heap.size w (((w.alloc (.cells #[.string x.name,.int .i64 x.power,.int .i64 x.feeder,.int .i64 x.noise,.int .i64 x.width,v5] 133)).alloc (.cells #[.string ⟨#[]⟩,.int .i64 0,.int .i64 0,.int .i64 0,.int .i64 0,.slice none 0 0] 151)).alloc (.cells #[.string x.name,.int .i64 x.power,.int .i64 x.feeder,.int .i64 x.noise,.int .i64 x.width,.slice none 0 0] 151)):=(((Below.refl _ _).alloc (Nat.le_refl _) _).alloc (by simp) _).alloc (by first|(simp;done)|(simp<;>omega)) _;have BX0:=Lib.hid bX0;have zX0:w.heap.size+3≤(((w.alloc (.cells #[.string x.name,.int .i64 x.power,.int .i64 x.feeder,.int .i64 x.noise,.int .i64 x.width,v5] 133)).alloc (.cells #[.string ⟨#[]⟩,.int .i64 0,.int .i64 0,.int .i64 0,.int .i64 0,.slice none 0 0] 151)).alloc (.cells #[.string x.name,.int .i64 x.power,.int .i64 x.feeder,.int .i64 x.noise,.int .i64 x.width,.slice none 0 0] 151)).heap.size:=by first|(simp;done)|(simp<;>omega)
 clear bX0;go_wp2_with fail;refine (to_ModeS x.modes v5 (((w.alloc (.cells #[.string x.name,.int .i64 x.power,.int .i64 x.feeder,.int .i64 x.noise,.int .i64 x.width,v5] 133)).alloc (.cells #[.string ⟨#[]⟩,.int .i64 0,.int .i64 0,.int .i64 0,.int .i64 0,.slice none 0 0] 151)).alloc (.cells #[.string x.name,.int .i64 x.power,.int .i64 x.feeder,.int .i64 x.noise,.int .i64 x.width,.slice none 0 0] 151)) ((h5.below BX0.out).mono (by omega)) (by omega)).mono ?_;rintro e w1 ⟨a5,c5,fp1,rfl,hb1,o1,i1⟩;obtain⟨qa1,_,ya1⟩:=zag hb1 (b:=w.heap.size) (by omega);obtain⟨qb1,qf1,yb1⟩:=zag hb1 (b:=w.heap.size+1) (by omega);obtain⟨qc1,qg1,yc1⟩:=zag hb1 (b:=w.heap.size+1+1) (by omega);have z1:=hb1.size;have B1:=Lib.hid (BX0.out.trans (hb1.mono (by omega)));have y1:w.heap.size+3≤w1.heap.size:=by omega
 have j1:In (w.heap.size+3) w1.heap.size fp1:=i1.mono (by omega) (Nat.le_refl _);have P1_1:=Lib.hid o1;clear hb1 o1 i1;go_wp2;have F1:=Lib.hid (((((((P1_1.out.setFar (p:=⟨w.heap.size+1+1,5,none⟩) (fun e=>by have:=(j1 _ e).1;simp only at this;omega) (.slice a5 x.modes.length c5)).setFar (p:=⟨w.heap.size+1,0,none⟩) (fun e=>by have:=(j1 _ e).1;simp only at this;omega) (.string x.name)).setFar (p:=⟨w.heap.size+1,1,none⟩) (fun e=>by have:=(j1 _ e).1;simp only at this;omega) (.int .i64 x.power)).setFar (p:=⟨w.heap.size+1,2,none⟩) (fun e=>by have:=(j1 _ e).1;simp only at this;omega) (.int .i64 x.feeder)).setFar (p:=⟨w.heap.size+1,3,none⟩) (fun e=>by have:=(j1 _ e).1;simp only at this;omega) (.int .i64 x.noise)).setFar (p:=⟨w.heap.size+1,4,none⟩) (fun e=>by have:=(j1 _ e).1;simp only at this;omega) (.int .i64 x.width)).setFar (p:=⟨w.heap.size+1,5,none⟩) (fun e=>by have:=(j1 _ e).1;simp only at this;omega) (.slice a5 x.modes.length c5));have BF:=Lib.hid (((((((B1.out.setCell (p:=⟨w.heap.size+1+1,5,none⟩) (by show w.heap.size≤w.heap.size+1+1;omega) (.slice a5 x.modes.length c5)).setCell (p:=⟨w.heap.size+1,0,none⟩) (by show w.heap.size≤w.heap.size+1;omega) (.string x.name)).setCell (p:=⟨w.heap.size+1,1,none⟩) (by show w.heap.size≤w.heap.size+1;omega) (.int .i64 x.power)).setCell (p:=⟨w.heap.size+1,2,none⟩) (by show w.heap.size≤w.heap.size+1;omega) (.int .i64 x.feeder)).setCell (p:=⟨w.heap.size+1,3,none⟩) (by show w.heap.size≤w.heap.size+1;omega) (.int .i64 x.noise)).setCell (p:=⟨w.heap.size+1,4,none⟩) (by show w.heap.size≤w.heap.size+1;omega) (.int .i64 x.width)).setCell (p:=⟨w.heap.size+1,5,none⟩) (by show w.heap.size≤w.heap.size+1;omega) (.slice a5 x.modes.length c5));refine bodyPost_ret (v:=.agg #[.string x.name,.int .i64 x.power,.int .i64 x.feeder,.int .i64 x.noise,.int .i64 x.width,.slice a5 x.modes.length c5]) (by simp[results,Tryz.results98,go_sem, *]) rfl ⟨a5,c5,fp1++[],rfl,BF.out,?_,?_⟩
 ·exact (OwnV.consLit (OwnV.consLit (OwnV.consLit (OwnV.consLit (OwnV.consLit (OwnV.cons F1.out OwnV.nil (fun x hx e=>by have h1:=j1 x hx;simp at e)) rfl) rfl) rfl) rfl) rfl)
 ·simp only[zae]
  exact ((j1.mono (by omega) (by omega)).append In.nil)
theorem eq_Radio (x:DRadio) (v5 u5:Value) (B:Nat) (w:World) (h5:Rd B w (DMode.sT x.modes) v5) (g5:Rd B w (DMode.sT x.modes) u5) (hB:B≤w.heap.size) (hn:sizL x.tr≤1099511627776) :
  Calls Tryz.prog 114 #[.agg #[.string x.name,.int .i64 x.power,.int .i64 x.feeder,.int .i64 x.noise,.int .i64 x.width,v5],.agg #[.string x.name,.int .i64 x.power,.int .i64 x.feeder,.int .i64 x.noise,.int .i64 x.width,u5]] w fun e w'=>e=.returned (.bool true)∧Below w.heap.size w w':=by
 have hsum:=DRadio.siz_tr x;have b0:Below w.heap.size w ((w.alloc (.cells #[.string x.name,.int .i64 x.power,.int .i64 x.feeder,.int .i64 x.noise,.int .i64 x.width,v5] 151)).alloc (.cells #[.string x.name,.int .i64 x.power,.int .i64 x.feeder,.int .i64 x.noise,.int .i64 x.width,u5] 151)):=((Below.refl _ _).alloc (Nat.le_refl _) _).alloc (by simp) _;have B0:=Lib.hid b0;have y0:w.heap.size+2≤((w.alloc (.cells #[.string x.name,.int .i64 x.power,.int .i64 x.feeder,.int .i64 x.noise,.int .i64 x.width,v5] 151)).alloc (.cells #[.string x.name,.int .i64 x.power,.int .i64 x.feeder,.int .i64 x.noise,.int .i64 x.width,u5] 151)).heap.size:=by first|(simp;done)|(simp<;>omega)
 clear b0;go_enter Tryz.func114,Tryz.ntmps114;go_wp2_with fail;refine (eq_ModeS x.modes v5 u5 B _ (h5.below (B0.out.mono hB)) (g5.below (B0.out.mono hB)) (by omega) (by omega)).mono ?_;rintro e w1 ⟨rfl,hb1⟩;obtain⟨qa1,_,ya1⟩:=zag hb1 (b:=w.heap.size) (by omega);obtain⟨qb1,_,yb1⟩:=zag hb1 (b:=w.heap.size+1) (by omega);have y1:w.heap.size+2≤w1.heap.size:=by have:=hb1.size;omega
 have B1:=Lib.hid (B0.out.trans (hb1.mono (by omega)));clear hb1;go_wp2;go_ret;exact⟨rfl,B1.out⟩
theorem DRadio.siz_s (l:List DRadio):siz (DRadio.sT l)=l.length+sizL (l.flatMap DRadio.tr):=zfc DRadio.tr 6 (by decide) DRadio.tr_len l
theorem sz_RadioS (l:List DRadio) (v:Value) (B:Nat) (left:Int) (w:World) (h:Rd B w (DRadio.sT l) v) (hB:B≤w.heap.size) (hl:0≤left) (hl2:left≤1048576) (hstr:∀ x ∈ l,x.ok) :
  Calls Tryz.prog 38 #[v,.int .i64 left] w (SzPost (siz (DRadio.sT l)) left w):=by
 rw[DRadio.siz_s];obtain⟨a,c,rfl,hnc,hcm,hcells⟩:=DRadio.rd h;clear h;unfold maxLen at hcm
 by_cases c1:(l.length:Int)≤left
 ·have c1':decide (left-(l.length:Int)<0)=false:=by simp<;>omega
  go_enter Tryz.func38,Tryz.ntmps38;go_wp2;go_loopw [1,5] (fun m i wr=>∃ (k:Nat),k≤l.length∧i=.int .i64 k∧(sizL ((l.take k).flatMap DRadio.tr):Int)≤left-l.length∧m=.int .i64 (left-l.length-sizL ((l.take k).flatMap DRadio.tr))∧Below w.heap.size w wr) (fun _ i wr=>l.length-(intOf i).toNat)
  case atStart=>exact⟨0,Nat.zero_le _,rfl,by simp[sizL];omega,by simp[sizL],Below.refl _ _⟩
  case round =>
   obtain⟨k,hk,rfl,hm,rfl,hb⟩:=hrel
   by_cases hlt:k<l.length
   ·obtain⟨b,off,rfl,hbl,hat⟩:=hcells (by omega)
    obtain⟨s0,s1,s2,s3,s4,⟨u5,s5,r5⟩⟩:=hat k hlt;rw[← hb.cell (p:=⟨b,_,none⟩) (show b<w.heap.size by omega)] at s0 s1 s2 s3 s4 s5;have t5:Rd B wr (DMode.sT l[k].modes) u5:=r5.below (hb.mono hB);have hB':B≤wr.heap.size:=by have:=hb.size;omega
    have hok:=hstr l[k] (List.getElem_mem hlt);have hsum:=zda DRadio.tr l k hlt;have hle:=zdy DRadio.tr l (k+1);have HS:=Lib.hid hsum;have HB:=Lib.hid hb;clear hcells hat hb hsum hstr r5;go_wp2_with (go_at_call 85;refine (sz_Radio l[k] u5 B _ _ t5 hB' (by omega) (by omega) hok).mono ?_;rintro e w1 ⟨⟨c2,rfl⟩|⟨c2,rfl⟩,hb1⟩)
    ·have c3:decide (left-l.length-sizL ((l.take k).flatMap DRadio.tr)-sizL l[k].tr<0)=false:=by simp<;>omega
     go_wp2;go_roundw
     case rel=>exact⟨k+1,by omega,by go_num,by rw[HS.out];omega,by rw[HS.out];go_num,HB.out.trans (hb1.mono HB.out.size)⟩
     case measure=>simp[intOf];omega
    ·go_wp2
     go_ret;exact⟨Or.inr ⟨by have:=HS.out;omega,rfl⟩,HB.out.trans (hb1.mono HB.out.size)⟩
   ·obtain rfl:k=l.length:=by omega
    clear hcells;rw[List.take_length] at hm;go_wp2;go_ret;refine⟨Or.inl ⟨by omega,zb2 ?_⟩,hb⟩;simp only[List.take_length];omega
 ·have c1':decide (left-(l.length:Int)<0)=true:=by simp<;>omega
  go_enter Tryz.func38,Tryz.ntmps38;go_wp2;go_ret;exact⟨Or.inr ⟨by omega,rfl⟩,Below.refl _ _⟩
theorem infoRadio:(Tryz.prog.info? 151).map (fun i=>(i.zero,i.size,i.bytes))=some (some (.agg #[.string ⟨#[]⟩,.int .i64 0,.int .i64 0,.int .i64 0,.int .i64 0,.slice none 0 0]),6,72):=by kernel_rfl
theorem to_RadioS (l:List DRadio) (v:Value) (w:World) (h:Rd w.heap.size w (DRadio.sT l) v) (hn:siz (DRadio.sT l)≤1048576) :
  Calls Tryz.prog 51 #[v] w fun e w'=>∃ a' c' fp,e=.returned (.slice a' l.length c')∧Below w.heap.size w w'∧Own w' (DRadio.sT l) (.slice a' l.length c') fp∧In w.heap.size w'.heap.size fp:=by
 rw[DRadio.siz_s] at hn;obtain⟨i0,hi0,hz0,hz1,hz2⟩:=info_parts infoRadio;have hmk:=fun W=>zco (P:=Tryz.prog) 44 151 i0 _ Tryz.underlying44 hi0 hz0 .i64 .i64 l.length l.length (Nat.le_refl _) (by rw[hz2];omega) (by omega) W
 rw[hz1] at hmk;have hnb:(l.length:Int)≤1048576:=by omega
 obtain⟨a,c,rfl,hnc,hcm,hcells⟩:=DRadio.rd h;clear h;go_enter Tryz.func51,Tryz.ntmps51;go_wp2;clear hmk hi0 hz0 hz1 hz2;go_loopw [4] (fun i wr=>∃ (k:Nat) (f:List Nat),k≤l.length∧i=.int .i64 k∧Below w.heap.size w wr∧Fill wr w.heap.size 151 (l.length*6) ((l.take k).flatMap DRadio.tr) f∧In w.heap.size wr.heap.size f) (fun i wr=>l.length-(intOf i).toNat)
 case atStart =>
  have hst:=Fill.start w (madeCells #[.string ⟨#[]⟩,.int .i64 0,.int .i64 0,.int .i64 0,.int .i64 0,.slice none 0 0] (l.length*6)) 151;rw[size_madeCells] at hst;exact⟨0,[],Nat.zero_le _,rfl,(Below.refl _ _).alloc (Nat.le_refl _) _,by simpa using hst,In.nil⟩
 case round =>
  obtain⟨k,f,hk,rfl,hb,hfill,hin⟩:=hrel
  by_cases hlt:k<l.length
  ·obtain⟨b,off,rfl,hbl,hat⟩:=hcells (by omega)
   obtain⟨s0,s1,s2,s3,s4,⟨u5,s5,r5⟩⟩:=hat k hlt;rw[← hb.cell (p:=⟨b,_,none⟩) hbl] at s0 s1 s2 s3 s4 s5;have hz:=hfill.lt;have hz2:b<wr.heap.size:=by omega
   have t5:Rd wr.heap.size wr (DMode.sT l[k].modes) u5:=(r5.below hb).mono hb.size;obtain⟨o0,p0⟩:=hfill.room (k*6) (by omega);obtain⟨o1,p1⟩:=hfill.room (k*6+1) (by omega);obtain⟨o2,p2⟩:=hfill.room (k*6+2) (by omega);obtain⟨o3,p3⟩:=hfill.room (k*6+3) (by omega);obtain⟨o4,p4⟩:=hfill.room (k*6+4) (by omega);obtain⟨o5,p5⟩:=hfill.room (k*6+5) (by omega);have hfz:=hfill.open_;have hsl:=zaz DRadio.tr l k hlt;have HB:=Lib.hid hb;clear hcells hat hb r5;go_wp2_with (go_at_call 98;refine (to_Radio l[k] u5 _ t5 (by omega)).mono ?_;rintro e w1 ⟨a5,c5,fp1,rfl,hb1,hown1,hin1⟩;obtain⟨q1,q2⟩:=bcell hb1);go_roundw
   case rel =>
    have hw1:=hfill.below hin hb1;have hst:=hw1.step (us:=l[k].tr) (vs:=[.string l[k].name,.int .i64 l[k].power,.int .i64 l[k].feeder,.int .i64 l[k].noise,.int .i64 l[k].width,.slice a5 l[k].modes.length c5]) (g:=fp1) hown1.rep (by rw[zat _ 6 DRadio.tr_len];simp<;>omega) hown1.nd (fun e=>by have:=(hin1 _ e).1;omega) (fun x hx e=>by have:=(hin1 x hx).1;have:=(hin x e).2;omega) hown1.free;rw[zat _ 6 DRadio.tr_len,List.length_take,Nat.min_eq_left hk,← zb5 DRadio.tr l k hlt] at hst;refine⟨k+1,f++fp1,by omega,by go_num,zdg (HB.out.trans (hb1.mono (by omega))) (Nat.le_refl _) [.string l[k].name,.int .i64 l[k].power,.int .i64 l[k].feeder,.int .i64 l[k].noise,.int .i64 l[k].width,.slice a5 l[k].modes.length c5] (k*6),hst,?_⟩;simp only[zae];exact (hin.mono (Nat.le_refl _) hb1.size).append (hin1.mono (by omega) (Nat.le_refl _))
   case measure=>simp[intOf];omega
  ·obtain rfl:k=l.length:=by omega
   clear hcells;go_wp2;go_ret;rw[List.take_length] at hfill;obtain⟨fp,h1,h2⟩:=hfill.own (zat _ 6 DRadio.tr_len l) (by unfold maxLen;omega);exact⟨_,_,fp,rfl,hb,h1,fun x hx=>by rcases h2 x hx with rfl|h;exact⟨Nat.le_refl _,hfill.lt⟩;exact hin x h⟩
theorem eq_RadioS (l:List DRadio) (v v':Value) (B:Nat) (w:World) (h:Rd B w (DRadio.sT l) v) (h':Rd B w (DRadio.sT l) v') (hB:B≤w.heap.size) (hn:siz (DRadio.sT l)≤1099511627776) :
  Calls Tryz.prog 64 #[v,v'] w fun e w'=>e=.returned (.bool true)∧Below w.heap.size w w':=by
 rw[DRadio.siz_s] at hn;have hnb:(l.length:Int)≤1099511627776:=by omega
 obtain⟨a,c,rfl,hnc,hcm,hcells⟩:=DRadio.rd h;obtain⟨a',c',rfl,hnc',hcm',hcells'⟩:=DRadio.rd h';clear h h';have hne:((l.length:Int) != l.length)=false:=by simp
 go_enter Tryz.func64,Tryz.ntmps64;go_wp2;clear hne;go_loopw [5] (fun i wr=>∃ (k:Nat),k≤l.length∧i=.int .i64 k∧Below w.heap.size w wr) (fun i wr=>l.length-(intOf i).toNat)
 case atStart=>exact⟨0,Nat.zero_le _,rfl,Below.refl _ _⟩
 case round =>
  obtain⟨k,hk,rfl,hb⟩:=hrel
  by_cases hlt:k<l.length
  ·obtain⟨b,off,rfl,hbl,hat⟩:=hcells (by omega)
   obtain⟨b',off',rfl,hbl',hat'⟩:=hcells' (by omega);obtain⟨s0,s1,s2,s3,s4,⟨u5,s5,r5⟩⟩:=hat k hlt;obtain⟨sb0,sb1,sb2,sb3,sb4,⟨ub5,sb5,rb5⟩⟩:=hat' k hlt;rw[← hb.cell (p:=⟨b,_,none⟩) (show b<w.heap.size by omega)] at s0 s1 s2 s3 s4 s5;rw[← hb.cell (p:=⟨b',_,none⟩) (show b' < w.heap.size by omega)] at sb0 sb1 sb2 sb3 sb4 sb5;have t5:Rd B wr.drew (DMode.sT l[k].modes) u5:=(r5.below (hb.mono hB)).drew;have tb5:Rd B wr.drew (DMode.sT l[k].modes) ub5:=(rb5.below (hb.mono hB)).drew;have hB':B≤wr.heap.size:=by have:=hb.size;omega
   have hsl:=zaz DRadio.tr l k hlt;have i1:(0:Int)≤(k:Int):=by omega
   have i2:(k:Int)<(l.length:Int):=by omega
   have HB:=Lib.hid hb;clear hcells hat hcells' hat' hb r5 rb5;go_wp2
   go_still_tail 8,(by kernel_rfl)
   change wpList _ _ _ _ _ wr.drew
   go_wp2_with (go_at_call 114;refine (eq_Radio l[k] u5 ub5 B _ t5 tb5 hB' (by omega)).mono ?_;rintro e w1 ⟨rfl,hb1⟩);go_roundw
   case rel=>exact⟨k+1,by omega,by go_num,HB.out.drew.trans (hb1.mono HB.out.size)⟩
   case measure=>simp[intOf];omega
  ·obtain rfl:k=l.length:=by omega
   clear hcells hcells';go_wp2;go_ret;exact⟨rfl,hb⟩
theorem DRadio.mk_tr (x:DRadio) (K:Nat):mkL x.tr K = [.lit (.string (zdb (K))),.lit (.int .i64 ((K:Int)+1)),.lit (.int .i64 ((K:Int)+1+1)),.lit (.int .i64 ((K:Int)+1+1+1)),.lit (.int .i64 ((K:Int)+1+1+1+1)),mkT (DMode.sT x.modes) (K+1+1+1+1+1)]:=rfl
theorem DRadio.cntL_tr (x:DRadio):cntL x.tr=1+1+1+1+1+cnt (DMode.sT x.modes):=by simp only[DRadio.tr,cntL,cnt,intT,strT];omega
theorem mark_RadioS (l:List DRadio) (v:Value) (fp:List Nat) (k0 lo:Nat) (w:World) (h:Own w (DRadio.sT l) v fp) (hin:In lo w.heap.size fp) (hs:siz (DRadio.sT l)≤1099511627776) (hk0:k0+cnt (DRadio.sT l)≤1099511627776) (hk1:0<k0) :
  Calls Tryz.prog 70 #[v,.int .i64 k0] w fun e w'=>e=.returned (.int .i64 ((k0+cnt (DRadio.sT l):Nat):Int))∧Own w' (mkT (DRadio.sT l) k0) v fp∧Chg fp w w':=by
 rw[DRadio.siz_s] at hs;obtain⟨a,c,hv,hnc,hcm⟩:=h.form (k:=6) (g:=DRadio.tr) (by decide) DRadio.tr_len;subst hv;rw[show cnt (DRadio.sT l)=cntL (l.flatMap DRadio.tr) from by rw[DRadio.sT,cnt]] at hk0 ⊢;have hnb:(l.length:Int)≤1099511627776:=by omega
 go_enter Tryz.func70,Tryz.ntmps70;go_wp2;go_loopw [1,5] (fun kk i wr=>∃ (j K:Nat),j≤l.length∧i=.int .i64 j∧K=k0+cntL ((l.take j).flatMap DRadio.tr)∧kk=.int .i64 (K:Int)∧Own wr (mid DRadio.tr 6 l k0 j) (.slice a l.length c) fp∧Chg fp w wr) (fun _ i wr=>l.length-(intOf i).toNat)
 case atStart=>exact⟨0,k0,Nat.zero_le _,rfl,by simp[cntL],rfl,by rw[zev];exact h,Chg.refl _ _⟩
 case round =>
  obtain⟨j,K,hj,rfl,hK,rfl,hown,hchg⟩:=hrel
  by_cases hlt:j<l.length
  ·rw[mid_at _ _ _ _ _ hlt] at hown
   have hts:(mkL ((l.take j).flatMap DRadio.tr) k0).length=j*6:=by rw[zbt,zat _ 6 DRadio.tr_len,List.length_take,Nat.min_eq_left hj]
   have hsum:=zcu DRadio.tr l j hlt;have hle:=zb8 DRadio.tr l (j+1);have hcx:=DRadio.cntL_tr l[j];have hkb:K+(1+1+1+1+1+cnt (DMode.sT l[j].modes))≤1099511627776:=by omega
   have hkp:0<K:=by omega
   have hszj:=zaz DRadio.tr l j hlt;have HM:=Lib.hid (zew DRadio.tr 6 l k0 j hlt);have HS:=Lib.hid hsum;have HK:=Lib.hid hK;have HC:=Lib.hid hcx;have HT:=Lib.hid hts;clear hsum hcx hle hK hts;generalize mkL ((l.take j).flatMap DRadio.tr) k0=TS at *;generalize (l.drop (j+1)).flatMap DRadio.tr=US at *;have hin':In lo wr.heap.size fp:=hin.mono (Nat.le_refl _) hchg.size;have o0:Own wr (.sl 6 (TS++([.lit (.string l[j].name),.lit (.int .i64 l[j].power),.lit (.int .i64 l[j].feeder),.lit (.int .i64 l[j].noise),.lit (.int .i64 l[j].width),DMode.sT l[j].modes]++US))) (.slice a l.length c) fp:=hown;clear hown;obtain⟨b,off,rfl,hbf⟩:=o0.someAddr;have hbw:=(hin' b hbf).2;have hfz:∀ i,wr.frozen? ⟨b,i,none⟩=false:=o0.free b hbf;have z0:wr.heap.size≤wr.heap.size:=Nat.le_refl _;obtain⟨s0,_⟩:=o0.cellChunk 0 _ rfl (off+j*6) (by rw[HT.out];omega);obtain⟨s1,_⟩:=o0.cellChunk 1 _ rfl (off+j*6+1) (by rw[HT.out];omega);obtain⟨s2,_⟩:=o0.cellChunk 2 _ rfl (off+j*6+2) (by rw[HT.out];omega);obtain⟨s3,_⟩:=o0.cellChunk 3 _ rfl (off+j*6+3) (by rw[HT.out];omega);obtain⟨s4,_⟩:=o0.cellChunk 4 _ rfl (off+j*6+4) (by rw[HT.out];omega);obtain⟨x5,g5,s5,_,_,_,_⟩:=o0.partChunk 5 _ rfl (off+j*6+5) (by rw[HT.out];omega);have O0:=Lib.hid o0;have C0:=Lib.hid hchg;clear o0 hchg;go_wp2_with fail;refine (zcb _ _ (by omega) (by omega)).mono ?_;rintro e w1 ⟨rfl,hb1⟩;obtain⟨qa1,qb1,hbw1⟩:=zag hb1 (b:=b) (by first|omega|(simp only[zae];omega));have z1:wr.heap.size≤w1.heap.size:=by have:=hb1.size;(try simp only[zae] at this);omega
   have O1:=Lib.hid ((O0.out.below hin' (by first|omega|(simp only[zae];omega)) hb1).setChunk 0 _ rfl (off+j*6) (by rw[HT.out];omega) (.string (zdb (K))));have C1:=Lib.hid ((C0.out.trans (Chg.of_below hb1)).setCell (p:=⟨b,off+j*6,none⟩) hbf (.string (zdb (K))));have O2:=Lib.hid (O1.out.setChunk 1 _ rfl (off+j*6+1) (by rw[HT.out];omega) (.int .i64 ((K:Int)+1)));have C2:=Lib.hid (C1.out.setCell (p:=⟨b,off+j*6+1,none⟩) hbf (.int .i64 ((K:Int)+1)));have O3:=Lib.hid (O2.out.setChunk 2 _ rfl (off+j*6+2) (by rw[HT.out];omega) (.int .i64 ((K:Int)+1+1)));have C3:=Lib.hid (C2.out.setCell (p:=⟨b,off+j*6+2,none⟩) hbf (.int .i64 ((K:Int)+1+1)));have O4:=Lib.hid (O3.out.setChunk 3 _ rfl (off+j*6+3) (by rw[HT.out];omega) (.int .i64 ((K:Int)+1+1+1)));have C4:=Lib.hid (C3.out.setCell (p:=⟨b,off+j*6+3,none⟩) hbf (.int .i64 ((K:Int)+1+1+1)));have O5:=Lib.hid (O4.out.setChunk 4 _ rfl (off+j*6+4) (by rw[HT.out];omega) (.int .i64 ((K:Int)+1+1+1+1)));have C5:=Lib.hid (C4.out.setCell (p:=⟨b,off+j*6+4,none⟩) hbf (.int .i64 ((K:Int)+1+1+1+1)));obtain⟨y5,h5,sy5,hox5,hgf5,hbg5,hset5⟩:=O5.out.partChunk 5 _ rfl (off+j*6+5) (by rw[HT.out];omega);have HX5:=Lib.hid hox5;have HY5:=Lib.hid hset5;clear hox5 hset5;have hsz5:siz (DMode.sT l[j].modes)≤1099511627776:=by
    have:siz (DMode.sT l[j].modes)≤sizL l[j].tr:=by simp only[DRadio.tr,sizL];omega
    omega
   go_wp2_with fail;refine (markI_ModeS (l[j].modes) y5 h5 (K+1+1+1+1+1) lo _ _ HX5.out (fun y hy=>⟨(hin' y (hgf5 y hy)).1,by have:=(hin' y (hgf5 y hy)).2;(try simp only[zae]);omega⟩) hsz5 (by simp only[Int.natCast_add,Int.natCast_one]) (by omega) (by omega)).mono ?_;rintro e w2 ⟨rfl,ho2,hc2⟩;have z2:wr.heap.size≤w2.heap.size:=by have:=hc2.size;(try simp only[zae] at this);omega
   have hbk2:=hc2.block b (by first|omega|(simp only[zae];omega)) hbg5;have qa2:∀ o,w2.cell? ⟨b,o,none⟩=_:=fun o=>World.cell?_of_block (a:=⟨b,o,none⟩) hbk2
   have qb2:∀ o,w2.frozen? ⟨b,o,none⟩=_:=fun o=>World.frozen?_of_block (a:=⟨b,o,none⟩) hbk2
   clear hbk2;have O6:=Lib.hid (HY5.out w2 _ (fun y hy hyg=>hc2.block y (by have:=(hin' y hy).2;(try simp only[zae]);omega) hyg) ho2);have C6:=Lib.hid (C5.out.trans (hc2.mono hgf5));clear hc2 ho2;go_wp2;go_roundw
   case rel =>
    refine⟨j+1,K+(1+1+1+1+1+cnt (DMode.sT l[j].modes)),by omega,by go_num,by have:=HK.out;have:=HS.out;have:=HC.out;omega,by go_num,?_,C6.out⟩;rw[HM.out,← HK.out,DRadio.mk_tr];exact O6.out
   case measure=>simp[intOf];omega
  ·obtain rfl:j=l.length:=by omega
   have HK:=Lib.hid hK;clear hK;go_wp2;go_ret;rw[mid_end] at hown;have e:=HK.out;rw[List.take_length] at e;exact⟨zb2 (by omega),hown,hchg⟩
theorem markI_RadioS (l:List DRadio) (v:Value) (fp:List Nat) (k lo:Nat) (K:Int) (w:World) (h:Own w (DRadio.sT l) v fp) (hin:In lo w.heap.size fp) (hs:siz (DRadio.sT l)≤1099511627776) (hK:K=(k:Int)) (hk0:k+cnt (DRadio.sT l)≤1099511627776) (hk1:0<k) :
  Calls Tryz.prog 70 #[v,.int .i64 K] w fun e w'=>e=.returned (.int .i64 (K+(cnt (DRadio.sT l):Int)))∧Own w' (mkT (DRadio.sT l) k) v fp∧Chg fp w w':=by
 subst hK;refine (mark_RadioS l v fp k lo w h hin hs hk0 hk1).mono fun e w' ⟨he,h1,h2⟩=>⟨?_,h1,h2⟩
 rw[he,Int.natCast_add]
set_option maxHeartbeats 4000000
set_option maxRecDepth 100000
theorem to_End (x:DEnd) (w:World) :
  Calls Tryz.prog 12 #[.agg #[.int .i64 x.place.x,.int .i64 x.place.y,.int .i64 x.above]] w fun e w'=>e=.returned (.agg #[.int .i64 x.place.x,.int .i64 x.place.y,.int .i64 x.above])∧Below w.heap.size w w':=by
 go_enter Tryz.func12,Tryz.ntmps12;go_wp2_with fail;refine (to_Point x.place _).mono ?_;rintro e w1 ⟨rfl,hb1⟩;obtain⟨qa1,fa1,ya1⟩:=zag hb1 (b:=w.heap.size) (by first|omega|(simp;done)|(simp<;>omega));obtain⟨qb1,fb1,yb1⟩:=zag hb1 (b:=w.heap.size+1) (by first|omega|(simp;done)|(simp<;>omega));obtain⟨qc1,fc1,yc1⟩:=zag hb1 (b:=w.heap.size+1+1) (by first|omega|(simp;done)|(simp<;>omega));go_wp2;refine bodyPost_ret (v:=.agg #[.int .i64 x.place.x,.int .i64 x.place.y,.int .i64 x.above]) (by simp[results,Tryz.results12,go_sem, *]) rfl ⟨rfl,?_⟩
 repeat (first|exact Below.refl _ _|(refine Below.setCell ?_ (by first|omega|(simp;done)|(simp<;>omega)) _)|(refine Below.alloc ?_ (by first|omega|(simp;done)|(simp<;>omega)) _)|(refine Below.trans ?_ (hb1.mono (by first|omega|(simp;done)|(simp<;>omega)))))
theorem eq_End (x:DEnd) (w:World) :
  Calls Tryz.prog 81 #[.agg #[.int .i64 x.place.x,.int .i64 x.place.y,.int .i64 x.above],.agg #[.int .i64 x.place.x,.int .i64 x.place.y,.int .i64 x.above]] w fun e w'=>e=.returned (.bool true)∧Below w.heap.size w w':=by
 go_enter Tryz.func81,Tryz.ntmps81;go_wp2_with fail;refine (eq_Point x.place _).mono ?_;rintro e w1 ⟨rfl,hb1⟩;obtain⟨qa1,_,ya1⟩:=zag hb1 (b:=w.heap.size) (by first|omega|(simp;done)|(simp<;>omega));obtain⟨qb1,_,yb1⟩:=zag hb1 (b:=w.heap.size+1) (by first|omega|(simp;done)|(simp<;>omega));go_wp2;go_ret;refine⟨rfl,?_⟩
 repeat (first|exact Below.refl _ _|(refine Below.alloc ?_ (by first|omega|(simp;done)|(simp<;>omega)) _)|(refine Below.trans ?_ (hb1.mono (by first|omega|(simp;done)|(simp<;>omega)))))
theorem DEnd.siz_s (l:List DEnd):siz (DEnd.sT l)=l.length+sizL (l.flatMap DEnd.tr):=zfc DEnd.tr 3 (by decide) DEnd.tr_len l
theorem DEnd.siz_tr (x:DEnd):sizL x.tr=0:=by simp[DEnd.tr,sizL,siz,intT]
theorem DEnd.sizL_s (l:List DEnd):sizL (l.flatMap DEnd.tr)=0:=by
 induction l with
 | nil=>rfl
 | cons x l ih=>rw[List.flatMap_cons,zeh,ih,DEnd.siz_tr]
theorem sz_EndS (l:List DEnd) (v:Value) (B:Nat) (left:Int) (w:World) (h:Rd B w (DEnd.sT l) v) (hB:B≤w.heap.size) (hl:0≤left) (hl2:left≤1048576) :
  Calls Tryz.prog 25 #[v,.int .i64 left] w (SzPost (siz (DEnd.sT l)) left w):=by
 rw[DEnd.siz_s,DEnd.sizL_s];obtain⟨a,c,rfl,hnc,hcm,_⟩:=DEnd.rd h;clear h;unfold maxLen at hcm;go_enter Tryz.func25,Tryz.ntmps25;go_wp2
 all_goals go_ret
 all_goals first|exact⟨Or.inl ⟨by omega,zb2 (by omega)⟩,Below.refl _ _⟩|exact⟨Or.inr ⟨by omega,rfl⟩,Below.refl _ _⟩
theorem infoEnd:(Tryz.prog.info? 50).map (fun i=>(i.zero,i.size,i.bytes))=some (some (.agg #[.int .i64 0,.int .i64 0,.int .i64 0]),3,24):=by kernel_rfl
theorem to_EndS (l:List DEnd) (v:Value) (w:World) (h:Rd w.heap.size w (DEnd.sT l) v) (hn:siz (DEnd.sT l)≤1048576) :
  Calls Tryz.prog 27 #[v] w fun e w'=>∃ a' c' fp,e=.returned (.slice a' l.length c')∧Below w.heap.size w w'∧Own w' (DEnd.sT l) (.slice a' l.length c') fp∧In w.heap.size w'.heap.size fp:=by
 rw[DEnd.siz_s] at hn;obtain⟨i0,hi0,hz0,hz1,hz2⟩:=info_parts infoEnd;have hmk:=fun W=>zco (P:=Tryz.prog) 69 50 i0 _ Tryz.underlying69 hi0 hz0 .i64 .i64 l.length l.length (Nat.le_refl _) (by rw[hz2];omega) (by omega) W
 rw[hz1] at hmk;have hnb:(l.length:Int)≤1048576:=by omega
 obtain⟨a,c,rfl,hnc,hcm,hcells⟩:=DEnd.rd h;clear h;go_enter Tryz.func27,Tryz.ntmps27;go_wp2;clear hmk hi0 hz0 hz1 hz2;go_loopw [4] (fun i wr=>∃ (k:Nat) (f:List Nat),k≤l.length∧i=.int .i64 k∧Below w.heap.size w wr∧Fill wr w.heap.size 50 (l.length*3) ((l.take k).flatMap DEnd.tr) f∧In w.heap.size wr.heap.size f) (fun i wr=>l.length-(intOf i).toNat)
 case atStart =>
  have hst:=Fill.start w (madeCells #[.int .i64 0,.int .i64 0,.int .i64 0] (l.length*3)) 50;rw[size_madeCells] at hst;exact⟨0,[],Nat.zero_le _,rfl,(Below.refl _ _).alloc (Nat.le_refl _) _,by simpa using hst,In.nil⟩
 case round =>
  obtain⟨k,f,hk,rfl,hb,hfill,hin⟩:=hrel
  by_cases hlt:k<l.length
  ·obtain⟨b,off,rfl,hbl,hat⟩:=hcells (by omega)
   obtain⟨s0,s1,s2⟩:=hat k hlt;rw[← hb.cell (p:=⟨b,_,none⟩) hbl] at s0 s1 s2;have hz:=hfill.lt;have hz2:b<wr.heap.size:=by omega
   obtain⟨o0,p0⟩:=hfill.room (k*3) (by omega);obtain⟨o1,p1⟩:=hfill.room (k*3+1) (by omega);obtain⟨o2,p2⟩:=hfill.room (k*3+2) (by omega);have hfz:=hfill.open_;have hsl:=zaz DEnd.tr l k hlt;have HB:=Lib.hid hb;clear hcells hat hb;go_wp2_with (go_at_call 12;refine (to_End l[k] _).mono ?_;rintro e w1 ⟨rfl,hb1⟩;obtain⟨q1,q2⟩:=bcell hb1);go_roundw
   case rel =>
    have hw1:=hfill.below hin hb1;have hst:=hw1.step (us:=l[k].tr) (vs:=[.int .i64 l[k].place.x,.int .i64 l[k].place.y,.int .i64 l[k].above]) (g:=[]) (RepV.lits [.int .i64 l[k].place.x,.int .i64 l[k].place.y,.int .i64 l[k].above]) (by rw[zat _ 3 DEnd.tr_len];simp<;>omega) List.nodup_nil (by simp) (by simp) (fun b h=>by simp at h);rw[zat _ 3 DEnd.tr_len,List.length_take,Nat.min_eq_left hk,List.append_nil,← zb5 DEnd.tr l k hlt] at hst;exact⟨k+1,f,by omega,by go_num,zdg (HB.out.trans (hb1.mono (by omega))) (Nat.le_refl _) [.int .i64 l[k].place.x,.int .i64 l[k].place.y,.int .i64 l[k].above] (k*3),hst,fun x hx=>⟨(hin x hx).1,by have:=(hin x hx).2;have:=hb1.size;simp only[zae];omega⟩⟩
   case measure=>simp[intOf];omega
  ·obtain rfl:k=l.length:=by omega
   clear hcells;go_wp2;go_ret;rw[List.take_length] at hfill;obtain⟨fp,h1,h2⟩:=hfill.own (zat _ 3 DEnd.tr_len l) (by unfold maxLen;omega);exact⟨_,_,fp,rfl,hb,h1,fun x hx=>by rcases h2 x hx with rfl|h;exact⟨Nat.le_refl _,hfill.lt⟩;exact hin x h⟩
theorem eq_EndS (l:List DEnd) (v v':Value) (B:Nat) (w:World) (h:Rd B w (DEnd.sT l) v) (h':Rd B w (DEnd.sT l) v') (hB:B≤w.heap.size) (hn:siz (DEnd.sT l)≤1099511627776) :
  Calls Tryz.prog 30 #[v,v'] w fun e w'=>e=.returned (.bool true)∧Below w.heap.size w w':=by
 rw[DEnd.siz_s] at hn;have hnb:(l.length:Int)≤1099511627776:=by omega
 obtain⟨a,c,rfl,hnc,hcm,hcells⟩:=DEnd.rd h;obtain⟨a',c',rfl,hnc',hcm',hcells'⟩:=DEnd.rd h';clear h h';have hne:((l.length:Int) != l.length)=false:=by simp
 go_enter Tryz.func30,Tryz.ntmps30;go_wp2;clear hne;go_loopw [5] (fun i wr=>∃ (k:Nat),k≤l.length∧i=.int .i64 k∧Below w.heap.size w wr) (fun i wr=>l.length-(intOf i).toNat)
 case atStart=>exact⟨0,Nat.zero_le _,rfl,Below.refl _ _⟩
 case round =>
  obtain⟨k,hk,rfl,hb⟩:=hrel
  by_cases hlt:k<l.length
  ·obtain⟨b,off,rfl,hbl,hat⟩:=hcells (by omega)
   obtain⟨b',off',rfl,hbl',hat'⟩:=hcells' (by omega);obtain⟨s0,s1,s2⟩:=hat k hlt;obtain⟨sb0,sb1,sb2⟩:=hat' k hlt;rw[← hb.cell (p:=⟨b,_,none⟩) (show b<w.heap.size by omega)] at s0 s1 s2;rw[← hb.cell (p:=⟨b',_,none⟩) (show b' < w.heap.size by omega)] at sb0 sb1 sb2;have hB':B≤wr.heap.size:=by have:=hb.size;omega
   have hsl:=zaz DEnd.tr l k hlt;have i1:(0:Int)≤(k:Int):=by omega
   have i2:(k:Int)<(l.length:Int):=by omega
   have HB:=Lib.hid hb;clear hcells hat hcells' hat' hb;go_wp2
   go_still_tail 8,(by kernel_rfl)
   change wpList _ _ _ _ _ wr.drew
   go_wp2_with (go_at_call 81;refine (eq_End l[k]   _  ).mono ?_;rintro e w1 ⟨rfl,hb1⟩);go_roundw
   case rel=>exact⟨k+1,by omega,by go_num,HB.out.drew.trans (hb1.mono HB.out.size)⟩
   case measure=>simp[intOf];omega
  ·obtain rfl:k=l.length:=by omega
   clear hcells hcells';go_wp2;go_ret;exact⟨rfl,hb⟩
theorem DEnd.mk_tr (x:DEnd) (K:Nat):mkL x.tr K = [.lit (.int .i64 ((K:Int))),.lit (.int .i64 ((K:Int)+1)),.lit (.int .i64 ((K:Int)+1+1))]:=rfl
theorem DEnd.cntL_tr (x:DEnd):cntL x.tr=1+1+1:=by rfl
theorem mark_EndS (l:List DEnd) (v:Value) (fp:List Nat) (k0 lo:Nat) (w:World) (h:Own w (DEnd.sT l) v fp) (hin:In lo w.heap.size fp) (hs:siz (DEnd.sT l)≤1099511627776) (hk0:k0+cnt (DEnd.sT l)≤1099511627776) (hk1:0<k0) :
  Calls Tryz.prog 31 #[v,.int .i64 k0] w fun e w'=>e=.returned (.int .i64 ((k0+cnt (DEnd.sT l):Nat):Int))∧Own w' (mkT (DEnd.sT l) k0) v fp∧Chg fp w w':=by
 rw[DEnd.siz_s] at hs;obtain⟨a,c,hv,hnc,hcm⟩:=h.form (k:=3) (g:=DEnd.tr) (by decide) DEnd.tr_len;subst hv;rw[show cnt (DEnd.sT l)=cntL (l.flatMap DEnd.tr) from by rw[DEnd.sT,cnt]] at hk0 ⊢;have hnb:(l.length:Int)≤1099511627776:=by omega
 go_enter Tryz.func31,Tryz.ntmps31;go_wp2;go_loopw [1,5] (fun kk i wr=>∃ (j K:Nat),j≤l.length∧i=.int .i64 j∧K=k0+cntL ((l.take j).flatMap DEnd.tr)∧kk=.int .i64 (K:Int)∧Own wr (mid DEnd.tr 3 l k0 j) (.slice a l.length c) fp∧Chg fp w wr) (fun _ i wr=>l.length-(intOf i).toNat)
 case atStart=>exact⟨0,k0,Nat.zero_le _,rfl,by simp[cntL],rfl,by rw[zev];exact h,Chg.refl _ _⟩
 case round =>
  obtain⟨j,K,hj,rfl,hK,rfl,hown,hchg⟩:=hrel
  by_cases hlt:j<l.length
  ·rw[mid_at _ _ _ _ _ hlt] at hown
   have hts:(mkL ((l.take j).flatMap DEnd.tr) k0).length=j*3:=by rw[zbt,zat _ 3 DEnd.tr_len,List.length_take,Nat.min_eq_left hj]
   have hsum:=zcu DEnd.tr l j hlt;have hle:=zb8 DEnd.tr l (j+1);have hcx:=DEnd.cntL_tr l[j];have hkb:K+(1+1+1)≤1099511627776:=by omega
   have hkp:0<K:=by omega
   have hszj:=zaz DEnd.tr l j hlt;have HM:=Lib.hid (zew DEnd.tr 3 l k0 j hlt);have HS:=Lib.hid hsum;have HK:=Lib.hid hK;have HC:=Lib.hid hcx;have HT:=Lib.hid hts;clear hsum hcx hle hK hts;generalize mkL ((l.take j).flatMap DEnd.tr) k0=TS at *;generalize (l.drop (j+1)).flatMap DEnd.tr=US at *;have hin':In lo wr.heap.size fp:=hin.mono (Nat.le_refl _) hchg.size;have o0:Own wr (.sl 3 (TS++([.lit (.int .i64 l[j].place.x),.lit (.int .i64 l[j].place.y),.lit (.int .i64 l[j].above)]++US))) (.slice a l.length c) fp:=hown;clear hown;obtain⟨b,off,rfl,hbf⟩:=o0.someAddr;have hbw:=(hin' b hbf).2;have hfz:∀ i,wr.frozen? ⟨b,i,none⟩=false:=o0.free b hbf;have z0:wr.heap.size≤wr.heap.size:=Nat.le_refl _;obtain⟨s0,_⟩:=o0.cellChunk 0 _ rfl (off+j*3) (by rw[HT.out];omega);obtain⟨s1,_⟩:=o0.cellChunk 1 _ rfl (off+j*3+1) (by rw[HT.out];omega);obtain⟨s2,_⟩:=o0.cellChunk 2 _ rfl (off+j*3+2) (by rw[HT.out];omega);have O0:=Lib.hid o0;have C0:=Lib.hid hchg;clear o0 hchg;have O1:=Lib.hid (O0.out.setChunk 0 _ rfl (off+j*3) (by rw[HT.out];omega) (.int .i64 ((K:Int))));have C1:=Lib.hid (C0.out.setCell (p:=⟨b,off+j*3,none⟩) hbf (.int .i64 ((K:Int))));have O2:=Lib.hid (O1.out.setChunk 1 _ rfl (off+j*3+1) (by rw[HT.out];omega) (.int .i64 ((K:Int)+1)));have C2:=Lib.hid (C1.out.setCell (p:=⟨b,off+j*3+1,none⟩) hbf (.int .i64 ((K:Int)+1)));have O3:=Lib.hid (O2.out.setChunk 2 _ rfl (off+j*3+2) (by rw[HT.out];omega) (.int .i64 ((K:Int)+1+1)));have C3:=Lib.hid (C2.out.setCell (p:=⟨b,off+j*3+2,none⟩) hbf (.int .i64 ((K:Int)+1+1)));go_wp2;go_roundw
   case rel =>
    refine⟨j+1,K+(1+1+1),by omega,by go_num,by have:=HK.out;have:=HS.out;have:=HC.out;omega,by go_num,?_,C3.out⟩;rw[HM.out,← HK.out,DEnd.mk_tr];exact O3.out
   case measure=>simp[intOf];omega
  ·obtain rfl:j=l.length:=by omega
   have HK:=Lib.hid hK;clear hK;go_wp2;go_ret;rw[mid_end] at hown;have e:=HK.out;rw[List.take_length] at e;exact⟨zb2 (by omega),hown,hchg⟩
end Go.Proofs.YtdgmgchdjlfchaaGreatDoor
