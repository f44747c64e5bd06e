/- Contracts of the laws' helpers over slices of texts; counts of marks against sizes. Conditions: bounded lengths. -/
import Derived.Test.YtdgmgchdjlfchaaGreatDoorProb1
import Derived.Test.YtdgmgchdjlfchaaGreatDoorOver
set_option linter.unusedVariables false
set_option linter.unusedSimpArgs false
namespace Go.Proofs.YtdgmgchdjlfchaaGreatDoor
open Go.RowKit
set_option maxHeartbeats 4000000
set_option maxRecDepth 100000
theorem DTerrain.siz_tr (x:DTerrain):sizL x.tr=siz (zaj x.heights)+siz (zaj x.clutter):=by
 simp only[DTerrain.tr,sizL,siz,intT];omega
theorem sz_Terrain (x:DTerrain) (v3 v4:Value) (B:Nat) (left:Int) (w:World) (h3:Rd B w (zaj x.heights) v3) (h4:Rd B w (zaj x.clutter) v4) (hB:B≤w.heap.size) (hl:0≤left) (hl2:left≤1048576) (hok:x.ok) :
  Calls Tryz.prog 7 #[.agg #[.int .i64 x.step,.int .i64 x.width,.int .i64 x.height,v3,v4],.int .i64 left] w (SzPost (sizL x.tr) left w):=by
 have hsum:=DTerrain.siz_tr x;have b0:Below w.heap.size w (w.alloc (.cells #[.int .i64 x.step,.int .i64 x.width,.int .i64 x.height,v3,v4] 24)):=(Below.refl _ _).alloc (Nat.le_refl _) _;have B0:=Lib.hid b0;have z0:w.heap.size≤(w.alloc (.cells #[.int .i64 x.step,.int .i64 x.width,.int .i64 x.height,v3,v4] 24)).heap.size:=b0.size;have y0:w.heap.size<(w.alloc (.cells #[.int .i64 x.step,.int .i64 x.width,.int .i64 x.height,v3,v4] 24)).heap.size:=by simp
 have R0_3:=Lib.hid (h3.below (b0.mono hB));have R0_4:=Lib.hid (h4.below (b0.mono hB));clear b0 h3 h4;go_enter Tryz.func7,Tryz.ntmps7;go_wp2_with fail;refine (sz_Int64S x.heights v3 B _ _ R0_3.out (by omega) (by omega) (by omega)).mono ?_;rintro e w1 ⟨⟨c0,rfl⟩|⟨c0,rfl⟩,hb1⟩
 case inr =>
  go_wp2;go_ret;exact⟨Or.inr ⟨by omega,rfl⟩,B0.out.trans (hb1.mono z0)⟩
 obtain⟨q1,_,y1⟩:=zah hb1 (b:=w.heap.size) y0;have z1:w.heap.size≤w1.heap.size:=by omega
 have B1:=Lib.hid (B0.out.trans (hb1.mono z0));have R1_3:=Lib.hid (R0_3.out.below (hb1.mono (by omega)));have R1_4:=Lib.hid (R0_4.out.below (hb1.mono (by omega)));clear hb1;have d0:decide (left-(siz (zaj x.heights):Int)<0)=false:=by simp<;>omega
 go_wp2_with fail;refine (sz_Int64S x.clutter v4 B _ _ R1_4.out (by omega) (by omega) (by omega)).mono ?_;rintro e w2 ⟨⟨c1,rfl⟩|⟨c1,rfl⟩,hb2⟩
 case inr =>
  go_wp2;go_ret;exact⟨Or.inr ⟨by omega,rfl⟩,B1.out.trans (hb2.mono z1)⟩
 obtain⟨q2,_,y2⟩:=zah hb2 (b:=w.heap.size) y1;have z2:w.heap.size≤w2.heap.size:=by omega
 have B2:=Lib.hid (B1.out.trans (hb2.mono z1));have R2_3:=Lib.hid (R1_3.out.below (hb2.mono (by omega)));have R2_4:=Lib.hid (R1_4.out.below (hb2.mono (by omega)));clear hb2;have d1:decide (left-(siz (zaj x.heights):Int)-(siz (zaj x.clutter):Int)<0)=false:=by simp<;>omega
 go_wp2;go_ret;exact⟨Or.inl ⟨by omega,zcd (by omega)⟩,B2.out⟩
theorem to_Terrain (x:DTerrain) (v3 v4:Value) (w:World) (h3:Rd w.heap.size w (zaj x.heights) v3) (h4:Rd w.heap.size w (zaj x.clutter) v4) (hn:sizL x.tr≤1048576) :
  Calls Tryz.prog 10 #[.agg #[.int .i64 x.step,.int .i64 x.width,.int .i64 x.height,v3,v4]] w fun e w'=>∃ a3 c3 a4 c4 fp,e=.returned (.agg #[.int .i64 x.step,.int .i64 x.width,.int .i64 x.height,.slice a3 x.heights.length c3,.slice a4 x.clutter.length c4])∧Below w.heap.size w w'∧OwnV w' x.tr [.int .i64 x.step,.int .i64 x.width,.int .i64 x.height,.slice a3 x.heights.length c3,.slice a4 x.clutter.length c4] fp∧In w.heap.size w'.heap.size fp:=by
 have hsum:=DTerrain.siz_tr x;go_enter Tryz.func10,Tryz.ntmps10;have bX0:Below w.heap.size w (((w.alloc (.cells #[.int .i64 x.step,.int .i64 x.width,.int .i64 x.height,v3,v4] 24)).alloc (.cells #[.int .i64 0,.int .i64 0,.int .i64 0,.slice none 0 0,.slice none 0 0] 39)).alloc (.cells #[.int .i64 x.step,.int .i64 x.width,.int .i64 x.height,.slice none 0 0,.slice none 0 0] 39)):=(((Below.refl _ _).alloc (Nat.le_refl _) _).alloc (by simp) _).alloc (by first|(simp;done)|(simp<;>omega)) _;have BX0:=Lib.hid bX0;have zX0:w.heap.size+3≤(((w.alloc (.cells #[.int .i64 x.step,.int .i64 x.width,.int .i64 x.height,v3,v4] 24)).alloc (.cells #[.int .i64 0,.int .i64 0,.int .i64 0,.slice none 0 0,.slice none 0 0] 39)).alloc (.cells #[.int .i64 x.step,.int .i64 x.width,.int .i64 x.height,.slice none 0 0,.slice none 0 0] 39)).heap.size:=by first|(simp;done)|(simp<;>omega)
 clear bX0;go_wp2_with fail;refine (to_Int64S x.heights v3 (((w.alloc (.cells #[.int .i64 x.step,.int .i64 x.width,.int .i64 x.height,v3,v4] 24)).alloc (.cells #[.int .i64 0,.int .i64 0,.int .i64 0,.slice none 0 0,.slice none 0 0] 39)).alloc (.cells #[.int .i64 x.step,.int .i64 x.width,.int .i64 x.height,.slice none 0 0,.slice none 0 0] 39)) ((h3.below BX0.out).mono (by omega)) (by omega)).mono ?_;rintro e w1 ⟨a3,c3,fp1,rfl,hb1,o1,i1⟩;obtain⟨qa1,_,ya1⟩:=zah hb1 (b:=w.heap.size) (by omega);obtain⟨qb1,qf1,yb1⟩:=zah hb1 (b:=w.heap.size+1) (by omega);obtain⟨qc1,qg1,yc1⟩:=zah hb1 (b:=w.heap.size+1+1) (by omega);have z1:=hb1.size;have B1:=Lib.hid (BX0.out.trans (hb1.mono (by omega)));have y1:w.heap.size+3≤w1.heap.size:=by omega
 have j1:In (w.heap.size+3) w1.heap.size fp1:=i1.mono (by omega) (Nat.le_refl _);have P1_1:=Lib.hid o1;clear hb1 o1 i1;have BX1:=Lib.hid (B1.out.setCell (p:=⟨w.heap.size+1+1,3,none⟩) (by show w.heap.size≤w.heap.size+1+1;omega) (.slice a3 x.heights.length c3));have zX1:w.heap.size+3≤((w1.setCell ⟨w.heap.size+1+1,3,none⟩ (.slice a3 x.heights.length c3))).heap.size:=by simp only[zaf];omega
 go_wp2_with fail;refine (to_Int64S x.clutter v4 ((w1.setCell ⟨w.heap.size+1+1,3,none⟩ (.slice a3 x.heights.length c3))) ((h4.below BX1.out).mono (by omega)) (by omega)).mono ?_;rintro e w2 ⟨a4,c4,fp2,rfl,hb2,o2,i2⟩;obtain⟨qa2,_,ya2⟩:=zah hb2 (b:=w.heap.size) (by omega);obtain⟨qb2,qf2,yb2⟩:=zah hb2 (b:=w.heap.size+1) (by omega);obtain⟨qc2,qg2,yc2⟩:=zah hb2 (b:=w.heap.size+1+1) (by omega);have z2:=hb2.size;simp only[zaf] at z2;have B2:=Lib.hid (BX1.out.trans (hb2.mono (by omega)));have y2:w.heap.size+3≤w2.heap.size:=by omega
 have P1_2:=Lib.hid ((P1_1.out.setFar (p:=⟨w.heap.size+1+1,3,none⟩) (fun e=>by have:=(j1 _ e).1;simp only at this;omega) (.slice a3 x.heights.length c3)).below j1 (by first|omega|(simp only[zaf];omega)) hb2);have j2:In (w1.heap.size) w2.heap.size fp2:=i2.mono (by simp only[zaf];omega) (Nat.le_refl _);have P2_2:=Lib.hid o2;clear hb2 o2 i2;go_wp2;have F1:=Lib.hid ((((((P1_2.out.setFar (p:=⟨w.heap.size+1+1,4,none⟩) (fun e=>by have:=(j1 _ e).1;simp only at this;omega) (.slice a4 x.clutter.length c4)).setFar (p:=⟨w.heap.size+1,0,none⟩) (fun e=>by have:=(j1 _ e).1;simp only at this;omega) (.int .i64 x.step)).setFar (p:=⟨w.heap.size+1,1,none⟩) (fun e=>by have:=(j1 _ e).1;simp only at this;omega) (.int .i64 x.width)).setFar (p:=⟨w.heap.size+1,2,none⟩) (fun e=>by have:=(j1 _ e).1;simp only at this;omega) (.int .i64 x.height)).setFar (p:=⟨w.heap.size+1,3,none⟩) (fun e=>by have:=(j1 _ e).1;simp only at this;omega) (.slice a3 x.heights.length c3)).setFar (p:=⟨w.heap.size+1,4,none⟩) (fun e=>by have:=(j1 _ e).1;simp only at this;omega) (.slice a4 x.clutter.length c4));have F2:=Lib.hid ((((((P2_2.out.setFar (p:=⟨w.heap.size+1+1,4,none⟩) (fun e=>by have:=(j2 _ e).1;simp only at this;omega) (.slice a4 x.clutter.length c4)).setFar (p:=⟨w.heap.size+1,0,none⟩) (fun e=>by have:=(j2 _ e).1;simp only at this;omega) (.int .i64 x.step)).setFar (p:=⟨w.heap.size+1,1,none⟩) (fun e=>by have:=(j2 _ e).1;simp only at this;omega) (.int .i64 x.width)).setFar (p:=⟨w.heap.size+1,2,none⟩) (fun e=>by have:=(j2 _ e).1;simp only at this;omega) (.int .i64 x.height)).setFar (p:=⟨w.heap.size+1,3,none⟩) (fun e=>by have:=(j2 _ e).1;simp only at this;omega) (.slice a3 x.heights.length c3)).setFar (p:=⟨w.heap.size+1,4,none⟩) (fun e=>by have:=(j2 _ e).1;simp only at this;omega) (.slice a4 x.clutter.length c4));have BF:=Lib.hid ((((((B2.out.setCell (p:=⟨w.heap.size+1+1,4,none⟩) (by show w.heap.size≤w.heap.size+1+1;omega) (.slice a4 x.clutter.length c4)).setCell (p:=⟨w.heap.size+1,0,none⟩) (by show w.heap.size≤w.heap.size+1;omega) (.int .i64 x.step)).setCell (p:=⟨w.heap.size+1,1,none⟩) (by show w.heap.size≤w.heap.size+1;omega) (.int .i64 x.width)).setCell (p:=⟨w.heap.size+1,2,none⟩) (by show w.heap.size≤w.heap.size+1;omega) (.int .i64 x.height)).setCell (p:=⟨w.heap.size+1,3,none⟩) (by show w.heap.size≤w.heap.size+1;omega) (.slice a3 x.heights.length c3)).setCell (p:=⟨w.heap.size+1,4,none⟩) (by show w.heap.size≤w.heap.size+1;omega) (.slice a4 x.clutter.length c4));refine bodyPost_ret (v:=.agg #[.int .i64 x.step,.int .i64 x.width,.int .i64 x.height,.slice a3 x.heights.length c3,.slice a4 x.clutter.length c4]) (by simp[results,Tryz.results10,go_sem, *]) rfl ⟨a3,c3,a4,c4,fp1++(fp2++[]),rfl,BF.out,?_,?_⟩
 ·exact (OwnV.consLit (OwnV.consLit (OwnV.consLit (OwnV.cons F1.out (OwnV.cons F2.out OwnV.nil (fun x hx e=>by have h1:=j2 x hx;simp at e)) (fun x hx e=>by have h1:=j1 x hx;simp only[List.mem_append,List.not_mem_nil,or_false] at e;have h2:=j2 x e;omega)) rfl) rfl) rfl)
 ·simp only[zaf]
  exact ((j1.mono (by omega) (by omega)).append ((j2.mono (by omega) (by omega)).append In.nil))
theorem eq_Terrain (x:DTerrain) (v3 u3 v4 u4:Value) (B:Nat) (w:World) (h3:Rd B w (zaj x.heights) v3) (g3:Rd B w (zaj x.heights) u3) (h4:Rd B w (zaj x.clutter) v4) (g4:Rd B w (zaj x.clutter) u4) (hB:B≤w.heap.size) (hn:sizL x.tr≤1099511627776) :
  Calls Tryz.prog 14 #[.agg #[.int .i64 x.step,.int .i64 x.width,.int .i64 x.height,v3,v4],.agg #[.int .i64 x.step,.int .i64 x.width,.int .i64 x.height,u3,u4]] w fun e w'=>e=.returned (.bool true)∧Below w.heap.size w w':=by
 have hsum:=DTerrain.siz_tr x;have b0:Below w.heap.size w ((w.alloc (.cells #[.int .i64 x.step,.int .i64 x.width,.int .i64 x.height,v3,v4] 39)).alloc (.cells #[.int .i64 x.step,.int .i64 x.width,.int .i64 x.height,u3,u4] 39)):=((Below.refl _ _).alloc (Nat.le_refl _) _).alloc (by simp) _;have B0:=Lib.hid b0;have y0:w.heap.size+2≤((w.alloc (.cells #[.int .i64 x.step,.int .i64 x.width,.int .i64 x.height,v3,v4] 39)).alloc (.cells #[.int .i64 x.step,.int .i64 x.width,.int .i64 x.height,u3,u4] 39)).heap.size:=by first|(simp;done)|(simp<;>omega)
 clear b0;go_enter Tryz.func14,Tryz.ntmps14;go_wp2_with fail;refine (zei x.heights v3 u3 B _ (h3.below (B0.out.mono hB)) (g3.below (B0.out.mono hB)) (by omega) (by omega)).mono ?_;rintro e w1 ⟨rfl,hb1⟩;obtain⟨qa1,_,ya1⟩:=zah hb1 (b:=w.heap.size) (by omega);obtain⟨qb1,_,yb1⟩:=zah hb1 (b:=w.heap.size+1) (by omega);have y1:w.heap.size+2≤w1.heap.size:=by have:=hb1.size;omega
 have B1:=Lib.hid (B0.out.trans (hb1.mono (by omega)));clear hb1;go_wp2_with fail;refine (zei x.clutter v4 u4 B _ (h4.below (B1.out.mono hB)) (g4.below (B1.out.mono hB)) (by omega) (by omega)).mono ?_;rintro e w2 ⟨rfl,hb2⟩;obtain⟨qa2,_,ya2⟩:=zah hb2 (b:=w.heap.size) (by omega);obtain⟨qb2,_,yb2⟩:=zah hb2 (b:=w.heap.size+1) (by omega);have y2:w.heap.size+2≤w2.heap.size:=by have:=hb2.size;omega
 have B2:=Lib.hid (B1.out.trans (hb2.mono (by omega)));clear hb2;go_wp2;go_ret;exact⟨rfl,B2.out⟩
theorem mark_Terrain (x:DTerrain) (v3 v4:Value) (f3 f4:List Nat) (k0 l3 m3 l4 m4:Nat) (w:World) (o3:Own w (zaj x.heights) v3 f3) (i3:In l3 m3 f3) (n3:m3≤w.heap.size) (o4:Own w (zaj x.clutter) v4 f4) (i4:In l4 m4 f4) (n4:m4≤w.heap.size) (d3_4:∀ y ∈ f3,y ∉ f4) (hs:sizL x.tr≤1099511627776) (hk0:k0+cnt (zaj x.heights)+cnt (zaj x.clutter)≤1099511627776) (hk1:0<k0) :
  Calls Tryz.prog 19 #[.agg #[.int .i64 x.step,.int .i64 x.width,.int .i64 x.height,v3,v4],.int .i64 k0] w fun e w'=>e=.returned (.int .i64 ((k0+cnt (zaj x.heights)+cnt (zaj x.clutter):Nat):Int))∧Own w' (mkT (zaj x.heights) (k0)) v3 f3∧Own w' (mkT (zaj x.clutter) (k0+cnt (zaj x.heights))) v4 f4∧Chg (f3++f4) w w':=by
 have hsum:=DTerrain.siz_tr x;have b0:Below w.heap.size w (w.alloc (.cells #[.int .i64 x.step,.int .i64 x.width,.int .i64 x.height,v3,v4] 39)):=(Below.refl _ _).alloc (Nat.le_refl _) _;have C0:=Lib.hid (Chg.of_below (fp:=(f3++f4)) b0);have y0:w.heap.size<(w.alloc (.cells #[.int .i64 x.step,.int .i64 x.width,.int .i64 x.height,v3,v4] 39)).heap.size:=by simp
 have O0_3:=Lib.hid (o3.below i3 n3 b0);have O0_4:=Lib.hid (o4.below i4 n4 b0);clear b0 o3 o4;go_enter Tryz.func19,Tryz.ntmps19;go_wp2_with fail;refine (zen x.heights v3 f3 (k0) l3 _ _ O0_3.out (i3.mono (Nat.le_refl _) (by omega)) (by omega) (by first|rfl|simp only[Int.natCast_add]) (by omega) (by omega)).mono ?_;rintro e w1 ⟨rfl,p3,c1⟩;have y1:w.heap.size<w1.heap.size:=by have:=c1.size;omega
 have hk1c:∀ q,w1.cell? ⟨w.heap.size,q,none⟩=_:=fun q=>World.cell?_of_block (a:=⟨w.heap.size,q,none⟩) (c1.block w.heap.size y0 (fun e=>by have:=(i3 _ e).2;omega))
 have C1:=Lib.hid (C0.out.trans (c1.mono (fun y hy=>by simp[hy])));have O1_3:=Lib.hid p3;have O1_4:=Lib.hid (O0_4.out.chg i4 (by omega) c1 (fun y hy e=>d3_4 y e hy));clear c1 p3;go_wp2_with fail;refine (zen x.clutter v4 f4 (k0+cnt (zaj x.heights)) l4 _ _ O1_4.out (i4.mono (Nat.le_refl _) (by omega)) (by omega) (by first|rfl|simp only[Int.natCast_add]) (by omega) (by omega)).mono ?_;rintro e w2 ⟨rfl,p4,c2⟩;have y2:w.heap.size<w2.heap.size:=by have:=c2.size;omega
 have hk2c:∀ q,w2.cell? ⟨w.heap.size,q,none⟩=_:=fun q=>World.cell?_of_block (a:=⟨w.heap.size,q,none⟩) (c2.block w.heap.size y1 (fun e=>by have:=(i4 _ e).2;omega))
 have C2:=Lib.hid (C1.out.trans (c2.mono (fun y hy=>by simp[hy])));have O2_3:=Lib.hid (O1_3.out.chg i3 (by omega) c2 (fun y hy e=>d3_4 y hy e));have O2_4:=Lib.hid p4;clear c2 p4;go_wp2;go_ret;exact⟨zcd (by simp only[Int.natCast_add]),O2_3.out,O2_4.out,C2.out⟩
theorem to_Point (x:DPoint) (w:World) :
  Calls Tryz.prog 52 #[.agg #[.int .i64 x.x,.int .i64 x.y]] w fun e w'=>e=.returned (.agg #[.int .i64 x.x,.int .i64 x.y])∧Below w.heap.size w w':=by
 go_enter Tryz.func52,Tryz.ntmps52;go_wp2;exact bodyPost_ret (v:=.agg #[.int .i64 x.x,.int .i64 x.y]) (by simp[results,Tryz.results52,go_sem]) rfl ⟨rfl,(((Below.refl _ _).alloc (Nat.le_refl _) _).alloc (by simp) _).alloc (by simp<;>omega) _⟩
theorem eq_Point (x:DPoint) (w:World) :
  Calls Tryz.prog 125 #[.agg #[.int .i64 x.x,.int .i64 x.y],.agg #[.int .i64 x.x,.int .i64 x.y]] w fun e w'=>e=.returned (.bool true)∧Below w.heap.size w w':=by
 go_enter Tryz.func125,Tryz.ntmps125;go_wp2;go_ret;exact⟨rfl,((Below.refl _ _).alloc (Nat.le_refl _) _).alloc (by simp) _⟩
set_option maxHeartbeats 4000000
set_option maxRecDepth 100000
theorem DAntenna.siz_tr (x:DAntenna):sizL x.tr=x.name.size+siz (zaj x.horizontal)+siz (zaj x.vertical):=by
 simp only[DAntenna.tr,sizL,siz,intT,strT];omega
theorem sz_Antenna (x:DAntenna) (v2 v3:Value) (B:Nat) (left:Int) (w:World) (h2:Rd B w (zaj x.horizontal) v2) (h3:Rd B w (zaj x.vertical) v3) (hB:B≤w.heap.size) (hl:0≤left) (hl2:left≤1048576) (hok:x.ok) :
  Calls Tryz.prog 84 #[.agg #[.string x.name,.int .i64 x.gain,v2,v3],.int .i64 left] w (SzPost (sizL x.tr) left w):=by
 have hsum:=DAntenna.siz_tr x;have b0:Below w.heap.size w (w.alloc (.cells #[.string x.name,.int .i64 x.gain,v2,v3] 129)):=(Below.refl _ _).alloc (Nat.le_refl _) _;have B0:=Lib.hid b0;have z0:w.heap.size≤(w.alloc (.cells #[.string x.name,.int .i64 x.gain,v2,v3] 129)).heap.size:=b0.size;have y0:w.heap.size<(w.alloc (.cells #[.string x.name,.int .i64 x.gain,v2,v3] 129)).heap.size:=by simp
 have R0_2:=Lib.hid (h2.below (b0.mono hB));have R0_3:=Lib.hid (h3.below (b0.mono hB));clear b0 h2 h3;go_enter Tryz.func84,Tryz.ntmps84;have hm0:x.name.size≤9223372036854775807:=hok.name
 by_cases c0:(x.name.size:Int)≤left
 case neg =>
  go_wp2;go_ret;exact⟨Or.inr ⟨by omega,rfl⟩,B0.out⟩
 have d0:decide (left-(x.name.size:Int)<0)=false:=by simp<;>omega
 go_wp2_with fail;refine (sz_Int64S x.horizontal v2 B _ _ R0_2.out (by omega) (by omega) (by omega)).mono ?_;rintro e w1 ⟨⟨c1,rfl⟩|⟨c1,rfl⟩,hb1⟩
 case inr =>
  go_wp2;go_ret;exact⟨Or.inr ⟨by omega,rfl⟩,B0.out.trans (hb1.mono z0)⟩
 obtain⟨q1,_,y1⟩:=zah hb1 (b:=w.heap.size) y0;have z1:w.heap.size≤w1.heap.size:=by omega
 have B1:=Lib.hid (B0.out.trans (hb1.mono z0));have R1_2:=Lib.hid (R0_2.out.below (hb1.mono (by omega)));have R1_3:=Lib.hid (R0_3.out.below (hb1.mono (by omega)));clear hb1;have d1:decide (left-(x.name.size:Int)-(siz (zaj x.horizontal):Int)<0)=false:=by simp<;>omega
 go_wp2_with fail;refine (sz_Int64S x.vertical v3 B _ _ R1_3.out (by omega) (by omega) (by omega)).mono ?_;rintro e w2 ⟨⟨c2,rfl⟩|⟨c2,rfl⟩,hb2⟩
 case inr =>
  go_wp2;go_ret;exact⟨Or.inr ⟨by omega,rfl⟩,B1.out.trans (hb2.mono z1)⟩
 obtain⟨q2,_,y2⟩:=zah hb2 (b:=w.heap.size) y1;have z2:w.heap.size≤w2.heap.size:=by omega
 have B2:=Lib.hid (B1.out.trans (hb2.mono z1));have R2_2:=Lib.hid (R1_2.out.below (hb2.mono (by omega)));have R2_3:=Lib.hid (R1_3.out.below (hb2.mono (by omega)));clear hb2;have d2:decide (left-(x.name.size:Int)-(siz (zaj x.horizontal):Int)-(siz (zaj x.vertical):Int)<0)=false:=by simp<;>omega
 go_wp2;go_ret;exact⟨Or.inl ⟨by omega,zcd (by omega)⟩,B2.out⟩
theorem to_Antenna (x:DAntenna) (v2 v3:Value) (w:World) (h2:Rd w.heap.size w (zaj x.horizontal) v2) (h3:Rd w.heap.size w (zaj x.vertical) v3) (hn:sizL x.tr≤1048576) :
  Calls Tryz.prog 97 #[.agg #[.string x.name,.int .i64 x.gain,v2,v3]] w fun e w'=>∃ a2 c2 a3 c3 fp,e=.returned (.agg #[.string x.name,.int .i64 x.gain,.slice a2 x.horizontal.length c2,.slice a3 x.vertical.length c3])∧Below w.heap.size w w'∧OwnV w' x.tr [.string x.name,.int .i64 x.gain,.slice a2 x.horizontal.length c2,.slice a3 x.vertical.length c3] fp∧In w.heap.size w'.heap.size fp:=by
 have hsum:=DAntenna.siz_tr x;go_enter Tryz.func97,Tryz.ntmps97;have bX0:Below w.heap.size w (((w.alloc (.cells #[.string x.name,.int .i64 x.gain,v2,v3] 129)).alloc (.cells #[.string ⟨#[]⟩,.int .i64 0,.slice none 0 0,.slice none 0 0] 147)).alloc (.cells #[.string x.name,.int .i64 x.gain,.slice none 0 0,.slice none 0 0] 147)):=(((Below.refl _ _).alloc (Nat.le_refl _) _).alloc (by simp) _).alloc (by first|(simp;done)|(simp<;>omega)) _;have BX0:=Lib.hid bX0;have zX0:w.heap.size+3≤(((w.alloc (.cells #[.string x.name,.int .i64 x.gain,v2,v3] 129)).alloc (.cells #[.string ⟨#[]⟩,.int .i64 0,.slice none 0 0,.slice none 0 0] 147)).alloc (.cells #[.string x.name,.int .i64 x.gain,.slice none 0 0,.slice none 0 0] 147)).heap.size:=by first|(simp;done)|(simp<;>omega)
 clear bX0;go_wp2_with fail;refine (to_Int64S x.horizontal v2 (((w.alloc (.cells #[.string x.name,.int .i64 x.gain,v2,v3] 129)).alloc (.cells #[.string ⟨#[]⟩,.int .i64 0,.slice none 0 0,.slice none 0 0] 147)).alloc (.cells #[.string x.name,.int .i64 x.gain,.slice none 0 0,.slice none 0 0] 147)) ((h2.below BX0.out).mono (by omega)) (by omega)).mono ?_;rintro e w1 ⟨a2,c2,fp1,rfl,hb1,o1,i1⟩;obtain⟨qa1,_,ya1⟩:=zah hb1 (b:=w.heap.size) (by omega);obtain⟨qb1,qf1,yb1⟩:=zah hb1 (b:=w.heap.size+1) (by omega);obtain⟨qc1,qg1,yc1⟩:=zah hb1 (b:=w.heap.size+1+1) (by omega);have z1:=hb1.size;have B1:=Lib.hid (BX0.out.trans (hb1.mono (by omega)));have y1:w.heap.size+3≤w1.heap.size:=by omega
 have j1:In (w.heap.size+3) w1.heap.size fp1:=i1.mono (by omega) (Nat.le_refl _);have P1_1:=Lib.hid o1;clear hb1 o1 i1;have BX1:=Lib.hid (B1.out.setCell (p:=⟨w.heap.size+1+1,2,none⟩) (by show w.heap.size≤w.heap.size+1+1;omega) (.slice a2 x.horizontal.length c2));have zX1:w.heap.size+3≤((w1.setCell ⟨w.heap.size+1+1,2,none⟩ (.slice a2 x.horizontal.length c2))).heap.size:=by simp only[zaf];omega
 go_wp2_with fail;refine (to_Int64S x.vertical v3 ((w1.setCell ⟨w.heap.size+1+1,2,none⟩ (.slice a2 x.horizontal.length c2))) ((h3.below BX1.out).mono (by omega)) (by omega)).mono ?_;rintro e w2 ⟨a3,c3,fp2,rfl,hb2,o2,i2⟩;obtain⟨qa2,_,ya2⟩:=zah hb2 (b:=w.heap.size) (by omega);obtain⟨qb2,qf2,yb2⟩:=zah hb2 (b:=w.heap.size+1) (by omega);obtain⟨qc2,qg2,yc2⟩:=zah hb2 (b:=w.heap.size+1+1) (by omega);have z2:=hb2.size;simp only[zaf] at z2;have B2:=Lib.hid (BX1.out.trans (hb2.mono (by omega)));have y2:w.heap.size+3≤w2.heap.size:=by omega
 have P1_2:=Lib.hid ((P1_1.out.setFar (p:=⟨w.heap.size+1+1,2,none⟩) (fun e=>by have:=(j1 _ e).1;simp only at this;omega) (.slice a2 x.horizontal.length c2)).below j1 (by first|omega|(simp only[zaf];omega)) hb2);have j2:In (w1.heap.size) w2.heap.size fp2:=i2.mono (by simp only[zaf];omega) (Nat.le_refl _);have P2_2:=Lib.hid o2;clear hb2 o2 i2;go_wp2;have F1:=Lib.hid (((((P1_2.out.setFar (p:=⟨w.heap.size+1+1,3,none⟩) (fun e=>by have:=(j1 _ e).1;simp only at this;omega) (.slice a3 x.vertical.length c3)).setFar (p:=⟨w.heap.size+1,0,none⟩) (fun e=>by have:=(j1 _ e).1;simp only at this;omega) (.string x.name)).setFar (p:=⟨w.heap.size+1,1,none⟩) (fun e=>by have:=(j1 _ e).1;simp only at this;omega) (.int .i64 x.gain)).setFar (p:=⟨w.heap.size+1,2,none⟩) (fun e=>by have:=(j1 _ e).1;simp only at this;omega) (.slice a2 x.horizontal.length c2)).setFar (p:=⟨w.heap.size+1,3,none⟩) (fun e=>by have:=(j1 _ e).1;simp only at this;omega) (.slice a3 x.vertical.length c3));have F2:=Lib.hid (((((P2_2.out.setFar (p:=⟨w.heap.size+1+1,3,none⟩) (fun e=>by have:=(j2 _ e).1;simp only at this;omega) (.slice a3 x.vertical.length c3)).setFar (p:=⟨w.heap.size+1,0,none⟩) (fun e=>by have:=(j2 _ e).1;simp only at this;omega) (.string x.name)).setFar (p:=⟨w.heap.size+1,1,none⟩) (fun e=>by have:=(j2 _ e).1;simp only at this;omega) (.int .i64 x.gain)).setFar (p:=⟨w.heap.size+1,2,none⟩) (fun e=>by have:=(j2 _ e).1;simp only at this;omega) (.slice a2 x.horizontal.length c2)).setFar (p:=⟨w.heap.size+1,3,none⟩) (fun e=>by have:=(j2 _ e).1;simp only at this;omega) (.slice a3 x.vertical.length c3));have BF:=Lib.hid (((((B2.out.setCell (p:=⟨w.heap.size+1+1,3,none⟩) (by show w.heap.size≤w.heap.size+1+1;omega) (.slice a3 x.vertical.length c3)).setCell (p:=⟨w.heap.size+1,0,none⟩) (by show w.heap.size≤w.heap.size+1;omega) (.string x.name)).setCell (p:=⟨w.heap.size+1,1,none⟩) (by show w.heap.size≤w.heap.size+1;omega) (.int .i64 x.gain)).setCell (p:=⟨w.heap.size+1,2,none⟩) (by show w.heap.size≤w.heap.size+1;omega) (.slice a2 x.horizontal.length c2)).setCell (p:=⟨w.heap.size+1,3,none⟩) (by show w.heap.size≤w.heap.size+1;omega) (.slice a3 x.vertical.length c3));refine bodyPost_ret (v:=.agg #[.string x.name,.int .i64 x.gain,.slice a2 x.horizontal.length c2,.slice a3 x.vertical.length c3]) (by simp[results,Tryz.results97,go_sem, *]) rfl ⟨a2,c2,a3,c3,fp1++(fp2++[]),rfl,BF.out,?_,?_⟩
 ·exact (OwnV.consLit (OwnV.consLit (OwnV.cons F1.out (OwnV.cons F2.out OwnV.nil (fun x hx e=>by have h1:=j2 x hx;simp at e)) (fun x hx e=>by have h1:=j1 x hx;simp only[List.mem_append,List.not_mem_nil,or_false] at e;have h2:=j2 x e;omega)) rfl) rfl)
 ·simp only[zaf]
  exact ((j1.mono (by omega) (by omega)).append ((j2.mono (by omega) (by omega)).append In.nil))
theorem eq_Antenna (x:DAntenna) (v2 u2 v3 u3:Value) (B:Nat) (w:World) (h2:Rd B w (zaj x.horizontal) v2) (g2:Rd B w (zaj x.horizontal) u2) (h3:Rd B w (zaj x.vertical) v3) (g3:Rd B w (zaj x.vertical) u3) (hB:B≤w.heap.size) (hn:sizL x.tr≤1099511627776) :
  Calls Tryz.prog 113 #[.agg #[.string x.name,.int .i64 x.gain,v2,v3],.agg #[.string x.name,.int .i64 x.gain,u2,u3]] w fun e w'=>e=.returned (.bool true)∧Below w.heap.size w w':=by
 have hsum:=DAntenna.siz_tr x;have b0:Below w.heap.size w ((w.alloc (.cells #[.string x.name,.int .i64 x.gain,v2,v3] 147)).alloc (.cells #[.string x.name,.int .i64 x.gain,u2,u3] 147)):=((Below.refl _ _).alloc (Nat.le_refl _) _).alloc (by simp) _;have B0:=Lib.hid b0;have y0:w.heap.size+2≤((w.alloc (.cells #[.string x.name,.int .i64 x.gain,v2,v3] 147)).alloc (.cells #[.string x.name,.int .i64 x.gain,u2,u3] 147)).heap.size:=by first|(simp;done)|(simp<;>omega)
 clear b0;go_enter Tryz.func113,Tryz.ntmps113;go_wp2_with fail;refine (zei x.horizontal v2 u2 B _ (h2.below (B0.out.mono hB)) (g2.below (B0.out.mono hB)) (by omega) (by omega)).mono ?_;rintro e w1 ⟨rfl,hb1⟩;obtain⟨qa1,_,ya1⟩:=zah hb1 (b:=w.heap.size) (by omega);obtain⟨qb1,_,yb1⟩:=zah hb1 (b:=w.heap.size+1) (by omega);have y1:w.heap.size+2≤w1.heap.size:=by have:=hb1.size;omega
 have B1:=Lib.hid (B0.out.trans (hb1.mono (by omega)));clear hb1;go_wp2_with fail;refine (zei x.vertical v3 u3 B _ (h3.below (B1.out.mono hB)) (g3.below (B1.out.mono hB)) (by omega) (by omega)).mono ?_;rintro e w2 ⟨rfl,hb2⟩;obtain⟨qa2,_,ya2⟩:=zah hb2 (b:=w.heap.size) (by omega);obtain⟨qb2,_,yb2⟩:=zah hb2 (b:=w.heap.size+1) (by omega);have y2:w.heap.size+2≤w2.heap.size:=by have:=hb2.size;omega
 have B2:=Lib.hid (B1.out.trans (hb2.mono (by omega)));clear hb2;go_wp2;go_ret;exact⟨rfl,B2.out⟩
theorem DAntenna.siz_s (l:List DAntenna):siz (DAntenna.sT l)=l.length+sizL (l.flatMap DAntenna.tr):=siz_flat DAntenna.tr 4 (by decide) DAntenna.tr_len l
theorem sz_AntennaS (l:List DAntenna) (v:Value) (B:Nat) (left:Int) (w:World) (h:Rd B w (DAntenna.sT l) v) (hB:B≤w.heap.size) (hl:0≤left) (hl2:left≤1048576) (hstr:∀ x ∈ l,x.ok) :
  Calls Tryz.prog 37 #[v,.int .i64 left] w (SzPost (siz (DAntenna.sT l)) left w):=by
 rw[DAntenna.siz_s];obtain⟨a,c,rfl,hnc,hcm,hcells⟩:=DAntenna.rd h;clear h;unfold maxLen at hcm
 by_cases c1:(l.length:Int)≤left
 ·have c1':decide (left-(l.length:Int)<0)=false:=by simp<;>omega
  go_enter Tryz.func37,Tryz.ntmps37;go_wp2;go_loopw [1,5] (fun m i wr=>∃ (k:Nat),k≤l.length∧i=.int .i64 k∧(sizL ((l.take k).flatMap DAntenna.tr):Int)≤left-l.length∧m=.int .i64 (left-l.length-sizL ((l.take k).flatMap DAntenna.tr))∧Below w.heap.size w wr) (fun _ i wr=>l.length-(intOf i).toNat)
  case atStart=>exact⟨0,Nat.zero_le _,rfl,by simp[sizL];omega,by simp[sizL],Below.refl _ _⟩
  case round =>
   obtain⟨k,hk,rfl,hm,rfl,hb⟩:=hrel
   by_cases hlt:k<l.length
   ·obtain⟨b,off,rfl,hbl,hat⟩:=hcells (by omega)
    obtain⟨s0,s1,⟨u2,s2,r2⟩,⟨u3,s3,r3⟩⟩:=hat k hlt;rw[← hb.cell (p:=⟨b,_,none⟩) (show b<w.heap.size by omega)] at s0 s1 s2 s3;have t2:Rd B wr (zaj l[k].horizontal) u2:=r2.below (hb.mono hB);have t3:Rd B wr (zaj l[k].vertical) u3:=r3.below (hb.mono hB);have hB':B≤wr.heap.size:=by have:=hb.size;omega
    have hok:=hstr l[k] (List.getElem_mem hlt);have hsum:=zc2 DAntenna.tr l k hlt;have hle:=zds DAntenna.tr l (k+1);have HS:=Lib.hid hsum;have HB:=Lib.hid hb;clear hcells hat hb hsum hstr r2 r3;go_wp2_with (go_at_call 84;refine (sz_Antenna l[k] u2 u3 B _ _ t2 t3 hB' (by omega) (by omega) hok).mono ?_;rintro e w1 ⟨⟨c2,rfl⟩|⟨c2,rfl⟩,hb1⟩)
    ·have c3:decide (left-l.length-sizL ((l.take k).flatMap DAntenna.tr)-sizL l[k].tr<0)=false:=by simp<;>omega
     go_wp2;go_roundw
     case rel=>exact⟨k+1,by omega,by go_num,by rw[HS.out];omega,by rw[HS.out];go_num,HB.out.trans (hb1.mono HB.out.size)⟩
     case measure=>simp[intOf];omega
    ·go_wp2
     go_ret;exact⟨Or.inr ⟨by have:=HS.out;omega,rfl⟩,HB.out.trans (hb1.mono HB.out.size)⟩
   ·obtain rfl:k=l.length:=by omega
    clear hcells;rw[List.take_length] at hm;go_wp2;go_ret;refine⟨Or.inl ⟨by omega,zcd ?_⟩,hb⟩;simp only[List.take_length];omega
 ·have c1':decide (left-(l.length:Int)<0)=true:=by simp<;>omega
  go_enter Tryz.func37,Tryz.ntmps37;go_wp2;go_ret;exact⟨Or.inr ⟨by omega,rfl⟩,Below.refl _ _⟩
theorem infoAntenna:(Tryz.prog.info? 147).map (fun i=>(i.zero,i.size,i.bytes))=some (some (.agg #[.string ⟨#[]⟩,.int .i64 0,.slice none 0 0,.slice none 0 0]),4,72):=by kernel_rfl
theorem to_AntennaS (l:List DAntenna) (v:Value) (w:World) (h:Rd w.heap.size w (DAntenna.sT l) v) (hn:siz (DAntenna.sT l)≤1048576) :
  Calls Tryz.prog 50 #[v] w fun e w'=>∃ a' c' fp,e=.returned (.slice a' l.length c')∧Below w.heap.size w w'∧Own w' (DAntenna.sT l) (.slice a' l.length c') fp∧In w.heap.size w'.heap.size fp:=by
 rw[DAntenna.siz_s] at hn;obtain⟨i0,hi0,hz0,hz1,hz2⟩:=info_parts infoAntenna;have hmk:=fun W=>zcv (P:=Tryz.prog) 43 147 i0 _ Tryz.underlying43 hi0 hz0 .i64 .i64 l.length l.length (Nat.le_refl _) (by rw[hz2];omega) (by omega) W
 rw[hz1] at hmk;have hnb:(l.length:Int)≤1048576:=by omega
 obtain⟨a,c,rfl,hnc,hcm,hcells⟩:=DAntenna.rd h;clear h;go_enter Tryz.func50,Tryz.ntmps50;go_wp2;clear hmk hi0 hz0 hz1 hz2;go_loopw [4] (fun i wr=>∃ (k:Nat) (f:List Nat),k≤l.length∧i=.int .i64 k∧Below w.heap.size w wr∧Fill wr w.heap.size 147 (l.length*4) ((l.take k).flatMap DAntenna.tr) f∧In w.heap.size wr.heap.size f) (fun i wr=>l.length-(intOf i).toNat)
 case atStart =>
  have hst:=Fill.start w (madeCells #[.string ⟨#[]⟩,.int .i64 0,.slice none 0 0,.slice none 0 0] (l.length*4)) 147;rw[size_madeCells] at hst;exact⟨0,[],Nat.zero_le _,rfl,(Below.refl _ _).alloc (Nat.le_refl _) _,by simpa using hst,In.nil⟩
 case round =>
  obtain⟨k,f,hk,rfl,hb,hfill,hin⟩:=hrel
  by_cases hlt:k<l.length
  ·obtain⟨b,off,rfl,hbl,hat⟩:=hcells (by omega)
   obtain⟨s0,s1,⟨u2,s2,r2⟩,⟨u3,s3,r3⟩⟩:=hat k hlt;rw[← hb.cell (p:=⟨b,_,none⟩) hbl] at s0 s1 s2 s3;have hz:=hfill.lt;have hz2:b<wr.heap.size:=by omega
   have t2:Rd wr.heap.size wr (zaj l[k].horizontal) u2:=(r2.below hb).mono hb.size;have t3:Rd wr.heap.size wr (zaj l[k].vertical) u3:=(r3.below hb).mono hb.size;obtain⟨o0,p0⟩:=hfill.room (k*4) (by omega);obtain⟨o1,p1⟩:=hfill.room (k*4+1) (by omega);obtain⟨o2,p2⟩:=hfill.room (k*4+2) (by omega);obtain⟨o3,p3⟩:=hfill.room (k*4+3) (by omega);have hfz:=hfill.open_;have hsl:=za4 DAntenna.tr l k hlt;have HB:=Lib.hid hb;clear hcells hat hb r2 r3;go_wp2_with (go_at_call 97;refine (to_Antenna l[k] u2 u3 _ t2 t3 (by omega)).mono ?_;rintro e w1 ⟨a2,c2,a3,c3,fp1,rfl,hb1,hown1,hin1⟩;obtain⟨q1,q2⟩:=bcell hb1);go_roundw
   case rel =>
    have hw1:=hfill.below hin hb1;have hst:=hw1.step (us:=l[k].tr) (vs:=[.string l[k].name,.int .i64 l[k].gain,.slice a2 l[k].horizontal.length c2,.slice a3 l[k].vertical.length c3]) (g:=fp1) hown1.rep (by rw[zay _ 4 DAntenna.tr_len];simp<;>omega) hown1.nd (fun e=>by have:=(hin1 _ e).1;omega) (fun x hx e=>by have:=(hin1 x hx).1;have:=(hin x e).2;omega) hown1.free;rw[zay _ 4 DAntenna.tr_len,List.length_take,Nat.min_eq_left hk,← zcb DAntenna.tr l k hlt] at hst;refine⟨k+1,f++fp1,by omega,by go_num,zdy (HB.out.trans (hb1.mono (by omega))) (Nat.le_refl _) [.string l[k].name,.int .i64 l[k].gain,.slice a2 l[k].horizontal.length c2,.slice a3 l[k].vertical.length c3] (k*4),hst,?_⟩;simp only[zaf];exact (hin.mono (Nat.le_refl _) hb1.size).append (hin1.mono (by omega) (Nat.le_refl _))
   case measure=>simp[intOf];omega
  ·obtain rfl:k=l.length:=by omega
   clear hcells;go_wp2;go_ret;rw[List.take_length] at hfill;obtain⟨fp,h1,h2⟩:=hfill.own (zay _ 4 DAntenna.tr_len l) (by unfold maxLen;omega);exact⟨_,_,fp,rfl,hb,h1,fun x hx=>by rcases h2 x hx with rfl|h;exact⟨Nat.le_refl _,hfill.lt⟩;exact hin x h⟩
theorem eq_AntennaS (l:List DAntenna) (v v':Value) (B:Nat) (w:World) (h:Rd B w (DAntenna.sT l) v) (h':Rd B w (DAntenna.sT l) v') (hB:B≤w.heap.size) (hn:siz (DAntenna.sT l)≤1099511627776) :
  Calls Tryz.prog 63 #[v,v'] w fun e w'=>e=.returned (.bool true)∧Below w.heap.size w w':=by
 rw[DAntenna.siz_s] at hn;have hnb:(l.length:Int)≤1099511627776:=by omega
 obtain⟨a,c,rfl,hnc,hcm,hcells⟩:=DAntenna.rd h;obtain⟨a',c',rfl,hnc',hcm',hcells'⟩:=DAntenna.rd h';clear h h';have hne:((l.length:Int) != l.length)=false:=by simp
 go_enter Tryz.func63,Tryz.ntmps63;go_wp2;clear hne;go_loopw [5] (fun i wr=>∃ (k:Nat),k≤l.length∧i=.int .i64 k∧Below w.heap.size w wr) (fun i wr=>l.length-(intOf i).toNat)
 case atStart=>exact⟨0,Nat.zero_le _,rfl,Below.refl _ _⟩
 case round =>
  obtain⟨k,hk,rfl,hb⟩:=hrel
  by_cases hlt:k<l.length
  ·obtain⟨b,off,rfl,hbl,hat⟩:=hcells (by omega)
   obtain⟨b',off',rfl,hbl',hat'⟩:=hcells' (by omega);obtain⟨s0,s1,⟨u2,s2,r2⟩,⟨u3,s3,r3⟩⟩:=hat k hlt;obtain⟨sb0,sb1,⟨ub2,sb2,rb2⟩,⟨ub3,sb3,rb3⟩⟩:=hat' k hlt;rw[← hb.cell (p:=⟨b,_,none⟩) (show b<w.heap.size by omega)] at s0 s1 s2 s3;rw[← hb.cell (p:=⟨b',_,none⟩) (show b' < w.heap.size by omega)] at sb0 sb1 sb2 sb3;have t2:Rd B wr.drew (zaj l[k].horizontal) u2:=(r2.below (hb.mono hB)).drew;have tb2:Rd B wr.drew (zaj l[k].horizontal) ub2:=(rb2.below (hb.mono hB)).drew;have t3:Rd B wr.drew (zaj l[k].vertical) u3:=(r3.below (hb.mono hB)).drew;have tb3:Rd B wr.drew (zaj l[k].vertical) ub3:=(rb3.below (hb.mono hB)).drew;have hB':B≤wr.heap.size:=by have:=hb.size;omega
   have hsl:=za4 DAntenna.tr l k hlt;have i1:(0:Int)≤(k:Int):=by omega
   have i2:(k:Int)<(l.length:Int):=by omega
   have HB:=Lib.hid hb;clear hcells hat hcells' hat' hb r2 rb2 r3 rb3;go_wp2
   go_still_tail 8,(by kernel_rfl)
   change wpList _ _ _ _ _ wr.drew
   go_wp2_with (go_at_call 113;refine (eq_Antenna l[k] u2 ub2 u3 ub3 B _ t2 tb2 t3 tb3 hB' (by omega)).mono ?_;rintro e w1 ⟨rfl,hb1⟩);go_roundw
   case rel=>exact⟨k+1,by omega,by go_num,HB.out.drew.trans (hb1.mono HB.out.size)⟩
   case measure=>simp[intOf];omega
  ·obtain rfl:k=l.length:=by omega
   clear hcells hcells';go_wp2;go_ret;exact⟨rfl,hb⟩
theorem DAntenna.mk_tr (x:DAntenna) (K:Nat):mkL x.tr K = [.lit (.string (zc3 (K))),.lit (.int .i64 ((K:Int)+1)),mkT (zaj x.horizontal) (K+1+1),mkT (zaj x.vertical) (K+1+1+cnt (zaj x.horizontal))]:=rfl
theorem DAntenna.cntL_tr (x:DAntenna):cntL x.tr=1+1+cnt (zaj x.horizontal)+cnt (zaj x.vertical):=by simp only[DAntenna.tr,cntL,cnt,intT,strT];omega
theorem mark_AntennaS (l:List DAntenna) (v:Value) (fp:List Nat) (k0 lo:Nat) (w:World) (h:Own w (DAntenna.sT l) v fp) (hin:In lo w.heap.size fp) (hs:siz (DAntenna.sT l)≤1099511627776) (hk0:k0+cnt (DAntenna.sT l)≤1099511627776) (hk1:0<k0) :
  Calls Tryz.prog 69 #[v,.int .i64 k0] w fun e w'=>e=.returned (.int .i64 ((k0+cnt (DAntenna.sT l):Nat):Int))∧Own w' (mkT (DAntenna.sT l) k0) v fp∧Chg fp w w':=by
 rw[DAntenna.siz_s] at hs;obtain⟨a,c,hv,hnc,hcm⟩:=h.form (k:=4) (g:=DAntenna.tr) (by decide) DAntenna.tr_len;subst hv;rw[show cnt (DAntenna.sT l)=cntL (l.flatMap DAntenna.tr) from by rw[DAntenna.sT,cnt]] at hk0 ⊢;have hnb:(l.length:Int)≤1099511627776:=by omega
 go_enter Tryz.func69,Tryz.ntmps69;go_wp2;go_loopw [1,5] (fun kk i wr=>∃ (j K:Nat),j≤l.length∧i=.int .i64 j∧K=k0+cntL ((l.take j).flatMap DAntenna.tr)∧kk=.int .i64 (K:Int)∧Own wr (mid DAntenna.tr 4 l k0 j) (.slice a l.length c) fp∧Chg fp w wr) (fun _ i wr=>l.length-(intOf i).toNat)
 case atStart=>exact⟨0,k0,Nat.zero_le _,rfl,by simp[cntL],rfl,by rw[mid_zero];exact h,Chg.refl _ _⟩
 case round =>
  obtain⟨j,K,hj,rfl,hK,rfl,hown,hchg⟩:=hrel
  by_cases hlt:j<l.length
  ·rw[mid_at _ _ _ _ _ hlt] at hown
   have hts:(mkL ((l.take j).flatMap DAntenna.tr) k0).length=j*4:=by rw[zb4,zay _ 4 DAntenna.tr_len,List.length_take,Nat.min_eq_left hj]
   have hsum:=zc4 DAntenna.tr l j hlt;have hle:=zcg DAntenna.tr l (j+1);have hcx:=DAntenna.cntL_tr l[j];have hkb:K+(1+1+cnt (zaj l[j].horizontal)+cnt (zaj l[j].vertical))≤1099511627776:=by omega
   have hkp:0<K:=by omega
   have hszj:=za4 DAntenna.tr l j hlt;have HM:=Lib.hid (mid_succ DAntenna.tr 4 l k0 j hlt);have HS:=Lib.hid hsum;have HK:=Lib.hid hK;have HC:=Lib.hid hcx;have HT:=Lib.hid hts;clear hsum hcx hle hK hts;generalize mkL ((l.take j).flatMap DAntenna.tr) k0=TS at *;generalize (l.drop (j+1)).flatMap DAntenna.tr=US at *;have hin':In lo wr.heap.size fp:=hin.mono (Nat.le_refl _) hchg.size;have o0:Own wr (.sl 4 (TS++([.lit (.string l[j].name),.lit (.int .i64 l[j].gain),zaj l[j].horizontal,zaj l[j].vertical]++US))) (.slice a l.length c) fp:=hown;clear hown;obtain⟨b,off,rfl,hbf⟩:=o0.someAddr;have hbw:=(hin' b hbf).2;have hfz:∀ i,wr.frozen? ⟨b,i,none⟩=false:=o0.free b hbf;have z0:wr.heap.size≤wr.heap.size:=Nat.le_refl _;obtain⟨s0,_⟩:=o0.cellChunk 0 _ rfl (off+j*4) (by rw[HT.out];omega);obtain⟨s1,_⟩:=o0.cellChunk 1 _ rfl (off+j*4+1) (by rw[HT.out];omega);obtain⟨x2,g2,s2,_,_,_,_⟩:=o0.partChunk 2 _ rfl (off+j*4+2) (by rw[HT.out];omega);obtain⟨x3,g3,s3,_,_,_,_⟩:=o0.partChunk 3 _ rfl (off+j*4+3) (by rw[HT.out];omega);have O0:=Lib.hid o0;have C0:=Lib.hid hchg;clear o0 hchg;go_wp2_with fail;refine (zb8 _ _ (by omega) (by omega)).mono ?_;rintro e w1 ⟨rfl,hb1⟩;obtain⟨qa1,qb1,hbw1⟩:=zah hb1 (b:=b) (by first|omega|(simp only[zaf];omega));have z1:wr.heap.size≤w1.heap.size:=by have:=hb1.size;(try simp only[zaf] at this);omega
   have O1:=Lib.hid ((O0.out.below hin' (by first|omega|(simp only[zaf];omega)) hb1).setChunk 0 _ rfl (off+j*4) (by rw[HT.out];omega) (.string (zc3 (K))));have C1:=Lib.hid ((C0.out.trans (Chg.of_below hb1)).setCell (p:=⟨b,off+j*4,none⟩) hbf (.string (zc3 (K))));have O2:=Lib.hid (O1.out.setChunk 1 _ rfl (off+j*4+1) (by rw[HT.out];omega) (.int .i64 ((K:Int)+1)));have C2:=Lib.hid (C1.out.setCell (p:=⟨b,off+j*4+1,none⟩) hbf (.int .i64 ((K:Int)+1)));obtain⟨y2,h2,sy2,hox2,hgf2,hbg2,hset2⟩:=O2.out.partChunk 2 _ rfl (off+j*4+2) (by rw[HT.out];omega);have HX2:=Lib.hid hox2;have HY2:=Lib.hid hset2;clear hox2 hset2;have hsz2:siz (zaj l[j].horizontal)≤1099511627776:=by
    have:siz (zaj l[j].horizontal)≤sizL l[j].tr:=by simp only[DAntenna.tr,sizL];omega
    omega
   go_wp2_with fail;refine (zen (l[j].horizontal) y2 h2 (K+1+1) lo _ _ HX2.out (fun y hy=>⟨(hin' y (hgf2 y hy)).1,by have:=(hin' y (hgf2 y hy)).2;(try simp only[zaf]);omega⟩) hsz2 (by simp only[Int.natCast_add,Int.natCast_one]) (by omega) (by omega)).mono ?_;rintro e w2 ⟨rfl,ho2,hc2⟩;have z2:wr.heap.size≤w2.heap.size:=by have:=hc2.size;(try simp only[zaf] at this);omega
   have hbk2:=hc2.block b (by first|omega|(simp only[zaf];omega)) hbg2;have qb2:∀ o,w2.frozen? ⟨b,o,none⟩=_:=fun o=>World.frozen?_of_block (a:=⟨b,o,none⟩) hbk2
   clear hbk2;have O3:=Lib.hid (HY2.out w2 _ (fun y hy hyg=>hc2.block y (by have:=(hin' y hy).2;(try simp only[zaf]);omega) hyg) ho2);have C3:=Lib.hid (C2.out.trans (hc2.mono hgf2));clear hc2 ho2;obtain⟨y3,h3,sy3,hox3,hgf3,hbg3,hset3⟩:=O3.out.partChunk 3 _ rfl (off+j*4+3) (by rw[HT.out];omega);have HX3:=Lib.hid hox3;have HY3:=Lib.hid hset3;clear hox3 hset3;have hsz3:siz (zaj l[j].vertical)≤1099511627776:=by
    have:siz (zaj l[j].vertical)≤sizL l[j].tr:=by simp only[DAntenna.tr,sizL];omega
    omega
   go_wp2_with fail;refine (zen (l[j].vertical) y3 h3 (K+1+1+cnt (zaj l[j].horizontal)) lo _ _ HX3.out (fun y hy=>⟨(hin' y (hgf3 y hy)).1,by have:=(hin' y (hgf3 y hy)).2;(try simp only[zaf]);omega⟩) hsz3 (by simp only[Int.natCast_add,Int.natCast_one]) (by omega) (by omega)).mono ?_;rintro e w3 ⟨rfl,ho3,hc3⟩;have z3:wr.heap.size≤w3.heap.size:=by have:=hc3.size;(try simp only[zaf] at this);omega
   have hbk3:=hc3.block b (by first|omega|(simp only[zaf];omega)) hbg3;have qa3:∀ o,w3.cell? ⟨b,o,none⟩=_:=fun o=>World.cell?_of_block (a:=⟨b,o,none⟩) hbk3
   have qb3:∀ o,w3.frozen? ⟨b,o,none⟩=_:=fun o=>World.frozen?_of_block (a:=⟨b,o,none⟩) hbk3
   clear hbk3;have O4:=Lib.hid (HY3.out w3 _ (fun y hy hyg=>hc3.block y (by have:=(hin' y hy).2;(try simp only[zaf]);omega) hyg) ho3);have C4:=Lib.hid (C3.out.trans (hc3.mono hgf3));clear hc3 ho3;go_wp2;go_roundw
   case rel =>
    refine⟨j+1,K+(1+1+cnt (zaj l[j].horizontal)+cnt (zaj l[j].vertical)),by omega,by go_num,by have:=HK.out;have:=HS.out;have:=HC.out;omega,by go_num,?_,C4.out⟩;rw[HM.out,← HK.out,DAntenna.mk_tr];exact O4.out
   case measure=>simp[intOf];omega
  ·obtain rfl:j=l.length:=by omega
   have HK:=Lib.hid hK;clear hK;go_wp2;go_ret;rw[mid_end] at hown;have e:=HK.out;rw[List.take_length] at e;exact⟨zcd (by omega),hown,hchg⟩
theorem markI_AntennaS (l:List DAntenna) (v:Value) (fp:List Nat) (k lo:Nat) (K:Int) (w:World) (h:Own w (DAntenna.sT l) v fp) (hin:In lo w.heap.size fp) (hs:siz (DAntenna.sT l)≤1099511627776) (hK:K=(k:Int)) (hk0:k+cnt (DAntenna.sT l)≤1099511627776) (hk1:0<k) :
  Calls Tryz.prog 69 #[v,.int .i64 K] w fun e w'=>e=.returned (.int .i64 (K+(cnt (DAntenna.sT l):Int)))∧Own w' (mkT (DAntenna.sT l) k) v fp∧Chg fp w w':=by
 subst hK;refine (mark_AntennaS l v fp k lo w h hin hs hk0 hk1).mono fun e w' ⟨he,h1,h2⟩=>⟨?_,h1,h2⟩
 rw[he,Int.natCast_add]
set_option maxHeartbeats 4000000
set_option maxRecDepth 100000
theorem to_Mode (x:DMode) (w:World) :
  Calls Tryz.prog 188 #[.agg #[.int .i64 x.need,.int .i64 x.rate]] w fun e w'=>e=.returned (.agg #[.int .i64 x.need,.int .i64 x.rate])∧Below w.heap.size w w':=by
 go_enter Tryz.func188,Tryz.ntmps188;go_wp2;exact bodyPost_ret (v:=.agg #[.int .i64 x.need,.int .i64 x.rate]) (by simp[results,Tryz.results188,go_sem]) rfl ⟨rfl,(((Below.refl _ _).alloc (Nat.le_refl _) _).alloc (by simp) _).alloc (by simp<;>omega) _⟩
theorem eq_Mode (x:DMode) (w:World) :
  Calls Tryz.prog 213 #[.agg #[.int .i64 x.need,.int .i64 x.rate],.agg #[.int .i64 x.need,.int .i64 x.rate]] w fun e w'=>e=.returned (.bool true)∧Below w.heap.size w w':=by
 go_enter Tryz.func213,Tryz.ntmps213;go_wp2;go_ret;exact⟨rfl,((Below.refl _ _).alloc (Nat.le_refl _) _).alloc (by simp) _⟩
theorem DMode.siz_s (l:List DMode):siz (DMode.sT l)=l.length+sizL (l.flatMap DMode.tr):=siz_flat DMode.tr 2 (by decide) DMode.tr_len l
theorem DMode.siz_tr (x:DMode):sizL x.tr=0:=by simp[DMode.tr,sizL,siz,intT]
theorem DMode.sizL_s (l:List DMode):sizL (l.flatMap DMode.tr)=0:=by
 induction l with
 | nil=>rfl
 | cons x l ih=>rw[List.flatMap_cons,ze4,ih,DMode.siz_tr]
theorem sz_ModeS (l:List DMode) (v:Value) (B:Nat) (left:Int) (w:World) (h:Rd B w (DMode.sT l) v) (hB:B≤w.heap.size) (hl:0≤left) (hl2:left≤1048576) :
  Calls Tryz.prog 126 #[v,.int .i64 left] w (SzPost (siz (DMode.sT l)) left w):=by
 rw[DMode.siz_s,DMode.sizL_s];obtain⟨a,c,rfl,hnc,hcm,_⟩:=DMode.rd h;clear h;unfold maxLen at hcm;go_enter Tryz.func126,Tryz.ntmps126;go_wp2
 all_goals go_ret
 all_goals first|exact⟨Or.inl ⟨by omega,zcd (by omega)⟩,Below.refl _ _⟩|exact⟨Or.inr ⟨by omega,rfl⟩,Below.refl _ _⟩
theorem infoMode:(Tryz.prog.info? 194).map (fun i=>(i.zero,i.size,i.bytes))=some (some (.agg #[.int .i64 0,.int .i64 0]),2,16):=by kernel_rfl
theorem to_ModeS (l:List DMode) (v:Value) (w:World) (h:Rd w.heap.size w (DMode.sT l) v) (hn:siz (DMode.sT l)≤1048576) :
  Calls Tryz.prog 144 #[v] w fun e w'=>∃ a' c' fp,e=.returned (.slice a' l.length c')∧Below w.heap.size w w'∧Own w' (DMode.sT l) (.slice a' l.length c') fp∧In w.heap.size w'.heap.size fp:=by
 rw[DMode.siz_s] at hn;obtain⟨i0,hi0,hz0,hz1,hz2⟩:=info_parts infoMode;have hmk:=fun W=>zcv (P:=Tryz.prog) 149 194 i0 _ Tryz.underlying149 hi0 hz0 .i64 .i64 l.length l.length (Nat.le_refl _) (by rw[hz2];omega) (by omega) W
 rw[hz1] at hmk;have hnb:(l.length:Int)≤1048576:=by omega
 obtain⟨a,c,rfl,hnc,hcm,hcells⟩:=DMode.rd h;clear h;go_enter Tryz.func144,Tryz.ntmps144;go_wp2;clear hmk hi0 hz0 hz1 hz2;go_loopw [4] (fun i wr=>∃ (k:Nat) (f:List Nat),k≤l.length∧i=.int .i64 k∧Below w.heap.size w wr∧Fill wr w.heap.size 194 (l.length*2) ((l.take k).flatMap DMode.tr) f∧In w.heap.size wr.heap.size f) (fun i wr=>l.length-(intOf i).toNat)
 case atStart =>
  have hst:=Fill.start w (madeCells #[.int .i64 0,.int .i64 0] (l.length*2)) 194;rw[size_madeCells] at hst;exact⟨0,[],Nat.zero_le _,rfl,(Below.refl _ _).alloc (Nat.le_refl _) _,by simpa using hst,In.nil⟩
 case round =>
  obtain⟨k,f,hk,rfl,hb,hfill,hin⟩:=hrel
  by_cases hlt:k<l.length
  ·obtain⟨b,off,rfl,hbl,hat⟩:=hcells (by omega)
   obtain⟨s0,s1⟩:=hat k hlt;rw[← hb.cell (p:=⟨b,_,none⟩) hbl] at s0 s1;have hz:=hfill.lt;have hz2:b<wr.heap.size:=by omega
   obtain⟨o0,p0⟩:=hfill.room (k*2) (by omega);obtain⟨o1,p1⟩:=hfill.room (k*2+1) (by omega);have hfz:=hfill.open_;have hsl:=za4 DMode.tr l k hlt;have HB:=Lib.hid hb;clear hcells hat hb;go_wp2_with (go_at_call 188;refine (to_Mode l[k] _).mono ?_;rintro e w1 ⟨rfl,hb1⟩;obtain⟨q1,q2⟩:=bcell hb1);go_roundw
   case rel =>
    have hw1:=hfill.below hin hb1;have hst:=hw1.step (us:=l[k].tr) (vs:=[.int .i64 l[k].need,.int .i64 l[k].rate]) (g:=[]) (RepV.lits [.int .i64 l[k].need,.int .i64 l[k].rate]) (by rw[zay _ 2 DMode.tr_len];simp<;>omega) List.nodup_nil (by simp) (by simp) (fun b h=>by simp at h);rw[zay _ 2 DMode.tr_len,List.length_take,Nat.min_eq_left hk,List.append_nil,← zcb DMode.tr l k hlt] at hst;exact⟨k+1,f,by omega,by go_num,zdy (HB.out.trans (hb1.mono (by omega))) (Nat.le_refl _) [.int .i64 l[k].need,.int .i64 l[k].rate] (k*2),hst,fun x hx=>⟨(hin x hx).1,by have:=(hin x hx).2;have:=hb1.size;simp only[zaf];omega⟩⟩
   case measure=>simp[intOf];omega
  ·obtain rfl:k=l.length:=by omega
   clear hcells;go_wp2;go_ret;rw[List.take_length] at hfill;obtain⟨fp,h1,h2⟩:=hfill.own (zay _ 2 DMode.tr_len l) (by unfold maxLen;omega);exact⟨_,_,fp,rfl,hb,h1,fun x hx=>by rcases h2 x hx with rfl|h;exact⟨Nat.le_refl _,hfill.lt⟩;exact hin x h⟩
theorem eq_ModeS (l:List DMode) (v v':Value) (B:Nat) (w:World) (h:Rd B w (DMode.sT l) v) (h':Rd B w (DMode.sT l) v') (hB:B≤w.heap.size) (hn:siz (DMode.sT l)≤1099511627776) :
  Calls Tryz.prog 161 #[v,v'] w fun e w'=>e=.returned (.bool true)∧Below w.heap.size w w':=by
 rw[DMode.siz_s] at hn;have hnb:(l.length:Int)≤1099511627776:=by omega
 obtain⟨a,c,rfl,hnc,hcm,hcells⟩:=DMode.rd h;obtain⟨a',c',rfl,hnc',hcm',hcells'⟩:=DMode.rd h';clear h h';have hne:((l.length:Int) != l.length)=false:=by simp
 go_enter Tryz.func161,Tryz.ntmps161;go_wp2;clear hne;go_loopw [5] (fun i wr=>∃ (k:Nat),k≤l.length∧i=.int .i64 k∧Below w.heap.size w wr) (fun i wr=>l.length-(intOf i).toNat)
 case atStart=>exact⟨0,Nat.zero_le _,rfl,Below.refl _ _⟩
 case round =>
  obtain⟨k,hk,rfl,hb⟩:=hrel
  by_cases hlt:k<l.length
  ·obtain⟨b,off,rfl,hbl,hat⟩:=hcells (by omega)
   obtain⟨b',off',rfl,hbl',hat'⟩:=hcells' (by omega);obtain⟨s0,s1⟩:=hat k hlt;obtain⟨sb0,sb1⟩:=hat' k hlt;rw[← hb.cell (p:=⟨b,_,none⟩) (show b<w.heap.size by omega)] at s0 s1;rw[← hb.cell (p:=⟨b',_,none⟩) (show b' < w.heap.size by omega)] at sb0 sb1;have hB':B≤wr.heap.size:=by have:=hb.size;omega
   have hsl:=za4 DMode.tr l k hlt;have i1:(0:Int)≤(k:Int):=by omega
   have i2:(k:Int)<(l.length:Int):=by omega
   have HB:=Lib.hid hb;clear hcells hat hcells' hat' hb;go_wp2
   go_still_tail 8,(by kernel_rfl)
   change wpList _ _ _ _ _ wr.drew
   go_wp2_with (go_at_call 213;refine (eq_Mode l[k]   _  ).mono ?_;rintro e w1 ⟨rfl,hb1⟩);go_roundw
   case rel=>exact⟨k+1,by omega,by go_num,HB.out.drew.trans (hb1.mono HB.out.size)⟩
   case measure=>simp[intOf];omega
  ·obtain rfl:k=l.length:=by omega
   clear hcells hcells';go_wp2;go_ret;exact⟨rfl,hb⟩
theorem DMode.mk_tr (x:DMode) (K:Nat):mkL x.tr K = [.lit (.int .i64 ((K:Int))),.lit (.int .i64 ((K:Int)+1))]:=rfl
theorem DMode.cntL_tr (x:DMode):cntL x.tr=1+1:=by rfl
theorem mark_ModeS (l:List DMode) (v:Value) (fp:List Nat) (k0 lo:Nat) (w:World) (h:Own w (DMode.sT l) v fp) (hin:In lo w.heap.size fp) (hs:siz (DMode.sT l)≤1099511627776) (hk0:k0+cnt (DMode.sT l)≤1099511627776) (hk1:0<k0) :
  Calls Tryz.prog 118 #[v,.int .i64 k0] w fun e w'=>e=.returned (.int .i64 ((k0+cnt (DMode.sT l):Nat):Int))∧Own w' (mkT (DMode.sT l) k0) v fp∧Chg fp w w':=by
 rw[DMode.siz_s] at hs;obtain⟨a,c,hv,hnc,hcm⟩:=h.form (k:=2) (g:=DMode.tr) (by decide) DMode.tr_len;subst hv;rw[show cnt (DMode.sT l)=cntL (l.flatMap DMode.tr) from by rw[DMode.sT,cnt]] at hk0 ⊢;have hnb:(l.length:Int)≤1099511627776:=by omega
 go_enter Tryz.func118,Tryz.ntmps118;go_wp2;go_loopw [1,5] (fun kk i wr=>∃ (j K:Nat),j≤l.length∧i=.int .i64 j∧K=k0+cntL ((l.take j).flatMap DMode.tr)∧kk=.int .i64 (K:Int)∧Own wr (mid DMode.tr 2 l k0 j) (.slice a l.length c) fp∧Chg fp w wr) (fun _ i wr=>l.length-(intOf i).toNat)
 case atStart=>exact⟨0,k0,Nat.zero_le _,rfl,by simp[cntL],rfl,by rw[mid_zero];exact h,Chg.refl _ _⟩
 case round =>
  obtain⟨j,K,hj,rfl,hK,rfl,hown,hchg⟩:=hrel
  by_cases hlt:j<l.length
  ·rw[mid_at _ _ _ _ _ hlt] at hown
   have hts:(mkL ((l.take j).flatMap DMode.tr) k0).length=j*2:=by rw[zb4,zay _ 2 DMode.tr_len,List.length_take,Nat.min_eq_left hj]
   have hsum:=zc4 DMode.tr l j hlt;have hle:=zcg DMode.tr l (j+1);have hcx:=DMode.cntL_tr l[j];have hkb:K+(1+1)≤1099511627776:=by omega
   have hkp:0<K:=by omega
   have hszj:=za4 DMode.tr l j hlt;have HM:=Lib.hid (mid_succ DMode.tr 2 l k0 j hlt);have HS:=Lib.hid hsum;have HK:=Lib.hid hK;have HC:=Lib.hid hcx;have HT:=Lib.hid hts;clear hsum hcx hle hK hts;generalize mkL ((l.take j).flatMap DMode.tr) k0=TS at *;generalize (l.drop (j+1)).flatMap DMode.tr=US at *;have hin':In lo wr.heap.size fp:=hin.mono (Nat.le_refl _) hchg.size;have o0:Own wr (.sl 2 (TS++([.lit (.int .i64 l[j].need),.lit (.int .i64 l[j].rate)]++US))) (.slice a l.length c) fp:=hown;clear hown;obtain⟨b,off,rfl,hbf⟩:=o0.someAddr;have hbw:=(hin' b hbf).2;have hfz:∀ i,wr.frozen? ⟨b,i,none⟩=false:=o0.free b hbf;have z0:wr.heap.size≤wr.heap.size:=Nat.le_refl _;obtain⟨s0,_⟩:=o0.cellChunk 0 _ rfl (off+j*2) (by rw[HT.out];omega);obtain⟨s1,_⟩:=o0.cellChunk 1 _ rfl (off+j*2+1) (by rw[HT.out];omega);have O0:=Lib.hid o0;have C0:=Lib.hid hchg;clear o0 hchg;have O1:=Lib.hid (O0.out.setChunk 0 _ rfl (off+j*2) (by rw[HT.out];omega) (.int .i64 ((K:Int))));have C1:=Lib.hid (C0.out.setCell (p:=⟨b,off+j*2,none⟩) hbf (.int .i64 ((K:Int))));have O2:=Lib.hid (O1.out.setChunk 1 _ rfl (off+j*2+1) (by rw[HT.out];omega) (.int .i64 ((K:Int)+1)));have C2:=Lib.hid (C1.out.setCell (p:=⟨b,off+j*2+1,none⟩) hbf (.int .i64 ((K:Int)+1)));go_wp2;go_roundw
   case rel =>
    refine⟨j+1,K+(1+1),by omega,by go_num,by have:=HK.out;have:=HS.out;have:=HC.out;omega,by go_num,?_,C2.out⟩;rw[HM.out,← HK.out,DMode.mk_tr];exact O2.out
   case measure=>simp[intOf];omega
  ·obtain rfl:j=l.length:=by omega
   have HK:=Lib.hid hK;clear hK;go_wp2;go_ret;rw[mid_end] at hown;have e:=HK.out;rw[List.take_length] at e;exact⟨zcd (by omega),hown,hchg⟩
theorem markI_ModeS (l:List DMode) (v:Value) (fp:List Nat) (k lo:Nat) (K:Int) (w:World) (h:Own w (DMode.sT l) v fp) (hin:In lo w.heap.size fp) (hs:siz (DMode.sT l)≤1099511627776) (hK:K=(k:Int)) (hk0:k+cnt (DMode.sT l)≤1099511627776) (hk1:0<k) :
  Calls Tryz.prog 118 #[v,.int .i64 K] w fun e w'=>e=.returned (.int .i64 (K+(cnt (DMode.sT l):Int)))∧Own w' (mkT (DMode.sT l) k) v fp∧Chg fp w w':=by
 subst hK;refine (mark_ModeS l v fp k lo w h hin hs hk0 hk1).mono fun e w' ⟨he,h1,h2⟩=>⟨?_,h1,h2⟩
 rw[he,Int.natCast_add]
theorem zej {α:Type} (g:α→List Tr) (k K:Nat) (hk:0<k) (hg:∀ x,(g x).length=k) (hc:∀ x,cntL (g x)≤K+K*sizL (g x)) (l:List α):cnt (.sl k (l.flatMap g))≤K*siz (.sl k (l.flatMap g)):=by
 rw[siz_flat g k hk hg,cnt]
 induction l with
 | nil=>simp[cntL]
 | cons x l ih =>
  rw[List.flatMap_cons,zfd,ze4,List.length_cons];have h1:=hc x;rw[Nat.mul_add] at ih ⊢;rw[Nat.mul_add,Nat.mul_add];omega
theorem DSite.cnt_le (l:List DSite):cnt (DSite.sT l)≤16*siz (DSite.sT l):=zej DSite.tr 4 16 (by decide) DSite.tr_len (fun x=>by simp only[DSite.tr,cntL,cnt,strT,intT];omega) l
theorem DSector.cnt_le (l:List DSector):cnt (DSector.sT l)≤16*siz (DSector.sT l):=zej DSector.tr 9 16 (by decide) DSector.tr_len (fun x=>by simp only[DSector.tr,cntL,cnt,strT,intT];omega) l
theorem DMode.cnt_le (l:List DMode):cnt (DMode.sT l)≤16*siz (DMode.sT l):=zej DMode.tr 2 16 (by decide) DMode.tr_len (fun x=>by simp only[DMode.tr,cntL,cnt,intT];omega) l
theorem DAntenna.cnt_le (l:List DAntenna):cnt (DAntenna.sT l)≤16*siz (DAntenna.sT l):=zej DAntenna.tr 4 16 (by decide) DAntenna.tr_len (fun x=>by
 have h1:=zfc x.horizontal
 have h2:=zcc x.horizontal
 have h3:=zfc x.vertical
 have h4:=zcc x.vertical
 simp only[DAntenna.tr,cntL,sizL]
 have h5:cnt (strT x.name)=1:=rfl
 have h6:cnt (intT x.gain)=1:=rfl
 omega) l
theorem DRadio.cnt_le (l:List DRadio):cnt (DRadio.sT l)≤16*siz (DRadio.sT l):=zej DRadio.tr 6 16 (by decide) DRadio.tr_len (fun x=>by
 have h1:=DMode.cnt_le x.modes
 simp only[DRadio.tr,cntL,sizL]
 have h5:cnt (strT x.name)=1:=rfl
 have h6:cnt (intT x.power)=1:=rfl
 have h7:cnt (intT x.feeder)=1:=rfl
 have h8:cnt (intT x.noise)=1:=rfl
 have h9:cnt (intT x.width)=1:=rfl
 omega) l
end Go.Proofs.YtdgmgchdjlfchaaGreatDoor
