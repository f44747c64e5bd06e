/- Contracts of the laws' helpers over the type Antenna and slices of it. Conditions: bounded lengths. -/
import Derived.Test.YtgmapjgodibchaaGreatDoorStrs
set_option linter.unusedVariables false
set_option linter.unusedSimpArgs false
namespace Go.Proofs.YtgmapjgodibchaaGreatDoor
open Go.RowKit
set_option maxHeartbeats 4000000
set_option maxRecDepth 100000
theorem DTerrain.siz_tr (x:DTerrain):sizL x.tr=siz (zai x.heights)+siz (zai x.clutter):=by
 simp only[DTerrain.tr,sizL,siz,intT];omega
theorem sz_Terrain (x:DTerrain) (v3 v4:Value) (B:Nat) (left:Int) (w:World) (h3:Rd B w (zai x.heights) v3) (h4:Rd B w (zai x.clutter) v4) (hB:B≤w.heap.size) (hl:0≤left) (hl2:left≤1048576) (hok:x.ok) :
  Calls Tryz.prog 6 #[.agg #[I x.step,I x.width,I x.height,v3,v4],I left] w (SzPost (sizL x.tr) left w):=by
 have hsum:=DTerrain.siz_tr x;have b0:IJ w w (w.alloc (.cells #[I x.step,I x.width,I x.height,v3,v4] 24)):=(Below.refl _ _).alloc (Nat.le_refl _) _;have B0:=J b0;have z0:w.heap.size≤(w.alloc (.cells #[I x.step,I x.width,I x.height,v3,v4] 24)).heap.size:=b0.size;have y0:w.heap.size<(w.alloc (.cells #[I x.step,I x.width,I x.height,v3,v4] 24)).heap.size:=by simp
 have R0_3:=J (h3.below (b0.mono hB));have R0_4:=J (h4.below (b0.mono hB));clear b0 h3 h4;go_enter Tryz.func6,Tryz.ntmps6;go_wp2_with fail;refine (sz_Int64S x.heights v3 B _ _ R0_3.out O O O).mono ?_;rintro e w1 ⟨⟨c0,rfl⟩|⟨c0,rfl⟩,hb1⟩
 case inr =>
  go_wp2;go_ret;exact⟨Or.inr ⟨O,rfl⟩,B0.out.trans (hb1.mono z0)⟩
 obtain⟨q1,_,y1⟩:=zah hb1 (b:=w.heap.size) y0;have z1:w.heap.size≤w1.heap.size:=O
 have B1:=J (B0.out.trans (hb1.mono z0));have R1_3:=J (R0_3.out.below (hb1.mono O));have R1_4:=J (R0_4.out.below (hb1.mono O));clear hb1;have d0:decide (left-(siz (zai x.heights):Int)<0)=false:=by simp<;>omega
 go_wp2_with fail;refine (sz_Int64S x.clutter v4 B _ _ R1_4.out O O O).mono ?_;rintro e w2 ⟨⟨c1,rfl⟩|⟨c1,rfl⟩,hb2⟩
 case inr =>
  go_wp2;go_ret;exact⟨Or.inr ⟨O,rfl⟩,B1.out.trans (hb2.mono z1)⟩
 obtain⟨q2,_,y2⟩:=zah hb2 (b:=w.heap.size) y1;have z2:w.heap.size≤w2.heap.size:=O
 have B2:=J (B1.out.trans (hb2.mono z1));have R2_3:=J (R1_3.out.below (hb2.mono O));have R2_4:=J (R1_4.out.below (hb2.mono O));clear hb2;have d1:decide (left-(siz (zai x.heights):Int)-(siz (zai x.clutter):Int)<0)=false:=by simp<;>omega
 go_wp2;go_ret;exact⟨Or.inl ⟨O,zb8 O⟩,B2.out⟩
theorem zed (x:DTerrain) (v3 v4:Value) (w:World) (h3:Rd w w (zai x.heights) v3) (h4:Rd w w (zai x.clutter) v4) (hn:sizL x.tr≤1048576) :
  Calls Tryz.prog 9 #[.agg #[I x.step,I x.width,I x.height,v3,v4]] w fun e w'=>∃ a3 c3 a4 c4 fp,e=.returned (.agg #[I x.step,I x.width,I x.height,II a3 x.heights.length c3,II a4 x.clutter.length c4])∧IJ w w w'∧OwnV w' x.tr [I x.step,I x.width,I x.height,II a3 x.heights.length c3,II a4 x.clutter.length c4] fp∧In w w'.heap.size fp:=by
 have hsum:=DTerrain.siz_tr x;go_enter Tryz.func9,Tryz.ntmps9;have bX0:IJ w w (((w.alloc (.cells #[I x.step,I x.width,I x.height,v3,v4] 24)).alloc (.cells #[I 0,I 0,I 0,II none 0 0,II none 0 0] 37)).alloc (.cells #[I x.step,I x.width,I x.height,II none 0 0,II none 0 0] 37)):=(((Below.refl _ _).alloc (Nat.le_refl _) _).alloc (by simp) _).alloc (by first|(simp;done)|(simp<;>omega)) _;have BX0:=J bX0;have zX0:w.heap.size+3≤(((w.alloc (.cells #[I x.step,I x.width,I x.height,v3,v4] 24)).alloc (.cells #[I 0,I 0,I 0,II none 0 0,II none 0 0] 37)).alloc (.cells #[I x.step,I x.width,I x.height,II none 0 0,II none 0 0] 37)).heap.size:=by first|(simp;done)|(simp<;>omega)
 clear bX0;go_wp2_with fail;refine (to_Int64S x.heights v3 (((w.alloc (.cells #[I x.step,I x.width,I x.height,v3,v4] 24)).alloc (.cells #[I 0,I 0,I 0,II none 0 0,II none 0 0] 37)).alloc (.cells #[I x.step,I x.width,I x.height,II none 0 0,II none 0 0] 37)) ((h3.below BX0.out).mono O) O).mono ?_;rintro e w1 ⟨a3,c3,fp1,rfl,hb1,o1,i1⟩;obtain⟨qa1,_,ya1⟩:=zah hb1 (b:=w.heap.size) O;obtain⟨qb1,qf1,yb1⟩:=zah hb1 (b:=w.heap.size+1) O;obtain⟨qc1,qg1,yc1⟩:=zah hb1 (b:=w.heap.size+1+1) O;have z1:=hb1.size;have B1:=J (BX0.out.trans (hb1.mono O));have y1:w.heap.size+3≤w1.heap.size:=O
 have j1:In (w.heap.size+3) w1.heap.size fp1:=i1.mono O (Nat.le_refl _);have P1_1:=J o1;clear hb1 o1 i1;have BX1:=J (B1.out.setCell (p:=⟨w.heap.size+1+1,3,none⟩) (by show w.heap.size≤w.heap.size+1+1;omega) (II a3 x.heights.length c3));have zX1:w.heap.size+3≤((w1.setCell ⟨w.heap.size+1+1,3,none⟩ (II a3 x.heights.length c3))).heap.size:=by simp only[zac];omega
 go_wp2_with fail;refine (to_Int64S x.clutter v4 ((w1.setCell ⟨w.heap.size+1+1,3,none⟩ (II a3 x.heights.length c3))) ((h4.below BX1.out).mono O) O).mono ?_;rintro e w2 ⟨a4,c4,fp2,rfl,hb2,o2,i2⟩;obtain⟨qa2,_,ya2⟩:=zah hb2 (b:=w.heap.size) O;obtain⟨qb2,qf2,yb2⟩:=zah hb2 (b:=w.heap.size+1) O;obtain⟨qc2,qg2,yc2⟩:=zah hb2 (b:=w.heap.size+1+1) O;have z2:=hb2.size;simp only[zac] at z2;have B2:=J (BX1.out.trans (hb2.mono O));have y2:w.heap.size+3≤w2.heap.size:=O
 have P1_2:=J ((P1_1.out.setFar (p:=⟨w.heap.size+1+1,3,none⟩) (fun e=>by have:=(j1 _ e).1;simp only at this;omega) (II a3 x.heights.length c3)).below j1 (by first|omega|(simp only[zac];omega)) hb2);have j2:In (w1.heap.size) w2.heap.size fp2:=i2.mono (by simp only[zac];omega) (Nat.le_refl _);have P2_2:=J o2;clear hb2 o2 i2;go_wp2;have F1:=J ((((((P1_2.out.setFar (p:=⟨w.heap.size+1+1,4,none⟩) (fun e=>by have:=(j1 _ e).1;simp only at this;omega) (II a4 x.clutter.length c4)).setFar (p:=⟨w.heap.size+1,0,none⟩) (fun e=>by have:=(j1 _ e).1;simp only at this;omega) (I x.step)).setFar (p:=⟨w.heap.size+1,1,none⟩) (fun e=>by have:=(j1 _ e).1;simp only at this;omega) (I x.width)).setFar (p:=⟨w.heap.size+1,2,none⟩) (fun e=>by have:=(j1 _ e).1;simp only at this;omega) (I x.height)).setFar (p:=⟨w.heap.size+1,3,none⟩) (fun e=>by have:=(j1 _ e).1;simp only at this;omega) (II a3 x.heights.length c3)).setFar (p:=⟨w.heap.size+1,4,none⟩) (fun e=>by have:=(j1 _ e).1;simp only at this;omega) (II a4 x.clutter.length c4));have F2:=J ((((((P2_2.out.setFar (p:=⟨w.heap.size+1+1,4,none⟩) (fun e=>by have:=(j2 _ e).1;simp only at this;omega) (II a4 x.clutter.length c4)).setFar (p:=⟨w.heap.size+1,0,none⟩) (fun e=>by have:=(j2 _ e).1;simp only at this;omega) (I x.step)).setFar (p:=⟨w.heap.size+1,1,none⟩) (fun e=>by have:=(j2 _ e).1;simp only at this;omega) (I x.width)).setFar (p:=⟨w.heap.size+1,2,none⟩) (fun e=>by have:=(j2 _ e).1;simp only at this;omega) (I x.height)).setFar (p:=⟨w.heap.size+1,3,none⟩) (fun e=>by have:=(j2 _ e).1;simp only at this;omega) (II a3 x.heights.length c3)).setFar (p:=⟨w.heap.size+1,4,none⟩) (fun e=>by have:=(j2 _ e).1;simp only at this;omega) (II a4 x.clutter.length c4));have BF:=J ((((((B2.out.setCell (p:=⟨w.heap.size+1+1,4,none⟩) (by show w.heap.size≤w.heap.size+1+1;omega) (II a4 x.clutter.length c4)).setCell (p:=⟨w.heap.size+1,0,none⟩) (by show w.heap.size≤w.heap.size+1;omega) (I x.step)).setCell (p:=⟨w.heap.size+1,1,none⟩) (by show w.heap.size≤w.heap.size+1;omega) (I x.width)).setCell (p:=⟨w.heap.size+1,2,none⟩) (by show w.heap.size≤w.heap.size+1;omega) (I x.height)).setCell (p:=⟨w.heap.size+1,3,none⟩) (by show w.heap.size≤w.heap.size+1;omega) (II a3 x.heights.length c3)).setCell (p:=⟨w.heap.size+1,4,none⟩) (by show w.heap.size≤w.heap.size+1;omega) (II a4 x.clutter.length c4));refine bodyPost_ret (v:=.agg #[I x.step,I x.width,I x.height,II a3 x.heights.length c3,II a4 x.clutter.length c4]) (by simp[results,Tryz.results9,go_sem, *]) rfl ⟨a3,c3,a4,c4,fp1++(fp2++[]),rfl,BF.out,?_,?_⟩
 ·exact (OwnV.consLit (OwnV.consLit (OwnV.consLit (OwnV.cons F1.out (OwnV.cons F2.out OwnV.nil (fun x hx e=>by have h1:=j2 x hx;simp at e)) (fun x hx e=>by have h1:=j1 x hx;simp only[List.mem_append,List.not_mem_nil,or_false] at e;have h2:=j2 x e;omega)) rfl) rfl) rfl)
 ·simp only[zac]
  exact ((j1.mono O O).append ((j2.mono O O).append In.nil))
theorem eq_Terrain (x:DTerrain) (v3 u3 v4 u4:Value) (B:Nat) (w:World) (h3:Rd B w (zai x.heights) v3) (g3:Rd B w (zai x.heights) u3) (h4:Rd B w (zai x.clutter) v4) (g4:Rd B w (zai x.clutter) u4) (hB:B≤w.heap.size) (hn:sizL x.tr≤1099511627776) :
  Calls Tryz.prog 13 #[.agg #[I x.step,I x.width,I x.height,v3,v4],.agg #[I x.step,I x.width,I x.height,u3,u4]] w fun e w'=>e=.returned (.bool true)∧IJ w w w':=by
 have hsum:=DTerrain.siz_tr x;have b0:IJ w w ((w.alloc (.cells #[I x.step,I x.width,I x.height,v3,v4] 37)).alloc (.cells #[I x.step,I x.width,I x.height,u3,u4] 37)):=((Below.refl _ _).alloc (Nat.le_refl _) _).alloc (by simp) _;have B0:=J b0;have y0:w.heap.size+2≤((w.alloc (.cells #[I x.step,I x.width,I x.height,v3,v4] 37)).alloc (.cells #[I x.step,I x.width,I x.height,u3,u4] 37)).heap.size:=by first|(simp;done)|(simp<;>omega)
 clear b0;go_enter Tryz.func13,Tryz.ntmps13;go_wp2_with fail;refine (zfa x.heights v3 u3 B _ (h3.below (B0.out.mono hB)) (g3.below (B0.out.mono hB)) O O).mono ?_;rintro e w1 ⟨rfl,hb1⟩;obtain⟨qa1,_,ya1⟩:=zah hb1 (b:=w.heap.size) O;obtain⟨qb1,_,yb1⟩:=zah hb1 (b:=w.heap.size+1) O;have y1:w.heap.size+2≤w1.heap.size:=by have:=hb1.size;omega
 have B1:=J (B0.out.trans (hb1.mono O));clear hb1;go_wp2_with fail;refine (zfa x.clutter v4 u4 B _ (h4.below (B1.out.mono hB)) (g4.below (B1.out.mono hB)) O O).mono ?_;rintro e w2 ⟨rfl,hb2⟩;obtain⟨qa2,_,ya2⟩:=zah hb2 (b:=w.heap.size) O;obtain⟨qb2,_,yb2⟩:=zah hb2 (b:=w.heap.size+1) O;have y2:w.heap.size+2≤w2.heap.size:=by have:=hb2.size;omega
 have B2:=J (B1.out.trans (hb2.mono O));clear hb2;go_wp2;go_ret;exact⟨rfl,B2.out⟩
theorem mark_Terrain (x:DTerrain) (v3 v4:Value) (f3 f4:List Nat) (k0 l3 m3 l4 m4:Nat) (w:World) (o3:Own w (zai x.heights) v3 f3) (i3:In l3 m3 f3) (n3:m3≤w.heap.size) (o4:Own w (zai x.clutter) v4 f4) (i4:In l4 m4 f4) (n4:m4≤w.heap.size) (d3_4:∀ y ∈ f3,y ∉ f4) (hs:sizL x.tr≤1099511627776) (hk0:k0+cnt (zai x.heights)+cnt (zai x.clutter)≤1099511627776) (hk1:0<k0) :
  Calls Tryz.prog 15 #[.agg #[I x.step,I x.width,I x.height,v3,v4],I k0] w fun e w'=>e=.returned (I ((k0+cnt (zai x.heights)+cnt (zai x.clutter):Nat):Int))∧Own w' (mkT (zai x.heights) (k0)) v3 f3∧Own w' (mkT (zai x.clutter) (k0+cnt (zai x.heights))) v4 f4∧Chg (f3++f4) w w':=by
 have hsum:=DTerrain.siz_tr x;have b0:IJ w w (w.alloc (.cells #[I x.step,I x.width,I x.height,v3,v4] 37)):=(Below.refl _ _).alloc (Nat.le_refl _) _;have C0:=J (Chg.of_below (fp:=(f3++f4)) b0);have y0:w.heap.size<(w.alloc (.cells #[I x.step,I x.width,I x.height,v3,v4] 37)).heap.size:=by simp
 have O0_3:=J (o3.below i3 n3 b0);have O0_4:=J (o4.below i4 n4 b0);clear b0 o3 o4;go_enter Tryz.func15,Tryz.ntmps15;go_wp2_with fail;refine (zdg x.heights v3 f3 (k0) l3 _ _ O0_3.out (i3.mono (Nat.le_refl _) O) O (by first|rfl|simp only[Int.natCast_add]) O O).mono ?_;rintro e w1 ⟨rfl,p3,c1⟩;have y1:w.heap.size<w1.heap.size:=by have:=c1.size;omega
 have hk1c:∀ q,w1.cell? ⟨w.heap.size,q,none⟩=_:=fun q=>World.cell?_of_block (a:=⟨w.heap.size,q,none⟩) (c1.block w.heap.size y0 (fun e=>by have:=(i3 _ e).2;omega))
 have C1:=J (C0.out.trans (c1.mono (fun y hy=>by simp[hy])));have O1_3:=J p3;have O1_4:=J (O0_4.out.chg i4 O c1 (fun y hy e=>d3_4 y e hy));clear c1 p3;go_wp2_with fail;refine (zdg x.clutter v4 f4 (k0+cnt (zai x.heights)) l4 _ _ O1_4.out (i4.mono (Nat.le_refl _) O) O (by first|rfl|simp only[Int.natCast_add]) O O).mono ?_;rintro e w2 ⟨rfl,p4,c2⟩;have y2:w.heap.size<w2.heap.size:=by have:=c2.size;omega
 have hk2c:∀ q,w2.cell? ⟨w.heap.size,q,none⟩=_:=fun q=>World.cell?_of_block (a:=⟨w.heap.size,q,none⟩) (c2.block w.heap.size y1 (fun e=>by have:=(i4 _ e).2;omega))
 have C2:=J (C1.out.trans (c2.mono (fun y hy=>by simp[hy])));have O2_3:=J (O1_3.out.chg i3 O c2 (fun y hy e=>d3_4 y hy e));have O2_4:=J p4;clear c2 p4;go_wp2;go_ret;exact⟨zb8 (by simp only[Int.natCast_add]),O2_3.out,O2_4.out,C2.out⟩
set_option maxHeartbeats 4000000
set_option maxRecDepth 100000
theorem DSite.siz_tr (x:DSite):sizL x.tr=x.name.size+x.holder.size:=by simp[DSite.tr,sizL,siz,intT,strT]<;>omega
theorem sz_Site (x:DSite) (B:Nat) (left:Int) (w:World) (hB:B≤w.heap.size) (hl:0≤left) (hl2:left≤1048576) (hok:x.ok) :
  Calls Tryz.prog 82 #[.agg #[F x.name,F x.holder,I x.place.x,I x.place.y],I left] w (SzPost (sizL x.tr) left w):=by
 rw[DSite.siz_tr];have hs0:=hok.name;have hs1:=hok.holder;unfold maxLen at hs0 hs1;clear hok;go_enter Tryz.func82,Tryz.ntmps82;go_wp2
 all_goals go_ret
 all_goals first|exact⟨Or.inl ⟨O,zb8 O⟩,(Below.refl _ _).alloc (Nat.le_refl _) _⟩|exact⟨Or.inr ⟨O,rfl⟩,(Below.refl _ _).alloc (Nat.le_refl _) _⟩
theorem to_Site (x:DSite) (w:World) :
  Calls Tryz.prog 95 #[.agg #[F x.name,F x.holder,I x.place.x,I x.place.y]] w fun e w'=>e=.returned (.agg #[F x.name,F x.holder,I x.place.x,I x.place.y])∧IJ w w w':=by
 go_enter Tryz.func95,Tryz.ntmps95;go_wp2_with fail;refine (to_Point x.place _).mono ?_;rintro e w1 ⟨rfl,hb1⟩;obtain⟨qa1,fa1,ya1⟩:=zah hb1 (b:=w.heap.size) OO;obtain⟨qb1,fb1,yb1⟩:=zah hb1 (b:=w.heap.size+1) OO;obtain⟨qc1,fc1,yc1⟩:=zah hb1 (b:=w.heap.size+1+1) OO;go_wp2;refine bodyPost_ret (v:=.agg #[F x.name,F x.holder,I x.place.x,I x.place.y]) (by simp[results,Tryz.results95,go_sem, *]) rfl ⟨rfl,?_⟩
 repeat (first|exact Below.refl _ _|(refine Below.setCell ?_ OO _)|(refine Below.alloc ?_ OO _)|(refine Below.trans ?_ (hb1.mono OO)))
theorem eq_Site (x:DSite) (w:World) :
  Calls Tryz.prog 109 #[.agg #[F x.name,F x.holder,I x.place.x,I x.place.y],.agg #[F x.name,F x.holder,I x.place.x,I x.place.y]] w fun e w'=>e=.returned (.bool true)∧IJ w w w':=by
 go_enter Tryz.func109,Tryz.ntmps109;go_wp2_with fail;refine (eq_Point x.place _).mono ?_;rintro e w1 ⟨rfl,hb1⟩;obtain⟨qa1,_,ya1⟩:=zah hb1 (b:=w.heap.size) OO;obtain⟨qb1,_,yb1⟩:=zah hb1 (b:=w.heap.size+1) OO;go_wp2;go_ret;refine⟨rfl,?_⟩
 repeat (first|exact Below.refl _ _|(refine Below.alloc ?_ OO _)|(refine Below.trans ?_ (hb1.mono OO)))
theorem DSite.siz_s (l:List DSite):siz (DSite.sT l)=l.length+sizL (l.flatMap DSite.tr):=siz_flat DSite.tr 4 (by decide) DSite.tr_len l
theorem sz_SiteS (l:List DSite) (v:Value) (B:Nat) (left:Int) (w:World) (h:Rd B w (DSite.sT l) v) (hB:B≤w.heap.size) (hl:0≤left) (hl2:left≤1048576) (hstr:∀ x ∈ l,x.ok) :
  Calls Tryz.prog 36 #[v,I left] w (SzPost (siz (DSite.sT l)) left w):=by
 rw[DSite.siz_s];obtain⟨a,c,rfl,hnc,hcm,hcells⟩:=DSite.rd h;clear h;unfold maxLen at hcm
 by_cases c1:(l.length:Int)≤left
 ·have c1':decide (left-(l.length:Int)<0)=false:=by simp<;>omega
  go_enter Tryz.func36,Tryz.ntmps36;go_wp2;go_loopw [1,5] (fun m i wr=>∃ (k:Nat),k≤l.length∧i=I k∧(sizL ((l.take k).flatMap DSite.tr):Int)≤left-l.length∧m=I (left-l.length-sizL ((l.take k).flatMap DSite.tr))∧IJ w w wr) (fun _ i wr=>l.length-(intOf i).toNat)
  case atStart=>exact⟨0,Nat.zero_le _,rfl,by simp[sizL];omega,by simp[sizL],Below.refl _ _⟩
  case round =>
   obtain⟨k,hk,rfl,hm,rfl,hb⟩:=hrel
   by_cases hlt:k<l.length
   ·obtain⟨b,off,rfl,hbl,hat⟩:=hcells O
    obtain⟨s0,s1,s2,s3⟩:=hat k hlt;rw[← hb.cell (p:=⟨b,_,none⟩) (show b<w.heap.size by omega)] at s0 s1 s2 s3;have hB':B≤wr.heap.size:=by have:=hb.size;omega
    have hok:=hstr l[k] (List.getElem_mem hlt);have hsum:=zc7 DSite.tr l k hlt;have hle:=zdy DSite.tr l (k+1);have HS:=J hsum;have HB:=J hb;clear hcells hat hb hsum hstr;go_wp2_with (go_at_call 82;refine (sz_Site l[k]  B _ _  hB' O O hok).mono ?_;rintro e w1 ⟨⟨c2,rfl⟩|⟨c2,rfl⟩,hb1⟩)
    ·have c3:decide (left-l.length-sizL ((l.take k).flatMap DSite.tr)-sizL l[k].tr<0)=false:=by simp<;>omega
     go_wp2;go_roundw
     case rel=>exact⟨k+1,O,by go_num,by rw[HS.out];omega,by rw[HS.out];go_num,HB.out.trans (hb1.mono HB.out.size)⟩
     case measure=>simp[intOf];omega
    ·go_wp2
     go_ret;exact⟨Or.inr ⟨by have:=HS.out;omega,rfl⟩,HB.out.trans (hb1.mono HB.out.size)⟩
   ·obtain rfl:k=l.length:=O
    clear hcells;rw[List.take_length] at hm;go_wp2;go_ret;refine⟨Or.inl ⟨O,zb8 ?_⟩,hb⟩;simp only[List.take_length];omega
 ·have c1':decide (left-(l.length:Int)<0)=true:=by simp<;>omega
  go_enter Tryz.func36,Tryz.ntmps36;go_wp2;go_ret;exact⟨Or.inr ⟨O,rfl⟩,Below.refl _ _⟩
theorem infoSite:(Tryz.prog.info? 158).map (fun i=>(i.zero,i.size,i.bytes))=some (some (.agg #[F ⟨#[]⟩,F ⟨#[]⟩,I 0,I 0]),4,48):=by kernel_rfl
theorem to_SiteS (l:List DSite) (v:Value) (w:World) (h:Rd w w (DSite.sT l) v) (hn:siz (DSite.sT l)≤1048576) :
  Calls Tryz.prog 47 #[v] w fun e w'=>∃ a' c' fp,e=.returned (II a' l.length c')∧IJ w w w'∧Own w' (DSite.sT l) (II a' l.length c') fp∧In w w'.heap.size fp:=by
 rw[DSite.siz_s] at hn;obtain⟨i0,hi0,hz0,hz1,hz2⟩:=info_parts infoSite;have hmk:=fun W=>zc0 (P:=Tryz.prog) 39 158 i0 _ Tryz.underlying39 hi0 hz0 .i64 .i64 l.length l.length (Nat.le_refl _) (by rw[hz2];omega) O W
 rw[hz1] at hmk;have hnb:(l.length:Int)≤1048576:=O
 obtain⟨a,c,rfl,hnc,hcm,hcells⟩:=DSite.rd h;clear h;go_enter Tryz.func47,Tryz.ntmps47;go_wp2;clear hmk hi0 hz0 hz1 hz2;go_loopw [4] (fun i wr=>∃ (k:Nat) (f:List Nat),k≤l.length∧i=I k∧IJ w w wr∧Fill wr w.heap.size 158 (l.length*4) ((l.take k).flatMap DSite.tr) f∧In w wr f) (fun i wr=>l.length-(intOf i).toNat)
 case atStart =>
  have hst:=Fill.start w (madeCells #[F ⟨#[]⟩,F ⟨#[]⟩,I 0,I 0] (l.length*4)) 158;rw[size_madeCells] at hst;exact⟨0,[],Nat.zero_le _,rfl,(Below.refl _ _).alloc (Nat.le_refl _) _,by simpa using hst,In.nil⟩
 case round =>
  obtain⟨k,f,hk,rfl,hb,hfill,hin⟩:=hrel
  by_cases hlt:k<l.length
  ·obtain⟨b,off,rfl,hbl,hat⟩:=hcells O
   obtain⟨s0,s1,s2,s3⟩:=hat k hlt;rw[← hb.cell (p:=⟨b,_,none⟩) hbl] at s0 s1 s2 s3;have hz:=hfill.lt;have hz2:b<wr.heap.size:=O
   obtain⟨o0,p0⟩:=hfill.room (k*4) O;obtain⟨o1,p1⟩:=hfill.room (k*4+1) O;obtain⟨o2,p2⟩:=hfill.room (k*4+2) O;obtain⟨o3,p3⟩:=hfill.room (k*4+3) O;have hfz:=hfill.open_;have hsl:=za3 DSite.tr l k hlt;have HB:=J hb;clear hcells hat hb;go_wp2_with (go_at_call 95;refine (to_Site l[k] _).mono ?_;rintro e w1 ⟨rfl,hb1⟩;obtain⟨q1,q2⟩:=bcell hb1);go_roundw
   case rel =>
    have hw1:=hfill.below hin hb1;have hst:=hw1.step (us:=l[k].tr) (vs:=[F l[k].name,F l[k].holder,I l[k].place.x,I l[k].place.y]) (g:=[]) (RepV.lits [F l[k].name,F l[k].holder,I l[k].place.x,I l[k].place.y]) (by rw[zaw _ 4 DSite.tr_len];simp<;>omega) List.nodup_nil (by simp) (by simp) (fun b h=>by simp at h);rw[zaw _ 4 DSite.tr_len,List.length_take,Nat.min_eq_left hk,List.append_nil,← zch DSite.tr l k hlt] at hst;exact⟨k+1,f,O,by go_num,zd5 (HB.out.trans (hb1.mono O)) (Nat.le_refl _) [F l[k].name,F l[k].holder,I l[k].place.x,I l[k].place.y] (k*4),hst,fun x hx=>⟨(hin x hx).1,by have:=(hin x hx).2;have:=hb1.size;simp only[zac];omega⟩⟩
   case measure=>simp[intOf];omega
  ·obtain rfl:k=l.length:=O
   clear hcells;go_wp2;go_ret;rw[List.take_length] at hfill;obtain⟨fp,h1,h2⟩:=hfill.own (zaw _ 4 DSite.tr_len l) (by unfold maxLen;omega);exact⟨_,_,fp,rfl,hb,h1,fun x hx=>by rcases h2 x hx with rfl|h;exact⟨Nat.le_refl _,hfill.lt⟩;exact hin x h⟩
theorem eq_SiteS (l:List DSite) (v v':Value) (B:Nat) (w:World) (h:Rd B w (DSite.sT l) v) (h':Rd B w (DSite.sT l) v') (hB:B≤w.heap.size) (hn:siz (DSite.sT l)≤1099511627776) :
  Calls Tryz.prog 60 #[v,v'] w fun e w'=>e=.returned (.bool true)∧IJ w w w':=by
 rw[DSite.siz_s] at hn;have hnb:(l.length:Int)≤1099511627776:=O
 obtain⟨a,c,rfl,hnc,hcm,hcells⟩:=DSite.rd h;obtain⟨a',c',rfl,hnc',hcm',hcells'⟩:=DSite.rd h';clear h h';have hne:((l.length:Int) != l.length)=false:=by simp
 go_enter Tryz.func60,Tryz.ntmps60;go_wp2;clear hne;go_loopw [5] (fun i wr=>∃ (k:Nat),k≤l.length∧i=I k∧IJ w w wr) (fun i wr=>l.length-(intOf i).toNat)
 case atStart=>exact⟨0,Nat.zero_le _,rfl,Below.refl _ _⟩
 case round =>
  obtain⟨k,hk,rfl,hb⟩:=hrel
  by_cases hlt:k<l.length
  ·obtain⟨b,off,rfl,hbl,hat⟩:=hcells O
   obtain⟨b',off',rfl,hbl',hat'⟩:=hcells' O;obtain⟨s0,s1,s2,s3⟩:=hat k hlt;obtain⟨sb0,sb1,sb2,sb3⟩:=hat' k hlt;rw[← hb.cell (p:=⟨b,_,none⟩) (show b<w.heap.size by omega)] at s0 s1 s2 s3;rw[← hb.cell (p:=⟨b',_,none⟩) (show b' < w.heap.size by omega)] at sb0 sb1 sb2 sb3;have hB':B≤wr.heap.size:=by have:=hb.size;omega
   have hsl:=za3 DSite.tr l k hlt;have i1:(0:Int)≤(k:Int):=O
   have i2:(k:Int)<(l.length:Int):=O
   have HB:=J hb;clear hcells hat hcells' hat' hb;go_wp2
   go_still_tail 8,OJ
   change wpList _ _ _ _ _ wr.drew
   go_wp2_with (go_at_call 109;refine (eq_Site l[k]   _  ).mono ?_;rintro e w1 ⟨rfl,hb1⟩);go_roundw
   case rel=>exact⟨k+1,O,by go_num,HB.out.drew.trans (hb1.mono HB.out.size)⟩
   case measure=>simp[intOf];omega
  ·obtain rfl:k=l.length:=O
   clear hcells hcells';go_wp2;go_ret;exact⟨rfl,hb⟩
theorem DSite.mk_tr (x:DSite) (K:Nat):mkL x.tr K = [.lit (F (zc8 (K))),.lit (F (zc8 (K+1))),.lit (I ((K:Int)+1+1)),.lit (I ((K:Int)+1+1+1))]:=rfl
theorem DSite.cntL_tr (x:DSite):cntL x.tr=1+1+1+1:=by rfl
theorem mark_SiteS (l:List DSite) (v:Value) (fp:List Nat) (k0 lo:Nat) (w:World) (h:Own w (DSite.sT l) v fp) (hin:In lo w fp) (hs:siz (DSite.sT l)≤1099511627776) (hk0:k0+cnt (DSite.sT l)≤1099511627776) (hk1:0<k0) :
  Calls Tryz.prog 64 #[v,I k0] w fun e w'=>e=.returned (I ((k0+cnt (DSite.sT l):Nat):Int))∧Own w' (mkT (DSite.sT l) k0) v fp∧Chg fp w w':=by
 rw[DSite.siz_s] at hs;obtain⟨a,c,hv,hnc,hcm⟩:=h.form (k:=4) (g:=DSite.tr) (by decide) DSite.tr_len;subst hv;rw[show cnt (DSite.sT l)=cntL (l.flatMap DSite.tr) from by rw[DSite.sT,cnt]] at hk0 ⊢;have hnb:(l.length:Int)≤1099511627776:=O
 go_enter Tryz.func64,Tryz.ntmps64;go_wp2;go_loopw [1,5] (fun kk i wr=>∃ (j K:Nat),j≤l.length∧i=I j∧K=k0+cntL ((l.take j).flatMap DSite.tr)∧kk=I (K:Int)∧Own wr (mid DSite.tr 4 l k0 j) (II a l.length c) fp∧Chg fp w wr) (fun _ i wr=>l.length-(intOf i).toNat)
 case atStart=>exact⟨0,k0,Nat.zero_le _,rfl,by simp[cntL],rfl,by rw[mid_zero];exact h,Chg.refl _ _⟩
 case round =>
  obtain⟨j,K,hj,rfl,hK,rfl,hown,hchg⟩:=hrel
  by_cases hlt:j<l.length
  ·rw[mid_at _ _ _ _ _ hlt] at hown
   have hts:(mkL ((l.take j).flatMap DSite.tr) k0).length=j*4:=by rw[zb6,zaw _ 4 DSite.tr_len,List.length_take,Nat.min_eq_left hj]
   have hsum:=zda DSite.tr l j hlt;have hle:=zcm DSite.tr l (j+1);have hcx:=DSite.cntL_tr l[j];have hkb:K+(1+1+1+1)≤1099511627776:=O
   have hkp:0<K:=O
   have hszj:=za3 DSite.tr l j hlt;have HM:=J (mid_succ DSite.tr 4 l k0 j hlt);have HS:=J hsum;have HK:=J hK;have HC:=J hcx;have HT:=J hts;clear hsum hcx hle hK hts;generalize mkL ((l.take j).flatMap DSite.tr) k0=TS at *;generalize (l.drop (j+1)).flatMap DSite.tr=US at *;have hin':In lo wr fp:=hin.mono (Nat.le_refl _) hchg.size;have o0:Own wr (.sl 4 (TS++([.lit (F l[j].name),.lit (F l[j].holder),.lit (I l[j].place.x),.lit (I l[j].place.y)]++US))) (II a l.length c) fp:=hown;clear hown;obtain⟨b,off,rfl,hbf⟩:=o0.someAddr;have hbw:=(hin' b hbf).2;have hfz:∀ i,wr.frozen? ⟨b,i,none⟩=false:=o0.free b hbf;have z0:wr.heap.size≤wr.heap.size:=Nat.le_refl _;obtain⟨s0,_⟩:=o0.cellChunk 0 _ rfl (off+j*4) (by rw[HT.out];omega);obtain⟨s1,_⟩:=o0.cellChunk 1 _ rfl (off+j*4+1) (by rw[HT.out];omega);obtain⟨s2,_⟩:=o0.cellChunk 2 _ rfl (off+j*4+2) (by rw[HT.out];omega);obtain⟨s3,_⟩:=o0.cellChunk 3 _ rfl (off+j*4+3) (by rw[HT.out];omega);have O0:=J o0;have C0:=J hchg;clear o0 hchg;go_wp2_with fail;refine (zcc _ _ O O).mono ?_;rintro e w1 ⟨rfl,hb1⟩;obtain⟨qa1,qb1,hbw1⟩:=zah hb1 (b:=b) (by first|omega|(simp only[zac];omega));have z1:wr.heap.size≤w1.heap.size:=by have:=hb1.size;(try simp only[zac] at this);omega
   have O1:=J ((O0.out.below hin' (by first|omega|(simp only[zac];omega)) hb1).setChunk 0 _ rfl (off+j*4) (by rw[HT.out];omega) (F (zc8 (K))));have C1:=J ((C0.out.trans (Chg.of_below hb1)).setCell (p:=⟨b,off+j*4,none⟩) hbf (F (zc8 (K))));go_wp2_with fail;refine (zcc _ _ O O).mono ?_;rintro e w2 ⟨rfl,hb2⟩;obtain⟨qa2,qb2,hbw2⟩:=zah hb2 (b:=b) (by first|omega|(simp only[zac];omega));have z2:wr.heap.size≤w2.heap.size:=by have:=hb2.size;(try simp only[zac] at this);omega
   have O2:=J ((O1.out.below hin' (by first|omega|(simp only[zac];omega)) hb2).setChunk 1 _ rfl (off+j*4+1) (by rw[HT.out];omega) (F (zc8 (K+1))));have C2:=J ((C1.out.trans (Chg.of_below hb2)).setCell (p:=⟨b,off+j*4+1,none⟩) hbf (F (zc8 (K+1))));have O3:=J (O2.out.setChunk 2 _ rfl (off+j*4+2) (by rw[HT.out];omega) (I ((K:Int)+1+1)));have C3:=J (C2.out.setCell (p:=⟨b,off+j*4+2,none⟩) hbf (I ((K:Int)+1+1)));have O4:=J (O3.out.setChunk 3 _ rfl (off+j*4+3) (by rw[HT.out];omega) (I ((K:Int)+1+1+1)));have C4:=J (C3.out.setCell (p:=⟨b,off+j*4+3,none⟩) hbf (I ((K:Int)+1+1+1)));go_wp2;go_roundw
   case rel =>
    refine⟨j+1,K+(1+1+1+1),O,by go_num,by have:=HK.out;have:=HS.out;have:=HC.out;omega,by go_num,?_,C4.out⟩;rw[HM.out,← HK.out,DSite.mk_tr];exact O4.out
   case measure=>simp[intOf];omega
  ·obtain rfl:j=l.length:=O
   have HK:=J hK;clear hK;go_wp2;go_ret;rw[mid_end] at hown;have e:=HK.out;rw[List.take_length] at e;exact⟨zb8 O,hown,hchg⟩
theorem markI_SiteS (l:List DSite) (v:Value) (fp:List Nat) (k lo:Nat) (K:Int) (w:World) (h:Own w (DSite.sT l) v fp) (hin:In lo w fp) (hs:siz (DSite.sT l)≤1099511627776) (hK:K=(k:Int)) (hk0:k+cnt (DSite.sT l)≤1099511627776) (hk1:0<k) :
  Calls Tryz.prog 64 #[v,I K] w fun e w'=>e=.returned (I (K+(cnt (DSite.sT l):Int)))∧Own w' (mkT (DSite.sT l) k) v fp∧Chg fp w w':=by
 subst hK;refine (mark_SiteS l v fp k lo w h hin hs hk0 hk1).mono fun e w' ⟨he,h1,h2⟩=>⟨?_,h1,h2⟩
 rw[he,Int.natCast_add]
set_option maxHeartbeats 4000000
set_option maxRecDepth 100000
theorem DAntenna.siz_tr (x:DAntenna):sizL x.tr=x.name.size+siz (zai x.horizontal)+siz (zai x.vertical):=by
 simp only[DAntenna.tr,sizL,siz,intT,strT];omega
theorem sz_Antenna (x:DAntenna) (v2 v3:Value) (B:Nat) (left:Int) (w:World) (h2:Rd B w (zai x.horizontal) v2) (h3:Rd B w (zai x.vertical) v3) (hB:B≤w.heap.size) (hl:0≤left) (hl2:left≤1048576) (hok:x.ok) :
  Calls Tryz.prog 84 #[.agg #[F x.name,I x.gain,v2,v3],I left] w (SzPost (sizL x.tr) left w):=by
 have hsum:=DAntenna.siz_tr x;have b0:IJ w w (w.alloc (.cells #[F x.name,I x.gain,v2,v3] 141)):=(Below.refl _ _).alloc (Nat.le_refl _) _;have B0:=J b0;have z0:w.heap.size≤(w.alloc (.cells #[F x.name,I x.gain,v2,v3] 141)).heap.size:=b0.size;have y0:w.heap.size<(w.alloc (.cells #[F x.name,I x.gain,v2,v3] 141)).heap.size:=by simp
 have R0_2:=J (h2.below (b0.mono hB));have R0_3:=J (h3.below (b0.mono hB));clear b0 h2 h3;go_enter Tryz.func84,Tryz.ntmps84;have hm0:x.name.size≤9223372036854775807:=hok.name
 by_cases c0:(x.name.size:Int)≤left
 case neg =>
  go_wp2;go_ret;exact⟨Or.inr ⟨O,rfl⟩,B0.out⟩
 have d0:decide (left-(x.name.size:Int)<0)=false:=by simp<;>omega
 go_wp2_with fail;refine (sz_Int64S x.horizontal v2 B _ _ R0_2.out O O O).mono ?_;rintro e w1 ⟨⟨c1,rfl⟩|⟨c1,rfl⟩,hb1⟩
 case inr =>
  go_wp2;go_ret;exact⟨Or.inr ⟨O,rfl⟩,B0.out.trans (hb1.mono z0)⟩
 obtain⟨q1,_,y1⟩:=zah hb1 (b:=w.heap.size) y0;have z1:w.heap.size≤w1.heap.size:=O
 have B1:=J (B0.out.trans (hb1.mono z0));have R1_2:=J (R0_2.out.below (hb1.mono O));have R1_3:=J (R0_3.out.below (hb1.mono O));clear hb1;have d1:decide (left-(x.name.size:Int)-(siz (zai x.horizontal):Int)<0)=false:=by simp<;>omega
 go_wp2_with fail;refine (sz_Int64S x.vertical v3 B _ _ R1_3.out O O O).mono ?_;rintro e w2 ⟨⟨c2,rfl⟩|⟨c2,rfl⟩,hb2⟩
 case inr =>
  go_wp2;go_ret;exact⟨Or.inr ⟨O,rfl⟩,B1.out.trans (hb2.mono z1)⟩
 obtain⟨q2,_,y2⟩:=zah hb2 (b:=w.heap.size) y1;have z2:w.heap.size≤w2.heap.size:=O
 have B2:=J (B1.out.trans (hb2.mono z1));have R2_2:=J (R1_2.out.below (hb2.mono O));have R2_3:=J (R1_3.out.below (hb2.mono O));clear hb2;have d2:decide (left-(x.name.size:Int)-(siz (zai x.horizontal):Int)-(siz (zai x.vertical):Int)<0)=false:=by simp<;>omega
 go_wp2;go_ret;exact⟨Or.inl ⟨O,zb8 O⟩,B2.out⟩
theorem to_Antenna (x:DAntenna) (v2 v3:Value) (w:World) (h2:Rd w w (zai x.horizontal) v2) (h3:Rd w w (zai x.vertical) v3) (hn:sizL x.tr≤1048576) :
  Calls Tryz.prog 97 #[.agg #[F x.name,I x.gain,v2,v3]] w fun e w'=>∃ a2 c2 a3 c3 fp,e=.returned (.agg #[F x.name,I x.gain,II a2 x.horizontal.length c2,II a3 x.vertical.length c3])∧IJ w w w'∧OwnV w' x.tr [F x.name,I x.gain,II a2 x.horizontal.length c2,II a3 x.vertical.length c3] fp∧In w w'.heap.size fp:=by
 have hsum:=DAntenna.siz_tr x;go_enter Tryz.func97,Tryz.ntmps97;have bX0:IJ w w (((w.alloc (.cells #[F x.name,I x.gain,v2,v3] 141)).alloc (.cells #[F ⟨#[]⟩,I 0,II none 0 0,II none 0 0] 154)).alloc (.cells #[F x.name,I x.gain,II none 0 0,II none 0 0] 154)):=(((Below.refl _ _).alloc (Nat.le_refl _) _).alloc (by simp) _).alloc (by first|(simp;done)|(simp<;>omega)) _;have BX0:=J bX0;have zX0:w.heap.size+3≤(((w.alloc (.cells #[F x.name,I x.gain,v2,v3] 141)).alloc (.cells #[F ⟨#[]⟩,I 0,II none 0 0,II none 0 0] 154)).alloc (.cells #[F x.name,I x.gain,II none 0 0,II none 0 0] 154)).heap.size:=by first|(simp;done)|(simp<;>omega)
 clear bX0;go_wp2_with fail;refine (to_Int64S x.horizontal v2 (((w.alloc (.cells #[F x.name,I x.gain,v2,v3] 141)).alloc (.cells #[F ⟨#[]⟩,I 0,II none 0 0,II none 0 0] 154)).alloc (.cells #[F x.name,I x.gain,II none 0 0,II none 0 0] 154)) ((h2.below BX0.out).mono O) O).mono ?_;rintro e w1 ⟨a2,c2,fp1,rfl,hb1,o1,i1⟩;obtain⟨qa1,_,ya1⟩:=zah hb1 (b:=w.heap.size) O;obtain⟨qb1,qf1,yb1⟩:=zah hb1 (b:=w.heap.size+1) O;obtain⟨qc1,qg1,yc1⟩:=zah hb1 (b:=w.heap.size+1+1) O;have z1:=hb1.size;have B1:=J (BX0.out.trans (hb1.mono O));have y1:w.heap.size+3≤w1.heap.size:=O
 have j1:In (w.heap.size+3) w1.heap.size fp1:=i1.mono O (Nat.le_refl _);have P1_1:=J o1;clear hb1 o1 i1;have BX1:=J (B1.out.setCell (p:=⟨w.heap.size+1+1,2,none⟩) (by show w.heap.size≤w.heap.size+1+1;omega) (II a2 x.horizontal.length c2));have zX1:w.heap.size+3≤((w1.setCell ⟨w.heap.size+1+1,2,none⟩ (II a2 x.horizontal.length c2))).heap.size:=by simp only[zac];omega
 go_wp2_with fail;refine (to_Int64S x.vertical v3 ((w1.setCell ⟨w.heap.size+1+1,2,none⟩ (II a2 x.horizontal.length c2))) ((h3.below BX1.out).mono O) O).mono ?_;rintro e w2 ⟨a3,c3,fp2,rfl,hb2,o2,i2⟩;obtain⟨qa2,_,ya2⟩:=zah hb2 (b:=w.heap.size) O;obtain⟨qb2,qf2,yb2⟩:=zah hb2 (b:=w.heap.size+1) O;obtain⟨qc2,qg2,yc2⟩:=zah hb2 (b:=w.heap.size+1+1) O;have z2:=hb2.size;simp only[zac] at z2;have B2:=J (BX1.out.trans (hb2.mono O));have y2:w.heap.size+3≤w2.heap.size:=O
 have P1_2:=J ((P1_1.out.setFar (p:=⟨w.heap.size+1+1,2,none⟩) (fun e=>by have:=(j1 _ e).1;simp only at this;omega) (II a2 x.horizontal.length c2)).below j1 (by first|omega|(simp only[zac];omega)) hb2);have j2:In (w1.heap.size) w2.heap.size fp2:=i2.mono (by simp only[zac];omega) (Nat.le_refl _);have P2_2:=J o2;clear hb2 o2 i2;go_wp2;have F1:=J (((((P1_2.out.setFar (p:=⟨w.heap.size+1+1,3,none⟩) (fun e=>by have:=(j1 _ e).1;simp only at this;omega) (II a3 x.vertical.length c3)).setFar (p:=⟨w.heap.size+1,0,none⟩) (fun e=>by have:=(j1 _ e).1;simp only at this;omega) (F x.name)).setFar (p:=⟨w.heap.size+1,1,none⟩) (fun e=>by have:=(j1 _ e).1;simp only at this;omega) (I x.gain)).setFar (p:=⟨w.heap.size+1,2,none⟩) (fun e=>by have:=(j1 _ e).1;simp only at this;omega) (II a2 x.horizontal.length c2)).setFar (p:=⟨w.heap.size+1,3,none⟩) (fun e=>by have:=(j1 _ e).1;simp only at this;omega) (II a3 x.vertical.length c3));have F2:=J (((((P2_2.out.setFar (p:=⟨w.heap.size+1+1,3,none⟩) (fun e=>by have:=(j2 _ e).1;simp only at this;omega) (II a3 x.vertical.length c3)).setFar (p:=⟨w.heap.size+1,0,none⟩) (fun e=>by have:=(j2 _ e).1;simp only at this;omega) (F x.name)).setFar (p:=⟨w.heap.size+1,1,none⟩) (fun e=>by have:=(j2 _ e).1;simp only at this;omega) (I x.gain)).setFar (p:=⟨w.heap.size+1,2,none⟩) (fun e=>by have:=(j2 _ e).1;simp only at this;omega) (II a2 x.horizontal.length c2)).setFar (p:=⟨w.heap.size+1,3,none⟩) (fun e=>by have:=(j2 _ e).1;simp only at this;omega) (II a3 x.vertical.length c3));have BF:=J (((((B2.out.setCell (p:=⟨w.heap.size+1+1,3,none⟩) (by show w.heap.size≤w.heap.size+1+1;omega) (II a3 x.vertical.length c3)).setCell (p:=⟨w.heap.size+1,0,none⟩) (by show w.heap.size≤w.heap.size+1;omega) (F x.name)).setCell (p:=⟨w.heap.size+1,1,none⟩) (by show w.heap.size≤w.heap.size+1;omega) (I x.gain)).setCell (p:=⟨w.heap.size+1,2,none⟩) (by show w.heap.size≤w.heap.size+1;omega) (II a2 x.horizontal.length c2)).setCell (p:=⟨w.heap.size+1,3,none⟩) (by show w.heap.size≤w.heap.size+1;omega) (II a3 x.vertical.length c3));refine bodyPost_ret (v:=.agg #[F x.name,I x.gain,II a2 x.horizontal.length c2,II a3 x.vertical.length c3]) (by simp[results,Tryz.results97,go_sem, *]) rfl ⟨a2,c2,a3,c3,fp1++(fp2++[]),rfl,BF.out,?_,?_⟩
 ·exact (OwnV.consLit (OwnV.consLit (OwnV.cons F1.out (OwnV.cons F2.out OwnV.nil (fun x hx e=>by have h1:=j2 x hx;simp at e)) (fun x hx e=>by have h1:=j1 x hx;simp only[List.mem_append,List.not_mem_nil,or_false] at e;have h2:=j2 x e;omega)) rfl) rfl)
 ·simp only[zac]
  exact ((j1.mono O O).append ((j2.mono O O).append In.nil))
theorem eq_Antenna (x:DAntenna) (v2 u2 v3 u3:Value) (B:Nat) (w:World) (h2:Rd B w (zai x.horizontal) v2) (g2:Rd B w (zai x.horizontal) u2) (h3:Rd B w (zai x.vertical) v3) (g3:Rd B w (zai x.vertical) u3) (hB:B≤w.heap.size) (hn:sizL x.tr≤1099511627776) :
  Calls Tryz.prog 111 #[.agg #[F x.name,I x.gain,v2,v3],.agg #[F x.name,I x.gain,u2,u3]] w fun e w'=>e=.returned (.bool true)∧IJ w w w':=by
 have hsum:=DAntenna.siz_tr x;have b0:IJ w w ((w.alloc (.cells #[F x.name,I x.gain,v2,v3] 154)).alloc (.cells #[F x.name,I x.gain,u2,u3] 154)):=((Below.refl _ _).alloc (Nat.le_refl _) _).alloc (by simp) _;have B0:=J b0;have y0:w.heap.size+2≤((w.alloc (.cells #[F x.name,I x.gain,v2,v3] 154)).alloc (.cells #[F x.name,I x.gain,u2,u3] 154)).heap.size:=by first|(simp;done)|(simp<;>omega)
 clear b0;go_enter Tryz.func111,Tryz.ntmps111;go_wp2_with fail;refine (zfa x.horizontal v2 u2 B _ (h2.below (B0.out.mono hB)) (g2.below (B0.out.mono hB)) O O).mono ?_;rintro e w1 ⟨rfl,hb1⟩;obtain⟨qa1,_,ya1⟩:=zah hb1 (b:=w.heap.size) O;obtain⟨qb1,_,yb1⟩:=zah hb1 (b:=w.heap.size+1) O;have y1:w.heap.size+2≤w1.heap.size:=by have:=hb1.size;omega
 have B1:=J (B0.out.trans (hb1.mono O));clear hb1;go_wp2_with fail;refine (zfa x.vertical v3 u3 B _ (h3.below (B1.out.mono hB)) (g3.below (B1.out.mono hB)) O O).mono ?_;rintro e w2 ⟨rfl,hb2⟩;obtain⟨qa2,_,ya2⟩:=zah hb2 (b:=w.heap.size) O;obtain⟨qb2,_,yb2⟩:=zah hb2 (b:=w.heap.size+1) O;have y2:w.heap.size+2≤w2.heap.size:=by have:=hb2.size;omega
 have B2:=J (B1.out.trans (hb2.mono O));clear hb2;go_wp2;go_ret;exact⟨rfl,B2.out⟩
theorem DAntenna.siz_s (l:List DAntenna):siz (DAntenna.sT l)=l.length+sizL (l.flatMap DAntenna.tr):=siz_flat DAntenna.tr 4 (by decide) DAntenna.tr_len l
theorem sz_AntennaS (l:List DAntenna) (v:Value) (B:Nat) (left:Int) (w:World) (h:Rd B w (DAntenna.sT l) v) (hB:B≤w.heap.size) (hl:0≤left) (hl2:left≤1048576) (hstr:∀ x ∈ l,x.ok) :
  Calls Tryz.prog 38 #[v,I left] w (SzPost (siz (DAntenna.sT l)) left w):=by
 rw[DAntenna.siz_s];obtain⟨a,c,rfl,hnc,hcm,hcells⟩:=DAntenna.rd h;clear h;unfold maxLen at hcm
 by_cases c1:(l.length:Int)≤left
 ·have c1':decide (left-(l.length:Int)<0)=false:=by simp<;>omega
  go_enter Tryz.func38,Tryz.ntmps38;go_wp2;go_loopw [1,5] (fun m i wr=>∃ (k:Nat),k≤l.length∧i=I k∧(sizL ((l.take k).flatMap DAntenna.tr):Int)≤left-l.length∧m=I (left-l.length-sizL ((l.take k).flatMap DAntenna.tr))∧IJ w w wr) (fun _ i wr=>l.length-(intOf i).toNat)
  case atStart=>exact⟨0,Nat.zero_le _,rfl,by simp[sizL];omega,by simp[sizL],Below.refl _ _⟩
  case round =>
   obtain⟨k,hk,rfl,hm,rfl,hb⟩:=hrel
   by_cases hlt:k<l.length
   ·obtain⟨b,off,rfl,hbl,hat⟩:=hcells O
    obtain⟨s0,s1,⟨u2,s2,r2⟩,⟨u3,s3,r3⟩⟩:=hat k hlt;rw[← hb.cell (p:=⟨b,_,none⟩) (show b<w.heap.size by omega)] at s0 s1 s2 s3;have t2:Rd B wr (zai l[k].horizontal) u2:=r2.below (hb.mono hB);have t3:Rd B wr (zai l[k].vertical) u3:=r3.below (hb.mono hB);have hB':B≤wr.heap.size:=by have:=hb.size;omega
    have hok:=hstr l[k] (List.getElem_mem hlt);have hsum:=zc7 DAntenna.tr l k hlt;have hle:=zdy DAntenna.tr l (k+1);have HS:=J hsum;have HB:=J hb;clear hcells hat hb hsum hstr r2 r3;go_wp2_with (go_at_call 84;refine (sz_Antenna l[k] u2 u3 B _ _ t2 t3 hB' O O hok).mono ?_;rintro e w1 ⟨⟨c2,rfl⟩|⟨c2,rfl⟩,hb1⟩)
    ·have c3:decide (left-l.length-sizL ((l.take k).flatMap DAntenna.tr)-sizL l[k].tr<0)=false:=by simp<;>omega
     go_wp2;go_roundw
     case rel=>exact⟨k+1,O,by go_num,by rw[HS.out];omega,by rw[HS.out];go_num,HB.out.trans (hb1.mono HB.out.size)⟩
     case measure=>simp[intOf];omega
    ·go_wp2
     go_ret;exact⟨Or.inr ⟨by have:=HS.out;omega,rfl⟩,HB.out.trans (hb1.mono HB.out.size)⟩
   ·obtain rfl:k=l.length:=O
    clear hcells;rw[List.take_length] at hm;go_wp2;go_ret;refine⟨Or.inl ⟨O,zb8 ?_⟩,hb⟩;simp only[List.take_length];omega
 ·have c1':decide (left-(l.length:Int)<0)=true:=by simp<;>omega
  go_enter Tryz.func38,Tryz.ntmps38;go_wp2;go_ret;exact⟨Or.inr ⟨O,rfl⟩,Below.refl _ _⟩
theorem infoAntenna:(Tryz.prog.info? 154).map (fun i=>(i.zero,i.size,i.bytes))=some (some (.agg #[F ⟨#[]⟩,I 0,II none 0 0,II none 0 0]),4,72):=by kernel_rfl
theorem to_AntennaS (l:List DAntenna) (v:Value) (w:World) (h:Rd w w (DAntenna.sT l) v) (hn:siz (DAntenna.sT l)≤1048576) :
  Calls Tryz.prog 49 #[v] w fun e w'=>∃ a' c' fp,e=.returned (II a' l.length c')∧IJ w w w'∧Own w' (DAntenna.sT l) (II a' l.length c') fp∧In w w'.heap.size fp:=by
 rw[DAntenna.siz_s] at hn;obtain⟨i0,hi0,hz0,hz1,hz2⟩:=info_parts infoAntenna;have hmk:=fun W=>zc0 (P:=Tryz.prog) 41 154 i0 _ Tryz.underlying41 hi0 hz0 .i64 .i64 l.length l.length (Nat.le_refl _) (by rw[hz2];omega) O W
 rw[hz1] at hmk;have hnb:(l.length:Int)≤1048576:=O
 obtain⟨a,c,rfl,hnc,hcm,hcells⟩:=DAntenna.rd h;clear h;go_enter Tryz.func49,Tryz.ntmps49;go_wp2;clear hmk hi0 hz0 hz1 hz2;go_loopw [4] (fun i wr=>∃ (k:Nat) (f:List Nat),k≤l.length∧i=I k∧IJ w w wr∧Fill wr w.heap.size 154 (l.length*4) ((l.take k).flatMap DAntenna.tr) f∧In w wr f) (fun i wr=>l.length-(intOf i).toNat)
 case atStart =>
  have hst:=Fill.start w (madeCells #[F ⟨#[]⟩,I 0,II none 0 0,II none 0 0] (l.length*4)) 154;rw[size_madeCells] at hst;exact⟨0,[],Nat.zero_le _,rfl,(Below.refl _ _).alloc (Nat.le_refl _) _,by simpa using hst,In.nil⟩
 case round =>
  obtain⟨k,f,hk,rfl,hb,hfill,hin⟩:=hrel
  by_cases hlt:k<l.length
  ·obtain⟨b,off,rfl,hbl,hat⟩:=hcells O
   obtain⟨s0,s1,⟨u2,s2,r2⟩,⟨u3,s3,r3⟩⟩:=hat k hlt;rw[← hb.cell (p:=⟨b,_,none⟩) hbl] at s0 s1 s2 s3;have hz:=hfill.lt;have hz2:b<wr.heap.size:=O
   have t2:Rd wr wr (zai l[k].horizontal) u2:=(r2.below hb).mono hb.size;have t3:Rd wr wr (zai l[k].vertical) u3:=(r3.below hb).mono hb.size;obtain⟨o0,p0⟩:=hfill.room (k*4) O;obtain⟨o1,p1⟩:=hfill.room (k*4+1) O;obtain⟨o2,p2⟩:=hfill.room (k*4+2) O;obtain⟨o3,p3⟩:=hfill.room (k*4+3) O;have hfz:=hfill.open_;have hsl:=za3 DAntenna.tr l k hlt;have HB:=J hb;clear hcells hat hb r2 r3;go_wp2_with (go_at_call 97;refine (to_Antenna l[k] u2 u3 _ t2 t3 O).mono ?_;rintro e w1 ⟨a2,c2,a3,c3,fp1,rfl,hb1,hown1,hin1⟩;obtain⟨q1,q2⟩:=bcell hb1);go_roundw
   case rel =>
    have hw1:=hfill.below hin hb1;have hst:=hw1.step (us:=l[k].tr) (vs:=[F l[k].name,I l[k].gain,II a2 l[k].horizontal.length c2,II a3 l[k].vertical.length c3]) (g:=fp1) hown1.rep (by rw[zaw _ 4 DAntenna.tr_len];simp<;>omega) hown1.nd (fun e=>by have:=(hin1 _ e).1;omega) (fun x hx e=>by have:=(hin1 x hx).1;have:=(hin x e).2;omega) hown1.free;rw[zaw _ 4 DAntenna.tr_len,List.length_take,Nat.min_eq_left hk,← zch DAntenna.tr l k hlt] at hst;refine⟨k+1,f++fp1,O,by go_num,zd5 (HB.out.trans (hb1.mono O)) (Nat.le_refl _) [F l[k].name,I l[k].gain,II a2 l[k].horizontal.length c2,II a3 l[k].vertical.length c3] (k*4),hst,?_⟩;simp only[zac];exact (hin.mono (Nat.le_refl _) hb1.size).append (hin1.mono O (Nat.le_refl _))
   case measure=>simp[intOf];omega
  ·obtain rfl:k=l.length:=O
   clear hcells;go_wp2;go_ret;rw[List.take_length] at hfill;obtain⟨fp,h1,h2⟩:=hfill.own (zaw _ 4 DAntenna.tr_len l) (by unfold maxLen;omega);exact⟨_,_,fp,rfl,hb,h1,fun x hx=>by rcases h2 x hx with rfl|h;exact⟨Nat.le_refl _,hfill.lt⟩;exact hin x h⟩
theorem eq_AntennaS (l:List DAntenna) (v v':Value) (B:Nat) (w:World) (h:Rd B w (DAntenna.sT l) v) (h':Rd B w (DAntenna.sT l) v') (hB:B≤w.heap.size) (hn:siz (DAntenna.sT l)≤1099511627776) :
  Calls Tryz.prog 62 #[v,v'] w fun e w'=>e=.returned (.bool true)∧IJ w w w':=by
 rw[DAntenna.siz_s] at hn;have hnb:(l.length:Int)≤1099511627776:=O
 obtain⟨a,c,rfl,hnc,hcm,hcells⟩:=DAntenna.rd h;obtain⟨a',c',rfl,hnc',hcm',hcells'⟩:=DAntenna.rd h';clear h h';have hne:((l.length:Int) != l.length)=false:=by simp
 go_enter Tryz.func62,Tryz.ntmps62;go_wp2;clear hne;go_loopw [5] (fun i wr=>∃ (k:Nat),k≤l.length∧i=I k∧IJ w w wr) (fun i wr=>l.length-(intOf i).toNat)
 case atStart=>exact⟨0,Nat.zero_le _,rfl,Below.refl _ _⟩
 case round =>
  obtain⟨k,hk,rfl,hb⟩:=hrel
  by_cases hlt:k<l.length
  ·obtain⟨b,off,rfl,hbl,hat⟩:=hcells O
   obtain⟨b',off',rfl,hbl',hat'⟩:=hcells' O;obtain⟨s0,s1,⟨u2,s2,r2⟩,⟨u3,s3,r3⟩⟩:=hat k hlt;obtain⟨sb0,sb1,⟨ub2,sb2,rb2⟩,⟨ub3,sb3,rb3⟩⟩:=hat' k hlt;rw[← hb.cell (p:=⟨b,_,none⟩) (show b<w.heap.size by omega)] at s0 s1 s2 s3;rw[← hb.cell (p:=⟨b',_,none⟩) (show b' < w.heap.size by omega)] at sb0 sb1 sb2 sb3;have t2:Rd B wr.drew (zai l[k].horizontal) u2:=(r2.below (hb.mono hB)).drew;have tb2:Rd B wr.drew (zai l[k].horizontal) ub2:=(rb2.below (hb.mono hB)).drew;have t3:Rd B wr.drew (zai l[k].vertical) u3:=(r3.below (hb.mono hB)).drew;have tb3:Rd B wr.drew (zai l[k].vertical) ub3:=(rb3.below (hb.mono hB)).drew;have hB':B≤wr.heap.size:=by have:=hb.size;omega
   have hsl:=za3 DAntenna.tr l k hlt;have i1:(0:Int)≤(k:Int):=O
   have i2:(k:Int)<(l.length:Int):=O
   have HB:=J hb;clear hcells hat hcells' hat' hb r2 rb2 r3 rb3;go_wp2
   go_still_tail 8,OJ
   change wpList _ _ _ _ _ wr.drew
   go_wp2_with (go_at_call 111;refine (eq_Antenna l[k] u2 ub2 u3 ub3 B _ t2 tb2 t3 tb3 hB' O).mono ?_;rintro e w1 ⟨rfl,hb1⟩);go_roundw
   case rel=>exact⟨k+1,O,by go_num,HB.out.drew.trans (hb1.mono HB.out.size)⟩
   case measure=>simp[intOf];omega
  ·obtain rfl:k=l.length:=O
   clear hcells hcells';go_wp2;go_ret;exact⟨rfl,hb⟩
theorem DAntenna.mk_tr (x:DAntenna) (K:Nat):mkL x.tr K = [.lit (F (zc8 (K))),.lit (I ((K:Int)+1)),mkT (zai x.horizontal) (K+1+1),mkT (zai x.vertical) (K+1+1+cnt (zai x.horizontal))]:=rfl
theorem DAntenna.cntL_tr (x:DAntenna):cntL x.tr=1+1+cnt (zai x.horizontal)+cnt (zai x.vertical):=by simp only[DAntenna.tr,cntL,cnt,intT,strT];omega
theorem mark_AntennaS (l:List DAntenna) (v:Value) (fp:List Nat) (k0 lo:Nat) (w:World) (h:Own w (DAntenna.sT l) v fp) (hin:In lo w fp) (hs:siz (DAntenna.sT l)≤1099511627776) (hk0:k0+cnt (DAntenna.sT l)≤1099511627776) (hk1:0<k0) :
  Calls Tryz.prog 66 #[v,I k0] w fun e w'=>e=.returned (I ((k0+cnt (DAntenna.sT l):Nat):Int))∧Own w' (mkT (DAntenna.sT l) k0) v fp∧Chg fp w w':=by
 rw[DAntenna.siz_s] at hs;obtain⟨a,c,hv,hnc,hcm⟩:=h.form (k:=4) (g:=DAntenna.tr) (by decide) DAntenna.tr_len;subst hv;rw[show cnt (DAntenna.sT l)=cntL (l.flatMap DAntenna.tr) from by rw[DAntenna.sT,cnt]] at hk0 ⊢;have hnb:(l.length:Int)≤1099511627776:=O
 go_enter Tryz.func66,Tryz.ntmps66;go_wp2;go_loopw [1,5] (fun kk i wr=>∃ (j K:Nat),j≤l.length∧i=I j∧K=k0+cntL ((l.take j).flatMap DAntenna.tr)∧kk=I (K:Int)∧Own wr (mid DAntenna.tr 4 l k0 j) (II a l.length c) fp∧Chg fp w wr) (fun _ i wr=>l.length-(intOf i).toNat)
 case atStart=>exact⟨0,k0,Nat.zero_le _,rfl,by simp[cntL],rfl,by rw[mid_zero];exact h,Chg.refl _ _⟩
 case round =>
  obtain⟨j,K,hj,rfl,hK,rfl,hown,hchg⟩:=hrel
  by_cases hlt:j<l.length
  ·rw[mid_at _ _ _ _ _ hlt] at hown
   have hts:(mkL ((l.take j).flatMap DAntenna.tr) k0).length=j*4:=by rw[zb6,zaw _ 4 DAntenna.tr_len,List.length_take,Nat.min_eq_left hj]
   have hsum:=zda DAntenna.tr l j hlt;have hle:=zcm DAntenna.tr l (j+1);have hcx:=DAntenna.cntL_tr l[j];have hkb:K+(1+1+cnt (zai l[j].horizontal)+cnt (zai l[j].vertical))≤1099511627776:=O
   have hkp:0<K:=O
   have hszj:=za3 DAntenna.tr l j hlt;have HM:=J (mid_succ DAntenna.tr 4 l k0 j hlt);have HS:=J hsum;have HK:=J hK;have HC:=J hcx;have HT:=J hts;clear hsum hcx hle hK hts;generalize mkL ((l.take j).flatMap DAntenna.tr) k0=TS at *;generalize (l.drop (j+1)).flatMap DAntenna.tr=US at *;have hin':In lo wr fp:=hin.mono (Nat.le_refl _) hchg.size;have o0:Own wr (.sl 4 (TS++([.lit (F l[j].name),.lit (I l[j].gain),zai l[j].horizontal,zai l[j].vertical]++US))) (II a l.length c) fp:=hown;clear hown;obtain⟨b,off,rfl,hbf⟩:=o0.someAddr;have hbw:=(hin' b hbf).2;have hfz:∀ i,wr.frozen? ⟨b,i,none⟩=false:=o0.free b hbf;have z0:wr.heap.size≤wr.heap.size:=Nat.le_refl _;obtain⟨s0,_⟩:=o0.cellChunk 0 _ rfl (off+j*4) (by rw[HT.out];omega);obtain⟨s1,_⟩:=o0.cellChunk 1 _ rfl (off+j*4+1) (by rw[HT.out];omega);obtain⟨x2,g2,s2,_,_,_,_⟩:=o0.partChunk 2 _ rfl (off+j*4+2) (by rw[HT.out];omega);obtain⟨x3,g3,s3,_,_,_,_⟩:=o0.partChunk 3 _ rfl (off+j*4+3) (by rw[HT.out];omega);have O0:=J o0;have C0:=J hchg;clear o0 hchg;go_wp2_with fail;refine (zcc _ _ O O).mono ?_;rintro e w1 ⟨rfl,hb1⟩;obtain⟨qa1,qb1,hbw1⟩:=zah hb1 (b:=b) (by first|omega|(simp only[zac];omega));have z1:wr.heap.size≤w1.heap.size:=by have:=hb1.size;(try simp only[zac] at this);omega
   have O1:=J ((O0.out.below hin' (by first|omega|(simp only[zac];omega)) hb1).setChunk 0 _ rfl (off+j*4) (by rw[HT.out];omega) (F (zc8 (K))));have C1:=J ((C0.out.trans (Chg.of_below hb1)).setCell (p:=⟨b,off+j*4,none⟩) hbf (F (zc8 (K))));have O2:=J (O1.out.setChunk 1 _ rfl (off+j*4+1) (by rw[HT.out];omega) (I ((K:Int)+1)));have C2:=J (C1.out.setCell (p:=⟨b,off+j*4+1,none⟩) hbf (I ((K:Int)+1)));obtain⟨y2,h2,sy2,hox2,hgf2,hbg2,hset2⟩:=O2.out.partChunk 2 _ rfl (off+j*4+2) (by rw[HT.out];omega);have HX2:=J hox2;have HY2:=J hset2;clear hox2 hset2;have hsz2:siz (zai l[j].horizontal)≤1099511627776:=by
    have:siz (zai l[j].horizontal)≤sizL l[j].tr:=by simp only[DAntenna.tr,sizL];omega
    omega
   go_wp2_with fail;refine (zdg (l[j].horizontal) y2 h2 (K+1+1) lo _ _ HX2.out (fun y hy=>⟨(hin' y (hgf2 y hy)).1,by have:=(hin' y (hgf2 y hy)).2;(try simp only[zac]);omega⟩) hsz2 (by simp only[Int.natCast_add,Int.natCast_one]) O O).mono ?_;rintro e w2 ⟨rfl,ho2,hc2⟩;have z2:wr.heap.size≤w2.heap.size:=by have:=hc2.size;(try simp only[zac] at this);omega
   have hbk2:=hc2.block b (by first|omega|(simp only[zac];omega)) hbg2;have qb2:∀ o,w2.frozen? ⟨b,o,none⟩=_:=fun o=>World.frozen?_of_block (a:=⟨b,o,none⟩) hbk2
   clear hbk2;have O3:=J (HY2.out w2 _ (fun y hy hyg=>hc2.block y (by have:=(hin' y hy).2;(try simp only[zac]);omega) hyg) ho2);have C3:=J (C2.out.trans (hc2.mono hgf2));clear hc2 ho2;obtain⟨y3,h3,sy3,hox3,hgf3,hbg3,hset3⟩:=O3.out.partChunk 3 _ rfl (off+j*4+3) (by rw[HT.out];omega);have HX3:=J hox3;have HY3:=J hset3;clear hox3 hset3;have hsz3:siz (zai l[j].vertical)≤1099511627776:=by
    have:siz (zai l[j].vertical)≤sizL l[j].tr:=by simp only[DAntenna.tr,sizL];omega
    omega
   go_wp2_with fail;refine (zdg (l[j].vertical) y3 h3 (K+1+1+cnt (zai l[j].horizontal)) lo _ _ HX3.out (fun y hy=>⟨(hin' y (hgf3 y hy)).1,by have:=(hin' y (hgf3 y hy)).2;(try simp only[zac]);omega⟩) hsz3 (by simp only[Int.natCast_add,Int.natCast_one]) O O).mono ?_;rintro e w3 ⟨rfl,ho3,hc3⟩;have z3:wr.heap.size≤w3.heap.size:=by have:=hc3.size;(try simp only[zac] at this);omega
   have hbk3:=hc3.block b (by first|omega|(simp only[zac];omega)) hbg3;have qa3:∀ o,w3.cell? ⟨b,o,none⟩=_:=fun o=>World.cell?_of_block (a:=⟨b,o,none⟩) hbk3
   have qb3:∀ o,w3.frozen? ⟨b,o,none⟩=_:=fun o=>World.frozen?_of_block (a:=⟨b,o,none⟩) hbk3
   clear hbk3;have O4:=J (HY3.out w3 _ (fun y hy hyg=>hc3.block y (by have:=(hin' y hy).2;(try simp only[zac]);omega) hyg) ho3);have C4:=J (C3.out.trans (hc3.mono hgf3));clear hc3 ho3;go_wp2;go_roundw
   case rel =>
    refine⟨j+1,K+(1+1+cnt (zai l[j].horizontal)+cnt (zai l[j].vertical)),O,by go_num,by have:=HK.out;have:=HS.out;have:=HC.out;omega,by go_num,?_,C4.out⟩;rw[HM.out,← HK.out,DAntenna.mk_tr];exact O4.out
   case measure=>simp[intOf];omega
  ·obtain rfl:j=l.length:=O
   have HK:=J hK;clear hK;go_wp2;go_ret;rw[mid_end] at hown;have e:=HK.out;rw[List.take_length] at e;exact⟨zb8 O,hown,hchg⟩
theorem markI_AntennaS (l:List DAntenna) (v:Value) (fp:List Nat) (k lo:Nat) (K:Int) (w:World) (h:Own w (DAntenna.sT l) v fp) (hin:In lo w fp) (hs:siz (DAntenna.sT l)≤1099511627776) (hK:K=(k:Int)) (hk0:k+cnt (DAntenna.sT l)≤1099511627776) (hk1:0<k) :
  Calls Tryz.prog 66 #[v,I K] w fun e w'=>e=.returned (I (K+(cnt (DAntenna.sT l):Int)))∧Own w' (mkT (DAntenna.sT l) k) v fp∧Chg fp w w':=by
 subst hK;refine (mark_AntennaS l v fp k lo w h hin hs hk0 hk1).mono fun e w' ⟨he,h1,h2⟩=>⟨?_,h1,h2⟩
 rw[he,Int.natCast_add]
end Go.Proofs.YtgmapjgodibchaaGreatDoor
