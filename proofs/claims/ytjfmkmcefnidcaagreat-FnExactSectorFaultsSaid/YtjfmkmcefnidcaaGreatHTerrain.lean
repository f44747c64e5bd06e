/- Contracts of the laws' helpers over the type Terrain and slices of it. Conditions: bounded lengths. -/
import Derived.Test.YtjfmkmcefnidcaaGreatSl
import Derived.Test.YtjfmkmcefnidcaaGreatTypes
import Derived.Test.YtjfmkmcefnidcaaGreatHArea
import Derived.Test.YtjfmkmcefnidcaaGreatOver
namespace Go.Proofs.YtjfmkmcefnidcaaGreat
set_option maxHeartbeats 4000000
set_option maxRecDepth 100000
open Go.RowKit
set_option linter.unusedVariables false
theorem DTerrain.siz_tr (x:DTerrain):sizL x.tr=siz (intsT x.heights)+siz (intsT x.clutter):=by
 simp only[DTerrain.tr,sizL,siz,intT]
 omega
theorem sz_Terrain (x:DTerrain) (v3 v4:Value) (B:Nat) (left:Int) (w:World) (h3:Rd B w (intsT x.heights) v3) (h4:Rd B w (intsT x.clutter) v4) (hB:B≤w.heap.size) (hl:0≤left) (hl2:left≤1048576) (hok:x.ok) :
  Calls Tryz.prog 38 #[.agg #[.int .i64 x.step,.int .i64 x.width,.int .i64 x.height,v3,v4],.int .i64 left] w (SzPost (sizL x.tr) left w):=by
 have hsum:=DTerrain.siz_tr x
 have b0:Below w.heap.size w (w.alloc (.cells #[.int .i64 x.step,.int .i64 x.width,.int .i64 x.height,v3,v4] 24)):=(Below.refl _ _).alloc (Nat.le_refl _) _
 have B0:=Lib.hid b0
 have z0:w.heap.size≤(w.alloc (.cells #[.int .i64 x.step,.int .i64 x.width,.int .i64 x.height,v3,v4] 24)).heap.size:=b0.size
 have y0:w.heap.size<(w.alloc (.cells #[.int .i64 x.step,.int .i64 x.width,.int .i64 x.height,v3,v4] 24)).heap.size:=by simp
 have R0_3:=Lib.hid (h3.below (b0.mono hB))
 have R0_4:=Lib.hid (h4.below (b0.mono hB))
 clear b0 h3 h4
 go_enter Tryz.func38,Tryz.ntmps38
 go_wp2_with fail
 refine (sz_Int64S x.heights v3 B _ _ R0_3.out (by omega) (by omega) (by omega)).mono ?_
 rintro e w1 ⟨⟨c0,rfl⟩|⟨c0,rfl⟩,hb1⟩
 case inr =>
  go_wp2
  go_ret
  exact⟨Or.inr ⟨by omega,rfl⟩,B0.out.trans (hb1.mono z0)⟩
 obtain⟨q1,_,y1⟩:=bcellAt hb1 (b:=w.heap.size) y0
 have z1:w.heap.size≤w1.heap.size:=by omega
 have B1:=Lib.hid (B0.out.trans (hb1.mono z0))
 have R1_3:=Lib.hid (R0_3.out.below (hb1.mono (by omega)))
 have R1_4:=Lib.hid (R0_4.out.below (hb1.mono (by omega)))
 clear hb1
 have d0:decide (left-(siz (intsT x.heights):Int)<0)=false:=by simp;omega
 go_wp2_with fail
 refine (sz_Int64S x.clutter v4 B _ _ R1_4.out (by omega) (by omega) (by omega)).mono ?_
 rintro e w2 ⟨⟨c1,rfl⟩|⟨c1,rfl⟩,hb2⟩
 case inr =>
  go_wp2
  go_ret
  exact⟨Or.inr ⟨by omega,rfl⟩,B1.out.trans (hb2.mono z1)⟩
 obtain⟨q2,_,y2⟩:=bcellAt hb2 (b:=w.heap.size) y1
 have z2:w.heap.size≤w2.heap.size:=by omega
 have B2:=Lib.hid (B1.out.trans (hb2.mono z1))
 have R2_3:=Lib.hid (R1_3.out.below (hb2.mono (by omega)))
 have R2_4:=Lib.hid (R1_4.out.below (hb2.mono (by omega)))
 clear hb2
 have d1:decide (left-(siz (intsT x.heights):Int)-(siz (intsT x.clutter):Int)<0)=false:=by simp;omega
 go_wp2
 go_ret
 exact⟨Or.inl ⟨by omega,ret_int (by omega)⟩,B2.out⟩
theorem to_Terrain (x:DTerrain) (v3 v4:Value) (w:World) (h3:Rd w.heap.size w (intsT x.heights) v3) (h4:Rd w.heap.size w (intsT x.clutter) v4) (hn:sizL x.tr≤1048576) :
  Calls Tryz.prog 46 #[.agg #[.int .i64 x.step,.int .i64 x.width,.int .i64 x.height,v3,v4]] w fun e w'=>∃ a3 c3 a4 c4 fp,e=.returned (.agg #[.int .i64 x.step,.int .i64 x.width,.int .i64 x.height,.slice a3 x.heights.length c3,.slice a4 x.clutter.length c4])∧Below w.heap.size w w'∧OwnV w' x.tr [.int .i64 x.step,.int .i64 x.width,.int .i64 x.height,.slice a3 x.heights.length c3,.slice a4 x.clutter.length c4] fp∧In w.heap.size w'.heap.size fp:=by
 have hsum:=DTerrain.siz_tr x
 go_enter Tryz.func46,Tryz.ntmps46
 have bX0:Below w.heap.size w (((w.alloc (.cells #[.int .i64 x.step,.int .i64 x.width,.int .i64 x.height,v3,v4] 24)).alloc (.cells #[.int .i64 0,.int .i64 0,.int .i64 0,.slice none 0 0,.slice none 0 0] 42)).alloc (.cells #[.int .i64 x.step,.int .i64 x.width,.int .i64 x.height,.slice none 0 0,.slice none 0 0] 42)):=(((Below.refl _ _).alloc (Nat.le_refl _) _).alloc (by simp) _).alloc (by first|(simp;done)|(simp;omega)) _
 have BX0:=Lib.hid bX0
 have zX0:w.heap.size+3≤(((w.alloc (.cells #[.int .i64 x.step,.int .i64 x.width,.int .i64 x.height,v3,v4] 24)).alloc (.cells #[.int .i64 0,.int .i64 0,.int .i64 0,.slice none 0 0,.slice none 0 0] 42)).alloc (.cells #[.int .i64 x.step,.int .i64 x.width,.int .i64 x.height,.slice none 0 0,.slice none 0 0] 42)).heap.size:=by first|(simp;done)|(simp;omega)
 clear bX0
 go_wp2_with fail
 refine (to_Int64S x.heights v3 (((w.alloc (.cells #[.int .i64 x.step,.int .i64 x.width,.int .i64 x.height,v3,v4] 24)).alloc (.cells #[.int .i64 0,.int .i64 0,.int .i64 0,.slice none 0 0,.slice none 0 0] 42)).alloc (.cells #[.int .i64 x.step,.int .i64 x.width,.int .i64 x.height,.slice none 0 0,.slice none 0 0] 42)) ((h3.below BX0.out).mono (by omega)) (by omega)).mono ?_
 rintro e w1 ⟨a3,c3,fp1,rfl,hb1,o1,i1⟩
 obtain⟨qa1,_,ya1⟩:=bcellAt hb1 (b:=w.heap.size) (by omega)
 obtain⟨qb1,qf1,yb1⟩:=bcellAt hb1 (b:=w.heap.size+1) (by omega)
 obtain⟨qc1,qg1,yc1⟩:=bcellAt hb1 (b:=w.heap.size+1+1) (by omega)
 have z1:=hb1.size
 have B1:=Lib.hid (BX0.out.trans (hb1.mono (by omega)))
 have y1:w.heap.size+3≤w1.heap.size:=by omega
 have j1:In (w.heap.size+3) w1.heap.size fp1:=i1.mono (by omega) (Nat.le_refl _)
 have P1_1:=Lib.hid o1
 clear hb1 o1 i1
 have BX1:=Lib.hid (B1.out.setCell (p:=⟨w.heap.size+1+1,3,none⟩) (by show w.heap.size≤w.heap.size+1+1;omega) (.slice a3 x.heights.length c3))
 have zX1:w.heap.size+3≤((w1.setCell ⟨w.heap.size+1+1,3,none⟩ (.slice a3 x.heights.length c3))).heap.size:=by simp only[size_setCell];omega
 go_wp2_with fail
 refine (to_Int64S x.clutter v4 ((w1.setCell ⟨w.heap.size+1+1,3,none⟩ (.slice a3 x.heights.length c3))) ((h4.below BX1.out).mono (by omega)) (by omega)).mono ?_
 rintro e w2 ⟨a4,c4,fp2,rfl,hb2,o2,i2⟩
 obtain⟨qa2,_,ya2⟩:=bcellAt hb2 (b:=w.heap.size) (by omega)
 obtain⟨qb2,qf2,yb2⟩:=bcellAt hb2 (b:=w.heap.size+1) (by omega)
 obtain⟨qc2,qg2,yc2⟩:=bcellAt hb2 (b:=w.heap.size+1+1) (by omega)
 have z2:=hb2.size
 simp only[size_setCell] at z2
 have B2:=Lib.hid (BX1.out.trans (hb2.mono (by omega)))
 have y2:w.heap.size+3≤w2.heap.size:=by omega
 have P1_2:=Lib.hid ((P1_1.out.setFar (p:=⟨w.heap.size+1+1,3,none⟩) (fun e=>by have:=(j1 _ e).1;simp only at this;omega) (.slice a3 x.heights.length c3)).below j1 (by first|omega|(simp only[size_setCell];omega)) hb2)
 have j2:In (w1.heap.size) w2.heap.size fp2:=i2.mono (by simp only[size_setCell];omega) (Nat.le_refl _)
 have P2_2:=Lib.hid o2
 clear hb2 o2 i2
 go_wp2
 have F1:=Lib.hid ((((((P1_2.out.setFar (p:=⟨w.heap.size+1+1,4,none⟩) (fun e=>by have:=(j1 _ e).1;simp only at this;omega) (.slice a4 x.clutter.length c4)).setFar (p:=⟨w.heap.size+1,0,none⟩) (fun e=>by have:=(j1 _ e).1;simp only at this;omega) (.int .i64 x.step)).setFar (p:=⟨w.heap.size+1,1,none⟩) (fun e=>by have:=(j1 _ e).1;simp only at this;omega) (.int .i64 x.width)).setFar (p:=⟨w.heap.size+1,2,none⟩) (fun e=>by have:=(j1 _ e).1;simp only at this;omega) (.int .i64 x.height)).setFar (p:=⟨w.heap.size+1,3,none⟩) (fun e=>by have:=(j1 _ e).1;simp only at this;omega) (.slice a3 x.heights.length c3)).setFar (p:=⟨w.heap.size+1,4,none⟩) (fun e=>by have:=(j1 _ e).1;simp only at this;omega) (.slice a4 x.clutter.length c4))
 have F2:=Lib.hid ((((((P2_2.out.setFar (p:=⟨w.heap.size+1+1,4,none⟩) (fun e=>by have:=(j2 _ e).1;simp only at this;omega) (.slice a4 x.clutter.length c4)).setFar (p:=⟨w.heap.size+1,0,none⟩) (fun e=>by have:=(j2 _ e).1;simp only at this;omega) (.int .i64 x.step)).setFar (p:=⟨w.heap.size+1,1,none⟩) (fun e=>by have:=(j2 _ e).1;simp only at this;omega) (.int .i64 x.width)).setFar (p:=⟨w.heap.size+1,2,none⟩) (fun e=>by have:=(j2 _ e).1;simp only at this;omega) (.int .i64 x.height)).setFar (p:=⟨w.heap.size+1,3,none⟩) (fun e=>by have:=(j2 _ e).1;simp only at this;omega) (.slice a3 x.heights.length c3)).setFar (p:=⟨w.heap.size+1,4,none⟩) (fun e=>by have:=(j2 _ e).1;simp only at this;omega) (.slice a4 x.clutter.length c4))
 have BF:=Lib.hid ((((((B2.out.setCell (p:=⟨w.heap.size+1+1,4,none⟩) (by show w.heap.size≤w.heap.size+1+1;omega) (.slice a4 x.clutter.length c4)).setCell (p:=⟨w.heap.size+1,0,none⟩) (by show w.heap.size≤w.heap.size+1;omega) (.int .i64 x.step)).setCell (p:=⟨w.heap.size+1,1,none⟩) (by show w.heap.size≤w.heap.size+1;omega) (.int .i64 x.width)).setCell (p:=⟨w.heap.size+1,2,none⟩) (by show w.heap.size≤w.heap.size+1;omega) (.int .i64 x.height)).setCell (p:=⟨w.heap.size+1,3,none⟩) (by show w.heap.size≤w.heap.size+1;omega) (.slice a3 x.heights.length c3)).setCell (p:=⟨w.heap.size+1,4,none⟩) (by show w.heap.size≤w.heap.size+1;omega) (.slice a4 x.clutter.length c4))
 refine bodyPost_ret (v:=.agg #[.int .i64 x.step,.int .i64 x.width,.int .i64 x.height,.slice a3 x.heights.length c3,.slice a4 x.clutter.length c4]) (by simp[results,Tryz.results46,go_sem, *]) rfl ⟨a3,c3,a4,c4,fp1++(fp2++[]),rfl,BF.out,?_,?_⟩
 ·exact (OwnV.consLit (OwnV.consLit (OwnV.consLit (OwnV.cons F1.out (OwnV.cons F2.out OwnV.nil (fun x hx e=>by have h1:=j2 x hx;simp at e)) (fun x hx e=>by have h1:=j1 x hx;simp only[List.mem_append,List.not_mem_nil,or_false] at e;have h2:=j2 x e;omega)) rfl) rfl) rfl)
 ·simp only[size_setCell]
  exact ((j1.mono (by omega) (by omega)).append ((j2.mono (by omega) (by omega)).append In.nil))
theorem eq_Terrain (x:DTerrain) (v3 u3 v4 u4:Value) (B:Nat) (w:World) (h3:Rd B w (intsT x.heights) v3) (g3:Rd B w (intsT x.heights) u3) (h4:Rd B w (intsT x.clutter) v4) (g4:Rd B w (intsT x.clutter) u4) (hB:B≤w.heap.size) (hn:sizL x.tr≤1099511627776) :
  Calls Tryz.prog 55 #[.agg #[.int .i64 x.step,.int .i64 x.width,.int .i64 x.height,v3,v4],.agg #[.int .i64 x.step,.int .i64 x.width,.int .i64 x.height,u3,u4]] w fun e w'=>e=.returned (.bool true)∧Below w.heap.size w w':=by
 have hsum:=DTerrain.siz_tr x
 have b0:Below w.heap.size w ((w.alloc (.cells #[.int .i64 x.step,.int .i64 x.width,.int .i64 x.height,v3,v4] 42)).alloc (.cells #[.int .i64 x.step,.int .i64 x.width,.int .i64 x.height,u3,u4] 42)):=((Below.refl _ _).alloc (Nat.le_refl _) _).alloc (by simp) _
 have B0:=Lib.hid b0
 have y0:w.heap.size+2≤((w.alloc (.cells #[.int .i64 x.step,.int .i64 x.width,.int .i64 x.height,v3,v4] 42)).alloc (.cells #[.int .i64 x.step,.int .i64 x.width,.int .i64 x.height,u3,u4] 42)).heap.size:=by first|(simp;done)|(simp;omega)
 clear b0
 go_enter Tryz.func55,Tryz.ntmps55
 go_wp2_with fail
 refine (eq_Int64S x.heights v3 u3 B _ (h3.below (B0.out.mono hB)) (g3.below (B0.out.mono hB)) (by omega) (by omega)).mono ?_
 rintro e w1 ⟨rfl,hb1⟩
 obtain⟨qa1,_,ya1⟩:=bcellAt hb1 (b:=w.heap.size) (by omega)
 obtain⟨qb1,_,yb1⟩:=bcellAt hb1 (b:=w.heap.size+1) (by omega)
 have y1:w.heap.size+2≤w1.heap.size:=by have:=hb1.size;omega
 have B1:=Lib.hid (B0.out.trans (hb1.mono (by omega)))
 clear hb1
 go_wp2_with fail
 refine (eq_Int64S x.clutter v4 u4 B _ (h4.below (B1.out.mono hB)) (g4.below (B1.out.mono hB)) (by omega) (by omega)).mono ?_
 rintro e w2 ⟨rfl,hb2⟩
 obtain⟨qa2,_,ya2⟩:=bcellAt hb2 (b:=w.heap.size) (by omega)
 obtain⟨qb2,_,yb2⟩:=bcellAt hb2 (b:=w.heap.size+1) (by omega)
 have y2:w.heap.size+2≤w2.heap.size:=by have:=hb2.size;omega
 have B2:=Lib.hid (B1.out.trans (hb2.mono (by omega)))
 clear hb2
 go_wp2
 go_ret
 exact⟨rfl,B2.out⟩
theorem DTerrain.cnt_eq (x:DTerrain):cnt (intsT x.heights)+cnt (intsT x.clutter)=cnt (intsT x.heights)+cnt (intsT x.clutter):=rfl
theorem mark_Terrain (x:DTerrain) (v3 v4:Value) (f3 f4:List Nat) (k0 l3 m3 l4 m4:Nat) (w:World) (o3:Own w (intsT x.heights) v3 f3) (i3:In l3 m3 f3) (n3:m3≤w.heap.size) (o4:Own w (intsT x.clutter) v4 f4) (i4:In l4 m4 f4) (n4:m4≤w.heap.size) (d3_4:∀ y ∈ f3,y ∉ f4) (hs:sizL x.tr≤1099511627776) (hk0:k0+cnt (intsT x.heights)+cnt (intsT x.clutter)≤1099511627776) (hk1:0<k0) :
  Calls Tryz.prog 61 #[.agg #[.int .i64 x.step,.int .i64 x.width,.int .i64 x.height,v3,v4],.int .i64 k0] w fun e w'=>e=.returned (.int .i64 ((k0+cnt (intsT x.heights)+cnt (intsT x.clutter):Nat):Int))∧Own w' (mkT (intsT x.heights) (k0)) v3 f3∧Own w' (mkT (intsT x.clutter) (k0+cnt (intsT x.heights))) v4 f4∧Chg (f3++f4) w w':=by
 have hsum:=DTerrain.siz_tr x
 have b0:Below w.heap.size w (w.alloc (.cells #[.int .i64 x.step,.int .i64 x.width,.int .i64 x.height,v3,v4] 42)):=(Below.refl _ _).alloc (Nat.le_refl _) _
 have C0:=Lib.hid (Chg.of_below (fp:=(f3++f4)) b0)
 have y0:w.heap.size<(w.alloc (.cells #[.int .i64 x.step,.int .i64 x.width,.int .i64 x.height,v3,v4] 42)).heap.size:=by simp
 have O0_3:=Lib.hid (o3.below i3 n3 b0)
 have O0_4:=Lib.hid (o4.below i4 n4 b0)
 clear b0 o3 o4
 go_enter Tryz.func61,Tryz.ntmps61
 go_wp2_with fail
 refine (markI_Int64S x.heights v3 f3 (k0) l3 _ _ O0_3.out (i3.mono (Nat.le_refl _) (by omega)) (by omega) (by first|rfl|simp only[Int.natCast_add]) (by omega) (by omega)).mono ?_
 rintro e w1 ⟨rfl,p3,c1⟩
 have y1:w.heap.size<w1.heap.size:=by have:=c1.size;omega
 have hk1c:∀ q,w1.cell? ⟨w.heap.size,q,none⟩=_:=fun q=>World.cell?_of_block (a:=⟨w.heap.size,q,none⟩) (c1.block w.heap.size y0 (fun e=>by have:=(i3 _ e).2;omega))
 have C1:=Lib.hid (C0.out.trans (c1.mono (fun y hy=>by simp[hy])))
 have O1_3:=Lib.hid p3
 have O1_4:=Lib.hid (O0_4.out.chg i4 (by omega) c1 (fun y hy e=>d3_4 y e hy))
 clear c1 p3
 go_wp2_with fail
 refine (markI_Int64S x.clutter v4 f4 (k0+cnt (intsT x.heights)) l4 _ _ O1_4.out (i4.mono (Nat.le_refl _) (by omega)) (by omega) (by first|rfl|simp only[Int.natCast_add]) (by omega) (by omega)).mono ?_
 rintro e w2 ⟨rfl,p4,c2⟩
 have y2:w.heap.size<w2.heap.size:=by have:=c2.size;omega
 have hk2c:∀ q,w2.cell? ⟨w.heap.size,q,none⟩=_:=fun q=>World.cell?_of_block (a:=⟨w.heap.size,q,none⟩) (c2.block w.heap.size y1 (fun e=>by have:=(i4 _ e).2;omega))
 have C2:=Lib.hid (C1.out.trans (c2.mono (fun y hy=>by simp[hy])))
 have O2_3:=Lib.hid (O1_3.out.chg i3 (by omega) c2 (fun y hy e=>d3_4 y hy e))
 have O2_4:=Lib.hid p4
 clear c2 p4
 go_wp2
 go_ret
 exact⟨ret_int (by simp only[Int.natCast_add]),O2_3.out,O2_4.out,C2.out⟩
end Go.Proofs.YtjfmkmcefnidcaaGreat
