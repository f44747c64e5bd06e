/- Contracts of the laws' helpers over the type Plan and slices of it. Conditions: bounded lengths. -/
import Derived.Test.YtjfmkmcefnidcaaGreatSl
import Derived.Test.YtjfmkmcefnidcaaGreatTypes
import Derived.Test.YtjfmkmcefnidcaaGreatHArea
import Derived.Test.YtjfmkmcefnidcaaGreatOver
import Derived.Test.YtjfmkmcefnidcaaGreatHTerrain
import Derived.Test.YtjfmkmcefnidcaaGreatHNetwork
import Derived.Test.YtjfmkmcefnidcaaGreatHBand
import Derived.Test.YtjfmkmcefnidcaaGreatHLicence
import Derived.Test.YtjfmkmcefnidcaaGreatHProtected
namespace Go.Proofs.YtjfmkmcefnidcaaGreat
set_option maxHeartbeats 4000000
set_option maxRecDepth 100000
open Go.RowKit
set_option linter.unusedVariables false
theorem DPlan.siz_tr (x:DPlan):sizL x.tr=sizL (x.terrain).tr+sizL (x.network).tr+siz (DBand.sT x.bands)+siz (DLicence.sT x.licences)+siz (DProtected.sT x.protected_)+siz (intssT x.apart):=by
 simp only[DPlan.tr,DTerrain.tr,DNetwork.tr,sizL,siz,intT]
 omega
theorem sz_Plan (x:DPlan) (v3 v4 v5 v6 v7 v8 v9 v10 v11 v12:Value) (B:Nat) (left:Int) (w:World) (h3:Rd B w (intsT x.terrain.heights) v3) (h4:Rd B w (intsT x.terrain.clutter) v4) (h5:Rd B w (DSite.sT x.network.sites) v5) (h6:Rd B w (DSector.sT x.network.sectors) v6) (h7:Rd B w (DAntenna.sT x.network.antennas) v7) (h8:Rd B w (DRadio.sT x.network.radios) v8) (h9:Rd B w (DBand.sT x.bands) v9) (h10:Rd B w (DLicence.sT x.licences) v10) (h11:Rd B w (DProtected.sT x.protected_) v11) (h12:Rd B w (intssT x.apart) v12) (hB:B≤w.heap.size) (hl:0≤left) (hl2:left≤1048576) (hok:x.ok) :
  Calls Tryz.prog 11 #[.agg #[.int .i64 x.terrain.step,.int .i64 x.terrain.width,.int .i64 x.terrain.height,v3,v4,v5,v6,v7,v8,v9,v10,v11,v12,.int .i64 x.day],.int .i64 left] w (SzPost (sizL x.tr) left w):=by
 have hsum:=DPlan.siz_tr x
 have b0:Below w.heap.size w (w.alloc (.cells #[.int .i64 x.terrain.step,.int .i64 x.terrain.width,.int .i64 x.terrain.height,v3,v4,v5,v6,v7,v8,v9,v10,v11,v12,.int .i64 x.day] 36)):=(Below.refl _ _).alloc (Nat.le_refl _) _
 have B0:=Lib.hid b0
 have z0:w.heap.size≤(w.alloc (.cells #[.int .i64 x.terrain.step,.int .i64 x.terrain.width,.int .i64 x.terrain.height,v3,v4,v5,v6,v7,v8,v9,v10,v11,v12,.int .i64 x.day] 36)).heap.size:=b0.size
 have y0:w.heap.size<(w.alloc (.cells #[.int .i64 x.terrain.step,.int .i64 x.terrain.width,.int .i64 x.terrain.height,v3,v4,v5,v6,v7,v8,v9,v10,v11,v12,.int .i64 x.day] 36)).heap.size:=by simp
 have R0_3:=Lib.hid (h3.below (b0.mono hB))
 have R0_4:=Lib.hid (h4.below (b0.mono hB))
 have R0_5:=Lib.hid (h5.below (b0.mono hB))
 have R0_6:=Lib.hid (h6.below (b0.mono hB))
 have R0_7:=Lib.hid (h7.below (b0.mono hB))
 have R0_8:=Lib.hid (h8.below (b0.mono hB))
 have R0_9:=Lib.hid (h9.below (b0.mono hB))
 have R0_10:=Lib.hid (h10.below (b0.mono hB))
 have R0_11:=Lib.hid (h11.below (b0.mono hB))
 have R0_12:=Lib.hid (h12.below (b0.mono hB))
 clear b0 h3 h4 h5 h6 h7 h8 h9 h10 h11 h12
 go_enter Tryz.func11,Tryz.ntmps11
 go_wp2_with fail
 refine (sz_Terrain x.terrain v3 v4 B _ _ R0_3.out R0_4.out (by omega) (by omega) (by omega) hok.terrain).mono ?_
 rintro e w1 ⟨⟨c0,rfl⟩|⟨c0,rfl⟩,hb1⟩
 case inr =>
  go_wp2
  go_ret
  exact⟨Or.inr ⟨by omega,rfl⟩,B0.out.trans (hb1.mono z0)⟩
 obtain⟨q1,_,y1⟩:=bcellAt hb1 (b:=w.heap.size) y0
 have z1:w.heap.size≤w1.heap.size:=by omega
 have B1:=Lib.hid (B0.out.trans (hb1.mono z0))
 have R1_3:=Lib.hid (R0_3.out.below (hb1.mono (by omega)))
 have R1_4:=Lib.hid (R0_4.out.below (hb1.mono (by omega)))
 have R1_5:=Lib.hid (R0_5.out.below (hb1.mono (by omega)))
 have R1_6:=Lib.hid (R0_6.out.below (hb1.mono (by omega)))
 have R1_7:=Lib.hid (R0_7.out.below (hb1.mono (by omega)))
 have R1_8:=Lib.hid (R0_8.out.below (hb1.mono (by omega)))
 have R1_9:=Lib.hid (R0_9.out.below (hb1.mono (by omega)))
 have R1_10:=Lib.hid (R0_10.out.below (hb1.mono (by omega)))
 have R1_11:=Lib.hid (R0_11.out.below (hb1.mono (by omega)))
 have R1_12:=Lib.hid (R0_12.out.below (hb1.mono (by omega)))
 clear hb1
 have d0:decide (left-(sizL (x.terrain).tr:Int)<0)=false:=by simp;omega
 go_wp2_with fail
 refine (sz_Network x.network v5 v6 v7 v8 B _ _ R1_5.out R1_6.out R1_7.out R1_8.out (by omega) (by omega) (by omega) hok.network).mono ?_
 rintro e w2 ⟨⟨c1,rfl⟩|⟨c1,rfl⟩,hb2⟩
 case inr =>
  go_wp2
  go_ret
  exact⟨Or.inr ⟨by omega,rfl⟩,B1.out.trans (hb2.mono z1)⟩
 obtain⟨q2,_,y2⟩:=bcellAt hb2 (b:=w.heap.size) y1
 have z2:w.heap.size≤w2.heap.size:=by omega
 have B2:=Lib.hid (B1.out.trans (hb2.mono z1))
 have R2_3:=Lib.hid (R1_3.out.below (hb2.mono (by omega)))
 have R2_4:=Lib.hid (R1_4.out.below (hb2.mono (by omega)))
 have R2_5:=Lib.hid (R1_5.out.below (hb2.mono (by omega)))
 have R2_6:=Lib.hid (R1_6.out.below (hb2.mono (by omega)))
 have R2_7:=Lib.hid (R1_7.out.below (hb2.mono (by omega)))
 have R2_8:=Lib.hid (R1_8.out.below (hb2.mono (by omega)))
 have R2_9:=Lib.hid (R1_9.out.below (hb2.mono (by omega)))
 have R2_10:=Lib.hid (R1_10.out.below (hb2.mono (by omega)))
 have R2_11:=Lib.hid (R1_11.out.below (hb2.mono (by omega)))
 have R2_12:=Lib.hid (R1_12.out.below (hb2.mono (by omega)))
 clear hb2
 have d1:decide (left-(sizL (x.terrain).tr:Int)-(sizL (x.network).tr:Int)<0)=false:=by simp;omega
 go_wp2_with fail
 refine (sz_BandS x.bands v9 B _ _ R2_9.out (by omega) (by omega) (by omega) (hok.bands)).mono ?_
 rintro e w3 ⟨⟨c2,rfl⟩|⟨c2,rfl⟩,hb3⟩
 case inr =>
  go_wp2
  go_ret
  exact⟨Or.inr ⟨by omega,rfl⟩,B2.out.trans (hb3.mono z2)⟩
 obtain⟨q3,_,y3⟩:=bcellAt hb3 (b:=w.heap.size) y2
 have z3:w.heap.size≤w3.heap.size:=by omega
 have B3:=Lib.hid (B2.out.trans (hb3.mono z2))
 have R3_3:=Lib.hid (R2_3.out.below (hb3.mono (by omega)))
 have R3_4:=Lib.hid (R2_4.out.below (hb3.mono (by omega)))
 have R3_5:=Lib.hid (R2_5.out.below (hb3.mono (by omega)))
 have R3_6:=Lib.hid (R2_6.out.below (hb3.mono (by omega)))
 have R3_7:=Lib.hid (R2_7.out.below (hb3.mono (by omega)))
 have R3_8:=Lib.hid (R2_8.out.below (hb3.mono (by omega)))
 have R3_9:=Lib.hid (R2_9.out.below (hb3.mono (by omega)))
 have R3_10:=Lib.hid (R2_10.out.below (hb3.mono (by omega)))
 have R3_11:=Lib.hid (R2_11.out.below (hb3.mono (by omega)))
 have R3_12:=Lib.hid (R2_12.out.below (hb3.mono (by omega)))
 clear hb3
 have d2:decide (left-(sizL (x.terrain).tr:Int)-(sizL (x.network).tr:Int)-(siz (DBand.sT x.bands):Int)<0)=false:=by simp;omega
 go_wp2_with fail
 refine (sz_LicenceS x.licences v10 B _ _ R3_10.out (by omega) (by omega) (by omega) (hok.licences)).mono ?_
 rintro e w4 ⟨⟨c3,rfl⟩|⟨c3,rfl⟩,hb4⟩
 case inr =>
  go_wp2
  go_ret
  exact⟨Or.inr ⟨by omega,rfl⟩,B3.out.trans (hb4.mono z3)⟩
 obtain⟨q4,_,y4⟩:=bcellAt hb4 (b:=w.heap.size) y3
 have z4:w.heap.size≤w4.heap.size:=by omega
 have B4:=Lib.hid (B3.out.trans (hb4.mono z3))
 have R4_3:=Lib.hid (R3_3.out.below (hb4.mono (by omega)))
 have R4_4:=Lib.hid (R3_4.out.below (hb4.mono (by omega)))
 have R4_5:=Lib.hid (R3_5.out.below (hb4.mono (by omega)))
 have R4_6:=Lib.hid (R3_6.out.below (hb4.mono (by omega)))
 have R4_7:=Lib.hid (R3_7.out.below (hb4.mono (by omega)))
 have R4_8:=Lib.hid (R3_8.out.below (hb4.mono (by omega)))
 have R4_9:=Lib.hid (R3_9.out.below (hb4.mono (by omega)))
 have R4_10:=Lib.hid (R3_10.out.below (hb4.mono (by omega)))
 have R4_11:=Lib.hid (R3_11.out.below (hb4.mono (by omega)))
 have R4_12:=Lib.hid (R3_12.out.below (hb4.mono (by omega)))
 clear hb4
 have d3:decide (left-(sizL (x.terrain).tr:Int)-(sizL (x.network).tr:Int)-(siz (DBand.sT x.bands):Int)-(siz (DLicence.sT x.licences):Int)<0)=false:=by simp;omega
 go_wp2_with fail
 refine (sz_ProtectedS x.protected_ v11 B _ _ R4_11.out (by omega) (by omega) (by omega) (hok.protected_)).mono ?_
 rintro e w5 ⟨⟨c4,rfl⟩|⟨c4,rfl⟩,hb5⟩
 case inr =>
  go_wp2
  go_ret
  exact⟨Or.inr ⟨by omega,rfl⟩,B4.out.trans (hb5.mono z4)⟩
 obtain⟨q5,_,y5⟩:=bcellAt hb5 (b:=w.heap.size) y4
 have z5:w.heap.size≤w5.heap.size:=by omega
 have B5:=Lib.hid (B4.out.trans (hb5.mono z4))
 have R5_3:=Lib.hid (R4_3.out.below (hb5.mono (by omega)))
 have R5_4:=Lib.hid (R4_4.out.below (hb5.mono (by omega)))
 have R5_5:=Lib.hid (R4_5.out.below (hb5.mono (by omega)))
 have R5_6:=Lib.hid (R4_6.out.below (hb5.mono (by omega)))
 have R5_7:=Lib.hid (R4_7.out.below (hb5.mono (by omega)))
 have R5_8:=Lib.hid (R4_8.out.below (hb5.mono (by omega)))
 have R5_9:=Lib.hid (R4_9.out.below (hb5.mono (by omega)))
 have R5_10:=Lib.hid (R4_10.out.below (hb5.mono (by omega)))
 have R5_11:=Lib.hid (R4_11.out.below (hb5.mono (by omega)))
 have R5_12:=Lib.hid (R4_12.out.below (hb5.mono (by omega)))
 clear hb5
 have d4:decide (left-(sizL (x.terrain).tr:Int)-(sizL (x.network).tr:Int)-(siz (DBand.sT x.bands):Int)-(siz (DLicence.sT x.licences):Int)-(siz (DProtected.sT x.protected_):Int)<0)=false:=by simp;omega
 go_wp2_with fail
 refine (sz_Int64SS x.apart v12 B _ _ R5_12.out (by omega) (by omega) (by omega)).mono ?_
 rintro e w6 ⟨⟨c5,rfl⟩|⟨c5,rfl⟩,hb6⟩
 case inr =>
  go_wp2
  go_ret
  exact⟨Or.inr ⟨by omega,rfl⟩,B5.out.trans (hb6.mono z5)⟩
 obtain⟨q6,_,y6⟩:=bcellAt hb6 (b:=w.heap.size) y5
 have z6:w.heap.size≤w6.heap.size:=by omega
 have B6:=Lib.hid (B5.out.trans (hb6.mono z5))
 have R6_3:=Lib.hid (R5_3.out.below (hb6.mono (by omega)))
 have R6_4:=Lib.hid (R5_4.out.below (hb6.mono (by omega)))
 have R6_5:=Lib.hid (R5_5.out.below (hb6.mono (by omega)))
 have R6_6:=Lib.hid (R5_6.out.below (hb6.mono (by omega)))
 have R6_7:=Lib.hid (R5_7.out.below (hb6.mono (by omega)))
 have R6_8:=Lib.hid (R5_8.out.below (hb6.mono (by omega)))
 have R6_9:=Lib.hid (R5_9.out.below (hb6.mono (by omega)))
 have R6_10:=Lib.hid (R5_10.out.below (hb6.mono (by omega)))
 have R6_11:=Lib.hid (R5_11.out.below (hb6.mono (by omega)))
 have R6_12:=Lib.hid (R5_12.out.below (hb6.mono (by omega)))
 clear hb6
 have d5:decide (left-(sizL (x.terrain).tr:Int)-(sizL (x.network).tr:Int)-(siz (DBand.sT x.bands):Int)-(siz (DLicence.sT x.licences):Int)-(siz (DProtected.sT x.protected_):Int)-(siz (intssT x.apart):Int)<0)=false:=by simp;omega
 go_wp2
 go_ret
 exact⟨Or.inl ⟨by omega,ret_int (by omega)⟩,B6.out⟩
theorem to_Plan (x:DPlan) (v3 v4 v5 v6 v7 v8 v9 v10 v11 v12:Value) (w:World) (h3:Rd w.heap.size w (intsT x.terrain.heights) v3) (h4:Rd w.heap.size w (intsT x.terrain.clutter) v4) (h5:Rd w.heap.size w (DSite.sT x.network.sites) v5) (h6:Rd w.heap.size w (DSector.sT x.network.sectors) v6) (h7:Rd w.heap.size w (DAntenna.sT x.network.antennas) v7) (h8:Rd w.heap.size w (DRadio.sT x.network.radios) v8) (h9:Rd w.heap.size w (DBand.sT x.bands) v9) (h10:Rd w.heap.size w (DLicence.sT x.licences) v10) (h11:Rd w.heap.size w (DProtected.sT x.protected_) v11) (h12:Rd w.heap.size w (intssT x.apart) v12) (hn:sizL x.tr≤1048576) :
  Calls Tryz.prog 13 #[.agg #[.int .i64 x.terrain.step,.int .i64 x.terrain.width,.int .i64 x.terrain.height,v3,v4,v5,v6,v7,v8,v9,v10,v11,v12,.int .i64 x.day]] w fun e w'=>∃ a3 c3 a4 c4 a5 c5 a6 c6 a7 c7 a8 c8 a9 c9 a10 c10 a11 c11 a12 c12 fp,e=.returned (.agg #[.int .i64 x.terrain.step,.int .i64 x.terrain.width,.int .i64 x.terrain.height,.slice a3 x.terrain.heights.length c3,.slice a4 x.terrain.clutter.length c4,.slice a5 x.network.sites.length c5,.slice a6 x.network.sectors.length c6,.slice a7 x.network.antennas.length c7,.slice a8 x.network.radios.length c8,.slice a9 x.bands.length c9,.slice a10 x.licences.length c10,.slice a11 x.protected_.length c11,.slice a12 x.apart.length c12,.int .i64 x.day])∧Below w.heap.size w w'∧OwnV w' x.tr [.int .i64 x.terrain.step,.int .i64 x.terrain.width,.int .i64 x.terrain.height,.slice a3 x.terrain.heights.length c3,.slice a4 x.terrain.clutter.length c4,.slice a5 x.network.sites.length c5,.slice a6 x.network.sectors.length c6,.slice a7 x.network.antennas.length c7,.slice a8 x.network.radios.length c8,.slice a9 x.bands.length c9,.slice a10 x.licences.length c10,.slice a11 x.protected_.length c11,.slice a12 x.apart.length c12,.int .i64 x.day] fp∧In w.heap.size w'.heap.size fp:=by
 have hsum:=DPlan.siz_tr x
 go_enter Tryz.func13,Tryz.ntmps13
 have bX0:Below w.heap.size w (((w.alloc (.cells #[.int .i64 x.terrain.step,.int .i64 x.terrain.width,.int .i64 x.terrain.height,v3,v4,v5,v6,v7,v8,v9,v10,v11,v12,.int .i64 x.day] 36)).alloc (.cells #[.int .i64 0,.int .i64 0,.int .i64 0,.slice none 0 0,.slice none 0 0,.slice none 0 0,.slice none 0 0,.slice none 0 0,.slice none 0 0,.slice none 0 0,.slice none 0 0,.slice none 0 0,.slice none 0 0,.int .i64 0] 53)).alloc (.cells #[.int .i64 0,.int .i64 0,.int .i64 0,.slice none 0 0,.slice none 0 0,.slice none 0 0,.slice none 0 0,.slice none 0 0,.slice none 0 0,.slice none 0 0,.slice none 0 0,.slice none 0 0,.slice none 0 0,.int .i64 0] 53)):=(((Below.refl _ _).alloc (Nat.le_refl _) _).alloc (by simp) _).alloc (by first|(simp;done)|(simp;omega)) _
 have BX0:=Lib.hid bX0
 have zX0:w.heap.size+3≤(((w.alloc (.cells #[.int .i64 x.terrain.step,.int .i64 x.terrain.width,.int .i64 x.terrain.height,v3,v4,v5,v6,v7,v8,v9,v10,v11,v12,.int .i64 x.day] 36)).alloc (.cells #[.int .i64 0,.int .i64 0,.int .i64 0,.slice none 0 0,.slice none 0 0,.slice none 0 0,.slice none 0 0,.slice none 0 0,.slice none 0 0,.slice none 0 0,.slice none 0 0,.slice none 0 0,.slice none 0 0,.int .i64 0] 53)).alloc (.cells #[.int .i64 0,.int .i64 0,.int .i64 0,.slice none 0 0,.slice none 0 0,.slice none 0 0,.slice none 0 0,.slice none 0 0,.slice none 0 0,.slice none 0 0,.slice none 0 0,.slice none 0 0,.slice none 0 0,.int .i64 0] 53)).heap.size:=by first|(simp;done)|(simp;omega)
 clear bX0
 go_wp2_with fail
 refine (to_Terrain x.terrain v3 v4 (((w.alloc (.cells #[.int .i64 x.terrain.step,.int .i64 x.terrain.width,.int .i64 x.terrain.height,v3,v4,v5,v6,v7,v8,v9,v10,v11,v12,.int .i64 x.day] 36)).alloc (.cells #[.int .i64 0,.int .i64 0,.int .i64 0,.slice none 0 0,.slice none 0 0,.slice none 0 0,.slice none 0 0,.slice none 0 0,.slice none 0 0,.slice none 0 0,.slice none 0 0,.slice none 0 0,.slice none 0 0,.int .i64 0] 53)).alloc (.cells #[.int .i64 0,.int .i64 0,.int .i64 0,.slice none 0 0,.slice none 0 0,.slice none 0 0,.slice none 0 0,.slice none 0 0,.slice none 0 0,.slice none 0 0,.slice none 0 0,.slice none 0 0,.slice none 0 0,.int .i64 0] 53)) ((h3.below BX0.out).mono (by omega)) ((h4.below BX0.out).mono (by omega)) (by omega)).mono ?_
 rintro e w1 ⟨a3,c3,a4,c4,fp1,rfl,hb1,o1,i1⟩
 obtain⟨qa1,_,ya1⟩:=bcellAt hb1 (b:=w.heap.size) (by omega)
 obtain⟨qb1,qf1,yb1⟩:=bcellAt hb1 (b:=w.heap.size+1) (by omega)
 obtain⟨qc1,qg1,yc1⟩:=bcellAt hb1 (b:=w.heap.size+1+1) (by omega)
 have z1:=hb1.size
 have B1:=Lib.hid (BX0.out.trans (hb1.mono (by omega)))
 have y1:w.heap.size+3≤w1.heap.size:=by omega
 have j1:In (w.heap.size+3) w1.heap.size fp1:=i1.mono (by omega) (Nat.le_refl _)
 have P1_1:=Lib.hid o1
 clear hb1 o1 i1
 have BX1:=Lib.hid (((((B1.out.setCell (p:=⟨w.heap.size+1+1,0,none⟩) (by show w.heap.size≤w.heap.size+1+1;omega) (.int .i64 x.terrain.step)).setCell (p:=⟨w.heap.size+1+1,1,none⟩) (by show w.heap.size≤w.heap.size+1+1;omega) (.int .i64 x.terrain.width)).setCell (p:=⟨w.heap.size+1+1,2,none⟩) (by show w.heap.size≤w.heap.size+1+1;omega) (.int .i64 x.terrain.height)).setCell (p:=⟨w.heap.size+1+1,3,none⟩) (by show w.heap.size≤w.heap.size+1+1;omega) (.slice a3 x.terrain.heights.length c3)).setCell (p:=⟨w.heap.size+1+1,4,none⟩) (by show w.heap.size≤w.heap.size+1+1;omega) (.slice a4 x.terrain.clutter.length c4))
 have zX1:w.heap.size+3≤((((((w1.setCell ⟨w.heap.size+1+1,0,none⟩ (.int .i64 x.terrain.step)).setCell ⟨w.heap.size+1+1,1,none⟩ (.int .i64 x.terrain.width)).setCell ⟨w.heap.size+1+1,2,none⟩ (.int .i64 x.terrain.height)).setCell ⟨w.heap.size+1+1,3,none⟩ (.slice a3 x.terrain.heights.length c3)).setCell ⟨w.heap.size+1+1,4,none⟩ (.slice a4 x.terrain.clutter.length c4))).heap.size:=by simp only[size_setCell];omega
 go_wp2_with fail
 refine (to_Network x.network v5 v6 v7 v8 ((((((w1.setCell ⟨w.heap.size+1+1,0,none⟩ (.int .i64 x.terrain.step)).setCell ⟨w.heap.size+1+1,1,none⟩ (.int .i64 x.terrain.width)).setCell ⟨w.heap.size+1+1,2,none⟩ (.int .i64 x.terrain.height)).setCell ⟨w.heap.size+1+1,3,none⟩ (.slice a3 x.terrain.heights.length c3)).setCell ⟨w.heap.size+1+1,4,none⟩ (.slice a4 x.terrain.clutter.length c4))) ((h5.below BX1.out).mono (by omega)) ((h6.below BX1.out).mono (by omega)) ((h7.below BX1.out).mono (by omega)) ((h8.below BX1.out).mono (by omega)) (by omega)).mono ?_
 rintro e w2 ⟨a5,c5,a6,c6,a7,c7,a8,c8,fp2,rfl,hb2,o2,i2⟩
 obtain⟨qa2,_,ya2⟩:=bcellAt hb2 (b:=w.heap.size) (by omega)
 obtain⟨qb2,qf2,yb2⟩:=bcellAt hb2 (b:=w.heap.size+1) (by omega)
 obtain⟨qc2,qg2,yc2⟩:=bcellAt hb2 (b:=w.heap.size+1+1) (by omega)
 have z2:=hb2.size
 simp only[size_setCell] at z2
 have B2:=Lib.hid (BX1.out.trans (hb2.mono (by omega)))
 have y2:w.heap.size+3≤w2.heap.size:=by omega
 have P1_2:=Lib.hid ((((((P1_1.out.setFar (p:=⟨w.heap.size+1+1,0,none⟩) (fun e=>by have:=(j1 _ e).1;simp only at this;omega) (.int .i64 x.terrain.step)).setFar (p:=⟨w.heap.size+1+1,1,none⟩) (fun e=>by have:=(j1 _ e).1;simp only at this;omega) (.int .i64 x.terrain.width)).setFar (p:=⟨w.heap.size+1+1,2,none⟩) (fun e=>by have:=(j1 _ e).1;simp only at this;omega) (.int .i64 x.terrain.height)).setFar (p:=⟨w.heap.size+1+1,3,none⟩) (fun e=>by have:=(j1 _ e).1;simp only at this;omega) (.slice a3 x.terrain.heights.length c3)).setFar (p:=⟨w.heap.size+1+1,4,none⟩) (fun e=>by have:=(j1 _ e).1;simp only at this;omega) (.slice a4 x.terrain.clutter.length c4)).below j1 (by first|omega|(simp only[size_setCell];omega)) hb2)
 have j2:In (w1.heap.size) w2.heap.size fp2:=i2.mono (by simp only[size_setCell];omega) (Nat.le_refl _)
 have P2_2:=Lib.hid o2
 clear hb2 o2 i2
 have BX2:=Lib.hid ((((B2.out.setCell (p:=⟨w.heap.size+1+1,5,none⟩) (by show w.heap.size≤w.heap.size+1+1;omega) (.slice a5 x.network.sites.length c5)).setCell (p:=⟨w.heap.size+1+1,6,none⟩) (by show w.heap.size≤w.heap.size+1+1;omega) (.slice a6 x.network.sectors.length c6)).setCell (p:=⟨w.heap.size+1+1,7,none⟩) (by show w.heap.size≤w.heap.size+1+1;omega) (.slice a7 x.network.antennas.length c7)).setCell (p:=⟨w.heap.size+1+1,8,none⟩) (by show w.heap.size≤w.heap.size+1+1;omega) (.slice a8 x.network.radios.length c8))
 have zX2:w.heap.size+3≤(((((w2.setCell ⟨w.heap.size+1+1,5,none⟩ (.slice a5 x.network.sites.length c5)).setCell ⟨w.heap.size+1+1,6,none⟩ (.slice a6 x.network.sectors.length c6)).setCell ⟨w.heap.size+1+1,7,none⟩ (.slice a7 x.network.antennas.length c7)).setCell ⟨w.heap.size+1+1,8,none⟩ (.slice a8 x.network.radios.length c8))).heap.size:=by simp only[size_setCell];omega
 go_wp2_with fail
 refine (to_BandS x.bands v9 (((((w2.setCell ⟨w.heap.size+1+1,5,none⟩ (.slice a5 x.network.sites.length c5)).setCell ⟨w.heap.size+1+1,6,none⟩ (.slice a6 x.network.sectors.length c6)).setCell ⟨w.heap.size+1+1,7,none⟩ (.slice a7 x.network.antennas.length c7)).setCell ⟨w.heap.size+1+1,8,none⟩ (.slice a8 x.network.radios.length c8))) ((h9.below BX2.out).mono (by omega)) (by omega)).mono ?_
 rintro e w3 ⟨a9,c9,fp3,rfl,hb3,o3,i3⟩
 obtain⟨qa3,_,ya3⟩:=bcellAt hb3 (b:=w.heap.size) (by omega)
 obtain⟨qb3,qf3,yb3⟩:=bcellAt hb3 (b:=w.heap.size+1) (by omega)
 obtain⟨qc3,qg3,yc3⟩:=bcellAt hb3 (b:=w.heap.size+1+1) (by omega)
 have z3:=hb3.size
 simp only[size_setCell] at z3
 have B3:=Lib.hid (BX2.out.trans (hb3.mono (by omega)))
 have y3:w.heap.size+3≤w3.heap.size:=by omega
 have P1_3:=Lib.hid (((((P1_2.out.setFar (p:=⟨w.heap.size+1+1,5,none⟩) (fun e=>by have:=(j1 _ e).1;simp only at this;omega) (.slice a5 x.network.sites.length c5)).setFar (p:=⟨w.heap.size+1+1,6,none⟩) (fun e=>by have:=(j1 _ e).1;simp only at this;omega) (.slice a6 x.network.sectors.length c6)).setFar (p:=⟨w.heap.size+1+1,7,none⟩) (fun e=>by have:=(j1 _ e).1;simp only at this;omega) (.slice a7 x.network.antennas.length c7)).setFar (p:=⟨w.heap.size+1+1,8,none⟩) (fun e=>by have:=(j1 _ e).1;simp only at this;omega) (.slice a8 x.network.radios.length c8)).below j1 (by first|omega|(simp only[size_setCell];omega)) hb3)
 have P2_3:=Lib.hid (((((P2_2.out.setFar (p:=⟨w.heap.size+1+1,5,none⟩) (fun e=>by have:=(j2 _ e).1;simp only at this;omega) (.slice a5 x.network.sites.length c5)).setFar (p:=⟨w.heap.size+1+1,6,none⟩) (fun e=>by have:=(j2 _ e).1;simp only at this;omega) (.slice a6 x.network.sectors.length c6)).setFar (p:=⟨w.heap.size+1+1,7,none⟩) (fun e=>by have:=(j2 _ e).1;simp only at this;omega) (.slice a7 x.network.antennas.length c7)).setFar (p:=⟨w.heap.size+1+1,8,none⟩) (fun e=>by have:=(j2 _ e).1;simp only at this;omega) (.slice a8 x.network.radios.length c8)).below j2 (by first|omega|(simp only[size_setCell];omega)) hb3)
 have j3:In (w2.heap.size) w3.heap.size fp3:=i3.mono (by simp only[size_setCell];omega) (Nat.le_refl _)
 have P3_3:=Lib.hid o3
 clear hb3 o3 i3
 have BX3:=Lib.hid (B3.out.setCell (p:=⟨w.heap.size+1+1,9,none⟩) (by show w.heap.size≤w.heap.size+1+1;omega) (.slice a9 x.bands.length c9))
 have zX3:w.heap.size+3≤((w3.setCell ⟨w.heap.size+1+1,9,none⟩ (.slice a9 x.bands.length c9))).heap.size:=by simp only[size_setCell];omega
 go_wp2_with fail
 refine (to_LicenceS x.licences v10 ((w3.setCell ⟨w.heap.size+1+1,9,none⟩ (.slice a9 x.bands.length c9))) ((h10.below BX3.out).mono (by omega)) (by omega)).mono ?_
 rintro e w4 ⟨a10,c10,fp4,rfl,hb4,o4,i4⟩
 obtain⟨qa4,_,ya4⟩:=bcellAt hb4 (b:=w.heap.size) (by omega)
 obtain⟨qb4,qf4,yb4⟩:=bcellAt hb4 (b:=w.heap.size+1) (by omega)
 obtain⟨qc4,qg4,yc4⟩:=bcellAt hb4 (b:=w.heap.size+1+1) (by omega)
 have z4:=hb4.size
 simp only[size_setCell] at z4
 have B4:=Lib.hid (BX3.out.trans (hb4.mono (by omega)))
 have y4:w.heap.size+3≤w4.heap.size:=by omega
 have P1_4:=Lib.hid ((P1_3.out.setFar (p:=⟨w.heap.size+1+1,9,none⟩) (fun e=>by have:=(j1 _ e).1;simp only at this;omega) (.slice a9 x.bands.length c9)).below j1 (by first|omega|(simp only[size_setCell];omega)) hb4)
 have P2_4:=Lib.hid ((P2_3.out.setFar (p:=⟨w.heap.size+1+1,9,none⟩) (fun e=>by have:=(j2 _ e).1;simp only at this;omega) (.slice a9 x.bands.length c9)).below j2 (by first|omega|(simp only[size_setCell];omega)) hb4)
 have P3_4:=Lib.hid ((P3_3.out.setFar (p:=⟨w.heap.size+1+1,9,none⟩) (fun e=>by have:=(j3 _ e).1;simp only at this;omega) (.slice a9 x.bands.length c9)).below j3 (by first|omega|(simp only[size_setCell];omega)) hb4)
 have j4:In (w3.heap.size) w4.heap.size fp4:=i4.mono (by simp only[size_setCell];omega) (Nat.le_refl _)
 have P4_4:=Lib.hid o4
 clear hb4 o4 i4
 have BX4:=Lib.hid (B4.out.setCell (p:=⟨w.heap.size+1+1,10,none⟩) (by show w.heap.size≤w.heap.size+1+1;omega) (.slice a10 x.licences.length c10))
 have zX4:w.heap.size+3≤((w4.setCell ⟨w.heap.size+1+1,10,none⟩ (.slice a10 x.licences.length c10))).heap.size:=by simp only[size_setCell];omega
 go_wp2_with fail
 refine (to_ProtectedS x.protected_ v11 ((w4.setCell ⟨w.heap.size+1+1,10,none⟩ (.slice a10 x.licences.length c10))) ((h11.below BX4.out).mono (by omega)) (by omega)).mono ?_
 rintro e w5 ⟨a11,c11,fp5,rfl,hb5,o5,i5⟩
 obtain⟨qa5,_,ya5⟩:=bcellAt hb5 (b:=w.heap.size) (by omega)
 obtain⟨qb5,qf5,yb5⟩:=bcellAt hb5 (b:=w.heap.size+1) (by omega)
 obtain⟨qc5,qg5,yc5⟩:=bcellAt hb5 (b:=w.heap.size+1+1) (by omega)
 have z5:=hb5.size
 simp only[size_setCell] at z5
 have B5:=Lib.hid (BX4.out.trans (hb5.mono (by omega)))
 have y5:w.heap.size+3≤w5.heap.size:=by omega
 have P1_5:=Lib.hid ((P1_4.out.setFar (p:=⟨w.heap.size+1+1,10,none⟩) (fun e=>by have:=(j1 _ e).1;simp only at this;omega) (.slice a10 x.licences.length c10)).below j1 (by first|omega|(simp only[size_setCell];omega)) hb5)
 have P2_5:=Lib.hid ((P2_4.out.setFar (p:=⟨w.heap.size+1+1,10,none⟩) (fun e=>by have:=(j2 _ e).1;simp only at this;omega) (.slice a10 x.licences.length c10)).below j2 (by first|omega|(simp only[size_setCell];omega)) hb5)
 have P3_5:=Lib.hid ((P3_4.out.setFar (p:=⟨w.heap.size+1+1,10,none⟩) (fun e=>by have:=(j3 _ e).1;simp only at this;omega) (.slice a10 x.licences.length c10)).below j3 (by first|omega|(simp only[size_setCell];omega)) hb5)
 have P4_5:=Lib.hid ((P4_4.out.setFar (p:=⟨w.heap.size+1+1,10,none⟩) (fun e=>by have:=(j4 _ e).1;simp only at this;omega) (.slice a10 x.licences.length c10)).below j4 (by first|omega|(simp only[size_setCell];omega)) hb5)
 have j5:In (w4.heap.size) w5.heap.size fp5:=i5.mono (by simp only[size_setCell];omega) (Nat.le_refl _)
 have P5_5:=Lib.hid o5
 clear hb5 o5 i5
 have BX5:=Lib.hid (B5.out.setCell (p:=⟨w.heap.size+1+1,11,none⟩) (by show w.heap.size≤w.heap.size+1+1;omega) (.slice a11 x.protected_.length c11))
 have zX5:w.heap.size+3≤((w5.setCell ⟨w.heap.size+1+1,11,none⟩ (.slice a11 x.protected_.length c11))).heap.size:=by simp only[size_setCell];omega
 go_wp2_with fail
 refine (to_Int64SS x.apart v12 ((w5.setCell ⟨w.heap.size+1+1,11,none⟩ (.slice a11 x.protected_.length c11))) ((h12.below BX5.out).mono (by omega)) (by omega)).mono ?_
 rintro e w6 ⟨a12,c12,fp6,rfl,hb6,o6,i6⟩
 obtain⟨qa6,_,ya6⟩:=bcellAt hb6 (b:=w.heap.size) (by omega)
 obtain⟨qb6,qf6,yb6⟩:=bcellAt hb6 (b:=w.heap.size+1) (by omega)
 obtain⟨qc6,qg6,yc6⟩:=bcellAt hb6 (b:=w.heap.size+1+1) (by omega)
 have z6:=hb6.size
 simp only[size_setCell] at z6
 have B6:=Lib.hid (BX5.out.trans (hb6.mono (by omega)))
 have y6:w.heap.size+3≤w6.heap.size:=by omega
 have P1_6:=Lib.hid ((P1_5.out.setFar (p:=⟨w.heap.size+1+1,11,none⟩) (fun e=>by have:=(j1 _ e).1;simp only at this;omega) (.slice a11 x.protected_.length c11)).below j1 (by first|omega|(simp only[size_setCell];omega)) hb6)
 have P2_6:=Lib.hid ((P2_5.out.setFar (p:=⟨w.heap.size+1+1,11,none⟩) (fun e=>by have:=(j2 _ e).1;simp only at this;omega) (.slice a11 x.protected_.length c11)).below j2 (by first|omega|(simp only[size_setCell];omega)) hb6)
 have P3_6:=Lib.hid ((P3_5.out.setFar (p:=⟨w.heap.size+1+1,11,none⟩) (fun e=>by have:=(j3 _ e).1;simp only at this;omega) (.slice a11 x.protected_.length c11)).below j3 (by first|omega|(simp only[size_setCell];omega)) hb6)
 have P4_6:=Lib.hid ((P4_5.out.setFar (p:=⟨w.heap.size+1+1,11,none⟩) (fun e=>by have:=(j4 _ e).1;simp only at this;omega) (.slice a11 x.protected_.length c11)).below j4 (by first|omega|(simp only[size_setCell];omega)) hb6)
 have P5_6:=Lib.hid ((P5_5.out.setFar (p:=⟨w.heap.size+1+1,11,none⟩) (fun e=>by have:=(j5 _ e).1;simp only at this;omega) (.slice a11 x.protected_.length c11)).below j5 (by first|omega|(simp only[size_setCell];omega)) hb6)
 have j6:In (w5.heap.size) w6.heap.size fp6:=i6.mono (by simp only[size_setCell];omega) (Nat.le_refl _)
 have P6_6:=Lib.hid o6
 clear hb6 o6 i6
 go_wp2
 have F1:=Lib.hid ((((((((((((((((P1_6.out.setFar (p:=⟨w.heap.size+1+1,12,none⟩) (fun e=>by have:=(j1 _ e).1;simp only at this;omega) (.slice a12 x.apart.length c12)).setFar (p:=⟨w.heap.size+1+1,13,none⟩) (fun e=>by have:=(j1 _ e).1;simp only at this;omega) (.int .i64 x.day)).setFar (p:=⟨w.heap.size+1,0,none⟩) (fun e=>by have:=(j1 _ e).1;simp only at this;omega) (.int .i64 x.terrain.step)).setFar (p:=⟨w.heap.size+1,1,none⟩) (fun e=>by have:=(j1 _ e).1;simp only at this;omega) (.int .i64 x.terrain.width)).setFar (p:=⟨w.heap.size+1,2,none⟩) (fun e=>by have:=(j1 _ e).1;simp only at this;omega) (.int .i64 x.terrain.height)).setFar (p:=⟨w.heap.size+1,3,none⟩) (fun e=>by have:=(j1 _ e).1;simp only at this;omega) (.slice a3 x.terrain.heights.length c3)).setFar (p:=⟨w.heap.size+1,4,none⟩) (fun e=>by have:=(j1 _ e).1;simp only at this;omega) (.slice a4 x.terrain.clutter.length c4)).setFar (p:=⟨w.heap.size+1,5,none⟩) (fun e=>by have:=(j1 _ e).1;simp only at this;omega) (.slice a5 x.network.sites.length c5)).setFar (p:=⟨w.heap.size+1,6,none⟩) (fun e=>by have:=(j1 _ e).1;simp only at this;omega) (.slice a6 x.network.sectors.length c6)).setFar (p:=⟨w.heap.size+1,7,none⟩) (fun e=>by have:=(j1 _ e).1;simp only at this;omega) (.slice a7 x.network.antennas.length c7)).setFar (p:=⟨w.heap.size+1,8,none⟩) (fun e=>by have:=(j1 _ e).1;simp only at this;omega) (.slice a8 x.network.radios.length c8)).setFar (p:=⟨w.heap.size+1,9,none⟩) (fun e=>by have:=(j1 _ e).1;simp only at this;omega) (.slice a9 x.bands.length c9)).setFar (p:=⟨w.heap.size+1,10,none⟩) (fun e=>by have:=(j1 _ e).1;simp only at this;omega) (.slice a10 x.licences.length c10)).setFar (p:=⟨w.heap.size+1,11,none⟩) (fun e=>by have:=(j1 _ e).1;simp only at this;omega) (.slice a11 x.protected_.length c11)).setFar (p:=⟨w.heap.size+1,12,none⟩) (fun e=>by have:=(j1 _ e).1;simp only at this;omega) (.slice a12 x.apart.length c12)).setFar (p:=⟨w.heap.size+1,13,none⟩) (fun e=>by have:=(j1 _ e).1;simp only at this;omega) (.int .i64 x.day))
 have F2:=Lib.hid ((((((((((((((((P2_6.out.setFar (p:=⟨w.heap.size+1+1,12,none⟩) (fun e=>by have:=(j2 _ e).1;simp only at this;omega) (.slice a12 x.apart.length c12)).setFar (p:=⟨w.heap.size+1+1,13,none⟩) (fun e=>by have:=(j2 _ e).1;simp only at this;omega) (.int .i64 x.day)).setFar (p:=⟨w.heap.size+1,0,none⟩) (fun e=>by have:=(j2 _ e).1;simp only at this;omega) (.int .i64 x.terrain.step)).setFar (p:=⟨w.heap.size+1,1,none⟩) (fun e=>by have:=(j2 _ e).1;simp only at this;omega) (.int .i64 x.terrain.width)).setFar (p:=⟨w.heap.size+1,2,none⟩) (fun e=>by have:=(j2 _ e).1;simp only at this;omega) (.int .i64 x.terrain.height)).setFar (p:=⟨w.heap.size+1,3,none⟩) (fun e=>by have:=(j2 _ e).1;simp only at this;omega) (.slice a3 x.terrain.heights.length c3)).setFar (p:=⟨w.heap.size+1,4,none⟩) (fun e=>by have:=(j2 _ e).1;simp only at this;omega) (.slice a4 x.terrain.clutter.length c4)).setFar (p:=⟨w.heap.size+1,5,none⟩) (fun e=>by have:=(j2 _ e).1;simp only at this;omega) (.slice a5 x.network.sites.length c5)).setFar (p:=⟨w.heap.size+1,6,none⟩) (fun e=>by have:=(j2 _ e).1;simp only at this;omega) (.slice a6 x.network.sectors.length c6)).setFar (p:=⟨w.heap.size+1,7,none⟩) (fun e=>by have:=(j2 _ e).1;simp only at this;omega) (.slice a7 x.network.antennas.length c7)).setFar (p:=⟨w.heap.size+1,8,none⟩) (fun e=>by have:=(j2 _ e).1;simp only at this;omega) (.slice a8 x.network.radios.length c8)).setFar (p:=⟨w.heap.size+1,9,none⟩) (fun e=>by have:=(j2 _ e).1;simp only at this;omega) (.slice a9 x.bands.length c9)).setFar (p:=⟨w.heap.size+1,10,none⟩) (fun e=>by have:=(j2 _ e).1;simp only at this;omega) (.slice a10 x.licences.length c10)).setFar (p:=⟨w.heap.size+1,11,none⟩) (fun e=>by have:=(j2 _ e).1;simp only at this;omega) (.slice a11 x.protected_.length c11)).setFar (p:=⟨w.heap.size+1,12,none⟩) (fun e=>by have:=(j2 _ e).1;simp only at this;omega) (.slice a12 x.apart.length c12)).setFar (p:=⟨w.heap.size+1,13,none⟩) (fun e=>by have:=(j2 _ e).1;simp only at this;omega) (.int .i64 x.day))
 have F3:=Lib.hid ((((((((((((((((P3_6.out.setFar (p:=⟨w.heap.size+1+1,12,none⟩) (fun e=>by have:=(j3 _ e).1;simp only at this;omega) (.slice a12 x.apart.length c12)).setFar (p:=⟨w.heap.size+1+1,13,none⟩) (fun e=>by have:=(j3 _ e).1;simp only at this;omega) (.int .i64 x.day)).setFar (p:=⟨w.heap.size+1,0,none⟩) (fun e=>by have:=(j3 _ e).1;simp only at this;omega) (.int .i64 x.terrain.step)).setFar (p:=⟨w.heap.size+1,1,none⟩) (fun e=>by have:=(j3 _ e).1;simp only at this;omega) (.int .i64 x.terrain.width)).setFar (p:=⟨w.heap.size+1,2,none⟩) (fun e=>by have:=(j3 _ e).1;simp only at this;omega) (.int .i64 x.terrain.height)).setFar (p:=⟨w.heap.size+1,3,none⟩) (fun e=>by have:=(j3 _ e).1;simp only at this;omega) (.slice a3 x.terrain.heights.length c3)).setFar (p:=⟨w.heap.size+1,4,none⟩) (fun e=>by have:=(j3 _ e).1;simp only at this;omega) (.slice a4 x.terrain.clutter.length c4)).setFar (p:=⟨w.heap.size+1,5,none⟩) (fun e=>by have:=(j3 _ e).1;simp only at this;omega) (.slice a5 x.network.sites.length c5)).setFar (p:=⟨w.heap.size+1,6,none⟩) (fun e=>by have:=(j3 _ e).1;simp only at this;omega) (.slice a6 x.network.sectors.length c6)).setFar (p:=⟨w.heap.size+1,7,none⟩) (fun e=>by have:=(j3 _ e).1;simp only at this;omega) (.slice a7 x.network.antennas.length c7)).setFar (p:=⟨w.heap.size+1,8,none⟩) (fun e=>by have:=(j3 _ e).1;simp only at this;omega) (.slice a8 x.network.radios.length c8)).setFar (p:=⟨w.heap.size+1,9,none⟩) (fun e=>by have:=(j3 _ e).1;simp only at this;omega) (.slice a9 x.bands.length c9)).setFar (p:=⟨w.heap.size+1,10,none⟩) (fun e=>by have:=(j3 _ e).1;simp only at this;omega) (.slice a10 x.licences.length c10)).setFar (p:=⟨w.heap.size+1,11,none⟩) (fun e=>by have:=(j3 _ e).1;simp only at this;omega) (.slice a11 x.protected_.length c11)).setFar (p:=⟨w.heap.size+1,12,none⟩) (fun e=>by have:=(j3 _ e).1;simp only at this;omega) (.slice a12 x.apart.length c12)).setFar (p:=⟨w.heap.size+1,13,none⟩) (fun e=>by have:=(j3 _ e).1;simp only at this;omega) (.int .i64 x.day))
 have F4:=Lib.hid ((((((((((((((((P4_6.out.setFar (p:=⟨w.heap.size+1+1,12,none⟩) (fun e=>by have:=(j4 _ e).1;simp only at this;omega) (.slice a12 x.apart.length c12)).setFar (p:=⟨w.heap.size+1+1,13,none⟩) (fun e=>by have:=(j4 _ e).1;simp only at this;omega) (.int .i64 x.day)).setFar (p:=⟨w.heap.size+1,0,none⟩) (fun e=>by have:=(j4 _ e).1;simp only at this;omega) (.int .i64 x.terrain.step)).setFar (p:=⟨w.heap.size+1,1,none⟩) (fun e=>by have:=(j4 _ e).1;simp only at this;omega) (.int .i64 x.terrain.width)).setFar (p:=⟨w.heap.size+1,2,none⟩) (fun e=>by have:=(j4 _ e).1;simp only at this;omega) (.int .i64 x.terrain.height)).setFar (p:=⟨w.heap.size+1,3,none⟩) (fun e=>by have:=(j4 _ e).1;simp only at this;omega) (.slice a3 x.terrain.heights.length c3)).setFar (p:=⟨w.heap.size+1,4,none⟩) (fun e=>by have:=(j4 _ e).1;simp only at this;omega) (.slice a4 x.terrain.clutter.length c4)).setFar (p:=⟨w.heap.size+1,5,none⟩) (fun e=>by have:=(j4 _ e).1;simp only at this;omega) (.slice a5 x.network.sites.length c5)).setFar (p:=⟨w.heap.size+1,6,none⟩) (fun e=>by have:=(j4 _ e).1;simp only at this;omega) (.slice a6 x.network.sectors.length c6)).setFar (p:=⟨w.heap.size+1,7,none⟩) (fun e=>by have:=(j4 _ e).1;simp only at this;omega) (.slice a7 x.network.antennas.length c7)).setFar (p:=⟨w.heap.size+1,8,none⟩) (fun e=>by have:=(j4 _ e).1;simp only at this;omega) (.slice a8 x.network.radios.length c8)).setFar (p:=⟨w.heap.size+1,9,none⟩) (fun e=>by have:=(j4 _ e).1;simp only at this;omega) (.slice a9 x.bands.length c9)).setFar (p:=⟨w.heap.size+1,10,none⟩) (fun e=>by have:=(j4 _ e).1;simp only at this;omega) (.slice a10 x.licences.length c10)).setFar (p:=⟨w.heap.size+1,11,none⟩) (fun e=>by have:=(j4 _ e).1;simp only at this;omega) (.slice a11 x.protected_.length c11)).setFar (p:=⟨w.heap.size+1,12,none⟩) (fun e=>by have:=(j4 _ e).1;simp only at this;omega) (.slice a12 x.apart.length c12)).setFar (p:=⟨w.heap.size+1,13,none⟩) (fun e=>by have:=(j4 _ e).1;simp only at this;omega) (.int .i64 x.day))
 have F5:=Lib.hid ((((((((((((((((P5_6.out.setFar (p:=⟨w.heap.size+1+1,12,none⟩) (fun e=>by have:=(j5 _ e).1;simp only at this;omega) (.slice a12 x.apart.length c12)).setFar (p:=⟨w.heap.size+1+1,13,none⟩) (fun e=>by have:=(j5 _ e).1;simp only at this;omega) (.int .i64 x.day)).setFar (p:=⟨w.heap.size+1,0,none⟩) (fun e=>by have:=(j5 _ e).1;simp only at this;omega) (.int .i64 x.terrain.step)).setFar (p:=⟨w.heap.size+1,1,none⟩) (fun e=>by have:=(j5 _ e).1;simp only at this;omega) (.int .i64 x.terrain.width)).setFar (p:=⟨w.heap.size+1,2,none⟩) (fun e=>by have:=(j5 _ e).1;simp only at this;omega) (.int .i64 x.terrain.height)).setFar (p:=⟨w.heap.size+1,3,none⟩) (fun e=>by have:=(j5 _ e).1;simp only at this;omega) (.slice a3 x.terrain.heights.length c3)).setFar (p:=⟨w.heap.size+1,4,none⟩) (fun e=>by have:=(j5 _ e).1;simp only at this;omega) (.slice a4 x.terrain.clutter.length c4)).setFar (p:=⟨w.heap.size+1,5,none⟩) (fun e=>by have:=(j5 _ e).1;simp only at this;omega) (.slice a5 x.network.sites.length c5)).setFar (p:=⟨w.heap.size+1,6,none⟩) (fun e=>by have:=(j5 _ e).1;simp only at this;omega) (.slice a6 x.network.sectors.length c6)).setFar (p:=⟨w.heap.size+1,7,none⟩) (fun e=>by have:=(j5 _ e).1;simp only at this;omega) (.slice a7 x.network.antennas.length c7)).setFar (p:=⟨w.heap.size+1,8,none⟩) (fun e=>by have:=(j5 _ e).1;simp only at this;omega) (.slice a8 x.network.radios.length c8)).setFar (p:=⟨w.heap.size+1,9,none⟩) (fun e=>by have:=(j5 _ e).1;simp only at this;omega) (.slice a9 x.bands.length c9)).setFar (p:=⟨w.heap.size+1,10,none⟩) (fun e=>by have:=(j5 _ e).1;simp only at this;omega) (.slice a10 x.licences.length c10)).setFar (p:=⟨w.heap.size+1,11,none⟩) (fun e=>by have:=(j5 _ e).1;simp only at this;omega) (.slice a11 x.protected_.length c11)).setFar (p:=⟨w.heap.size+1,12,none⟩) (fun e=>by have:=(j5 _ e).1;simp only at this;omega) (.slice a12 x.apart.length c12)).setFar (p:=⟨w.heap.size+1,13,none⟩) (fun e=>by have:=(j5 _ e).1;simp only at this;omega) (.int .i64 x.day))
 have F6:=Lib.hid ((((((((((((((((P6_6.out.setFar (p:=⟨w.heap.size+1+1,12,none⟩) (fun e=>by have:=(j6 _ e).1;simp only at this;omega) (.slice a12 x.apart.length c12)).setFar (p:=⟨w.heap.size+1+1,13,none⟩) (fun e=>by have:=(j6 _ e).1;simp only at this;omega) (.int .i64 x.day)).setFar (p:=⟨w.heap.size+1,0,none⟩) (fun e=>by have:=(j6 _ e).1;simp only at this;omega) (.int .i64 x.terrain.step)).setFar (p:=⟨w.heap.size+1,1,none⟩) (fun e=>by have:=(j6 _ e).1;simp only at this;omega) (.int .i64 x.terrain.width)).setFar (p:=⟨w.heap.size+1,2,none⟩) (fun e=>by have:=(j6 _ e).1;simp only at this;omega) (.int .i64 x.terrain.height)).setFar (p:=⟨w.heap.size+1,3,none⟩) (fun e=>by have:=(j6 _ e).1;simp only at this;omega) (.slice a3 x.terrain.heights.length c3)).setFar (p:=⟨w.heap.size+1,4,none⟩) (fun e=>by have:=(j6 _ e).1;simp only at this;omega) (.slice a4 x.terrain.clutter.length c4)).setFar (p:=⟨w.heap.size+1,5,none⟩) (fun e=>by have:=(j6 _ e).1;simp only at this;omega) (.slice a5 x.network.sites.length c5)).setFar (p:=⟨w.heap.size+1,6,none⟩) (fun e=>by have:=(j6 _ e).1;simp only at this;omega) (.slice a6 x.network.sectors.length c6)).setFar (p:=⟨w.heap.size+1,7,none⟩) (fun e=>by have:=(j6 _ e).1;simp only at this;omega) (.slice a7 x.network.antennas.length c7)).setFar (p:=⟨w.heap.size+1,8,none⟩) (fun e=>by have:=(j6 _ e).1;simp only at this;omega) (.slice a8 x.network.radios.length c8)).setFar (p:=⟨w.heap.size+1,9,none⟩) (fun e=>by have:=(j6 _ e).1;simp only at this;omega) (.slice a9 x.bands.length c9)).setFar (p:=⟨w.heap.size+1,10,none⟩) (fun e=>by have:=(j6 _ e).1;simp only at this;omega) (.slice a10 x.licences.length c10)).setFar (p:=⟨w.heap.size+1,11,none⟩) (fun e=>by have:=(j6 _ e).1;simp only at this;omega) (.slice a11 x.protected_.length c11)).setFar (p:=⟨w.heap.size+1,12,none⟩) (fun e=>by have:=(j6 _ e).1;simp only at this;omega) (.slice a12 x.apart.length c12)).setFar (p:=⟨w.heap.size+1,13,none⟩) (fun e=>by have:=(j6 _ e).1;simp only at this;omega) (.int .i64 x.day))
 have BF:=Lib.hid ((((((((((((((((B6.out.setCell (p:=⟨w.heap.size+1+1,12,none⟩) (by show w.heap.size≤w.heap.size+1+1;omega) (.slice a12 x.apart.length c12)).setCell (p:=⟨w.heap.size+1+1,13,none⟩) (by show w.heap.size≤w.heap.size+1+1;omega) (.int .i64 x.day)).setCell (p:=⟨w.heap.size+1,0,none⟩) (by show w.heap.size≤w.heap.size+1;omega) (.int .i64 x.terrain.step)).setCell (p:=⟨w.heap.size+1,1,none⟩) (by show w.heap.size≤w.heap.size+1;omega) (.int .i64 x.terrain.width)).setCell (p:=⟨w.heap.size+1,2,none⟩) (by show w.heap.size≤w.heap.size+1;omega) (.int .i64 x.terrain.height)).setCell (p:=⟨w.heap.size+1,3,none⟩) (by show w.heap.size≤w.heap.size+1;omega) (.slice a3 x.terrain.heights.length c3)).setCell (p:=⟨w.heap.size+1,4,none⟩) (by show w.heap.size≤w.heap.size+1;omega) (.slice a4 x.terrain.clutter.length c4)).setCell (p:=⟨w.heap.size+1,5,none⟩) (by show w.heap.size≤w.heap.size+1;omega) (.slice a5 x.network.sites.length c5)).setCell (p:=⟨w.heap.size+1,6,none⟩) (by show w.heap.size≤w.heap.size+1;omega) (.slice a6 x.network.sectors.length c6)).setCell (p:=⟨w.heap.size+1,7,none⟩) (by show w.heap.size≤w.heap.size+1;omega) (.slice a7 x.network.antennas.length c7)).setCell (p:=⟨w.heap.size+1,8,none⟩) (by show w.heap.size≤w.heap.size+1;omega) (.slice a8 x.network.radios.length c8)).setCell (p:=⟨w.heap.size+1,9,none⟩) (by show w.heap.size≤w.heap.size+1;omega) (.slice a9 x.bands.length c9)).setCell (p:=⟨w.heap.size+1,10,none⟩) (by show w.heap.size≤w.heap.size+1;omega) (.slice a10 x.licences.length c10)).setCell (p:=⟨w.heap.size+1,11,none⟩) (by show w.heap.size≤w.heap.size+1;omega) (.slice a11 x.protected_.length c11)).setCell (p:=⟨w.heap.size+1,12,none⟩) (by show w.heap.size≤w.heap.size+1;omega) (.slice a12 x.apart.length c12)).setCell (p:=⟨w.heap.size+1,13,none⟩) (by show w.heap.size≤w.heap.size+1;omega) (.int .i64 x.day))
 refine bodyPost_ret (v:=.agg #[.int .i64 x.terrain.step,.int .i64 x.terrain.width,.int .i64 x.terrain.height,.slice a3 x.terrain.heights.length c3,.slice a4 x.terrain.clutter.length c4,.slice a5 x.network.sites.length c5,.slice a6 x.network.sectors.length c6,.slice a7 x.network.antennas.length c7,.slice a8 x.network.radios.length c8,.slice a9 x.bands.length c9,.slice a10 x.licences.length c10,.slice a11 x.protected_.length c11,.slice a12 x.apart.length c12,.int .i64 x.day]) (by simp[results,Tryz.results13,go_sem, *]) rfl ⟨a3,c3,a4,c4,a5,c5,a6,c6,a7,c7,a8,c8,a9,c9,a10,c10,a11,c11,a12,c12,fp1++(fp2++(fp3++(fp4++(fp5++(fp6++[]))))),rfl,BF.out,?_,?_⟩
 ·exact (OwnV.append F1.out (OwnV.append F2.out (OwnV.cons F3.out (OwnV.cons F4.out (OwnV.cons F5.out (OwnV.cons F6.out (OwnV.consLit OwnV.nil rfl) (fun x hx e=>by have h1:=j6 x hx;simp at e)) (fun x hx e=>by have h1:=j5 x hx;simp only[List.mem_append,List.not_mem_nil,or_false] at e;have h2:=j6 x e;omega)) (fun x hx e=>by have h1:=j4 x hx;simp only[List.mem_append,List.not_mem_nil,or_false] at e;rcases e with e|e<;>(first|(have h2:=j5 x e;omega)|(have h2:=j6 x e;omega)))) (fun x hx e=>by have h1:=j3 x hx;simp only[List.mem_append,List.not_mem_nil,or_false] at e;rcases e with e|e|e<;>(first|(have h2:=j4 x e;omega)|(have h2:=j5 x e;omega)|(have h2:=j6 x e;omega)))) (fun x hx e=>by have h1:=j2 x hx;simp only[List.mem_append,List.not_mem_nil,or_false] at e;rcases e with e|e|e|e<;>(first|(have h2:=j3 x e;omega)|(have h2:=j4 x e;omega)|(have h2:=j5 x e;omega)|(have h2:=j6 x e;omega)))) (fun x hx e=>by have h1:=j1 x hx;simp only[List.mem_append,List.not_mem_nil,or_false] at e;rcases e with e|e|e|e|e<;>(first|(have h2:=j2 x e;omega)|(have h2:=j3 x e;omega)|(have h2:=j4 x e;omega)|(have h2:=j5 x e;omega)|(have h2:=j6 x e;omega))))
 ·simp only[size_setCell]
  exact ((j1.mono (by omega) (by omega)).append ((j2.mono (by omega) (by omega)).append ((j3.mono (by omega) (by omega)).append ((j4.mono (by omega) (by omega)).append ((j5.mono (by omega) (by omega)).append ((j6.mono (by omega) (by omega)).append In.nil))))))
theorem eq_Plan (x:DPlan) (v3 u3 v4 u4 v5 u5 v6 u6 v7 u7 v8 u8 v9 u9 v10 u10 v11 u11 v12 u12:Value) (B:Nat) (w:World) (h3:Rd B w (intsT x.terrain.heights) v3) (g3:Rd B w (intsT x.terrain.heights) u3) (h4:Rd B w (intsT x.terrain.clutter) v4) (g4:Rd B w (intsT x.terrain.clutter) u4) (h5:Rd B w (DSite.sT x.network.sites) v5) (g5:Rd B w (DSite.sT x.network.sites) u5) (h6:Rd B w (DSector.sT x.network.sectors) v6) (g6:Rd B w (DSector.sT x.network.sectors) u6) (h7:Rd B w (DAntenna.sT x.network.antennas) v7) (g7:Rd B w (DAntenna.sT x.network.antennas) u7) (h8:Rd B w (DRadio.sT x.network.radios) v8) (g8:Rd B w (DRadio.sT x.network.radios) u8) (h9:Rd B w (DBand.sT x.bands) v9) (g9:Rd B w (DBand.sT x.bands) u9) (h10:Rd B w (DLicence.sT x.licences) v10) (g10:Rd B w (DLicence.sT x.licences) u10) (h11:Rd B w (DProtected.sT x.protected_) v11) (g11:Rd B w (DProtected.sT x.protected_) u11) (h12:Rd B w (intssT x.apart) v12) (g12:Rd B w (intssT x.apart) u12) (hB:B≤w.heap.size) (hn:sizL x.tr≤1099511627776) :
  Calls Tryz.prog 16 #[.agg #[.int .i64 x.terrain.step,.int .i64 x.terrain.width,.int .i64 x.terrain.height,v3,v4,v5,v6,v7,v8,v9,v10,v11,v12,.int .i64 x.day],.agg #[.int .i64 x.terrain.step,.int .i64 x.terrain.width,.int .i64 x.terrain.height,u3,u4,u5,u6,u7,u8,u9,u10,u11,u12,.int .i64 x.day]] w fun e w'=>e=.returned (.bool true)∧Below w.heap.size w w':=by
 have hsum:=DPlan.siz_tr x
 have b0:Below w.heap.size w ((w.alloc (.cells #[.int .i64 x.terrain.step,.int .i64 x.terrain.width,.int .i64 x.terrain.height,v3,v4,v5,v6,v7,v8,v9,v10,v11,v12,.int .i64 x.day] 53)).alloc (.cells #[.int .i64 x.terrain.step,.int .i64 x.terrain.width,.int .i64 x.terrain.height,u3,u4,u5,u6,u7,u8,u9,u10,u11,u12,.int .i64 x.day] 53)):=((Below.refl _ _).alloc (Nat.le_refl _) _).alloc (by simp) _
 have B0:=Lib.hid b0
 have y0:w.heap.size+2≤((w.alloc (.cells #[.int .i64 x.terrain.step,.int .i64 x.terrain.width,.int .i64 x.terrain.height,v3,v4,v5,v6,v7,v8,v9,v10,v11,v12,.int .i64 x.day] 53)).alloc (.cells #[.int .i64 x.terrain.step,.int .i64 x.terrain.width,.int .i64 x.terrain.height,u3,u4,u5,u6,u7,u8,u9,u10,u11,u12,.int .i64 x.day] 53)).heap.size:=by first|(simp;done)|(simp;omega)
 clear b0
 go_enter Tryz.func16,Tryz.ntmps16
 go_wp2_with fail
 refine (eq_Terrain x.terrain v3 u3 v4 u4 B _ (h3.below (B0.out.mono hB)) (g3.below (B0.out.mono hB)) (h4.below (B0.out.mono hB)) (g4.below (B0.out.mono hB)) (by omega) (by omega)).mono ?_
 rintro e w1 ⟨rfl,hb1⟩
 obtain⟨qa1,_,ya1⟩:=bcellAt hb1 (b:=w.heap.size) (by omega)
 obtain⟨qb1,_,yb1⟩:=bcellAt hb1 (b:=w.heap.size+1) (by omega)
 have y1:w.heap.size+2≤w1.heap.size:=by have:=hb1.size;omega
 have B1:=Lib.hid (B0.out.trans (hb1.mono (by omega)))
 clear hb1
 go_wp2_with fail
 refine (eq_Network x.network v5 u5 v6 u6 v7 u7 v8 u8 B _ (h5.below (B1.out.mono hB)) (g5.below (B1.out.mono hB)) (h6.below (B1.out.mono hB)) (g6.below (B1.out.mono hB)) (h7.below (B1.out.mono hB)) (g7.below (B1.out.mono hB)) (h8.below (B1.out.mono hB)) (g8.below (B1.out.mono hB)) (by omega) (by omega)).mono ?_
 rintro e w2 ⟨rfl,hb2⟩
 obtain⟨qa2,_,ya2⟩:=bcellAt hb2 (b:=w.heap.size) (by omega)
 obtain⟨qb2,_,yb2⟩:=bcellAt hb2 (b:=w.heap.size+1) (by omega)
 have y2:w.heap.size+2≤w2.heap.size:=by have:=hb2.size;omega
 have B2:=Lib.hid (B1.out.trans (hb2.mono (by omega)))
 clear hb2
 go_wp2_with fail
 refine (eq_BandS x.bands v9 u9 B _ (h9.below (B2.out.mono hB)) (g9.below (B2.out.mono hB)) (by omega) (by omega)).mono ?_
 rintro e w3 ⟨rfl,hb3⟩
 obtain⟨qa3,_,ya3⟩:=bcellAt hb3 (b:=w.heap.size) (by omega)
 obtain⟨qb3,_,yb3⟩:=bcellAt hb3 (b:=w.heap.size+1) (by omega)
 have y3:w.heap.size+2≤w3.heap.size:=by have:=hb3.size;omega
 have B3:=Lib.hid (B2.out.trans (hb3.mono (by omega)))
 clear hb3
 go_wp2_with fail
 refine (eq_LicenceS x.licences v10 u10 B _ (h10.below (B3.out.mono hB)) (g10.below (B3.out.mono hB)) (by omega) (by omega)).mono ?_
 rintro e w4 ⟨rfl,hb4⟩
 obtain⟨qa4,_,ya4⟩:=bcellAt hb4 (b:=w.heap.size) (by omega)
 obtain⟨qb4,_,yb4⟩:=bcellAt hb4 (b:=w.heap.size+1) (by omega)
 have y4:w.heap.size+2≤w4.heap.size:=by have:=hb4.size;omega
 have B4:=Lib.hid (B3.out.trans (hb4.mono (by omega)))
 clear hb4
 go_wp2_with fail
 refine (eq_ProtectedS x.protected_ v11 u11 B _ (h11.below (B4.out.mono hB)) (g11.below (B4.out.mono hB)) (by omega) (by omega)).mono ?_
 rintro e w5 ⟨rfl,hb5⟩
 obtain⟨qa5,_,ya5⟩:=bcellAt hb5 (b:=w.heap.size) (by omega)
 obtain⟨qb5,_,yb5⟩:=bcellAt hb5 (b:=w.heap.size+1) (by omega)
 have y5:w.heap.size+2≤w5.heap.size:=by have:=hb5.size;omega
 have B5:=Lib.hid (B4.out.trans (hb5.mono (by omega)))
 clear hb5
 go_wp2_with fail
 refine (eq_Int64SS x.apart v12 u12 B _ (h12.below (B5.out.mono hB)) (g12.below (B5.out.mono hB)) (by omega) (by omega)).mono ?_
 rintro e w6 ⟨rfl,hb6⟩
 obtain⟨qa6,_,ya6⟩:=bcellAt hb6 (b:=w.heap.size) (by omega)
 obtain⟨qb6,_,yb6⟩:=bcellAt hb6 (b:=w.heap.size+1) (by omega)
 have y6:w.heap.size+2≤w6.heap.size:=by have:=hb6.size;omega
 have B6:=Lib.hid (B5.out.trans (hb6.mono (by omega)))
 clear hb6
 go_wp2
 go_ret
 exact⟨rfl,B6.out⟩
end Go.Proofs.YtjfmkmcefnidcaaGreat
