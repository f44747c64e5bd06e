/- Contracts of the laws' helpers over the type Network and slices of it. Conditions: bounded lengths. -/
import Derived.Test.YtjfmkmcefnidcaaGreatSl
import Derived.Test.YtjfmkmcefnidcaaGreatTypes
import Derived.Test.YtjfmkmcefnidcaaGreatHArea
import Derived.Test.YtjfmkmcefnidcaaGreatOver
import Derived.Test.YtjfmkmcefnidcaaGreatHSite
import Derived.Test.YtjfmkmcefnidcaaGreatHSector
import Derived.Test.YtjfmkmcefnidcaaGreatHAntenna
import Derived.Test.YtjfmkmcefnidcaaGreatHRadio
namespace Go.Proofs.YtjfmkmcefnidcaaGreat
set_option maxHeartbeats 4000000
set_option maxRecDepth 100000
open Go.RowKit
set_option linter.unusedVariables false
theorem DNetwork.siz_tr (x:DNetwork):sizL x.tr=siz (DSite.sT x.sites)+siz (DSector.sT x.sectors)+siz (DAntenna.sT x.antennas)+siz (DRadio.sT x.radios):=by
 simp only[DNetwork.tr,sizL]
 omega
theorem sz_Network (x:DNetwork) (v0 v1 v2 v3:Value) (B:Nat) (left:Int) (w:World) (h0:Rd B w (DSite.sT x.sites) v0) (h1:Rd B w (DSector.sT x.sectors) v1) (h2:Rd B w (DAntenna.sT x.antennas) v2) (h3:Rd B w (DRadio.sT x.radios) v3) (hB:B≤w.heap.size) (hl:0≤left) (hl2:left≤1048576) (hok:x.ok) :
  Calls Tryz.prog 39 #[.agg #[v0,v1,v2,v3],.int .i64 left] w (SzPost (sizL x.tr) left w):=by
 have hsum:=DNetwork.siz_tr x
 have b0:Below w.heap.size w (w.alloc (.cells #[v0,v1,v2,v3] 30)):=(Below.refl _ _).alloc (Nat.le_refl _) _
 have B0:=Lib.hid b0
 have z0:w.heap.size≤(w.alloc (.cells #[v0,v1,v2,v3] 30)).heap.size:=b0.size
 have y0:w.heap.size<(w.alloc (.cells #[v0,v1,v2,v3] 30)).heap.size:=by simp
 have R0_0:=Lib.hid (h0.below (b0.mono hB))
 have R0_1:=Lib.hid (h1.below (b0.mono hB))
 have R0_2:=Lib.hid (h2.below (b0.mono hB))
 have R0_3:=Lib.hid (h3.below (b0.mono hB))
 clear b0 h0 h1 h2 h3
 go_enter Tryz.func39,Tryz.ntmps39
 go_wp2_with fail
 refine (sz_SiteS x.sites v0 B _ _ R0_0.out (by omega) (by omega) (by omega) (hok.sites)).mono ?_
 rintro e w1 ⟨⟨c0,rfl⟩|⟨c0,rfl⟩,hb1⟩
 case inr =>
  go_wp2
  go_ret
  exact⟨Or.inr ⟨by omega,rfl⟩,B0.out.trans (hb1.mono z0)⟩
 obtain⟨q1,_,y1⟩:=bcellAt hb1 (b:=w.heap.size) y0
 have z1:w.heap.size≤w1.heap.size:=by omega
 have B1:=Lib.hid (B0.out.trans (hb1.mono z0))
 have R1_0:=Lib.hid (R0_0.out.below (hb1.mono (by omega)))
 have R1_1:=Lib.hid (R0_1.out.below (hb1.mono (by omega)))
 have R1_2:=Lib.hid (R0_2.out.below (hb1.mono (by omega)))
 have R1_3:=Lib.hid (R0_3.out.below (hb1.mono (by omega)))
 clear hb1
 have d0:decide (left-(siz (DSite.sT x.sites):Int)<0)=false:=by simp;omega
 go_wp2_with fail
 refine (sz_SectorS x.sectors v1 B _ _ R1_1.out (by omega) (by omega) (by omega) (hok.sectors)).mono ?_
 rintro e w2 ⟨⟨c1,rfl⟩|⟨c1,rfl⟩,hb2⟩
 case inr =>
  go_wp2
  go_ret
  exact⟨Or.inr ⟨by omega,rfl⟩,B1.out.trans (hb2.mono z1)⟩
 obtain⟨q2,_,y2⟩:=bcellAt hb2 (b:=w.heap.size) y1
 have z2:w.heap.size≤w2.heap.size:=by omega
 have B2:=Lib.hid (B1.out.trans (hb2.mono z1))
 have R2_0:=Lib.hid (R1_0.out.below (hb2.mono (by omega)))
 have R2_1:=Lib.hid (R1_1.out.below (hb2.mono (by omega)))
 have R2_2:=Lib.hid (R1_2.out.below (hb2.mono (by omega)))
 have R2_3:=Lib.hid (R1_3.out.below (hb2.mono (by omega)))
 clear hb2
 have d1:decide (left-(siz (DSite.sT x.sites):Int)-(siz (DSector.sT x.sectors):Int)<0)=false:=by simp;omega
 go_wp2_with fail
 refine (sz_AntennaS x.antennas v2 B _ _ R2_2.out (by omega) (by omega) (by omega) (hok.antennas)).mono ?_
 rintro e w3 ⟨⟨c2,rfl⟩|⟨c2,rfl⟩,hb3⟩
 case inr =>
  go_wp2
  go_ret
  exact⟨Or.inr ⟨by omega,rfl⟩,B2.out.trans (hb3.mono z2)⟩
 obtain⟨q3,_,y3⟩:=bcellAt hb3 (b:=w.heap.size) y2
 have z3:w.heap.size≤w3.heap.size:=by omega
 have B3:=Lib.hid (B2.out.trans (hb3.mono z2))
 have R3_0:=Lib.hid (R2_0.out.below (hb3.mono (by omega)))
 have R3_1:=Lib.hid (R2_1.out.below (hb3.mono (by omega)))
 have R3_2:=Lib.hid (R2_2.out.below (hb3.mono (by omega)))
 have R3_3:=Lib.hid (R2_3.out.below (hb3.mono (by omega)))
 clear hb3
 have d2:decide (left-(siz (DSite.sT x.sites):Int)-(siz (DSector.sT x.sectors):Int)-(siz (DAntenna.sT x.antennas):Int)<0)=false:=by simp;omega
 go_wp2_with fail
 refine (sz_RadioS x.radios v3 B _ _ R3_3.out (by omega) (by omega) (by omega) (hok.radios)).mono ?_
 rintro e w4 ⟨⟨c3,rfl⟩|⟨c3,rfl⟩,hb4⟩
 case inr =>
  go_wp2
  go_ret
  exact⟨Or.inr ⟨by omega,rfl⟩,B3.out.trans (hb4.mono z3)⟩
 obtain⟨q4,_,y4⟩:=bcellAt hb4 (b:=w.heap.size) y3
 have z4:w.heap.size≤w4.heap.size:=by omega
 have B4:=Lib.hid (B3.out.trans (hb4.mono z3))
 have R4_0:=Lib.hid (R3_0.out.below (hb4.mono (by omega)))
 have R4_1:=Lib.hid (R3_1.out.below (hb4.mono (by omega)))
 have R4_2:=Lib.hid (R3_2.out.below (hb4.mono (by omega)))
 have R4_3:=Lib.hid (R3_3.out.below (hb4.mono (by omega)))
 clear hb4
 have d3:decide (left-(siz (DSite.sT x.sites):Int)-(siz (DSector.sT x.sectors):Int)-(siz (DAntenna.sT x.antennas):Int)-(siz (DRadio.sT x.radios):Int)<0)=false:=by simp;omega
 go_wp2
 go_ret
 exact⟨Or.inl ⟨by omega,ret_int (by omega)⟩,B4.out⟩
theorem to_Network (x:DNetwork) (v0 v1 v2 v3:Value) (w:World) (h0:Rd w.heap.size w (DSite.sT x.sites) v0) (h1:Rd w.heap.size w (DSector.sT x.sectors) v1) (h2:Rd w.heap.size w (DAntenna.sT x.antennas) v2) (h3:Rd w.heap.size w (DRadio.sT x.radios) v3) (hn:sizL x.tr≤1048576) :
  Calls Tryz.prog 47 #[.agg #[v0,v1,v2,v3]] w fun e w'=>∃ a0 c0 a1 c1 a2 c2 a3 c3 fp,e=.returned (.agg #[.slice a0 x.sites.length c0,.slice a1 x.sectors.length c1,.slice a2 x.antennas.length c2,.slice a3 x.radios.length c3])∧Below w.heap.size w w'∧OwnV w' x.tr [.slice a0 x.sites.length c0,.slice a1 x.sectors.length c1,.slice a2 x.antennas.length c2,.slice a3 x.radios.length c3] fp∧In w.heap.size w'.heap.size fp:=by
 have hsum:=DNetwork.siz_tr x
 go_enter Tryz.func47,Tryz.ntmps47
 have bX0:Below w.heap.size w (((w.alloc (.cells #[v0,v1,v2,v3] 30)).alloc (.cells #[.slice none 0 0,.slice none 0 0,.slice none 0 0,.slice none 0 0] 48)).alloc (.cells #[.slice none 0 0,.slice none 0 0,.slice none 0 0,.slice none 0 0] 48)):=(((Below.refl _ _).alloc (Nat.le_refl _) _).alloc (by simp) _).alloc (by first|(simp;done)|(simp;omega)) _
 have BX0:=Lib.hid bX0
 have zX0:w.heap.size+3≤(((w.alloc (.cells #[v0,v1,v2,v3] 30)).alloc (.cells #[.slice none 0 0,.slice none 0 0,.slice none 0 0,.slice none 0 0] 48)).alloc (.cells #[.slice none 0 0,.slice none 0 0,.slice none 0 0,.slice none 0 0] 48)).heap.size:=by first|(simp;done)|(simp;omega)
 clear bX0
 go_wp2_with fail
 refine (to_SiteS x.sites v0 (((w.alloc (.cells #[v0,v1,v2,v3] 30)).alloc (.cells #[.slice none 0 0,.slice none 0 0,.slice none 0 0,.slice none 0 0] 48)).alloc (.cells #[.slice none 0 0,.slice none 0 0,.slice none 0 0,.slice none 0 0] 48)) ((h0.below BX0.out).mono (by omega)) (by omega)).mono ?_
 rintro e w1 ⟨a0,c0,fp1,rfl,hb1,o1,i1⟩
 obtain⟨qa1,_,ya1⟩:=bcellAt hb1 (b:=w.heap.size) (by omega)
 obtain⟨qb1,qf1,yb1⟩:=bcellAt hb1 (b:=w.heap.size+1) (by omega)
 obtain⟨qc1,qg1,yc1⟩:=bcellAt hb1 (b:=w.heap.size+1+1) (by omega)
 have z1:=hb1.size
 have B1:=Lib.hid (BX0.out.trans (hb1.mono (by omega)))
 have y1:w.heap.size+3≤w1.heap.size:=by omega
 have j1:In (w.heap.size+3) w1.heap.size fp1:=i1.mono (by omega) (Nat.le_refl _)
 have P1_1:=Lib.hid o1
 clear hb1 o1 i1
 have BX1:=Lib.hid (B1.out.setCell (p:=⟨w.heap.size+1+1,0,none⟩) (by show w.heap.size≤w.heap.size+1+1;omega) (.slice a0 x.sites.length c0))
 have zX1:w.heap.size+3≤((w1.setCell ⟨w.heap.size+1+1,0,none⟩ (.slice a0 x.sites.length c0))).heap.size:=by simp only[size_setCell];omega
 go_wp2_with fail
 refine (to_SectorS x.sectors v1 ((w1.setCell ⟨w.heap.size+1+1,0,none⟩ (.slice a0 x.sites.length c0))) ((h1.below BX1.out).mono (by omega)) (by omega)).mono ?_
 rintro e w2 ⟨a1,c1,fp2,rfl,hb2,o2,i2⟩
 obtain⟨qa2,_,ya2⟩:=bcellAt hb2 (b:=w.heap.size) (by omega)
 obtain⟨qb2,qf2,yb2⟩:=bcellAt hb2 (b:=w.heap.size+1) (by omega)
 obtain⟨qc2,qg2,yc2⟩:=bcellAt hb2 (b:=w.heap.size+1+1) (by omega)
 have z2:=hb2.size
 simp only[size_setCell] at z2
 have B2:=Lib.hid (BX1.out.trans (hb2.mono (by omega)))
 have y2:w.heap.size+3≤w2.heap.size:=by omega
 have P1_2:=Lib.hid ((P1_1.out.setFar (p:=⟨w.heap.size+1+1,0,none⟩) (fun e=>by have:=(j1 _ e).1;simp only at this;omega) (.slice a0 x.sites.length c0)).below j1 (by first|omega|(simp only[size_setCell];omega)) hb2)
 have j2:In (w1.heap.size) w2.heap.size fp2:=i2.mono (by simp only[size_setCell];omega) (Nat.le_refl _)
 have P2_2:=Lib.hid o2
 clear hb2 o2 i2
 have BX2:=Lib.hid (B2.out.setCell (p:=⟨w.heap.size+1+1,1,none⟩) (by show w.heap.size≤w.heap.size+1+1;omega) (.slice a1 x.sectors.length c1))
 have zX2:w.heap.size+3≤((w2.setCell ⟨w.heap.size+1+1,1,none⟩ (.slice a1 x.sectors.length c1))).heap.size:=by simp only[size_setCell];omega
 go_wp2_with fail
 refine (to_AntennaS x.antennas v2 ((w2.setCell ⟨w.heap.size+1+1,1,none⟩ (.slice a1 x.sectors.length c1))) ((h2.below BX2.out).mono (by omega)) (by omega)).mono ?_
 rintro e w3 ⟨a2,c2,fp3,rfl,hb3,o3,i3⟩
 obtain⟨qa3,_,ya3⟩:=bcellAt hb3 (b:=w.heap.size) (by omega)
 obtain⟨qb3,qf3,yb3⟩:=bcellAt hb3 (b:=w.heap.size+1) (by omega)
 obtain⟨qc3,qg3,yc3⟩:=bcellAt hb3 (b:=w.heap.size+1+1) (by omega)
 have z3:=hb3.size
 simp only[size_setCell] at z3
 have B3:=Lib.hid (BX2.out.trans (hb3.mono (by omega)))
 have y3:w.heap.size+3≤w3.heap.size:=by omega
 have P1_3:=Lib.hid ((P1_2.out.setFar (p:=⟨w.heap.size+1+1,1,none⟩) (fun e=>by have:=(j1 _ e).1;simp only at this;omega) (.slice a1 x.sectors.length c1)).below j1 (by first|omega|(simp only[size_setCell];omega)) hb3)
 have P2_3:=Lib.hid ((P2_2.out.setFar (p:=⟨w.heap.size+1+1,1,none⟩) (fun e=>by have:=(j2 _ e).1;simp only at this;omega) (.slice a1 x.sectors.length c1)).below j2 (by first|omega|(simp only[size_setCell];omega)) hb3)
 have j3:In (w2.heap.size) w3.heap.size fp3:=i3.mono (by simp only[size_setCell];omega) (Nat.le_refl _)
 have P3_3:=Lib.hid o3
 clear hb3 o3 i3
 have BX3:=Lib.hid (B3.out.setCell (p:=⟨w.heap.size+1+1,2,none⟩) (by show w.heap.size≤w.heap.size+1+1;omega) (.slice a2 x.antennas.length c2))
 have zX3:w.heap.size+3≤((w3.setCell ⟨w.heap.size+1+1,2,none⟩ (.slice a2 x.antennas.length c2))).heap.size:=by simp only[size_setCell];omega
 go_wp2_with fail
 refine (to_RadioS x.radios v3 ((w3.setCell ⟨w.heap.size+1+1,2,none⟩ (.slice a2 x.antennas.length c2))) ((h3.below BX3.out).mono (by omega)) (by omega)).mono ?_
 rintro e w4 ⟨a3,c3,fp4,rfl,hb4,o4,i4⟩
 obtain⟨qa4,_,ya4⟩:=bcellAt hb4 (b:=w.heap.size) (by omega)
 obtain⟨qb4,qf4,yb4⟩:=bcellAt hb4 (b:=w.heap.size+1) (by omega)
 obtain⟨qc4,qg4,yc4⟩:=bcellAt hb4 (b:=w.heap.size+1+1) (by omega)
 have z4:=hb4.size
 simp only[size_setCell] at z4
 have B4:=Lib.hid (BX3.out.trans (hb4.mono (by omega)))
 have y4:w.heap.size+3≤w4.heap.size:=by omega
 have P1_4:=Lib.hid ((P1_3.out.setFar (p:=⟨w.heap.size+1+1,2,none⟩) (fun e=>by have:=(j1 _ e).1;simp only at this;omega) (.slice a2 x.antennas.length c2)).below j1 (by first|omega|(simp only[size_setCell];omega)) hb4)
 have P2_4:=Lib.hid ((P2_3.out.setFar (p:=⟨w.heap.size+1+1,2,none⟩) (fun e=>by have:=(j2 _ e).1;simp only at this;omega) (.slice a2 x.antennas.length c2)).below j2 (by first|omega|(simp only[size_setCell];omega)) hb4)
 have P3_4:=Lib.hid ((P3_3.out.setFar (p:=⟨w.heap.size+1+1,2,none⟩) (fun e=>by have:=(j3 _ e).1;simp only at this;omega) (.slice a2 x.antennas.length c2)).below j3 (by first|omega|(simp only[size_setCell];omega)) hb4)
 have j4:In (w3.heap.size) w4.heap.size fp4:=i4.mono (by simp only[size_setCell];omega) (Nat.le_refl _)
 have P4_4:=Lib.hid o4
 clear hb4 o4 i4
 go_wp2
 have F1:=Lib.hid (((((P1_4.out.setFar (p:=⟨w.heap.size+1+1,3,none⟩) (fun e=>by have:=(j1 _ e).1;simp only at this;omega) (.slice a3 x.radios.length c3)).setFar (p:=⟨w.heap.size+1,0,none⟩) (fun e=>by have:=(j1 _ e).1;simp only at this;omega) (.slice a0 x.sites.length c0)).setFar (p:=⟨w.heap.size+1,1,none⟩) (fun e=>by have:=(j1 _ e).1;simp only at this;omega) (.slice a1 x.sectors.length c1)).setFar (p:=⟨w.heap.size+1,2,none⟩) (fun e=>by have:=(j1 _ e).1;simp only at this;omega) (.slice a2 x.antennas.length c2)).setFar (p:=⟨w.heap.size+1,3,none⟩) (fun e=>by have:=(j1 _ e).1;simp only at this;omega) (.slice a3 x.radios.length c3))
 have F2:=Lib.hid (((((P2_4.out.setFar (p:=⟨w.heap.size+1+1,3,none⟩) (fun e=>by have:=(j2 _ e).1;simp only at this;omega) (.slice a3 x.radios.length c3)).setFar (p:=⟨w.heap.size+1,0,none⟩) (fun e=>by have:=(j2 _ e).1;simp only at this;omega) (.slice a0 x.sites.length c0)).setFar (p:=⟨w.heap.size+1,1,none⟩) (fun e=>by have:=(j2 _ e).1;simp only at this;omega) (.slice a1 x.sectors.length c1)).setFar (p:=⟨w.heap.size+1,2,none⟩) (fun e=>by have:=(j2 _ e).1;simp only at this;omega) (.slice a2 x.antennas.length c2)).setFar (p:=⟨w.heap.size+1,3,none⟩) (fun e=>by have:=(j2 _ e).1;simp only at this;omega) (.slice a3 x.radios.length c3))
 have F3:=Lib.hid (((((P3_4.out.setFar (p:=⟨w.heap.size+1+1,3,none⟩) (fun e=>by have:=(j3 _ e).1;simp only at this;omega) (.slice a3 x.radios.length c3)).setFar (p:=⟨w.heap.size+1,0,none⟩) (fun e=>by have:=(j3 _ e).1;simp only at this;omega) (.slice a0 x.sites.length c0)).setFar (p:=⟨w.heap.size+1,1,none⟩) (fun e=>by have:=(j3 _ e).1;simp only at this;omega) (.slice a1 x.sectors.length c1)).setFar (p:=⟨w.heap.size+1,2,none⟩) (fun e=>by have:=(j3 _ e).1;simp only at this;omega) (.slice a2 x.antennas.length c2)).setFar (p:=⟨w.heap.size+1,3,none⟩) (fun e=>by have:=(j3 _ e).1;simp only at this;omega) (.slice a3 x.radios.length c3))
 have F4:=Lib.hid (((((P4_4.out.setFar (p:=⟨w.heap.size+1+1,3,none⟩) (fun e=>by have:=(j4 _ e).1;simp only at this;omega) (.slice a3 x.radios.length c3)).setFar (p:=⟨w.heap.size+1,0,none⟩) (fun e=>by have:=(j4 _ e).1;simp only at this;omega) (.slice a0 x.sites.length c0)).setFar (p:=⟨w.heap.size+1,1,none⟩) (fun e=>by have:=(j4 _ e).1;simp only at this;omega) (.slice a1 x.sectors.length c1)).setFar (p:=⟨w.heap.size+1,2,none⟩) (fun e=>by have:=(j4 _ e).1;simp only at this;omega) (.slice a2 x.antennas.length c2)).setFar (p:=⟨w.heap.size+1,3,none⟩) (fun e=>by have:=(j4 _ e).1;simp only at this;omega) (.slice a3 x.radios.length c3))
 have BF:=Lib.hid (((((B4.out.setCell (p:=⟨w.heap.size+1+1,3,none⟩) (by show w.heap.size≤w.heap.size+1+1;omega) (.slice a3 x.radios.length c3)).setCell (p:=⟨w.heap.size+1,0,none⟩) (by show w.heap.size≤w.heap.size+1;omega) (.slice a0 x.sites.length c0)).setCell (p:=⟨w.heap.size+1,1,none⟩) (by show w.heap.size≤w.heap.size+1;omega) (.slice a1 x.sectors.length c1)).setCell (p:=⟨w.heap.size+1,2,none⟩) (by show w.heap.size≤w.heap.size+1;omega) (.slice a2 x.antennas.length c2)).setCell (p:=⟨w.heap.size+1,3,none⟩) (by show w.heap.size≤w.heap.size+1;omega) (.slice a3 x.radios.length c3))
 refine bodyPost_ret (v:=.agg #[.slice a0 x.sites.length c0,.slice a1 x.sectors.length c1,.slice a2 x.antennas.length c2,.slice a3 x.radios.length c3]) (by simp[results,Tryz.results47,go_sem, *]) rfl ⟨a0,c0,a1,c1,a2,c2,a3,c3,fp1++(fp2++(fp3++(fp4++[]))),rfl,BF.out,?_,?_⟩
 ·exact (OwnV.cons F1.out (OwnV.cons F2.out (OwnV.cons F3.out (OwnV.cons F4.out OwnV.nil (fun x hx e=>by have h1:=j4 x hx;simp at e)) (fun x hx e=>by have h1:=j3 x hx;simp only[List.mem_append,List.not_mem_nil,or_false] at e;have h2:=j4 x e;omega)) (fun x hx e=>by have h1:=j2 x hx;simp only[List.mem_append,List.not_mem_nil,or_false] at e;rcases e with e|e<;>(first|(have h2:=j3 x e;omega)|(have h2:=j4 x e;omega)))) (fun x hx e=>by have h1:=j1 x hx;simp only[List.mem_append,List.not_mem_nil,or_false] at e;rcases e with e|e|e<;>(first|(have h2:=j2 x e;omega)|(have h2:=j3 x e;omega)|(have h2:=j4 x e;omega))))
 ·simp only[size_setCell]
  exact ((j1.mono (by omega) (by omega)).append ((j2.mono (by omega) (by omega)).append ((j3.mono (by omega) (by omega)).append ((j4.mono (by omega) (by omega)).append In.nil))))
theorem eq_Network (x:DNetwork) (v0 u0 v1 u1 v2 u2 v3 u3:Value) (B:Nat) (w:World) (h0:Rd B w (DSite.sT x.sites) v0) (g0:Rd B w (DSite.sT x.sites) u0) (h1:Rd B w (DSector.sT x.sectors) v1) (g1:Rd B w (DSector.sT x.sectors) u1) (h2:Rd B w (DAntenna.sT x.antennas) v2) (g2:Rd B w (DAntenna.sT x.antennas) u2) (h3:Rd B w (DRadio.sT x.radios) v3) (g3:Rd B w (DRadio.sT x.radios) u3) (hB:B≤w.heap.size) (hn:sizL x.tr≤1099511627776) :
  Calls Tryz.prog 56 #[.agg #[v0,v1,v2,v3],.agg #[u0,u1,u2,u3]] w fun e w'=>e=.returned (.bool true)∧Below w.heap.size w w':=by
 have hsum:=DNetwork.siz_tr x
 have b0:Below w.heap.size w ((w.alloc (.cells #[v0,v1,v2,v3] 48)).alloc (.cells #[u0,u1,u2,u3] 48)):=((Below.refl _ _).alloc (Nat.le_refl _) _).alloc (by simp) _
 have B0:=Lib.hid b0
 have y0:w.heap.size+2≤((w.alloc (.cells #[v0,v1,v2,v3] 48)).alloc (.cells #[u0,u1,u2,u3] 48)).heap.size:=by first|(simp;done)|(simp;omega)
 clear b0
 go_enter Tryz.func56,Tryz.ntmps56
 go_wp2_with fail
 refine (eq_SiteS x.sites v0 u0 B _ (h0.below (B0.out.mono hB)) (g0.below (B0.out.mono hB)) (by omega) (by omega)).mono ?_
 rintro e w1 ⟨rfl,hb1⟩
 obtain⟨qa1,_,ya1⟩:=bcellAt hb1 (b:=w.heap.size) (by omega)
 obtain⟨qb1,_,yb1⟩:=bcellAt hb1 (b:=w.heap.size+1) (by omega)
 have y1:w.heap.size+2≤w1.heap.size:=by have:=hb1.size;omega
 have B1:=Lib.hid (B0.out.trans (hb1.mono (by omega)))
 clear hb1
 go_wp2_with fail
 refine (eq_SectorS x.sectors v1 u1 B _ (h1.below (B1.out.mono hB)) (g1.below (B1.out.mono hB)) (by omega) (by omega)).mono ?_
 rintro e w2 ⟨rfl,hb2⟩
 obtain⟨qa2,_,ya2⟩:=bcellAt hb2 (b:=w.heap.size) (by omega)
 obtain⟨qb2,_,yb2⟩:=bcellAt hb2 (b:=w.heap.size+1) (by omega)
 have y2:w.heap.size+2≤w2.heap.size:=by have:=hb2.size;omega
 have B2:=Lib.hid (B1.out.trans (hb2.mono (by omega)))
 clear hb2
 go_wp2_with fail
 refine (eq_AntennaS x.antennas v2 u2 B _ (h2.below (B2.out.mono hB)) (g2.below (B2.out.mono hB)) (by omega) (by omega)).mono ?_
 rintro e w3 ⟨rfl,hb3⟩
 obtain⟨qa3,_,ya3⟩:=bcellAt hb3 (b:=w.heap.size) (by omega)
 obtain⟨qb3,_,yb3⟩:=bcellAt hb3 (b:=w.heap.size+1) (by omega)
 have y3:w.heap.size+2≤w3.heap.size:=by have:=hb3.size;omega
 have B3:=Lib.hid (B2.out.trans (hb3.mono (by omega)))
 clear hb3
 go_wp2_with fail
 refine (eq_RadioS x.radios v3 u3 B _ (h3.below (B3.out.mono hB)) (g3.below (B3.out.mono hB)) (by omega) (by omega)).mono ?_
 rintro e w4 ⟨rfl,hb4⟩
 obtain⟨qa4,_,ya4⟩:=bcellAt hb4 (b:=w.heap.size) (by omega)
 obtain⟨qb4,_,yb4⟩:=bcellAt hb4 (b:=w.heap.size+1) (by omega)
 have y4:w.heap.size+2≤w4.heap.size:=by have:=hb4.size;omega
 have B4:=Lib.hid (B3.out.trans (hb4.mono (by omega)))
 clear hb4
 go_wp2
 go_ret
 exact⟨rfl,B4.out⟩
theorem DNetwork.cnt_eq (x:DNetwork):cnt (DSite.sT x.sites)+cnt (DSector.sT x.sectors)+cnt (DAntenna.sT x.antennas)+cnt (DRadio.sT x.radios)=cnt (DSite.sT x.sites)+cnt (DSector.sT x.sectors)+cnt (DAntenna.sT x.antennas)+cnt (DRadio.sT x.radios):=rfl
theorem mark_Network (x:DNetwork) (v0 v1 v2 v3:Value) (f0 f1 f2 f3:List Nat) (k0 l0 m0 l1 m1 l2 m2 l3 m3:Nat) (w:World) (o0:Own w (DSite.sT x.sites) v0 f0) (i0:In l0 m0 f0) (n0:m0≤w.heap.size) (o1:Own w (DSector.sT x.sectors) v1 f1) (i1:In l1 m1 f1) (n1:m1≤w.heap.size) (o2:Own w (DAntenna.sT x.antennas) v2 f2) (i2:In l2 m2 f2) (n2:m2≤w.heap.size) (o3:Own w (DRadio.sT x.radios) v3 f3) (i3:In l3 m3 f3) (n3:m3≤w.heap.size) (d0_1:∀ y ∈ f0,y ∉ f1) (d0_2:∀ y ∈ f0,y ∉ f2) (d0_3:∀ y ∈ f0,y ∉ f3) (d1_2:∀ y ∈ f1,y ∉ f2) (d1_3:∀ y ∈ f1,y ∉ f3) (d2_3:∀ y ∈ f2,y ∉ f3) (hs:sizL x.tr≤1099511627776) (hk0:k0+cnt (DSite.sT x.sites)+cnt (DSector.sT x.sectors)+cnt (DAntenna.sT x.antennas)+cnt (DRadio.sT x.radios)≤1099511627776) (hk1:0<k0) :
  Calls Tryz.prog 62 #[.agg #[v0,v1,v2,v3],.int .i64 k0] w fun e w'=>e=.returned (.int .i64 ((k0+cnt (DSite.sT x.sites)+cnt (DSector.sT x.sectors)+cnt (DAntenna.sT x.antennas)+cnt (DRadio.sT x.radios):Nat):Int))∧Own w' (mkT (DSite.sT x.sites) (k0)) v0 f0∧Own w' (mkT (DSector.sT x.sectors) (k0+cnt (DSite.sT x.sites))) v1 f1∧Own w' (mkT (DAntenna.sT x.antennas) (k0+cnt (DSite.sT x.sites)+cnt (DSector.sT x.sectors))) v2 f2∧Own w' (mkT (DRadio.sT x.radios) (k0+cnt (DSite.sT x.sites)+cnt (DSector.sT x.sectors)+cnt (DAntenna.sT x.antennas))) v3 f3∧Chg (f0++f1++f2++f3) w w':=by
 have hsum:=DNetwork.siz_tr x
 have b0:Below w.heap.size w (w.alloc (.cells #[v0,v1,v2,v3] 48)):=(Below.refl _ _).alloc (Nat.le_refl _) _
 have C0:=Lib.hid (Chg.of_below (fp:=(f0++f1++f2++f3)) b0)
 have y0:w.heap.size<(w.alloc (.cells #[v0,v1,v2,v3] 48)).heap.size:=by simp
 have O0_0:=Lib.hid (o0.below i0 n0 b0)
 have O0_1:=Lib.hid (o1.below i1 n1 b0)
 have O0_2:=Lib.hid (o2.below i2 n2 b0)
 have O0_3:=Lib.hid (o3.below i3 n3 b0)
 clear b0 o0 o1 o2 o3
 go_enter Tryz.func62,Tryz.ntmps62
 go_wp2_with fail
 refine (markI_SiteS x.sites v0 f0 (k0) l0 _ _ O0_0.out (i0.mono (Nat.le_refl _) (by omega)) (by omega) (by first|rfl|simp only[Int.natCast_add]) (by omega) (by omega)).mono ?_
 rintro e w1 ⟨rfl,p0,c1⟩
 have y1:w.heap.size<w1.heap.size:=by have:=c1.size;omega
 have hk1c:∀ q,w1.cell? ⟨w.heap.size,q,none⟩=_:=fun q=>World.cell?_of_block (a:=⟨w.heap.size,q,none⟩) (c1.block w.heap.size y0 (fun e=>by have:=(i0 _ e).2;omega))
 have C1:=Lib.hid (C0.out.trans (c1.mono (fun y hy=>by simp[hy])))
 have O1_0:=Lib.hid p0
 have O1_1:=Lib.hid (O0_1.out.chg i1 (by omega) c1 (fun y hy e=>d0_1 y e hy))
 have O1_2:=Lib.hid (O0_2.out.chg i2 (by omega) c1 (fun y hy e=>d0_2 y e hy))
 have O1_3:=Lib.hid (O0_3.out.chg i3 (by omega) c1 (fun y hy e=>d0_3 y e hy))
 clear c1 p0
 go_wp2_with fail
 refine (markI_SectorS x.sectors v1 f1 (k0+cnt (DSite.sT x.sites)) l1 _ _ O1_1.out (i1.mono (Nat.le_refl _) (by omega)) (by omega) (by first|rfl|simp only[Int.natCast_add]) (by omega) (by omega)).mono ?_
 rintro e w2 ⟨rfl,p1,c2⟩
 have y2:w.heap.size<w2.heap.size:=by have:=c2.size;omega
 have hk2c:∀ q,w2.cell? ⟨w.heap.size,q,none⟩=_:=fun q=>World.cell?_of_block (a:=⟨w.heap.size,q,none⟩) (c2.block w.heap.size y1 (fun e=>by have:=(i1 _ e).2;omega))
 have C2:=Lib.hid (C1.out.trans (c2.mono (fun y hy=>by simp[hy])))
 have O2_0:=Lib.hid (O1_0.out.chg i0 (by omega) c2 (fun y hy e=>d0_1 y hy e))
 have O2_1:=Lib.hid p1
 have O2_2:=Lib.hid (O1_2.out.chg i2 (by omega) c2 (fun y hy e=>d1_2 y e hy))
 have O2_3:=Lib.hid (O1_3.out.chg i3 (by omega) c2 (fun y hy e=>d1_3 y e hy))
 clear c2 p1
 go_wp2_with fail
 refine (markI_AntennaS x.antennas v2 f2 (k0+cnt (DSite.sT x.sites)+cnt (DSector.sT x.sectors)) l2 _ _ O2_2.out (i2.mono (Nat.le_refl _) (by omega)) (by omega) (by first|rfl|simp only[Int.natCast_add]) (by omega) (by omega)).mono ?_
 rintro e w3 ⟨rfl,p2,c3⟩
 have y3:w.heap.size<w3.heap.size:=by have:=c3.size;omega
 have hk3c:∀ q,w3.cell? ⟨w.heap.size,q,none⟩=_:=fun q=>World.cell?_of_block (a:=⟨w.heap.size,q,none⟩) (c3.block w.heap.size y2 (fun e=>by have:=(i2 _ e).2;omega))
 have C3:=Lib.hid (C2.out.trans (c3.mono (fun y hy=>by simp[hy])))
 have O3_0:=Lib.hid (O2_0.out.chg i0 (by omega) c3 (fun y hy e=>d0_2 y hy e))
 have O3_1:=Lib.hid (O2_1.out.chg i1 (by omega) c3 (fun y hy e=>d1_2 y hy e))
 have O3_2:=Lib.hid p2
 have O3_3:=Lib.hid (O2_3.out.chg i3 (by omega) c3 (fun y hy e=>d2_3 y e hy))
 clear c3 p2
 go_wp2_with fail
 refine (markI_RadioS x.radios v3 f3 (k0+cnt (DSite.sT x.sites)+cnt (DSector.sT x.sectors)+cnt (DAntenna.sT x.antennas)) l3 _ _ O3_3.out (i3.mono (Nat.le_refl _) (by omega)) (by omega) (by first|rfl|simp only[Int.natCast_add]) (by omega) (by omega)).mono ?_
 rintro e w4 ⟨rfl,p3,c4⟩
 have y4:w.heap.size<w4.heap.size:=by have:=c4.size;omega
 have hk4c:∀ q,w4.cell? ⟨w.heap.size,q,none⟩=_:=fun q=>World.cell?_of_block (a:=⟨w.heap.size,q,none⟩) (c4.block w.heap.size y3 (fun e=>by have:=(i3 _ e).2;omega))
 have C4:=Lib.hid (C3.out.trans (c4.mono (fun y hy=>by simp[hy])))
 have O4_0:=Lib.hid (O3_0.out.chg i0 (by omega) c4 (fun y hy e=>d0_3 y hy e))
 have O4_1:=Lib.hid (O3_1.out.chg i1 (by omega) c4 (fun y hy e=>d1_3 y hy e))
 have O4_2:=Lib.hid (O3_2.out.chg i2 (by omega) c4 (fun y hy e=>d2_3 y hy e))
 have O4_3:=Lib.hid p3
 clear c4 p3
 go_wp2
 go_ret
 exact⟨ret_int (by simp only[Int.natCast_add]),O4_0.out,O4_1.out,O4_2.out,O4_3.out,C4.out⟩
end Go.Proofs.YtjfmkmcefnidcaaGreat
