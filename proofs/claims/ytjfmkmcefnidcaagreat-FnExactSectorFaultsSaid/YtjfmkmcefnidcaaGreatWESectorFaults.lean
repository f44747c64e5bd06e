/- The walk of the law FnExactSectorFaults: it returns true. -/
import Derived.Test.YtjfmkmcefnidcaaGreatSf4
import Derived.Test.YtjfmkmcefnidcaaGreatHPlan
import Derived.Test.YtjfmkmcefnidcaaGreatHFault
import Derived.Test.YtjfmkmcefnidcaaGreatMPlan
import Derived.Deep.RegionHeld3
namespace Go.Proofs.YtjfmkmcefnidcaaGreat.fnExactSectorFaults
set_option maxHeartbeats 60000000
set_option maxRecDepth 100000
open Go.RowKit
set_option linter.unusedVariables false
theorem walk (p:DPlan) (nm:ByteArray) (vp3 vp4 vp5 vp6 vp7 vp8 vp9 vp10 vp11 vp12:Value) (w:World) (rp3:Rd w.heap.size w (intsT p.terrain.heights) vp3) (rp4:Rd w.heap.size w (intsT p.terrain.clutter) vp4) (rp5:Rd w.heap.size w (DSite.sT p.network.sites) vp5) (rp6:Rd w.heap.size w (DSector.sT p.network.sectors) vp6) (rp7:Rd w.heap.size w (DAntenna.sT p.network.antennas) vp7) (rp8:Rd w.heap.size w (DRadio.sT p.network.radios) vp8) (rp9:Rd w.heap.size w (DBand.sT p.bands) vp9) (rp10:Rd w.heap.size w (DLicence.sT p.licences) vp10) (rp11:Rd w.heap.size w (DProtected.sT p.protected_) vp11) (rp12:Rd w.heap.size w (intssT p.apart) vp12) (hk_p:p.ok) (hk_nm:nm.size≤maxLen) :
  Calls Tryz.prog 5 #[.agg #[.int .i64 p.terrain.step,.int .i64 p.terrain.width,.int .i64 p.terrain.height,vp3,vp4,vp5,vp6,vp7,vp8,vp9,vp10,vp11,vp12,.int .i64 p.day],.string nm] w fun e w'=>e=.returned (.bool true)∧Below w.heap.size w w':=by
 have Hp3:=Lib.hid rp3
 have Hp4:=Lib.hid rp4
 have Hp5:=Lib.hid rp5
 have Hp6:=Lib.hid rp6
 have Hp7:=Lib.hid rp7
 have Hp8:=Lib.hid rp8
 have Hp9:=Lib.hid rp9
 have Hp10:=Lib.hid rp10
 have Hp11:=Lib.hid rp11
 have Hp12:=Lib.hid rp12
 clear rp3 rp4 rp5 rp6 rp7 rp8 rp9 rp10 rp11 rp12
 unfold maxLen at hk_nm
 have hq_p:=DPlan.siz_tr p
 have hcn:=cntL_plan p
 have hRs:=ownR_siz p nm
 have hRc:=DFault.cnt_le (ownR p nm).1
 have BB0:Hid (Below w.heap.size w w):=Below.refl _ _
 generalize hR:ownR p nm=R at *
 have HR:=Lib.hid hR
 clear hR
 have HS:Hid (∀ (W:World) (xp3 xp4 xp5 xp6 xp7 xp8 xp9 xp10 xp11 xp12:Value),Rd W.heap.size W (intsT p.terrain.heights) xp3→Rd W.heap.size W (intsT p.terrain.clutter) xp4→Rd W.heap.size W (DSite.sT p.network.sites) xp5→Rd W.heap.size W (DSector.sT p.network.sectors) xp6→Rd W.heap.size W (DAntenna.sT p.network.antennas) xp7→Rd W.heap.size W (DRadio.sT p.network.radios) xp8→Rd W.heap.size W (DBand.sT p.bands) xp9→Rd W.heap.size W (DLicence.sT p.licences) xp10→Rd W.heap.size W (DProtected.sT p.protected_) xp11→Rd W.heap.size W (intssT p.apart) xp12→sizL p.tr≤1048576→nm.size≤1048576→Calls Tryz.prog 20 #[.agg #[.int .i64 p.terrain.step,.int .i64 p.terrain.width,.int .i64 p.terrain.height,xp3,xp4,xp5,xp6,xp7,xp8,xp9,xp10,xp11,xp12,.int .i64 p.day],.string nm] W (fun e w'=>∃ a0_0 c0_0 fp0,e=.returned (.tuple #[.slice a0_0 R.1.length c0_0,.int .i64 R.2])∧Below W.heap.size W w'∧Own w' (DFault.sT R.1) (.slice a0_0 R.1.length c0_0) fp0∧In W.heap.size w'.heap.size fp0)):=fun W xp3 xp4 xp5 xp6 xp7 xp8 xp9 xp10 xp11 xp12 yp3 yp4 yp5 yp6 yp7 yp8 yp9 yp10 yp11 yp12 z0 z1=>by rw[← HR.out];exact sSectorFaults_std p nm xp3 xp4 xp5 xp6 xp7 xp8 xp9 xp10 xp11 xp12 W yp3 yp4 yp5 yp6 yp7 yp8 yp9 yp10 yp11 yp12 z0 hk_p z1
 have HI:Hid (∀ (W:World) (xp3 xp4 xp5 xp6 xp7 xp8 xp9 xp10 xp11 xp12:Value),Rd W.heap.size W (intsT p.terrain.heights) xp3→Rd W.heap.size W (intsT p.terrain.clutter) xp4→Rd W.heap.size W (DSite.sT p.network.sites) xp5→Rd W.heap.size W (DSector.sT p.network.sectors) xp6→Rd W.heap.size W (DAntenna.sT p.network.antennas) xp7→Rd W.heap.size W (DRadio.sT p.network.radios) xp8→Rd W.heap.size W (DBand.sT p.bands) xp9→Rd W.heap.size W (DLicence.sT p.licences) xp10→Rd W.heap.size W (DProtected.sT p.protected_) xp11→Rd W.heap.size W (intssT p.apart) xp12→sizL p.tr≤1048576→nm.size≤1048576→Calls Tryz.prog 21 #[.agg #[.int .i64 p.terrain.step,.int .i64 p.terrain.width,.int .i64 p.terrain.height,xp3,xp4,xp5,xp6,xp7,xp8,xp9,xp10,xp11,xp12,.int .i64 p.day],.string nm] W (fun e w'=>∃ a0_0 c0_0 fp0,e=.returned (.tuple #[.slice a0_0 R.1.length c0_0,.int .i64 R.2])∧Below W.heap.size W w'∧Own w' (DFault.sT R.1) (.slice a0_0 R.1.length c0_0) fp0∧In W.heap.size w'.heap.size fp0)):=fun W xp3 xp4 xp5 xp6 xp7 xp8 xp9 xp10 xp11 xp12 yp3 yp4 yp5 yp6 yp7 yp8 yp9 yp10 yp11 yp12 z0 z1=>by rw[← HR.out];exact iSectorFaults_std p nm xp3 xp4 xp5 xp6 xp7 xp8 xp9 xp10 xp11 xp12 W yp3 yp4 yp5 yp6 yp7 yp8 yp9 yp10 yp11 yp12 z0 hk_p z1
 by_cases hl_nm:nm.size≤1048576
 case neg =>
  have hl1_nm:(1048576:Int)<((nm.size:Nat):Int):=by omega
  have hl2_nm:1048576<nm.size:=by omega
  go_enter Tryz.func5,Tryz.ntmps5
  go_wp2
  go_ret
  exact⟨rfl,Below.alloc (Below.refl _ _) (by first|exact Nat.le_refl _|(simp;done)|(simp;omega)) _⟩
 have hl1_nm:((nm.size:Nat):Int)≤1048576:=by omega
 go_enter Tryz.func5,Tryz.ntmps5
 go_wp2_with fail
 have BX1:Hid (Below w.heap.size w (w.alloc (.cells #[.int .i64 p.terrain.step,.int .i64 p.terrain.width,.int .i64 p.terrain.height,vp3,vp4,vp5,vp6,vp7,vp8,vp9,vp10,vp11,vp12,.int .i64 p.day] 36))):=(BB0.out.alloc (by first|omega|(simp;done)|(simp;omega)) _)
 have zx1:=BX1.out.size
 refine (sz_Plan p vp3 vp4 vp5 vp6 vp7 vp8 vp9 vp10 vp11 vp12 w.heap.size _ _ (Hp3.out.below BX1.out) (Hp4.out.below BX1.out) (Hp5.out.below BX1.out) (Hp6.out.below BX1.out) (Hp7.out.below BX1.out) (Hp8.out.below BX1.out) (Hp9.out.below BX1.out) (Hp10.out.below BX1.out) (Hp11.out.below BX1.out) (Hp12.out.below BX1.out) (by omega) (by omega) (by omega) hk_p).mono ?_
 rintro e w1 ⟨⟨cz1,rfl⟩|⟨cz1,rfl⟩,hb1⟩
 case inr =>
  go_wp2
  go_ret
  exact⟨rfl,BX1.out.trans (hb1.mono (by omega))⟩
 have cy1:decide ((1048576:Int)-sizL p.tr<0)=false:=by simp;omega
 have hx1:Below w.heap.size w (w.alloc (.cells #[.int .i64 p.terrain.step,.int .i64 p.terrain.width,.int .i64 p.terrain.height,vp3,vp4,vp5,vp6,vp7,vp8,vp9,vp10,vp11,vp12,.int .i64 p.day] 36)):=((Below.refl _ _).alloc (Nat.le_refl _) _)
 have hbb1:Below w.heap.size w w1:=hx1.trans (hb1.mono (by first|(simp;done)|(simp;omega)))
 have z1:=hbb1.size
 obtain⟨qAp1,_,yAp1⟩:=bcellAt hb1 (b:=w.heap.size) (by first|omega|(simp;done)|(simp;omega))
 have BB1:=Lib.hid (BB0.out.trans (hbb1.mono (by omega)))
 clear hx1
 clear hb1 hbb1
 have CZ1:=Lib.hid cy1
 go_wp2_with fail
 have BX2:Hid (Below w.heap.size w w1):=BB1.out
 have zx2:=BX2.out.size
 refine (to_Plan p _ _ _ _ _ _ _ _ _ _ _ ((Hp3.out.below BX2.out).mono zx2) ((Hp4.out.below BX2.out).mono zx2) ((Hp5.out.below BX2.out).mono zx2) ((Hp6.out.below BX2.out).mono zx2) ((Hp7.out.below BX2.out).mono zx2) ((Hp8.out.below BX2.out).mono zx2) ((Hp9.out.below BX2.out).mono zx2) ((Hp10.out.below BX2.out).mono zx2) ((Hp11.out.below BX2.out).mono zx2) ((Hp12.out.below BX2.out).mono zx2) (by omega)).mono ?_
 rintro e w2 ⟨atp3,ctp3,atp4,ctp4,atp5,ctp5,atp6,ctp6,atp7,ctp7,atp8,ctp8,atp9,ctp9,atp10,ctp10,atp11,ctp11,atp12,ctp12,ftp,rfl,hb2,ov2,iv2⟩
 have hbb2:Below w1.heap.size w1 w2:=hb2
 have z2:=hbb2.size
 obtain⟨qAp2,_,yAp2⟩:=bcellAt hb2 (b:=w.heap.size) (by first|omega|(simp;done)|(simp;omega))
 have BB2:=Lib.hid (BB1.out.trans (hbb2.mono (by omega)))
 clear hbb2
 obtain⟨g2_0,r2_0,e2_0,p2_0,ov2_0,d2_0⟩:=OwnV.uncons ov2
 obtain⟨_,hz2_0⟩:=Rep_lit.1 p2_0.rep
 subst hz2_0
 obtain⟨g2_1,r2_1,e2_1,p2_1,ov2_1,d2_1⟩:=OwnV.uncons ov2_0
 obtain⟨_,hz2_1⟩:=Rep_lit.1 p2_1.rep
 subst hz2_1
 obtain⟨g2_2,r2_2,e2_2,p2_2,ov2_2,d2_2⟩:=OwnV.uncons ov2_1
 obtain⟨_,hz2_2⟩:=Rep_lit.1 p2_2.rep
 subst hz2_2
 obtain⟨g2_3,r2_3,e2_3,p2_3,ov2_3,d2_3⟩:=OwnV.uncons ov2_2
 obtain⟨g2_4,r2_4,e2_4,p2_4,ov2_4,d2_4⟩:=OwnV.uncons ov2_3
 obtain⟨g2_5,r2_5,e2_5,p2_5,ov2_5,d2_5⟩:=OwnV.uncons ov2_4
 obtain⟨g2_6,r2_6,e2_6,p2_6,ov2_6,d2_6⟩:=OwnV.uncons ov2_5
 obtain⟨g2_7,r2_7,e2_7,p2_7,ov2_7,d2_7⟩:=OwnV.uncons ov2_6
 obtain⟨g2_8,r2_8,e2_8,p2_8,ov2_8,d2_8⟩:=OwnV.uncons ov2_7
 obtain⟨g2_9,r2_9,e2_9,p2_9,ov2_9,d2_9⟩:=OwnV.uncons ov2_8
 obtain⟨g2_10,r2_10,e2_10,p2_10,ov2_10,d2_10⟩:=OwnV.uncons ov2_9
 obtain⟨g2_11,r2_11,e2_11,p2_11,ov2_11,d2_11⟩:=OwnV.uncons ov2_10
 obtain⟨g2_12,r2_12,e2_12,p2_12,ov2_12,d2_12⟩:=OwnV.uncons ov2_11
 obtain⟨g2_13,r2_13,e2_13,p2_13,ov2_13,d2_13⟩:=OwnV.uncons ov2_12
 obtain⟨_,hz2_13⟩:=Rep_lit.1 p2_13.rep
 subst hz2_13
 have iw2:=iv2.mono (lo':=w1.heap.size+0) (by first|omega|(simp;done)|(simp;omega)) (Nat.le_refl _)
 have hnil2:=ov2_13.rep
 change r2_13 = [] at hnil2
 subst hnil2
 subst e2_13
 subst e2_12
 subst e2_11
 subst e2_10
 subst e2_9
 subst e2_8
 subst e2_7
 subst e2_6
 subst e2_5
 subst e2_4
 subst e2_3
 subst e2_2
 subst e2_1
 subst e2_0
 have itp3:In _ _ g2_3:=fun y hy=>iw2 y (by simp[hy])
 have otp3_2:=Lib.hid p2_3
 have itp4:In _ _ g2_4:=fun y hy=>iw2 y (by simp[hy])
 have otp4_2:=Lib.hid p2_4
 have itp5:In _ _ g2_5:=fun y hy=>iw2 y (by simp[hy])
 have otp5_2:=Lib.hid p2_5
 have itp6:In _ _ g2_6:=fun y hy=>iw2 y (by simp[hy])
 have otp6_2:=Lib.hid p2_6
 have itp7:In _ _ g2_7:=fun y hy=>iw2 y (by simp[hy])
 have otp7_2:=Lib.hid p2_7
 have itp8:In _ _ g2_8:=fun y hy=>iw2 y (by simp[hy])
 have otp8_2:=Lib.hid p2_8
 have itp9:In _ _ g2_9:=fun y hy=>iw2 y (by simp[hy])
 have otp9_2:=Lib.hid p2_9
 have itp10:In _ _ g2_10:=fun y hy=>iw2 y (by simp[hy])
 have otp10_2:=Lib.hid p2_10
 have itp11:In _ _ g2_11:=fun y hy=>iw2 y (by simp[hy])
 have otp11_2:=Lib.hid p2_11
 have itp12:In _ _ g2_12:=fun y hy=>iw2 y (by simp[hy])
 have otp12_2:=Lib.hid p2_12
 have djtp3_4:∀ y ∈ g2_3,y ∉ g2_4:=fun y hy e=>d2_3 y hy (by simp[e])
 have djtp3_5:∀ y ∈ g2_3,y ∉ g2_5:=fun y hy e=>d2_3 y hy (by simp[e])
 have djtp3_6:∀ y ∈ g2_3,y ∉ g2_6:=fun y hy e=>d2_3 y hy (by simp[e])
 have djtp3_7:∀ y ∈ g2_3,y ∉ g2_7:=fun y hy e=>d2_3 y hy (by simp[e])
 have djtp3_8:∀ y ∈ g2_3,y ∉ g2_8:=fun y hy e=>d2_3 y hy (by simp[e])
 have djtp3_9:∀ y ∈ g2_3,y ∉ g2_9:=fun y hy e=>d2_3 y hy (by simp[e])
 have djtp3_10:∀ y ∈ g2_3,y ∉ g2_10:=fun y hy e=>d2_3 y hy (by simp[e])
 have djtp3_11:∀ y ∈ g2_3,y ∉ g2_11:=fun y hy e=>d2_3 y hy (by simp[e])
 have djtp3_12:∀ y ∈ g2_3,y ∉ g2_12:=fun y hy e=>d2_3 y hy (by simp[e])
 have djtp4_5:∀ y ∈ g2_4,y ∉ g2_5:=fun y hy e=>d2_4 y hy (by simp[e])
 have djtp4_6:∀ y ∈ g2_4,y ∉ g2_6:=fun y hy e=>d2_4 y hy (by simp[e])
 have djtp4_7:∀ y ∈ g2_4,y ∉ g2_7:=fun y hy e=>d2_4 y hy (by simp[e])
 have djtp4_8:∀ y ∈ g2_4,y ∉ g2_8:=fun y hy e=>d2_4 y hy (by simp[e])
 have djtp4_9:∀ y ∈ g2_4,y ∉ g2_9:=fun y hy e=>d2_4 y hy (by simp[e])
 have djtp4_10:∀ y ∈ g2_4,y ∉ g2_10:=fun y hy e=>d2_4 y hy (by simp[e])
 have djtp4_11:∀ y ∈ g2_4,y ∉ g2_11:=fun y hy e=>d2_4 y hy (by simp[e])
 have djtp4_12:∀ y ∈ g2_4,y ∉ g2_12:=fun y hy e=>d2_4 y hy (by simp[e])
 have djtp5_6:∀ y ∈ g2_5,y ∉ g2_6:=fun y hy e=>d2_5 y hy (by simp[e])
 have djtp5_7:∀ y ∈ g2_5,y ∉ g2_7:=fun y hy e=>d2_5 y hy (by simp[e])
 have djtp5_8:∀ y ∈ g2_5,y ∉ g2_8:=fun y hy e=>d2_5 y hy (by simp[e])
 have djtp5_9:∀ y ∈ g2_5,y ∉ g2_9:=fun y hy e=>d2_5 y hy (by simp[e])
 have djtp5_10:∀ y ∈ g2_5,y ∉ g2_10:=fun y hy e=>d2_5 y hy (by simp[e])
 have djtp5_11:∀ y ∈ g2_5,y ∉ g2_11:=fun y hy e=>d2_5 y hy (by simp[e])
 have djtp5_12:∀ y ∈ g2_5,y ∉ g2_12:=fun y hy e=>d2_5 y hy (by simp[e])
 have djtp6_7:∀ y ∈ g2_6,y ∉ g2_7:=fun y hy e=>d2_6 y hy (by simp[e])
 have djtp6_8:∀ y ∈ g2_6,y ∉ g2_8:=fun y hy e=>d2_6 y hy (by simp[e])
 have djtp6_9:∀ y ∈ g2_6,y ∉ g2_9:=fun y hy e=>d2_6 y hy (by simp[e])
 have djtp6_10:∀ y ∈ g2_6,y ∉ g2_10:=fun y hy e=>d2_6 y hy (by simp[e])
 have djtp6_11:∀ y ∈ g2_6,y ∉ g2_11:=fun y hy e=>d2_6 y hy (by simp[e])
 have djtp6_12:∀ y ∈ g2_6,y ∉ g2_12:=fun y hy e=>d2_6 y hy (by simp[e])
 have djtp7_8:∀ y ∈ g2_7,y ∉ g2_8:=fun y hy e=>d2_7 y hy (by simp[e])
 have djtp7_9:∀ y ∈ g2_7,y ∉ g2_9:=fun y hy e=>d2_7 y hy (by simp[e])
 have djtp7_10:∀ y ∈ g2_7,y ∉ g2_10:=fun y hy e=>d2_7 y hy (by simp[e])
 have djtp7_11:∀ y ∈ g2_7,y ∉ g2_11:=fun y hy e=>d2_7 y hy (by simp[e])
 have djtp7_12:∀ y ∈ g2_7,y ∉ g2_12:=fun y hy e=>d2_7 y hy (by simp[e])
 have djtp8_9:∀ y ∈ g2_8,y ∉ g2_9:=fun y hy e=>d2_8 y hy (by simp[e])
 have djtp8_10:∀ y ∈ g2_8,y ∉ g2_10:=fun y hy e=>d2_8 y hy (by simp[e])
 have djtp8_11:∀ y ∈ g2_8,y ∉ g2_11:=fun y hy e=>d2_8 y hy (by simp[e])
 have djtp8_12:∀ y ∈ g2_8,y ∉ g2_12:=fun y hy e=>d2_8 y hy (by simp[e])
 have djtp9_10:∀ y ∈ g2_9,y ∉ g2_10:=fun y hy e=>d2_9 y hy (by simp[e])
 have djtp9_11:∀ y ∈ g2_9,y ∉ g2_11:=fun y hy e=>d2_9 y hy (by simp[e])
 have djtp9_12:∀ y ∈ g2_9,y ∉ g2_12:=fun y hy e=>d2_9 y hy (by simp[e])
 have djtp10_11:∀ y ∈ g2_10,y ∉ g2_11:=fun y hy e=>d2_10 y hy (by simp[e])
 have djtp10_12:∀ y ∈ g2_10,y ∉ g2_12:=fun y hy e=>d2_10 y hy (by simp[e])
 have djtp11_12:∀ y ∈ g2_11,y ∉ g2_12:=fun y hy e=>d2_11 y hy (by simp[e])
 clear p2_0 ov2_0 d2_0 p2_1 ov2_1 d2_1 p2_2 ov2_2 d2_2 p2_3 ov2_3 d2_3 p2_4 ov2_4 d2_4 p2_5 ov2_5 d2_5 p2_6 ov2_6 d2_6 p2_7 ov2_7 d2_7 p2_8 ov2_8 d2_8 p2_9 ov2_9 d2_9 p2_10 ov2_10 d2_10 p2_11 ov2_11 d2_11 p2_12 ov2_12 d2_12 p2_13 ov2_13 d2_13 ov2 iv2 iw2
 go_wp2_with fail
 refine (HS.out _ _ _ _ _ _ _ _ _ _ _ ((otp3_2.out.rd itp3).mono (by omega)) ((otp4_2.out.rd itp4).mono (by omega)) ((otp5_2.out.rd itp5).mono (by omega)) ((otp6_2.out.rd itp6).mono (by omega)) ((otp7_2.out.rd itp7).mono (by omega)) ((otp8_2.out.rd itp8).mono (by omega)) ((otp9_2.out.rd itp9).mono (by omega)) ((otp10_2.out.rd itp10).mono (by omega)) ((otp11_2.out.rd itp11).mono (by omega)) ((otp12_2.out.rd itp12).mono (by omega)) (by omega) (by omega)).mono ?_
 rintro e w3 ⟨as00,cs00,fs00,rfl,hb3,ows0,iws0⟩
 have is00:=iws0.mono (lo':=w2.heap.size+0) (by first|omega|(simp;done)|(simp;omega)) (Nat.le_refl _)
 clear iws0
 have hbb3:Below w2.heap.size w2 w3:=hb3
 have z3:=hbb3.size
 obtain⟨qAp3,_,yAp3⟩:=bcellAt hb3 (b:=w.heap.size) (by first|omega|(simp;done)|(simp;omega))
 have BB3:=Lib.hid (BB2.out.trans (hbb3.mono (by omega)))
 have otp3_3:=Lib.hid (otp3_2.out.below itp3 (by omega) hbb3)
 have otp4_3:=Lib.hid (otp4_2.out.below itp4 (by omega) hbb3)
 have otp5_3:=Lib.hid (otp5_2.out.below itp5 (by omega) hbb3)
 have otp6_3:=Lib.hid (otp6_2.out.below itp6 (by omega) hbb3)
 have otp7_3:=Lib.hid (otp7_2.out.below itp7 (by omega) hbb3)
 have otp8_3:=Lib.hid (otp8_2.out.below itp8 (by omega) hbb3)
 have otp9_3:=Lib.hid (otp9_2.out.below itp9 (by omega) hbb3)
 have otp10_3:=Lib.hid (otp10_2.out.below itp10 (by omega) hbb3)
 have otp11_3:=Lib.hid (otp11_2.out.below itp11 (by omega) hbb3)
 have otp12_3:=Lib.hid (otp12_2.out.below itp12 (by omega) hbb3)
 clear hbb3
 have os00_3:=Lib.hid ows0
 clear ows0
 go_wp2_with fail
 have BX4:Hid (Below w.heap.size w w3):=BB3.out
 have zx4:=BX4.out.size
 refine (to_Plan p _ _ _ _ _ _ _ _ _ _ _ ((Hp3.out.below BX4.out).mono zx4) ((Hp4.out.below BX4.out).mono zx4) ((Hp5.out.below BX4.out).mono zx4) ((Hp6.out.below BX4.out).mono zx4) ((Hp7.out.below BX4.out).mono zx4) ((Hp8.out.below BX4.out).mono zx4) ((Hp9.out.below BX4.out).mono zx4) ((Hp10.out.below BX4.out).mono zx4) ((Hp11.out.below BX4.out).mono zx4) ((Hp12.out.below BX4.out).mono zx4) (by omega)).mono ?_
 rintro e w4 ⟨aup3,cup3,aup4,cup4,aup5,cup5,aup6,cup6,aup7,cup7,aup8,cup8,aup9,cup9,aup10,cup10,aup11,cup11,aup12,cup12,fup,rfl,hb4,ov4,iv4⟩
 have hbb4:Below w3.heap.size w3 w4:=hb4
 have z4:=hbb4.size
 obtain⟨qAp4,_,yAp4⟩:=bcellAt hb4 (b:=w.heap.size) (by first|omega|(simp;done)|(simp;omega))
 have BB4:=Lib.hid (BB3.out.trans (hbb4.mono (by omega)))
 have os00_4:=Lib.hid (os00_3.out.below is00 (by omega) hbb4)
 clear hbb4
 obtain⟨g4_0,r4_0,e4_0,p4_0,ov4_0,d4_0⟩:=OwnV.uncons ov4
 obtain⟨_,hz4_0⟩:=Rep_lit.1 p4_0.rep
 subst hz4_0
 obtain⟨g4_1,r4_1,e4_1,p4_1,ov4_1,d4_1⟩:=OwnV.uncons ov4_0
 obtain⟨_,hz4_1⟩:=Rep_lit.1 p4_1.rep
 subst hz4_1
 obtain⟨g4_2,r4_2,e4_2,p4_2,ov4_2,d4_2⟩:=OwnV.uncons ov4_1
 obtain⟨_,hz4_2⟩:=Rep_lit.1 p4_2.rep
 subst hz4_2
 obtain⟨g4_3,r4_3,e4_3,p4_3,ov4_3,d4_3⟩:=OwnV.uncons ov4_2
 obtain⟨g4_4,r4_4,e4_4,p4_4,ov4_4,d4_4⟩:=OwnV.uncons ov4_3
 obtain⟨g4_5,r4_5,e4_5,p4_5,ov4_5,d4_5⟩:=OwnV.uncons ov4_4
 obtain⟨g4_6,r4_6,e4_6,p4_6,ov4_6,d4_6⟩:=OwnV.uncons ov4_5
 obtain⟨g4_7,r4_7,e4_7,p4_7,ov4_7,d4_7⟩:=OwnV.uncons ov4_6
 obtain⟨g4_8,r4_8,e4_8,p4_8,ov4_8,d4_8⟩:=OwnV.uncons ov4_7
 obtain⟨g4_9,r4_9,e4_9,p4_9,ov4_9,d4_9⟩:=OwnV.uncons ov4_8
 obtain⟨g4_10,r4_10,e4_10,p4_10,ov4_10,d4_10⟩:=OwnV.uncons ov4_9
 obtain⟨g4_11,r4_11,e4_11,p4_11,ov4_11,d4_11⟩:=OwnV.uncons ov4_10
 obtain⟨g4_12,r4_12,e4_12,p4_12,ov4_12,d4_12⟩:=OwnV.uncons ov4_11
 obtain⟨g4_13,r4_13,e4_13,p4_13,ov4_13,d4_13⟩:=OwnV.uncons ov4_12
 obtain⟨_,hz4_13⟩:=Rep_lit.1 p4_13.rep
 subst hz4_13
 have iw4:=iv4.mono (lo':=w3.heap.size+0) (by first|omega|(simp;done)|(simp;omega)) (Nat.le_refl _)
 have hnil4:=ov4_13.rep
 change r4_13 = [] at hnil4
 subst hnil4
 subst e4_13
 subst e4_12
 subst e4_11
 subst e4_10
 subst e4_9
 subst e4_8
 subst e4_7
 subst e4_6
 subst e4_5
 subst e4_4
 subst e4_3
 subst e4_2
 subst e4_1
 subst e4_0
 have iup3:In _ _ g4_3:=fun y hy=>iw4 y (by simp[hy])
 have oup3_4:=Lib.hid p4_3
 have iup4:In _ _ g4_4:=fun y hy=>iw4 y (by simp[hy])
 have oup4_4:=Lib.hid p4_4
 have iup5:In _ _ g4_5:=fun y hy=>iw4 y (by simp[hy])
 have oup5_4:=Lib.hid p4_5
 have iup6:In _ _ g4_6:=fun y hy=>iw4 y (by simp[hy])
 have oup6_4:=Lib.hid p4_6
 have iup7:In _ _ g4_7:=fun y hy=>iw4 y (by simp[hy])
 have oup7_4:=Lib.hid p4_7
 have iup8:In _ _ g4_8:=fun y hy=>iw4 y (by simp[hy])
 have oup8_4:=Lib.hid p4_8
 have iup9:In _ _ g4_9:=fun y hy=>iw4 y (by simp[hy])
 have oup9_4:=Lib.hid p4_9
 have iup10:In _ _ g4_10:=fun y hy=>iw4 y (by simp[hy])
 have oup10_4:=Lib.hid p4_10
 have iup11:In _ _ g4_11:=fun y hy=>iw4 y (by simp[hy])
 have oup11_4:=Lib.hid p4_11
 have iup12:In _ _ g4_12:=fun y hy=>iw4 y (by simp[hy])
 have oup12_4:=Lib.hid p4_12
 have djup3_4:∀ y ∈ g4_3,y ∉ g4_4:=fun y hy e=>d4_3 y hy (by simp[e])
 have djup3_5:∀ y ∈ g4_3,y ∉ g4_5:=fun y hy e=>d4_3 y hy (by simp[e])
 have djup3_6:∀ y ∈ g4_3,y ∉ g4_6:=fun y hy e=>d4_3 y hy (by simp[e])
 have djup3_7:∀ y ∈ g4_3,y ∉ g4_7:=fun y hy e=>d4_3 y hy (by simp[e])
 have djup3_8:∀ y ∈ g4_3,y ∉ g4_8:=fun y hy e=>d4_3 y hy (by simp[e])
 have djup3_9:∀ y ∈ g4_3,y ∉ g4_9:=fun y hy e=>d4_3 y hy (by simp[e])
 have djup3_10:∀ y ∈ g4_3,y ∉ g4_10:=fun y hy e=>d4_3 y hy (by simp[e])
 have djup3_11:∀ y ∈ g4_3,y ∉ g4_11:=fun y hy e=>d4_3 y hy (by simp[e])
 have djup3_12:∀ y ∈ g4_3,y ∉ g4_12:=fun y hy e=>d4_3 y hy (by simp[e])
 have djup4_5:∀ y ∈ g4_4,y ∉ g4_5:=fun y hy e=>d4_4 y hy (by simp[e])
 have djup4_6:∀ y ∈ g4_4,y ∉ g4_6:=fun y hy e=>d4_4 y hy (by simp[e])
 have djup4_7:∀ y ∈ g4_4,y ∉ g4_7:=fun y hy e=>d4_4 y hy (by simp[e])
 have djup4_8:∀ y ∈ g4_4,y ∉ g4_8:=fun y hy e=>d4_4 y hy (by simp[e])
 have djup4_9:∀ y ∈ g4_4,y ∉ g4_9:=fun y hy e=>d4_4 y hy (by simp[e])
 have djup4_10:∀ y ∈ g4_4,y ∉ g4_10:=fun y hy e=>d4_4 y hy (by simp[e])
 have djup4_11:∀ y ∈ g4_4,y ∉ g4_11:=fun y hy e=>d4_4 y hy (by simp[e])
 have djup4_12:∀ y ∈ g4_4,y ∉ g4_12:=fun y hy e=>d4_4 y hy (by simp[e])
 have djup5_6:∀ y ∈ g4_5,y ∉ g4_6:=fun y hy e=>d4_5 y hy (by simp[e])
 have djup5_7:∀ y ∈ g4_5,y ∉ g4_7:=fun y hy e=>d4_5 y hy (by simp[e])
 have djup5_8:∀ y ∈ g4_5,y ∉ g4_8:=fun y hy e=>d4_5 y hy (by simp[e])
 have djup5_9:∀ y ∈ g4_5,y ∉ g4_9:=fun y hy e=>d4_5 y hy (by simp[e])
 have djup5_10:∀ y ∈ g4_5,y ∉ g4_10:=fun y hy e=>d4_5 y hy (by simp[e])
 have djup5_11:∀ y ∈ g4_5,y ∉ g4_11:=fun y hy e=>d4_5 y hy (by simp[e])
 have djup5_12:∀ y ∈ g4_5,y ∉ g4_12:=fun y hy e=>d4_5 y hy (by simp[e])
 have djup6_7:∀ y ∈ g4_6,y ∉ g4_7:=fun y hy e=>d4_6 y hy (by simp[e])
 have djup6_8:∀ y ∈ g4_6,y ∉ g4_8:=fun y hy e=>d4_6 y hy (by simp[e])
 have djup6_9:∀ y ∈ g4_6,y ∉ g4_9:=fun y hy e=>d4_6 y hy (by simp[e])
 have djup6_10:∀ y ∈ g4_6,y ∉ g4_10:=fun y hy e=>d4_6 y hy (by simp[e])
 have djup6_11:∀ y ∈ g4_6,y ∉ g4_11:=fun y hy e=>d4_6 y hy (by simp[e])
 have djup6_12:∀ y ∈ g4_6,y ∉ g4_12:=fun y hy e=>d4_6 y hy (by simp[e])
 have djup7_8:∀ y ∈ g4_7,y ∉ g4_8:=fun y hy e=>d4_7 y hy (by simp[e])
 have djup7_9:∀ y ∈ g4_7,y ∉ g4_9:=fun y hy e=>d4_7 y hy (by simp[e])
 have djup7_10:∀ y ∈ g4_7,y ∉ g4_10:=fun y hy e=>d4_7 y hy (by simp[e])
 have djup7_11:∀ y ∈ g4_7,y ∉ g4_11:=fun y hy e=>d4_7 y hy (by simp[e])
 have djup7_12:∀ y ∈ g4_7,y ∉ g4_12:=fun y hy e=>d4_7 y hy (by simp[e])
 have djup8_9:∀ y ∈ g4_8,y ∉ g4_9:=fun y hy e=>d4_8 y hy (by simp[e])
 have djup8_10:∀ y ∈ g4_8,y ∉ g4_10:=fun y hy e=>d4_8 y hy (by simp[e])
 have djup8_11:∀ y ∈ g4_8,y ∉ g4_11:=fun y hy e=>d4_8 y hy (by simp[e])
 have djup8_12:∀ y ∈ g4_8,y ∉ g4_12:=fun y hy e=>d4_8 y hy (by simp[e])
 have djup9_10:∀ y ∈ g4_9,y ∉ g4_10:=fun y hy e=>d4_9 y hy (by simp[e])
 have djup9_11:∀ y ∈ g4_9,y ∉ g4_11:=fun y hy e=>d4_9 y hy (by simp[e])
 have djup9_12:∀ y ∈ g4_9,y ∉ g4_12:=fun y hy e=>d4_9 y hy (by simp[e])
 have djup10_11:∀ y ∈ g4_10,y ∉ g4_11:=fun y hy e=>d4_10 y hy (by simp[e])
 have djup10_12:∀ y ∈ g4_10,y ∉ g4_12:=fun y hy e=>d4_10 y hy (by simp[e])
 have djup11_12:∀ y ∈ g4_11,y ∉ g4_12:=fun y hy e=>d4_11 y hy (by simp[e])
 clear p4_0 ov4_0 d4_0 p4_1 ov4_1 d4_1 p4_2 ov4_2 d4_2 p4_3 ov4_3 d4_3 p4_4 ov4_4 d4_4 p4_5 ov4_5 d4_5 p4_6 ov4_6 d4_6 p4_7 ov4_7 d4_7 p4_8 ov4_8 d4_8 p4_9 ov4_9 d4_9 p4_10 ov4_10 d4_10 p4_11 ov4_11 d4_11 p4_12 ov4_12 d4_12 p4_13 ov4_13 d4_13 ov4 iv4 iw4
 go_wp2_with fail
 refine (HI.out _ _ _ _ _ _ _ _ _ _ _ (((oup3_4.out.below iup3 (by omega) ((Below.refl _ _).alloc (Nat.le_refl _) _)).rd iup3).mono (by first|omega|(simp;done)|(simp;omega))) (((oup4_4.out.below iup4 (by omega) ((Below.refl _ _).alloc (Nat.le_refl _) _)).rd iup4).mono (by first|omega|(simp;done)|(simp;omega))) (((oup5_4.out.below iup5 (by omega) ((Below.refl _ _).alloc (Nat.le_refl _) _)).rd iup5).mono (by first|omega|(simp;done)|(simp;omega))) (((oup6_4.out.below iup6 (by omega) ((Below.refl _ _).alloc (Nat.le_refl _) _)).rd iup6).mono (by first|omega|(simp;done)|(simp;omega))) (((oup7_4.out.below iup7 (by omega) ((Below.refl _ _).alloc (Nat.le_refl _) _)).rd iup7).mono (by first|omega|(simp;done)|(simp;omega))) (((oup8_4.out.below iup8 (by omega) ((Below.refl _ _).alloc (Nat.le_refl _) _)).rd iup8).mono (by first|omega|(simp;done)|(simp;omega))) (((oup9_4.out.below iup9 (by omega) ((Below.refl _ _).alloc (Nat.le_refl _) _)).rd iup9).mono (by first|omega|(simp;done)|(simp;omega))) (((oup10_4.out.below iup10 (by omega) ((Below.refl _ _).alloc (Nat.le_refl _) _)).rd iup10).mono (by first|omega|(simp;done)|(simp;omega))) (((oup11_4.out.below iup11 (by omega) ((Below.refl _ _).alloc (Nat.le_refl _) _)).rd iup11).mono (by first|omega|(simp;done)|(simp;omega))) (((oup12_4.out.below iup12 (by omega) ((Below.refl _ _).alloc (Nat.le_refl _) _)).rd iup12).mono (by first|omega|(simp;done)|(simp;omega))) (by omega) (by omega)).mono ?_
 rintro e w5 ⟨ag00,cg00,fg00,rfl,hb5,owg0,iwg0⟩
 have ig00:=iwg0.mono (lo':=w4.heap.size+1) (by first|omega|(simp;done)|(simp;omega)) (Nat.le_refl _)
 clear iwg0
 have hx5:Below w4.heap.size w4 (w4.alloc (.cells #[.int .i64 p.terrain.step,.int .i64 p.terrain.width,.int .i64 p.terrain.height,.slice aup3 p.terrain.heights.length cup3,.slice aup4 p.terrain.clutter.length cup4,.slice aup5 p.network.sites.length cup5,.slice aup6 p.network.sectors.length cup6,.slice aup7 p.network.antennas.length cup7,.slice aup8 p.network.radios.length cup8,.slice aup9 p.bands.length cup9,.slice aup10 p.licences.length cup10,.slice aup11 p.protected_.length cup11,.slice aup12 p.apart.length cup12,.int .i64 p.day] 53)):=((Below.refl _ _).alloc (Nat.le_refl _) _)
 have hbb5:Below w4.heap.size w4 w5:=hx5.trans (hb5.mono (by first|(simp;done)|(simp;omega)))
 have z5:=hbb5.size
 obtain⟨qAp5,_,yAp5⟩:=bcellAt hb5 (b:=w.heap.size) (by first|omega|(simp;done)|(simp;omega))
 obtain⟨qUp5,_,yUp5⟩:=bcellAt hb5 (b:=w4.heap.size) (by first|omega|(simp;done)|(simp;omega))
 have BB5:=Lib.hid (BB4.out.trans (hbb5.mono (by omega)))
 have os00_5:=Lib.hid (os00_4.out.below is00 (by omega) hbb5)
 have oup3_5:=Lib.hid (oup3_4.out.below iup3 (by omega) hbb5)
 have oup4_5:=Lib.hid (oup4_4.out.below iup4 (by omega) hbb5)
 have oup5_5:=Lib.hid (oup5_4.out.below iup5 (by omega) hbb5)
 have oup6_5:=Lib.hid (oup6_4.out.below iup6 (by omega) hbb5)
 have oup7_5:=Lib.hid (oup7_4.out.below iup7 (by omega) hbb5)
 have oup8_5:=Lib.hid (oup8_4.out.below iup8 (by omega) hbb5)
 have oup9_5:=Lib.hid (oup9_4.out.below iup9 (by omega) hbb5)
 have oup10_5:=Lib.hid (oup10_4.out.below iup10 (by omega) hbb5)
 have oup11_5:=Lib.hid (oup11_4.out.below iup11 (by omega) hbb5)
 have oup12_5:=Lib.hid (oup12_4.out.below iup12 (by omega) hbb5)
 clear hx5
 clear hb5 hbb5
 have og00_5:=Lib.hid owg0
 clear owg0
 go_wp2_with fail
 refine ((eq_FaultS R.1 _ _ w5.heap.size _ ((og00_5.out.rd ig00).mono (by omega)) ((os00_5.out.rd is00).mono (by omega)) (Nat.le_refl _) (by omega))).mono ?_
 rintro e w6 ⟨rfl,hb6⟩
 have hbb6:Below w5.heap.size w5 w6:=hb6
 have z6:=hbb6.size
 obtain⟨qAp6,_,yAp6⟩:=bcellAt hb6 (b:=w.heap.size) (by first|omega|(simp;done)|(simp;omega))
 obtain⟨qUp6,_,yUp6⟩:=bcellAt hb6 (b:=w4.heap.size) (by first|omega|(simp;done)|(simp;omega))
 have BB6:=Lib.hid (BB5.out.trans (hbb6.mono (by omega)))
 have os00_6:=Lib.hid (os00_5.out.below is00 (by omega) hbb6)
 have oup3_6:=Lib.hid (oup3_5.out.below iup3 (by omega) hbb6)
 have oup4_6:=Lib.hid (oup4_5.out.below iup4 (by omega) hbb6)
 have oup5_6:=Lib.hid (oup5_5.out.below iup5 (by omega) hbb6)
 have oup6_6:=Lib.hid (oup6_5.out.below iup6 (by omega) hbb6)
 have oup7_6:=Lib.hid (oup7_5.out.below iup7 (by omega) hbb6)
 have oup8_6:=Lib.hid (oup8_5.out.below iup8 (by omega) hbb6)
 have oup9_6:=Lib.hid (oup9_5.out.below iup9 (by omega) hbb6)
 have oup10_6:=Lib.hid (oup10_5.out.below iup10 (by omega) hbb6)
 have oup11_6:=Lib.hid (oup11_5.out.below iup11 (by omega) hbb6)
 have oup12_6:=Lib.hid (oup12_5.out.below iup12 (by omega) hbb6)
 have og00_6:=Lib.hid (og00_5.out.below ig00 (by omega) hbb6)
 clear hbb6
 clear cy1
 have hcf:w6.cell? ⟨w4.heap.size,0,none⟩=some (.int .i64 p.terrain.step)∧w6.cell? ⟨w4.heap.size,1,none⟩=some (.int .i64 p.terrain.width)∧w6.cell? ⟨w4.heap.size,2,none⟩=some (.int .i64 p.terrain.height)∧w6.cell? ⟨w4.heap.size,3,none⟩=some (.slice aup3 p.terrain.heights.length cup3)∧w6.cell? ⟨w4.heap.size,4,none⟩=some (.slice aup4 p.terrain.clutter.length cup4)∧w6.cell? ⟨w4.heap.size,5,none⟩=some (.slice aup5 p.network.sites.length cup5)∧w6.cell? ⟨w4.heap.size,6,none⟩=some (.slice aup6 p.network.sectors.length cup6)∧w6.cell? ⟨w4.heap.size,7,none⟩=some (.slice aup7 p.network.antennas.length cup7)∧w6.cell? ⟨w4.heap.size,8,none⟩=some (.slice aup8 p.network.radios.length cup8)∧w6.cell? ⟨w4.heap.size,9,none⟩=some (.slice aup9 p.bands.length cup9)∧w6.cell? ⟨w4.heap.size,10,none⟩=some (.slice aup10 p.licences.length cup10)∧w6.cell? ⟨w4.heap.size,11,none⟩=some (.slice aup11 p.protected_.length cup11)∧w6.cell? ⟨w4.heap.size,12,none⟩=some (.slice aup12 p.apart.length cup12)∧w6.cell? ⟨w4.heap.size,13,none⟩=some (.int .i64 p.day)∧w6.cell? ⟨w.heap.size,0,none⟩=some (.int .i64 p.terrain.step)∧w6.cell? ⟨w.heap.size,1,none⟩=some (.int .i64 p.terrain.width)∧w6.cell? ⟨w.heap.size,2,none⟩=some (.int .i64 p.terrain.height)∧w6.cell? ⟨w.heap.size,3,none⟩=some (vp3)∧w6.cell? ⟨w.heap.size,4,none⟩=some (vp4)∧w6.cell? ⟨w.heap.size,5,none⟩=some (vp5)∧w6.cell? ⟨w.heap.size,6,none⟩=some (vp6)∧w6.cell? ⟨w.heap.size,7,none⟩=some (vp7)∧w6.cell? ⟨w.heap.size,8,none⟩=some (vp8)∧w6.cell? ⟨w.heap.size,9,none⟩=some (vp9)∧w6.cell? ⟨w.heap.size,10,none⟩=some (vp10)∧w6.cell? ⟨w.heap.size,11,none⟩=some (vp11)∧w6.cell? ⟨w.heap.size,12,none⟩=some (vp12)∧w6.cell? ⟨w.heap.size,13,none⟩=some (.int .i64 p.day):=by refine⟨?_,?_,?_,?_,?_,?_,?_,?_,?_,?_,?_,?_,?_,?_,?_,?_,?_,?_,?_,?_,?_,?_,?_,?_,?_,?_,?_,?_⟩<;>simp[go_sem, *]
 go_wp2
 have hsame:Below w6.heap.size w6 w6.drew:=⟨rfl,rfl,rfl,Nat.le_refl _,fun _ _=>rfl⟩
 have BBd:=Lib.hid BB6.out.drew
 have HTO:=Lib.hid (to_Plan p vp3 vp4 vp5 vp6 vp7 vp8 vp9 vp10 vp11 vp12 w6.drew ((Hp3.out.below BBd.out).mono (by show w.heap.size≤w6.heap.size;omega)) ((Hp4.out.below BBd.out).mono (by show w.heap.size≤w6.heap.size;omega)) ((Hp5.out.below BBd.out).mono (by show w.heap.size≤w6.heap.size;omega)) ((Hp6.out.below BBd.out).mono (by show w.heap.size≤w6.heap.size;omega)) ((Hp7.out.below BBd.out).mono (by show w.heap.size≤w6.heap.size;omega)) ((Hp8.out.below BBd.out).mono (by show w.heap.size≤w6.heap.size;omega)) ((Hp9.out.below BBd.out).mono (by show w.heap.size≤w6.heap.size;omega)) ((Hp10.out.below BBd.out).mono (by show w.heap.size≤w6.heap.size;omega)) ((Hp11.out.below BBd.out).mono (by show w.heap.size≤w6.heap.size;omega)) ((Hp12.out.below BBd.out).mono (by show w.heap.size≤w6.heap.size;omega)) (by omega))
 have HEQ:Hid (∀ (W:World) (p3 p4 p5 p6 p7 p8 p9 p10 p11 p12 q3 q4 q5 q6 q7 q8 q9 q10 q11 q12:Value),Below w6.heap.size w6 W→RdV W.heap.size W p.tr [.int .i64 p.terrain.step,.int .i64 p.terrain.width,.int .i64 p.terrain.height,q3,q4,q5,q6,q7,q8,q9,q10,q11,q12,.int .i64 p.day]→p3=.slice aup3 p.terrain.heights.length cup3→p4=.slice aup4 p.terrain.clutter.length cup4→p5=.slice aup5 p.network.sites.length cup5→p6=.slice aup6 p.network.sectors.length cup6→p7=.slice aup7 p.network.antennas.length cup7→p8=.slice aup8 p.network.radios.length cup8→p9=.slice aup9 p.bands.length cup9→p10=.slice aup10 p.licences.length cup10→p11=.slice aup11 p.protected_.length cup11→p12=.slice aup12 p.apart.length cup12→Calls Tryz.prog 16 #[.agg #[.int .i64 p.terrain.step,.int .i64 p.terrain.width,.int .i64 p.terrain.height,p3,p4,p5,p6,p7,p8,p9,p10,p11,p12,.int .i64 p.day],.agg #[.int .i64 p.terrain.step,.int .i64 p.terrain.width,.int .i64 p.terrain.height,q3,q4,q5,q6,q7,q8,q9,q10,q11,q12,.int .i64 p.day]] W fun e w'=>e=.returned (.bool true)∧Below W.heap.size W w'):=fun W p3 p4 p5 p6 p7 p8 p9 p10 p11 p12 q3 q4 q5 q6 q7 q8 q9 q10 q11 q12 hW hr e3 e4 e5 e6 e7 e8 e9 e10 e11 e12=>by
  subst e3 e4 e5 e6 e7 e8 e9 e10 e11 e12
  have hzW:=hW.size
  exact eq_Plan p _ _ _ _ _ _ _ _ _ _ _ _ _ _ _ _ _ _ _ _ W.heap.size W (((oup3_6.out.below iup3 (by omega) hW).rd iup3).mono (by omega)) hr.2.2.2.1 (((oup4_6.out.below iup4 (by omega) hW).rd iup4).mono (by omega)) hr.2.2.2.2.1 (((oup5_6.out.below iup5 (by omega) hW).rd iup5).mono (by omega)) hr.2.2.2.2.2.1 (((oup6_6.out.below iup6 (by omega) hW).rd iup6).mono (by omega)) hr.2.2.2.2.2.2.1 (((oup7_6.out.below iup7 (by omega) hW).rd iup7).mono (by omega)) hr.2.2.2.2.2.2.2.1 (((oup8_6.out.below iup8 (by omega) hW).rd iup8).mono (by omega)) hr.2.2.2.2.2.2.2.2.1 (((oup9_6.out.below iup9 (by omega) hW).rd iup9).mono (by omega)) hr.2.2.2.2.2.2.2.2.2.1 (((oup10_6.out.below iup10 (by omega) hW).rd iup10).mono (by omega)) hr.2.2.2.2.2.2.2.2.2.2.1 (((oup11_6.out.below iup11 (by omega) hW).rd iup11).mono (by omega)) hr.2.2.2.2.2.2.2.2.2.2.2.1 (((oup12_6.out.below iup12 (by omega) hW).rd iup12).mono (by omega)) hr.2.2.2.2.2.2.2.2.2.2.2.2.1 (Nat.le_refl _) (by omega)
 go_region_held3 (fun W=>W.cell? ⟨w4.heap.size,0,none⟩=some (.int .i64 p.terrain.step)∧W.cell? ⟨w4.heap.size,1,none⟩=some (.int .i64 p.terrain.width)∧W.cell? ⟨w4.heap.size,2,none⟩=some (.int .i64 p.terrain.height)∧W.cell? ⟨w4.heap.size,3,none⟩=some (.slice aup3 p.terrain.heights.length cup3)∧W.cell? ⟨w4.heap.size,4,none⟩=some (.slice aup4 p.terrain.clutter.length cup4)∧W.cell? ⟨w4.heap.size,5,none⟩=some (.slice aup5 p.network.sites.length cup5)∧W.cell? ⟨w4.heap.size,6,none⟩=some (.slice aup6 p.network.sectors.length cup6)∧W.cell? ⟨w4.heap.size,7,none⟩=some (.slice aup7 p.network.antennas.length cup7)∧W.cell? ⟨w4.heap.size,8,none⟩=some (.slice aup8 p.network.radios.length cup8)∧W.cell? ⟨w4.heap.size,9,none⟩=some (.slice aup9 p.bands.length cup9)∧W.cell? ⟨w4.heap.size,10,none⟩=some (.slice aup10 p.licences.length cup10)∧W.cell? ⟨w4.heap.size,11,none⟩=some (.slice aup11 p.protected_.length cup11)∧W.cell? ⟨w4.heap.size,12,none⟩=some (.slice aup12 p.apart.length cup12)∧W.cell? ⟨w4.heap.size,13,none⟩=some (.int .i64 p.day)∧W.cell? ⟨w.heap.size,0,none⟩=some (.int .i64 p.terrain.step)∧W.cell? ⟨w.heap.size,1,none⟩=some (.int .i64 p.terrain.width)∧W.cell? ⟨w.heap.size,2,none⟩=some (.int .i64 p.terrain.height)∧W.cell? ⟨w.heap.size,3,none⟩=some (vp3)∧W.cell? ⟨w.heap.size,4,none⟩=some (vp4)∧W.cell? ⟨w.heap.size,5,none⟩=some (vp5)∧W.cell? ⟨w.heap.size,6,none⟩=some (vp6)∧W.cell? ⟨w.heap.size,7,none⟩=some (vp7)∧W.cell? ⟨w.heap.size,8,none⟩=some (vp8)∧W.cell? ⟨w.heap.size,9,none⟩=some (vp9)∧W.cell? ⟨w.heap.size,10,none⟩=some (vp10)∧W.cell? ⟨w.heap.size,11,none⟩=some (vp11)∧W.cell? ⟨w.heap.size,12,none⟩=some (vp12)∧W.cell? ⟨w.heap.size,13,none⟩=some (.int .i64 p.day)) (first|exact hcf|(refine⟨?_,?_,?_,?_,?_,?_,?_,?_,?_,?_,?_,?_,?_,?_,?_,?_,?_,?_,?_,?_,?_,?_,?_,?_,?_,?_,?_,?_⟩<;>simp[go_sem, *]))
  (first
   | (go_at_call 13;refine (HTO.out).mono ?_;rintro e wt ⟨at3,ct3,at4,ct4,at5,ct5,at6,ct6,at7,ct7,at8,ct8,at9,ct9,at10,ct10,at11,ct11,at12,ct12,ft,rfl,hbt,ovt,ivt⟩;obtain⟨qUt,_,yUt⟩:=bcellAt hbt (b:=w4.heap.size) (by show w4.heap.size<w6.heap.size;omega);obtain⟨qAt,_,yAt⟩:=bcellAt hbt (b:=w.heap.size) (by show w.heap.size<w6.heap.size;omega))
   | (go_at_call 16;refine (HEQ.out _ _ _ _ _ _ _ _ _ _ _ _ _ _ _ _ _ _ _ _ _ (hsame.trans hbt) (ovt.rd ivt) rfl rfl rfl rfl rfl rfl rfl rfl rfl rfl).mono ?_;rintro e w7 ⟨rfl,hbe⟩;obtain⟨qUe,_,yUe⟩:=bcellAt hbe (b:=w4.heap.size) yUt;obtain⟨qAe,_,yAe⟩:=bcellAt hbe (b:=w.heap.size) yAt))
 have hb7:Below w6.heap.size w6 w7:=(hsame.trans hbt).trans (hbe.mono (hsame.trans hbt).size)
 clear HEQ HTO BBd hcf qUt qAt qUe qAe yUt yAt yUe yAe hbe hbt ovt ivt hsame
 have hbb7:Below w6.heap.size w6 w7:=hb7
 have z7:=hbb7.size
 obtain⟨qAp7,_,yAp7⟩:=bcellAt hb7 (b:=w.heap.size) (by first|omega|(simp;done)|(simp;omega))
 obtain⟨qUp7,_,yUp7⟩:=bcellAt hb7 (b:=w4.heap.size) (by first|omega|(simp;done)|(simp;omega))
 have BB7:=Lib.hid (BB6.out.trans (hbb7.mono (by omega)))
 have os00_7:=Lib.hid (os00_6.out.below is00 (by omega) hbb7)
 have oup3_7:=Lib.hid (oup3_6.out.below iup3 (by omega) hbb7)
 have oup4_7:=Lib.hid (oup4_6.out.below iup4 (by omega) hbb7)
 have oup5_7:=Lib.hid (oup5_6.out.below iup5 (by omega) hbb7)
 have oup6_7:=Lib.hid (oup6_6.out.below iup6 (by omega) hbb7)
 have oup7_7:=Lib.hid (oup7_6.out.below iup7 (by omega) hbb7)
 have oup8_7:=Lib.hid (oup8_6.out.below iup8 (by omega) hbb7)
 have oup9_7:=Lib.hid (oup9_6.out.below iup9 (by omega) hbb7)
 have oup10_7:=Lib.hid (oup10_6.out.below iup10 (by omega) hbb7)
 have oup11_7:=Lib.hid (oup11_6.out.below iup11 (by omega) hbb7)
 have oup12_7:=Lib.hid (oup12_6.out.below iup12 (by omega) hbb7)
 have og00_7:=Lib.hid (og00_6.out.below ig00 (by omega) hbb7)
 clear hbb7
 go_wp2_with fail
 refine (mark_Plan p _ _ _ _ _ _ _ _ _ _ g4_3 g4_4 g4_5 g4_6 g4_7 g4_8 g4_9 g4_10 g4_11 g4_12 (1) _ _ _ _ _ _ _ _ _ _ _ _ _ _ _ _ _ _ _ _ _ oup3_7.out iup3 (by first|omega|(simp;done)|(simp;omega)) oup4_7.out iup4 (by first|omega|(simp;done)|(simp;omega)) oup5_7.out iup5 (by first|omega|(simp;done)|(simp;omega)) oup6_7.out iup6 (by first|omega|(simp;done)|(simp;omega)) oup7_7.out iup7 (by first|omega|(simp;done)|(simp;omega)) oup8_7.out iup8 (by first|omega|(simp;done)|(simp;omega)) oup9_7.out iup9 (by first|omega|(simp;done)|(simp;omega)) oup10_7.out iup10 (by first|omega|(simp;done)|(simp;omega)) oup11_7.out iup11 (by first|omega|(simp;done)|(simp;omega)) oup12_7.out iup12 (by first|omega|(simp;done)|(simp;omega)) djup3_4 djup3_5 djup3_6 djup3_7 djup3_8 djup3_9 djup3_10 djup3_11 djup3_12 djup4_5 djup4_6 djup4_7 djup4_8 djup4_9 djup4_10 djup4_11 djup4_12 djup5_6 djup5_7 djup5_8 djup5_9 djup5_10 djup5_11 djup5_12 djup6_7 djup6_8 djup6_9 djup6_10 djup6_11 djup6_12 djup7_8 djup7_9 djup7_10 djup7_11 djup7_12 djup8_9 djup8_10 djup8_11 djup8_12 djup9_10 djup9_11 djup9_12 djup10_11 djup10_12 djup11_12 (by omega) (by omega) (by omega)).mono ?_
 rintro e w8 ⟨rfl,mup3,mup4,mup5,mup6,mup7,mup8,mup9,mup10,mup11,mup12,hc8⟩
 have hcc8:Chg (g4_3++g4_4++g4_5++g4_6++g4_7++g4_8++g4_9++g4_10++g4_11++g4_12) w7 w8:=hc8
 have z8:=hcc8.size
 have IA8:=Lib.hid (((((((((iup3.append iup4).append iup5).append iup6).append iup7).append iup8).append iup9).append iup10).append iup11).append iup12)
 have hkAp8:=hc8.block (w.heap.size) (by first|omega|(simp;done)|(simp;omega)) (fun e=>by have h2:=IA8.out _ e;omega)
 have qAp8:∀ o,w8.cell? ⟨w.heap.size,o,none⟩=_:=fun o=>World.cell?_of_block (a:=⟨w.heap.size,o,none⟩) hkAp8
 have yAp8:w.heap.size<w8.heap.size:=by first|omega|(have:=hc8.size;simp at this;omega)
 clear hkAp8
 have hkUp8:=hc8.block (w4.heap.size) (by first|omega|(simp;done)|(simp;omega)) (fun e=>by have h2:=IA8.out _ e;omega)
 have qUp8:∀ o,w8.cell? ⟨w4.heap.size,o,none⟩=_:=fun o=>World.cell?_of_block (a:=⟨w4.heap.size,o,none⟩) hkUp8
 have yUp8:w4.heap.size<w8.heap.size:=by first|omega|(have:=hc8.size;simp at this;omega)
 clear hkUp8
 have BB8:=Lib.hid (BB7.out.trans (hcc8.below (by omega) (fun x hx=>by have h2:=IA8.out x hx;omega)))
 have os00_8:=Lib.hid (os00_7.out.chg is00 (by omega) hcc8 (fun x hx e=>by have hx0:=is00 x hx;have h2:=IA8.out x e;omega))
 have og00_8:=Lib.hid (og00_7.out.chg ig00 (by omega) hcc8 (fun x hx e=>by have hx0:=ig00 x hx;have h2:=IA8.out x e;omega))
 clear hcc8
 have koup3_8:=Lib.hid mup3
 clear mup3
 have koup4_8:=Lib.hid mup4
 clear mup4
 have koup5_8:=Lib.hid mup5
 clear mup5
 have koup6_8:=Lib.hid mup6
 clear mup6
 have koup7_8:=Lib.hid mup7
 clear mup7
 have koup8_8:=Lib.hid mup8
 clear mup8
 have koup9_8:=Lib.hid mup9
 clear mup9
 have koup10_8:=Lib.hid mup10
 clear mup10
 have koup11_8:=Lib.hid mup11
 clear mup11
 have koup12_8:=Lib.hid mup12
 clear mup12
 have kd8:decide (((1+cnt (intsT p.terrain.heights)+cnt (intsT p.terrain.clutter)+cnt (DSite.sT p.network.sites)+cnt (DSector.sT p.network.sectors)+cnt (DAntenna.sT p.network.antennas)+cnt (DRadio.sT p.network.radios)+cnt (DBand.sT p.bands)+cnt (DLicence.sT p.licences)+cnt (DProtected.sT p.protected_)+cnt (intssT p.apart):Nat):Int)<0)=false:=by simp;omega
 go_wp2_with fail
 refine ((eq_FaultS R.1 _ _ w8.heap.size _ ((og00_8.out.rd ig00).mono (by omega)) ((os00_8.out.rd is00).mono (by omega)) (Nat.le_refl _) (by omega))).mono ?_
 rintro e w9 ⟨rfl,hb9⟩
 have hbb9:Below w8.heap.size w8 w9:=hb9
 have z9:=hbb9.size
 obtain⟨qAp9,_,yAp9⟩:=bcellAt hb9 (b:=w.heap.size) (by first|omega|(simp;done)|(simp;omega))
 obtain⟨qUp9,_,yUp9⟩:=bcellAt hb9 (b:=w4.heap.size) (by first|omega|(simp;done)|(simp;omega))
 have BB9:=Lib.hid (BB8.out.trans (hbb9.mono (by omega)))
 have os00_9:=Lib.hid (os00_8.out.below is00 (by omega) hbb9)
 have og00_9:=Lib.hid (og00_8.out.below ig00 (by omega) hbb9)
 clear hbb9
 go_wp2_with fail
 refine (mark_FaultS R.1 _ fg00 (1) _ _ og00_9.out (ig00.mono (Nat.le_refl _) (by first|omega|(simp;done)|(simp;omega))) (by omega) (by omega) (by omega)).mono ?_
 rintro e w10 ⟨rfl,mg00,hc10⟩
 have hcc10:Chg fg00 w9 w10:=hc10
 have z10:=hcc10.size
 have hkAp10:=hc10.block (w.heap.size) (by first|omega|(simp;done)|(simp;omega)) (fun e=>by have h2:=ig00 _ e;omega)
 have qAp10:∀ o,w10.cell? ⟨w.heap.size,o,none⟩=_:=fun o=>World.cell?_of_block (a:=⟨w.heap.size,o,none⟩) hkAp10
 have yAp10:w.heap.size<w10.heap.size:=by first|omega|(have:=hc10.size;simp at this;omega)
 clear hkAp10
 have hkUp10:=hc10.block (w4.heap.size) (by first|omega|(simp;done)|(simp;omega)) (fun e=>by have h2:=ig00 _ e;omega)
 have qUp10:∀ o,w10.cell? ⟨w4.heap.size,o,none⟩=_:=fun o=>World.cell?_of_block (a:=⟨w4.heap.size,o,none⟩) hkUp10
 have yUp10:w4.heap.size<w10.heap.size:=by first|omega|(have:=hc10.size;simp at this;omega)
 clear hkUp10
 have BB10:=Lib.hid (BB9.out.trans (hcc10.below (by omega) (fun x hx=>by have h2:=ig00 x hx;omega)))
 have os00_10:=Lib.hid (os00_9.out.chg is00 (by omega) hcc10 (fun x hx e=>by have hx0:=is00 x hx;have h2:=ig00 x e;omega))
 clear hcc10
 have kog00_10:=Lib.hid mg00
 clear mg00
 go_wp2_with fail
 refine (held_FaultS R.1 _ w10.heap.size (1) _ ((kog00_10.out.rd ig00).mono (by omega)) (Nat.le_refl _) (by omega) (by omega) (by omega)).mono ?_
 rintro e w11 ⟨rfl,hb11⟩
 have hbb11:Below w10.heap.size w10 w11:=hb11
 have z11:=hbb11.size
 obtain⟨qAp11,_,yAp11⟩:=bcellAt hb11 (b:=w.heap.size) (by first|omega|(simp;done)|(simp;omega))
 obtain⟨qUp11,_,yUp11⟩:=bcellAt hb11 (b:=w4.heap.size) (by first|omega|(simp;done)|(simp;omega))
 have BB11:=Lib.hid (BB10.out.trans (hbb11.mono (by omega)))
 have os00_11:=Lib.hid (os00_10.out.below is00 (by omega) hbb11)
 have kog00_11:=Lib.hid (kog00_10.out.below ig00 (by omega) hbb11)
 clear hbb11
 go_wp2_with fail
 have BX12:Hid (Below w.heap.size w w11):=BB11.out
 have zx12:=BX12.out.size
 refine (to_Plan p _ _ _ _ _ _ _ _ _ _ _ ((Hp3.out.below BX12.out).mono zx12) ((Hp4.out.below BX12.out).mono zx12) ((Hp5.out.below BX12.out).mono zx12) ((Hp6.out.below BX12.out).mono zx12) ((Hp7.out.below BX12.out).mono zx12) ((Hp8.out.below BX12.out).mono zx12) ((Hp9.out.below BX12.out).mono zx12) ((Hp10.out.below BX12.out).mono zx12) ((Hp11.out.below BX12.out).mono zx12) ((Hp12.out.below BX12.out).mono zx12) (by omega)).mono ?_
 rintro e w12 ⟨amp3,cmp3,amp4,cmp4,amp5,cmp5,amp6,cmp6,amp7,cmp7,amp8,cmp8,amp9,cmp9,amp10,cmp10,amp11,cmp11,amp12,cmp12,fmp,rfl,hb12,ov12,iv12⟩
 have hbb12:Below w11.heap.size w11 w12:=hb12
 have z12:=hbb12.size
 obtain⟨qAp12,_,yAp12⟩:=bcellAt hb12 (b:=w.heap.size) (by first|omega|(simp;done)|(simp;omega))
 obtain⟨qUp12,_,yUp12⟩:=bcellAt hb12 (b:=w4.heap.size) (by first|omega|(simp;done)|(simp;omega))
 have BB12:=Lib.hid (BB11.out.trans (hbb12.mono (by omega)))
 have os00_12:=Lib.hid (os00_11.out.below is00 (by omega) hbb12)
 have kog00_12:=Lib.hid (kog00_11.out.below ig00 (by omega) hbb12)
 clear hbb12
 obtain⟨g12_0,r12_0,e12_0,p12_0,ov12_0,d12_0⟩:=OwnV.uncons ov12
 obtain⟨_,hz12_0⟩:=Rep_lit.1 p12_0.rep
 subst hz12_0
 obtain⟨g12_1,r12_1,e12_1,p12_1,ov12_1,d12_1⟩:=OwnV.uncons ov12_0
 obtain⟨_,hz12_1⟩:=Rep_lit.1 p12_1.rep
 subst hz12_1
 obtain⟨g12_2,r12_2,e12_2,p12_2,ov12_2,d12_2⟩:=OwnV.uncons ov12_1
 obtain⟨_,hz12_2⟩:=Rep_lit.1 p12_2.rep
 subst hz12_2
 obtain⟨g12_3,r12_3,e12_3,p12_3,ov12_3,d12_3⟩:=OwnV.uncons ov12_2
 obtain⟨g12_4,r12_4,e12_4,p12_4,ov12_4,d12_4⟩:=OwnV.uncons ov12_3
 obtain⟨g12_5,r12_5,e12_5,p12_5,ov12_5,d12_5⟩:=OwnV.uncons ov12_4
 obtain⟨g12_6,r12_6,e12_6,p12_6,ov12_6,d12_6⟩:=OwnV.uncons ov12_5
 obtain⟨g12_7,r12_7,e12_7,p12_7,ov12_7,d12_7⟩:=OwnV.uncons ov12_6
 obtain⟨g12_8,r12_8,e12_8,p12_8,ov12_8,d12_8⟩:=OwnV.uncons ov12_7
 obtain⟨g12_9,r12_9,e12_9,p12_9,ov12_9,d12_9⟩:=OwnV.uncons ov12_8
 obtain⟨g12_10,r12_10,e12_10,p12_10,ov12_10,d12_10⟩:=OwnV.uncons ov12_9
 obtain⟨g12_11,r12_11,e12_11,p12_11,ov12_11,d12_11⟩:=OwnV.uncons ov12_10
 obtain⟨g12_12,r12_12,e12_12,p12_12,ov12_12,d12_12⟩:=OwnV.uncons ov12_11
 obtain⟨g12_13,r12_13,e12_13,p12_13,ov12_13,d12_13⟩:=OwnV.uncons ov12_12
 obtain⟨_,hz12_13⟩:=Rep_lit.1 p12_13.rep
 subst hz12_13
 have iw12:=iv12.mono (lo':=w11.heap.size+0) (by first|omega|(simp;done)|(simp;omega)) (Nat.le_refl _)
 have hnil12:=ov12_13.rep
 change r12_13 = [] at hnil12
 subst hnil12
 subst e12_13
 subst e12_12
 subst e12_11
 subst e12_10
 subst e12_9
 subst e12_8
 subst e12_7
 subst e12_6
 subst e12_5
 subst e12_4
 subst e12_3
 subst e12_2
 subst e12_1
 subst e12_0
 have imp3:In _ _ g12_3:=fun y hy=>iw12 y (by simp[hy])
 have omp3_12:=Lib.hid p12_3
 have imp4:In _ _ g12_4:=fun y hy=>iw12 y (by simp[hy])
 have omp4_12:=Lib.hid p12_4
 have imp5:In _ _ g12_5:=fun y hy=>iw12 y (by simp[hy])
 have omp5_12:=Lib.hid p12_5
 have imp6:In _ _ g12_6:=fun y hy=>iw12 y (by simp[hy])
 have omp6_12:=Lib.hid p12_6
 have imp7:In _ _ g12_7:=fun y hy=>iw12 y (by simp[hy])
 have omp7_12:=Lib.hid p12_7
 have imp8:In _ _ g12_8:=fun y hy=>iw12 y (by simp[hy])
 have omp8_12:=Lib.hid p12_8
 have imp9:In _ _ g12_9:=fun y hy=>iw12 y (by simp[hy])
 have omp9_12:=Lib.hid p12_9
 have imp10:In _ _ g12_10:=fun y hy=>iw12 y (by simp[hy])
 have omp10_12:=Lib.hid p12_10
 have imp11:In _ _ g12_11:=fun y hy=>iw12 y (by simp[hy])
 have omp11_12:=Lib.hid p12_11
 have imp12:In _ _ g12_12:=fun y hy=>iw12 y (by simp[hy])
 have omp12_12:=Lib.hid p12_12
 have djmp3_4:∀ y ∈ g12_3,y ∉ g12_4:=fun y hy e=>d12_3 y hy (by simp[e])
 have djmp3_5:∀ y ∈ g12_3,y ∉ g12_5:=fun y hy e=>d12_3 y hy (by simp[e])
 have djmp3_6:∀ y ∈ g12_3,y ∉ g12_6:=fun y hy e=>d12_3 y hy (by simp[e])
 have djmp3_7:∀ y ∈ g12_3,y ∉ g12_7:=fun y hy e=>d12_3 y hy (by simp[e])
 have djmp3_8:∀ y ∈ g12_3,y ∉ g12_8:=fun y hy e=>d12_3 y hy (by simp[e])
 have djmp3_9:∀ y ∈ g12_3,y ∉ g12_9:=fun y hy e=>d12_3 y hy (by simp[e])
 have djmp3_10:∀ y ∈ g12_3,y ∉ g12_10:=fun y hy e=>d12_3 y hy (by simp[e])
 have djmp3_11:∀ y ∈ g12_3,y ∉ g12_11:=fun y hy e=>d12_3 y hy (by simp[e])
 have djmp3_12:∀ y ∈ g12_3,y ∉ g12_12:=fun y hy e=>d12_3 y hy (by simp[e])
 have djmp4_5:∀ y ∈ g12_4,y ∉ g12_5:=fun y hy e=>d12_4 y hy (by simp[e])
 have djmp4_6:∀ y ∈ g12_4,y ∉ g12_6:=fun y hy e=>d12_4 y hy (by simp[e])
 have djmp4_7:∀ y ∈ g12_4,y ∉ g12_7:=fun y hy e=>d12_4 y hy (by simp[e])
 have djmp4_8:∀ y ∈ g12_4,y ∉ g12_8:=fun y hy e=>d12_4 y hy (by simp[e])
 have djmp4_9:∀ y ∈ g12_4,y ∉ g12_9:=fun y hy e=>d12_4 y hy (by simp[e])
 have djmp4_10:∀ y ∈ g12_4,y ∉ g12_10:=fun y hy e=>d12_4 y hy (by simp[e])
 have djmp4_11:∀ y ∈ g12_4,y ∉ g12_11:=fun y hy e=>d12_4 y hy (by simp[e])
 have djmp4_12:∀ y ∈ g12_4,y ∉ g12_12:=fun y hy e=>d12_4 y hy (by simp[e])
 have djmp5_6:∀ y ∈ g12_5,y ∉ g12_6:=fun y hy e=>d12_5 y hy (by simp[e])
 have djmp5_7:∀ y ∈ g12_5,y ∉ g12_7:=fun y hy e=>d12_5 y hy (by simp[e])
 have djmp5_8:∀ y ∈ g12_5,y ∉ g12_8:=fun y hy e=>d12_5 y hy (by simp[e])
 have djmp5_9:∀ y ∈ g12_5,y ∉ g12_9:=fun y hy e=>d12_5 y hy (by simp[e])
 have djmp5_10:∀ y ∈ g12_5,y ∉ g12_10:=fun y hy e=>d12_5 y hy (by simp[e])
 have djmp5_11:∀ y ∈ g12_5,y ∉ g12_11:=fun y hy e=>d12_5 y hy (by simp[e])
 have djmp5_12:∀ y ∈ g12_5,y ∉ g12_12:=fun y hy e=>d12_5 y hy (by simp[e])
 have djmp6_7:∀ y ∈ g12_6,y ∉ g12_7:=fun y hy e=>d12_6 y hy (by simp[e])
 have djmp6_8:∀ y ∈ g12_6,y ∉ g12_8:=fun y hy e=>d12_6 y hy (by simp[e])
 have djmp6_9:∀ y ∈ g12_6,y ∉ g12_9:=fun y hy e=>d12_6 y hy (by simp[e])
 have djmp6_10:∀ y ∈ g12_6,y ∉ g12_10:=fun y hy e=>d12_6 y hy (by simp[e])
 have djmp6_11:∀ y ∈ g12_6,y ∉ g12_11:=fun y hy e=>d12_6 y hy (by simp[e])
 have djmp6_12:∀ y ∈ g12_6,y ∉ g12_12:=fun y hy e=>d12_6 y hy (by simp[e])
 have djmp7_8:∀ y ∈ g12_7,y ∉ g12_8:=fun y hy e=>d12_7 y hy (by simp[e])
 have djmp7_9:∀ y ∈ g12_7,y ∉ g12_9:=fun y hy e=>d12_7 y hy (by simp[e])
 have djmp7_10:∀ y ∈ g12_7,y ∉ g12_10:=fun y hy e=>d12_7 y hy (by simp[e])
 have djmp7_11:∀ y ∈ g12_7,y ∉ g12_11:=fun y hy e=>d12_7 y hy (by simp[e])
 have djmp7_12:∀ y ∈ g12_7,y ∉ g12_12:=fun y hy e=>d12_7 y hy (by simp[e])
 have djmp8_9:∀ y ∈ g12_8,y ∉ g12_9:=fun y hy e=>d12_8 y hy (by simp[e])
 have djmp8_10:∀ y ∈ g12_8,y ∉ g12_10:=fun y hy e=>d12_8 y hy (by simp[e])
 have djmp8_11:∀ y ∈ g12_8,y ∉ g12_11:=fun y hy e=>d12_8 y hy (by simp[e])
 have djmp8_12:∀ y ∈ g12_8,y ∉ g12_12:=fun y hy e=>d12_8 y hy (by simp[e])
 have djmp9_10:∀ y ∈ g12_9,y ∉ g12_10:=fun y hy e=>d12_9 y hy (by simp[e])
 have djmp9_11:∀ y ∈ g12_9,y ∉ g12_11:=fun y hy e=>d12_9 y hy (by simp[e])
 have djmp9_12:∀ y ∈ g12_9,y ∉ g12_12:=fun y hy e=>d12_9 y hy (by simp[e])
 have djmp10_11:∀ y ∈ g12_10,y ∉ g12_11:=fun y hy e=>d12_10 y hy (by simp[e])
 have djmp10_12:∀ y ∈ g12_10,y ∉ g12_12:=fun y hy e=>d12_10 y hy (by simp[e])
 have djmp11_12:∀ y ∈ g12_11,y ∉ g12_12:=fun y hy e=>d12_11 y hy (by simp[e])
 clear p12_0 ov12_0 d12_0 p12_1 ov12_1 d12_1 p12_2 ov12_2 d12_2 p12_3 ov12_3 d12_3 p12_4 ov12_4 d12_4 p12_5 ov12_5 d12_5 p12_6 ov12_6 d12_6 p12_7 ov12_7 d12_7 p12_8 ov12_8 d12_8 p12_9 ov12_9 d12_9 p12_10 ov12_10 d12_10 p12_11 ov12_11 d12_11 p12_12 ov12_12 d12_12 p12_13 ov12_13 d12_13 ov12 iv12 iw12
 go_wp2_with fail
 refine (HI.out _ _ _ _ _ _ _ _ _ _ _ ((omp3_12.out.rd imp3).mono (by omega)) ((omp4_12.out.rd imp4).mono (by omega)) ((omp5_12.out.rd imp5).mono (by omega)) ((omp6_12.out.rd imp6).mono (by omega)) ((omp7_12.out.rd imp7).mono (by omega)) ((omp8_12.out.rd imp8).mono (by omega)) ((omp9_12.out.rd imp9).mono (by omega)) ((omp10_12.out.rd imp10).mono (by omega)) ((omp11_12.out.rd imp11).mono (by omega)) ((omp12_12.out.rd imp12).mono (by omega)) (by omega) (by omega)).mono ?_
 rintro e w13 ⟨ah00,ch00,fh00,rfl,hb13,owh0,iwh0⟩
 have ih00:=iwh0.mono (lo':=w12.heap.size+0) (by first|omega|(simp;done)|(simp;omega)) (Nat.le_refl _)
 clear iwh0
 have hbb13:Below w12.heap.size w12 w13:=hb13
 have z13:=hbb13.size
 obtain⟨qAp13,_,yAp13⟩:=bcellAt hb13 (b:=w.heap.size) (by first|omega|(simp;done)|(simp;omega))
 obtain⟨qUp13,_,yUp13⟩:=bcellAt hb13 (b:=w4.heap.size) (by first|omega|(simp;done)|(simp;omega))
 have BB13:=Lib.hid (BB12.out.trans (hbb13.mono (by omega)))
 have os00_13:=Lib.hid (os00_12.out.below is00 (by omega) hbb13)
 have kog00_13:=Lib.hid (kog00_12.out.below ig00 (by omega) hbb13)
 have omp3_13:=Lib.hid (omp3_12.out.below imp3 (by omega) hbb13)
 have omp4_13:=Lib.hid (omp4_12.out.below imp4 (by omega) hbb13)
 have omp5_13:=Lib.hid (omp5_12.out.below imp5 (by omega) hbb13)
 have omp6_13:=Lib.hid (omp6_12.out.below imp6 (by omega) hbb13)
 have omp7_13:=Lib.hid (omp7_12.out.below imp7 (by omega) hbb13)
 have omp8_13:=Lib.hid (omp8_12.out.below imp8 (by omega) hbb13)
 have omp9_13:=Lib.hid (omp9_12.out.below imp9 (by omega) hbb13)
 have omp10_13:=Lib.hid (omp10_12.out.below imp10 (by omega) hbb13)
 have omp11_13:=Lib.hid (omp11_12.out.below imp11 (by omega) hbb13)
 have omp12_13:=Lib.hid (omp12_12.out.below imp12 (by omega) hbb13)
 clear hbb13
 have oh00_13:=Lib.hid owh0
 clear owh0
 go_wp2_with fail
 refine ((eq_FaultS R.1 _ _ w13.heap.size _ ((oh00_13.out.rd ih00).mono (by omega)) ((os00_13.out.rd is00).mono (by omega)) (Nat.le_refl _) (by omega))).mono ?_
 rintro e w14 ⟨rfl,hb14⟩
 have hbb14:Below w13.heap.size w13 w14:=hb14
 have z14:=hbb14.size
 obtain⟨qAp14,_,yAp14⟩:=bcellAt hb14 (b:=w.heap.size) (by first|omega|(simp;done)|(simp;omega))
 obtain⟨qUp14,_,yUp14⟩:=bcellAt hb14 (b:=w4.heap.size) (by first|omega|(simp;done)|(simp;omega))
 have BB14:=Lib.hid (BB13.out.trans (hbb14.mono (by omega)))
 have os00_14:=Lib.hid (os00_13.out.below is00 (by omega) hbb14)
 have kog00_14:=Lib.hid (kog00_13.out.below ig00 (by omega) hbb14)
 have oh00_14:=Lib.hid (oh00_13.out.below ih00 (by omega) hbb14)
 clear hbb14
 go_wp2_with fail
 refine (held_FaultS R.1 _ w14.heap.size (1) _ ((kog00_14.out.rd ig00).mono (by omega)) (Nat.le_refl _) (by omega) (by omega) (by omega)).mono ?_
 rintro e w15 ⟨rfl,hb15⟩
 have hbb15:Below w14.heap.size w14 w15:=hb15
 have z15:=hbb15.size
 obtain⟨qAp15,_,yAp15⟩:=bcellAt hb15 (b:=w.heap.size) (by first|omega|(simp;done)|(simp;omega))
 obtain⟨qUp15,_,yUp15⟩:=bcellAt hb15 (b:=w4.heap.size) (by first|omega|(simp;done)|(simp;omega))
 have BB15:=Lib.hid (BB14.out.trans (hbb15.mono (by omega)))
 have kog00_15:=Lib.hid (kog00_14.out.below ig00 (by omega) hbb15)
 clear hbb15
 go_wp2
 go_ret
 exact⟨rfl,BB15.out⟩
end Go.Proofs.YtjfmkmcefnidcaaGreat.fnExactSectorFaults
