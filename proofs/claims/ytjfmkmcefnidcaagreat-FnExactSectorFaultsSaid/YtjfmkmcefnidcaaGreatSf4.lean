/- Contracts: SectorFaults, for the program and for the reference; the size of its result. Conditions: bounded sizes. -/
import Derived.Test.YtjfmkmcefnidcaaGreatSf2
import Derived.Test.YtjfmkmcefnidcaaGreatSf3
namespace Go.Proofs.YtjfmkmcefnidcaaGreat
set_option maxHeartbeats 8000000
set_option maxRecDepth 100000
open Go.RowKit
set_option linter.unusedVariables false
set_option linter.unusedSimpArgs false
theorem fault1_siz (k:Int) (a b:ByteArray):siz (DFault.sT [⟨k,a,b⟩])=1+(a.size+b.size):=by
 rw[DFault.siz_s]
 simp[DFault.tr,sizL,siz,intT,strT]
theorem siz_gSite (l:List DSite) (k:Nat) (h:k<l.length):(gSite l k).holder.size≤siz (DSite.sT l):=by
 rw[← gSite_eq h,DSite.siz_s]
 have:=sizL_get_le DSite.tr l k h
 rw[DSite.siz_tr] at this
 omega
theorem siz_gLic (l:List DLicence) (k:Nat) (h:k<l.length):(gLicence l k).id.size≤siz (DLicence.sT l):=by
 rw[← gLicence_eq h,DLicence.siz_s]
 have:=sizL_get_le DLicence.tr l k h
 rw[DLicence.siz_tr] at this
 omega
theorem siz_gSec (l:List DSector) (k:Nat) (h:k<l.length):(gSector l k).name.size+(gSector l k).site.size+(gSector l k).band.size≤siz (DSector.sT l):=by
 rw[← gSector_eq h,DSector.siz_s]
 have:=sizL_get_le DSector.tr l k h
 rw[DSector.siz_tr] at this
 omega
theorem ownF_siz (p:DPlan) (k:Nat) (hp:planB p=true) (hk:k<p.network.sectors.length):siz (DFault.sT (ownF p (gSector p.network.sectors k)))≤4*sizL p.tr+4:=by
 have hr:=(planB_sector hp hk).2
 obtain⟨hl,_⟩:=refers_site hr
 have h1:=DPlan.siz_tr p
 have h3:=DNetwork.siz_tr p.network
 have a1:=siz_gSec p.network.sectors k hk
 have a2:=siz_gSite p.network.sites _ hl
 have e:siz (DFault.sT (ownF p (gSector p.network.sectors k)))≤siz (DFault.sT (placeF p (gSector p.network.sectors k)))+siz (DFault.sT (restF p (gSector p.network.sectors k))):=by
  unfold ownF
  rw[DFault.siz_s,DFault.siz_s,DFault.siz_s,List.flatMap_append,sizL_append,List.length_append]
  omega
 have e1:siz (DFault.sT (placeF p (gSector p.network.sectors k)))≤1+sizL p.tr:=by
  unfold placeF
  split
  ·rw[DFault.siz_s];simp[sizL]
  ·rw[fault1_siz];omega
 have e2:siz (DFault.sT (restF p (gSector p.network.sectors k)))≤1+2*sizL p.tr:=by
  unfold restF
  split
  ·rw[fault1_siz]
   have:(ByteArray.mk #[]).size=0:=rfl
   omega
  ·split
   ·rename_i hb
    split
    ·rename_i h0
     have hbd:(licIdx p (gSector p.network.sectors k)).toNat<p.licences.length:=by
      unfold licIdx at h0 ⊢
      rw[if_pos hb] at h0 ⊢
      have:=firstIdx_bounds (fun y=>allowsB y (siteN p (gSector p.network.sectors k)).holder (siteN p (gSector p.network.sectors k)).place (rngLow p (gSector p.network.sectors k)) (rngHigh p (gSector p.network.sectors k)) p.day) p.licences
      omega
     have a3:=siz_gLic p.licences _ hbd
     split
     ·rw[fault1_siz];unfold licN;omega
     ·rw[DFault.siz_s];simp[sizL]
    ·rw[fault1_siz];unfold siteN;omega
   ·rw[fault1_siz];omega
 omega
theorem ownR_siz (p:DPlan) (nm:ByteArray):siz (DFault.sT (ownR p nm).1)≤4*sizL p.tr+4:=by
 unfold ownR
 rcases codeP_cases p nm with hcp|hcp|⟨hp,hi0,hcp⟩
 ·rw[hcp];simp[DFault.siz_s,sizL]
 ·rw[hcp];simp[DFault.siz_s,sizL]
 ·rw[hcp]
  obtain⟨hl,_⟩:=idxSector_lt _ _ hi0
  have:=ownF_siz p _ hp hl
  simpa [secN] using this
theorem sSectorFaults_std (p:DPlan) (nm:ByteArray) (vp3 vp4 vp5 vp6 vp7 vp8 vp9 vp10 vp11 vp12:Value) (w:World) (rp3:Rd w.heap.size w (intsT p.terrain.heights) vp3) (rp4:Rd w.heap.size w (intsT p.terrain.clutter) vp4) (rp5:Rd w.heap.size w (DSite.sT p.network.sites) vp5) (rp6:Rd w.heap.size w (DSector.sT p.network.sectors) vp6) (rp7:Rd w.heap.size w (DAntenna.sT p.network.antennas) vp7) (rp8:Rd w.heap.size w (DRadio.sT p.network.radios) vp8) (rp9:Rd w.heap.size w (DBand.sT p.bands) vp9) (rp10:Rd w.heap.size w (DLicence.sT p.licences) vp10) (rp11:Rd w.heap.size w (DProtected.sT p.protected_) vp11) (rp12:Rd w.heap.size w (intssT p.apart) vp12) (hs_p:sizL p.tr≤1048576) (hk_p:p.ok) (hs_nm:nm.size≤1048576) :
  Calls Tryz.prog 20 #[.agg #[.int .i64 p.terrain.step,.int .i64 p.terrain.width,.int .i64 p.terrain.height,vp3,vp4,vp5,vp6,vp7,vp8,vp9,vp10,vp11,vp12,.int .i64 p.day],.string nm] w (fun e w'=>∃ a0_0 c0_0 fp0,e=.returned (.tuple #[.slice a0_0 (ownR p nm).1.length c0_0,.int .i64 (ownR p nm).2])∧Below w.heap.size w w'∧Own w' (DFault.sT (ownR p nm).1) (.slice a0_0 (ownR p nm).1.length c0_0) fp0∧In w.heap.size w'.heap.size fp0):=by
 have H:Hid (PlanRd w.heap.size w p vp3 vp4 vp5 vp6 vp7 vp8 vp9 vp10 vp11 vp12):=⟨rp3,rp4,rp5,rp6,rp7,rp8,rp9,rp10,rp11,rp12⟩
 clear rp3 rp4 rp5 rp6 rp7 rp8 rp9 rp10 rp11 rp12
 obtain⟨a6,k6,e6,_,_,hcl6⟩:=DSector.rd H.out.r6
 subst e6
 have HCL:=Lib.hid hcl6
 clear hcl6
 obtain⟨W0,hW0,b0,z0,k0⟩:=boxes1 w #[.int .i64 p.terrain.step,.int .i64 p.terrain.width,.int .i64 p.terrain.height,vp3,vp4,vp5,.slice a6 p.network.sectors.length k6,vp7,vp8,vp9,vp10,vp11,vp12,.int .i64 p.day] 53
 have HW0:=Lib.hid hW0
 clear hW0
 have B0:=Lib.hid b0
 clear b0
 have K0:=Lib.hid k0
 clear k0
 have HD:Hid (∀ W:World,Below W0.heap.size W0 W→(W.cell? ⟨w.heap.size,0,none⟩=some (.int .i64 p.terrain.step)∧W.cell? ⟨w.heap.size,1,none⟩=some (.int .i64 p.terrain.width)∧W.cell? ⟨w.heap.size,2,none⟩=some (.int .i64 p.terrain.height)∧W.cell? ⟨w.heap.size,3,none⟩=some (vp3)∧W.cell? ⟨w.heap.size,4,none⟩=some (vp4)∧W.cell? ⟨w.heap.size,5,none⟩=some (vp5)∧W.cell? ⟨w.heap.size,6,none⟩=some (.slice a6 p.network.sectors.length k6)∧W.cell? ⟨w.heap.size,7,none⟩=some (vp7)∧W.cell? ⟨w.heap.size,8,none⟩=some (vp8)∧W.cell? ⟨w.heap.size,9,none⟩=some (vp9)∧W.cell? ⟨w.heap.size,10,none⟩=some (vp10)∧W.cell? ⟨w.heap.size,11,none⟩=some (vp11)∧W.cell? ⟨w.heap.size,12,none⟩=some (vp12)∧W.cell? ⟨w.heap.size,13,none⟩=some (.int .i64 p.day))):=fun W hW=>⟨bkC (bkB K0.out hW (by omega)) 0 rfl,bkC (bkB K0.out hW (by omega)) 1 rfl,bkC (bkB K0.out hW (by omega)) 2 rfl,bkC (bkB K0.out hW (by omega)) 3 rfl,bkC (bkB K0.out hW (by omega)) 4 rfl,bkC (bkB K0.out hW (by omega)) 5 rfl,bkC (bkB K0.out hW (by omega)) 6 rfl,bkC (bkB K0.out hW (by omega)) 7 rfl,bkC (bkB K0.out hW (by omega)) 8 rfl,bkC (bkB K0.out hW (by omega)) 9 rfl,bkC (bkB K0.out hW (by omega)) 10 rfl,bkC (bkB K0.out hW (by omega)) 11 rfl,bkC (bkB K0.out hW (by omega)) 12 rfl,bkC (bkB K0.out hW (by omega)) 13 rfl⟩
 have HB:Hid (Below W0.heap.size W0 W0):=Below.refl _ _
 have HH:Hid (∀ W:World,Below W0.heap.size W0 W→Below w.heap.size w W):=fun W hW=>B0.out.trans (hW.mono (by omega))
 have CP:Hid (∀ W:World,Below W0.heap.size W0 W→Calls Tryz.prog 68 #[.pointer (some ⟨w.heap.size,0,none⟩),.string nm] W fun e w'=>e=.returned (.tuple #[.int .i64 (codeP p nm).1,.int .i64 (codeP p nm).2])∧Below W.heap.size W w'):=fun W hW=>by
  obtain⟨t0,t1,t2,t3,t4,t5,t6,t7,t8,t9,t10,t11,t12,t13⟩:=HD.out W hW
  exact l30Ask_any p nm vp3 vp4 vp5 _ vp7 vp8 vp9 vp10 vp11 vp12 w.heap.size 0 W ((H.out.below (HH.out W hW)).mono (HH.out W hW).size) (by omega) hk_p t0 t1 t2 t3 t4 t5 t6 t7 t8 t9 t10 t11 t12 t13
 rcases codeP_cases p nm with hcp|hcp|⟨hp,hi0,hcp⟩
 ·have HE:Hid (ownR p nm=([],1)):=by show _=_;unfold ownR;rw[hcp];rfl
  rw[hcp] at CP
  clear hcp
  go_enter Tryz.func20,Tryz.ntmps20
  go_upto_region 1 with (fail)
  rw[HW0.out]
  obtain⟨t0,t1,t2,t3,t4,t5,t6,t7,t8,t9,t10,t11,t12,t13⟩:=HD.out _ HB.out
  go_wp2_with (go_at_call 68;with_reducible refine (CP.out _ HB.out).mono ?_;rintro e w2 ⟨rfl,hb2⟩;(try clear t0 t1 t2 t3 t4 t5 t6 t7 t8 t9 t10 t11 t12 t13);replace HB:=Lib.hid (HB.out.trans (hb2.mono HB.out.size));clear hb2;obtain⟨t0,t1,t2,t3,t4,t5,t6,t7,t8,t9,t10,t11,t12,t13⟩:=HD.out _ HB.out)
  go_ret2
  rw[HE.out]
  exact⟨none,0,[],rfl,HH.out _ HB.out,own_nilF _,In.nil⟩
 ·have HE:Hid (ownR p nm=([],3)):=by show _=_;unfold ownR;rw[hcp];rfl
  rw[hcp] at CP
  clear hcp
  go_enter Tryz.func20,Tryz.ntmps20
  go_upto_region 1 with (fail)
  rw[HW0.out]
  obtain⟨t0,t1,t2,t3,t4,t5,t6,t7,t8,t9,t10,t11,t12,t13⟩:=HD.out _ HB.out
  go_wp2_with (go_at_call 68;with_reducible refine (CP.out _ HB.out).mono ?_;rintro e w2 ⟨rfl,hb2⟩;(try clear t0 t1 t2 t3 t4 t5 t6 t7 t8 t9 t10 t11 t12 t13);replace HB:=Lib.hid (HB.out.trans (hb2.mono HB.out.size));clear hb2;obtain⟨t0,t1,t2,t3,t4,t5,t6,t7,t8,t9,t10,t11,t12,t13⟩:=HD.out _ HB.out)
  go_ret2
  rw[HE.out]
  exact⟨none,0,[],rfl,HH.out _ HB.out,own_nilF _,In.nil⟩
 ·obtain⟨hl,hlc⟩:=idxSector_lt _ _ hi0
  have HE:Hid (ownR p nm=((ownF p (gSector p.network.sectors (idxSector p.network.sectors nm).toNat)),0)):=by show _=_;unfold ownR;rw[hcp];rfl
  rw[hcp,← hlc] at CP
  clear hcp
  generalize (idxSector p.network.sectors nm).toNat=k at *
  clear hlc hi0
  obtain⟨ka,kr,hP⟩:=parts_of_sector (planB_net hp) hl
  have hsec:=planB_sector hp hl
  have i1:(0:Int)≤(k:Int):=by omega
  have i2:(k:Int)<(p.network.sectors.length:Int):=by omega
  have CF:Hid (∀ W:World,Below W0.heap.size W0 W→Calls Tryz.prog 69 #[.pointer (some ⟨w.heap.size,0,none⟩),.int .i64 (k:Int)] W fun e w'=>∃ a c fp,e=.returned (.slice a (ownF p (gSector p.network.sectors k)).length c)∧Below W.heap.size W w'∧Own w' (DFault.sT (ownF p (gSector p.network.sectors k))) (.slice a (ownF p (gSector p.network.sectors k)).length c) fp∧In W.heap.size w'.heap.size fp):=fun W hW=>by
   obtain⟨t0,t1,t2,t3,t4,t5,t6,t7,t8,t9,t10,t11,t12,t13⟩:=HD.out W hW
   exact l30Own_any p k vp3 vp4 vp5 _ vp7 vp8 vp9 vp10 vp11 vp12 w.heap.size 0 W ((H.out.below (HH.out W hW)).mono (HH.out W hW).size) (by omega) hk_p hp hl t0 t1 t2 t3 t4 t5 t6 t7 t8 t9 t10 t11 t12 t13 ka kr hP
  go_enter Tryz.func20,Tryz.ntmps20
  go_upto_region 1 with (fail)
  rw[HW0.out]
  obtain⟨t0,t1,t2,t3,t4,t5,t6,t7,t8,t9,t10,t11,t12,t13⟩:=HD.out _ HB.out
  go_upto_region 4 with (go_at_call 68;with_reducible refine (CP.out _ HB.out).mono ?_;rintro e w2 ⟨rfl,hb2⟩;(try clear t0 t1 t2 t3 t4 t5 t6 t7 t8 t9 t10 t11 t12 t13);replace HB:=Lib.hid (HB.out.trans (hb2.mono HB.out.size));clear hb2;obtain⟨t0,t1,t2,t3,t4,t5,t6,t7,t8,t9,t10,t11,t12,t13⟩:=HD.out _ HB.out)
  go_wp2_with fail
  refine (CF.out _ HB.out).mono ?_
  rintro e w3 ⟨a3,c3,f3,rfl,hb3,o3,i3⟩
  have BF:=Lib.hid ((HH.out _ HB.out).trans (hb3.mono (HH.out _ HB.out).size))
  have z2:=(HH.out _ HB.out).size
  clear hb3 t0 t1 t2 t3 t4 t5 t6 t7 t8 t9 t10 t11 t12 t13
  go_wp2
  go_ret2
  rw[HE.out]
  exact⟨a3,c3,f3,rfl,BF.out,o3,i3.mono z2 (Nat.le_refl _)⟩
theorem iSectorFaults_std (p:DPlan) (nm:ByteArray) (vp3 vp4 vp5 vp6 vp7 vp8 vp9 vp10 vp11 vp12:Value) (w:World) (rp3:Rd w.heap.size w (intsT p.terrain.heights) vp3) (rp4:Rd w.heap.size w (intsT p.terrain.clutter) vp4) (rp5:Rd w.heap.size w (DSite.sT p.network.sites) vp5) (rp6:Rd w.heap.size w (DSector.sT p.network.sectors) vp6) (rp7:Rd w.heap.size w (DAntenna.sT p.network.antennas) vp7) (rp8:Rd w.heap.size w (DRadio.sT p.network.radios) vp8) (rp9:Rd w.heap.size w (DBand.sT p.bands) vp9) (rp10:Rd w.heap.size w (DLicence.sT p.licences) vp10) (rp11:Rd w.heap.size w (DProtected.sT p.protected_) vp11) (rp12:Rd w.heap.size w (intssT p.apart) vp12) (hs_p:sizL p.tr≤1048576) (hk_p:p.ok) (hs_nm:nm.size≤1048576) :
  Calls Tryz.prog 21 #[.agg #[.int .i64 p.terrain.step,.int .i64 p.terrain.width,.int .i64 p.terrain.height,vp3,vp4,vp5,vp6,vp7,vp8,vp9,vp10,vp11,vp12,.int .i64 p.day],.string nm] w (fun e w'=>∃ a0_0 c0_0 fp0,e=.returned (.tuple #[.slice a0_0 (ownR p nm).1.length c0_0,.int .i64 (ownR p nm).2])∧Below w.heap.size w w'∧Own w' (DFault.sT (ownR p nm).1) (.slice a0_0 (ownR p nm).1.length c0_0) fp0∧In w.heap.size w'.heap.size fp0):=by
 have H:Hid (PlanRd w.heap.size w p vp3 vp4 vp5 vp6 vp7 vp8 vp9 vp10 vp11 vp12):=⟨rp3,rp4,rp5,rp6,rp7,rp8,rp9,rp10,rp11,rp12⟩
 clear rp3 rp4 rp5 rp6 rp7 rp8 rp9 rp10 rp11 rp12
 obtain⟨a6,k6,e6,_,_,hcl6⟩:=DSector.rd H.out.r6
 subst e6
 have HCL:=Lib.hid hcl6
 clear hcl6
 obtain⟨W0,hW0,b0,z0,k0⟩:=boxes1 w #[.int .i64 p.terrain.step,.int .i64 p.terrain.width,.int .i64 p.terrain.height,vp3,vp4,vp5,.slice a6 p.network.sectors.length k6,vp7,vp8,vp9,vp10,vp11,vp12,.int .i64 p.day] 53
 have HW0:=Lib.hid hW0
 clear hW0
 have B0:=Lib.hid b0
 clear b0
 have K0:=Lib.hid k0
 clear k0
 have HD:Hid (∀ W:World,Below W0.heap.size W0 W→(W.cell? ⟨w.heap.size,0,none⟩=some (.int .i64 p.terrain.step)∧W.cell? ⟨w.heap.size,1,none⟩=some (.int .i64 p.terrain.width)∧W.cell? ⟨w.heap.size,2,none⟩=some (.int .i64 p.terrain.height)∧W.cell? ⟨w.heap.size,3,none⟩=some (vp3)∧W.cell? ⟨w.heap.size,4,none⟩=some (vp4)∧W.cell? ⟨w.heap.size,5,none⟩=some (vp5)∧W.cell? ⟨w.heap.size,6,none⟩=some (.slice a6 p.network.sectors.length k6)∧W.cell? ⟨w.heap.size,7,none⟩=some (vp7)∧W.cell? ⟨w.heap.size,8,none⟩=some (vp8)∧W.cell? ⟨w.heap.size,9,none⟩=some (vp9)∧W.cell? ⟨w.heap.size,10,none⟩=some (vp10)∧W.cell? ⟨w.heap.size,11,none⟩=some (vp11)∧W.cell? ⟨w.heap.size,12,none⟩=some (vp12)∧W.cell? ⟨w.heap.size,13,none⟩=some (.int .i64 p.day))):=fun W hW=>⟨bkC (bkB K0.out hW (by omega)) 0 rfl,bkC (bkB K0.out hW (by omega)) 1 rfl,bkC (bkB K0.out hW (by omega)) 2 rfl,bkC (bkB K0.out hW (by omega)) 3 rfl,bkC (bkB K0.out hW (by omega)) 4 rfl,bkC (bkB K0.out hW (by omega)) 5 rfl,bkC (bkB K0.out hW (by omega)) 6 rfl,bkC (bkB K0.out hW (by omega)) 7 rfl,bkC (bkB K0.out hW (by omega)) 8 rfl,bkC (bkB K0.out hW (by omega)) 9 rfl,bkC (bkB K0.out hW (by omega)) 10 rfl,bkC (bkB K0.out hW (by omega)) 11 rfl,bkC (bkB K0.out hW (by omega)) 12 rfl,bkC (bkB K0.out hW (by omega)) 13 rfl⟩
 have HB:Hid (Below W0.heap.size W0 W0):=Below.refl _ _
 have HH:Hid (∀ W:World,Below W0.heap.size W0 W→Below w.heap.size w W):=fun W hW=>B0.out.trans (hW.mono (by omega))
 have CP:Hid (∀ W:World,Below W0.heap.size W0 W→Calls Tryz.prog 70 #[.agg #[.int .i64 p.terrain.step,.int .i64 p.terrain.width,.int .i64 p.terrain.height,vp3,vp4,vp5,.slice a6 p.network.sectors.length k6,vp7,vp8,vp9,vp10,vp11,vp12,.int .i64 p.day],.string nm] W fun e w'=>e=.returned (.tuple #[.int .i64 (codeP p nm).1,.int .i64 (codeP p nm).2])∧Below W.heap.size W w'):=fun W hW=>planCode_any p nm vp3 vp4 vp5 _ vp7 vp8 vp9 vp10 vp11 vp12 W ((H.out.below (HH.out W hW)).mono (HH.out W hW).size) (by omega) hk_p
 rcases codeP_cases p nm with hcp|hcp|⟨hp,hi0,hcp⟩
 ·have HE:Hid (ownR p nm=([],1)):=by show _=_;unfold ownR;rw[hcp];rfl
  rw[hcp] at CP
  clear hcp
  go_enter Tryz.func21,Tryz.ntmps21
  go_upto_region 1 with (fail)
  rw[HW0.out]
  obtain⟨t0,t1,t2,t3,t4,t5,t6,t7,t8,t9,t10,t11,t12,t13⟩:=HD.out _ HB.out
  go_wp2_with (go_at_call 70;with_reducible refine (CP.out _ HB.out).mono ?_;rintro e w2 ⟨rfl,hb2⟩;(try clear t0 t1 t2 t3 t4 t5 t6 t7 t8 t9 t10 t11 t12 t13);replace HB:=Lib.hid (HB.out.trans (hb2.mono HB.out.size));clear hb2;obtain⟨t0,t1,t2,t3,t4,t5,t6,t7,t8,t9,t10,t11,t12,t13⟩:=HD.out _ HB.out)
  go_ret2
  rw[HE.out]
  exact⟨none,0,[],rfl,HH.out _ HB.out,own_nilF _,In.nil⟩
 ·have HE:Hid (ownR p nm=([],3)):=by show _=_;unfold ownR;rw[hcp];rfl
  rw[hcp] at CP
  clear hcp
  go_enter Tryz.func21,Tryz.ntmps21
  go_upto_region 1 with (fail)
  rw[HW0.out]
  obtain⟨t0,t1,t2,t3,t4,t5,t6,t7,t8,t9,t10,t11,t12,t13⟩:=HD.out _ HB.out
  go_wp2_with (go_at_call 70;with_reducible refine (CP.out _ HB.out).mono ?_;rintro e w2 ⟨rfl,hb2⟩;(try clear t0 t1 t2 t3 t4 t5 t6 t7 t8 t9 t10 t11 t12 t13);replace HB:=Lib.hid (HB.out.trans (hb2.mono HB.out.size));clear hb2;obtain⟨t0,t1,t2,t3,t4,t5,t6,t7,t8,t9,t10,t11,t12,t13⟩:=HD.out _ HB.out)
  go_ret2
  rw[HE.out]
  exact⟨none,0,[],rfl,HH.out _ HB.out,own_nilF _,In.nil⟩
 ·obtain⟨hl,hlc⟩:=idxSector_lt _ _ hi0
  have HE:Hid (ownR p nm=((ownF p (gSector p.network.sectors (idxSector p.network.sectors nm).toNat)),0)):=by show _=_;unfold ownR;rw[hcp];rfl
  rw[hcp,← hlc] at CP
  clear hcp
  generalize (idxSector p.network.sectors nm).toNat=k at *
  clear hlc hi0
  obtain⟨ka,kr,hP⟩:=parts_of_sector (planB_net hp) hl
  have hsec:=planB_sector hp hl
  have i1:(0:Int)≤(k:Int):=by omega
  have i2:(k:Int)<(p.network.sectors.length:Int):=by omega
  obtain⟨bs,os,es,hbs,hat6⟩:=HCL.out (Nat.lt_of_le_of_lt (Nat.zero_le _) hl)
  subst es
  obtain⟨x0,x1,x2,x3,x4,x5,x6,x7,x8⟩:=hat6 k hl
  rw[gSector_eq hl] at x0 x1 x2 x3 x4 x5 x6 x7 x8
  have CF:Hid (∀ W:World,Below W0.heap.size W0 W→Calls Tryz.prog 71 #[.agg #[.int .i64 p.terrain.step,.int .i64 p.terrain.width,.int .i64 p.terrain.height,vp3,vp4,vp5,.slice (some ⟨bs,os,none⟩) p.network.sectors.length k6,vp7,vp8,vp9,vp10,vp11,vp12,.int .i64 p.day],.agg #[.string (gSector p.network.sectors k).name,.string (gSector p.network.sectors k).site,.string (gSector p.network.sectors k).antenna,.string (gSector p.network.sectors k).radio,.string (gSector p.network.sectors k).band,.int .i64 (gSector p.network.sectors k).azimuth,.int .i64 (gSector p.network.sectors k).tilt,.int .i64 (gSector p.network.sectors k).above,.int .i64 (gSector p.network.sectors k).channel]] W fun e w'=>∃ a c fp,e=.returned (.slice a (ownF p (gSector p.network.sectors k)).length c)∧Below W.heap.size W w'∧Own w' (DFault.sT (ownF p (gSector p.network.sectors k))) (.slice a (ownF p (gSector p.network.sectors k)).length c) fp∧In W.heap.size w'.heap.size fp):=fun W hW=>sectorFaults_any p (gSector p.network.sectors k) vp3 vp4 vp5 _ vp7 vp8 vp9 vp10 vp11 vp12 W ((H.out.below (HH.out W hW)).mono (HH.out W hW).size) (by omega) hk_p hp hsec.1 hsec.2 ka kr hP
  have HS:Hid (∀ W:World,Below W0.heap.size W0 W→((W.cell? ⟨w.heap.size,0,none⟩=some (.int .i64 p.terrain.step)∧W.cell? ⟨w.heap.size,1,none⟩=some (.int .i64 p.terrain.width)∧W.cell? ⟨w.heap.size,2,none⟩=some (.int .i64 p.terrain.height)∧W.cell? ⟨w.heap.size,3,none⟩=some (vp3)∧W.cell? ⟨w.heap.size,4,none⟩=some (vp4)∧W.cell? ⟨w.heap.size,5,none⟩=some (vp5)∧W.cell? ⟨w.heap.size,6,none⟩=some (.slice (some ⟨bs,os,none⟩) p.network.sectors.length k6)∧W.cell? ⟨w.heap.size,7,none⟩=some (vp7)∧W.cell? ⟨w.heap.size,8,none⟩=some (vp8)∧W.cell? ⟨w.heap.size,9,none⟩=some (vp9)∧W.cell? ⟨w.heap.size,10,none⟩=some (vp10)∧W.cell? ⟨w.heap.size,11,none⟩=some (vp11)∧W.cell? ⟨w.heap.size,12,none⟩=some (vp12)∧W.cell? ⟨w.heap.size,13,none⟩=some (.int .i64 p.day))∧(W.cell? ⟨bs,os+k*9,none⟩=some (.string (gSector p.network.sectors k).name)∧W.cell? ⟨bs,os+k*9+1,none⟩=some (.string (gSector p.network.sectors k).site)∧W.cell? ⟨bs,os+k*9+2,none⟩=some (.string (gSector p.network.sectors k).antenna)∧W.cell? ⟨bs,os+k*9+3,none⟩=some (.string (gSector p.network.sectors k).radio)∧W.cell? ⟨bs,os+k*9+4,none⟩=some (.string (gSector p.network.sectors k).band)∧W.cell? ⟨bs,os+k*9+5,none⟩=some (.int .i64 (gSector p.network.sectors k).azimuth)∧W.cell? ⟨bs,os+k*9+6,none⟩=some (.int .i64 (gSector p.network.sectors k).tilt)∧W.cell? ⟨bs,os+k*9+7,none⟩=some (.int .i64 (gSector p.network.sectors k).above)∧W.cell? ⟨bs,os+k*9+8,none⟩=some (.int .i64 (gSector p.network.sectors k).channel)))):=fun W hW=>by
   obtain⟨t0,t1,t2,t3,t4,t5,t6,t7,t8,t9,t10,t11,t12,t13⟩:=HD.out W hW
   exact⟨⟨t0,t1,t2,t3,t4,t5,t6,t7,t8,t9,t10,t11,t12,t13⟩,(bat (HH.out W hW) bs _ hbs).trans x0,(bat (HH.out W hW) bs _ hbs).trans x1,(bat (HH.out W hW) bs _ hbs).trans x2,(bat (HH.out W hW) bs _ hbs).trans x3,(bat (HH.out W hW) bs _ hbs).trans x4,(bat (HH.out W hW) bs _ hbs).trans x5,(bat (HH.out W hW) bs _ hbs).trans x6,(bat (HH.out W hW) bs _ hbs).trans x7,(bat (HH.out W hW) bs _ hbs).trans x8⟩
  clear hat6 x0 x1 x2 x3 x4 x5 x6 x7 x8 hP hsec
  generalize (gSector p.network.sectors k)=x at *
  go_enter Tryz.func21,Tryz.ntmps21
  go_upto_region 1 with (fail)
  rw[HW0.out]
  obtain⟨t0,t1,t2,t3,t4,t5,t6,t7,t8,t9,t10,t11,t12,t13⟩:=HD.out _ HB.out
  go_upto_region 4 with (go_at_call 70;with_reducible refine (CP.out _ HB.out).mono ?_;rintro e w2 ⟨rfl,hb2⟩;(try clear t0 t1 t2 t3 t4 t5 t6 t7 t8 t9 t10 t11 t12 t13);replace HB:=Lib.hid (HB.out.trans (hb2.mono HB.out.size));clear hb2;obtain⟨t0,t1,t2,t3,t4,t5,t6,t7,t8,t9,t10,t11,t12,t13⟩:=HD.out _ HB.out)
  clear t0 t1 t2 t3 t4 t5 t6 t7 t8 t9 t10 t11 t12 t13
  refine wp_region_ord 8 [(0,true),(1,true),(2,true),(3,true),(4,true),(5,true),(6,true),(7,false)] (fun W=>(W.cell? ⟨w.heap.size,0,none⟩=some (.int .i64 p.terrain.step)∧W.cell? ⟨w.heap.size,1,none⟩=some (.int .i64 p.terrain.width)∧W.cell? ⟨w.heap.size,2,none⟩=some (.int .i64 p.terrain.height)∧W.cell? ⟨w.heap.size,3,none⟩=some (vp3)∧W.cell? ⟨w.heap.size,4,none⟩=some (vp4)∧W.cell? ⟨w.heap.size,5,none⟩=some (vp5)∧W.cell? ⟨w.heap.size,6,none⟩=some (.slice (some ⟨bs,os,none⟩) p.network.sectors.length k6)∧W.cell? ⟨w.heap.size,7,none⟩=some (vp7)∧W.cell? ⟨w.heap.size,8,none⟩=some (vp8)∧W.cell? ⟨w.heap.size,9,none⟩=some (vp9)∧W.cell? ⟨w.heap.size,10,none⟩=some (vp10)∧W.cell? ⟨w.heap.size,11,none⟩=some (vp11)∧W.cell? ⟨w.heap.size,12,none⟩=some (vp12)∧W.cell? ⟨w.heap.size,13,none⟩=some (.int .i64 p.day))∧(W.cell? ⟨bs,os+k*9,none⟩=some (.string x.name)∧W.cell? ⟨bs,os+k*9+1,none⟩=some (.string x.site)∧W.cell? ⟨bs,os+k*9+2,none⟩=some (.string x.antenna)∧W.cell? ⟨bs,os+k*9+3,none⟩=some (.string x.radio)∧W.cell? ⟨bs,os+k*9+4,none⟩=some (.string x.band)∧W.cell? ⟨bs,os+k*9+5,none⟩=some (.int .i64 x.azimuth)∧W.cell? ⟨bs,os+k*9+6,none⟩=some (.int .i64 x.tilt)∧W.cell? ⟨bs,os+k*9+7,none⟩=some (.int .i64 x.above)∧W.cell? ⟨bs,os+k*9+8,none⟩=some (.int .i64 x.channel))) (by kernel_rfl) (by kernel_rfl) (HS.out _ (HB.out.trans ((below_drew1 _).mono HB.out.size))) (fun hHeld=>?_)
  replace HB:=Lib.hid (HB.out.trans ((below_drew1 w2).mono HB.out.size))
  clear hHeld
  generalize w2.drew=w4 at *
  refine wpOrd_read (v:=?_) rfl (fun _ _ _ h=>h) ?_ ?_
  rotate_left
  ·(intro W hSW;(try dsimp only at hSW);(go_simp<;>with_reducible rfl))
  (try simp only[Act.put,List.setIfInBounds_toArray,List.set_cons_zero,List.set_cons_succ])
  refine wpOrd_read (v:=?_) rfl (fun _ _ _ h=>h) ?_ ?_
  rotate_left
  ·(intro W hSW;(try dsimp only at hSW);(go_simp<;>with_reducible rfl))
  (try simp only[Act.put,List.setIfInBounds_toArray,List.set_cons_zero,List.set_cons_succ])
  refine wpOrd_read (v:=?_) rfl (fun _ _ _ h=>h) ?_ ?_
  rotate_left
  ·(intro W hSW;(try dsimp only at hSW);(go_simp<;>with_reducible rfl))
  (try simp only[Act.put,List.setIfInBounds_toArray,List.set_cons_zero,List.set_cons_succ])
  refine wpOrd_read (v:=?_) rfl (fun _ _ _ h=>h) ?_ ?_
  rotate_left
  ·(intro W hSW;(try dsimp only at hSW);(go_simp<;>with_reducible rfl))
  (try simp only[Act.put,List.setIfInBounds_toArray,List.set_cons_zero,List.set_cons_succ])
  refine wpOrd_read (v:=?_) rfl (fun _ _ _ h=>h) ?_ ?_
  rotate_left
  ·(intro W hSW;(try dsimp only at hSW);(go_simp<;>with_reducible rfl))
  (try simp only[Act.put,List.setIfInBounds_toArray,List.set_cons_zero,List.set_cons_succ])
  refine wpOrd_read (v:=?_) rfl (fun _ _ _ h=>h) ?_ ?_
  rotate_left
  ·(intro W hSW;(try dsimp only at hSW);(go_simp<;>with_reducible rfl))
  (try simp only[Act.put,List.setIfInBounds_toArray,List.set_cons_zero,List.set_cons_succ])
  refine wpOrd_read (v:=?_) rfl (fun _ _ _ h=>h) ?_ ?_
  rotate_left
  ·(intro W hSW;(try dsimp only at hSW);(go_simp<;>with_reducible rfl))
  (try simp only[Act.put,List.setIfInBounds_toArray,List.set_cons_zero,List.set_cons_succ])
  refine wpOrd_step rfl (fun K hK=>?_)
  go_simp
  refine (CF.out _ HB.out).mono ?_
  rintro e w3 ⟨a3,c3,f3,rfl,hb3,o3,i3⟩
  have BF:=Lib.hid ((HH.out _ HB.out).trans (hb3.mono (HH.out _ HB.out).size))
  have z2:=(HH.out _ HB.out).size
  refine hK.out _ _ (HS.out _ (HB.out.trans (hb3.mono HB.out.size))) ?_
  clear hK K hb3
  (try simp only[Act.put,List.setIfInBounds_toArray,List.set_cons_zero,List.set_cons_succ])
  refine wpOrd_nil ?_
  simp only[List.drop_succ_cons,List.drop_zero]
  go_wp2_with fail
  go_ret2
  rw[HE.out]
  exact⟨a3,c3,f3,rfl,BF.out,o3,i3.mono z2 (Nat.le_refl _)⟩
end Go.Proofs.YtjfmkmcefnidcaaGreat
