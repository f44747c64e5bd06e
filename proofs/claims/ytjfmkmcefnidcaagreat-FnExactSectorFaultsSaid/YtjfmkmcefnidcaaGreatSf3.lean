/- Contracts: the faults of a sector for itself, for the reference. Conditions: bounded sizes. -/
import Derived.Test.YtjfmkmcefnidcaaGreatSf1
import Derived.Test.YtjfmkmcefnidcaaGreatOrd
import Derived.Deep.DeepCutAuto
namespace Go.Proofs.YtjfmkmcefnidcaaGreat
set_option maxHeartbeats 16000000
set_option maxRecDepth 100000
open Go.RowKit
set_option linter.unusedVariables false
set_option linter.unusedSimpArgs false
theorem l30Own_any (p:DPlan) (k:Nat) (v3 v4 v5 v6 v7 v8 v9 v10 v11 v12:Value) (b off:Nat) (w:World) (h:PlanRd w.heap.size w p v3 v4 v5 v6 v7 v8 v9 v10 v11 v12) (hs:sizL p.tr≤1099511627776) (hk:p.ok) (hp:planB p=true) (hkl:k<p.network.sectors.length) (c0:w.cell? ⟨b,off,none⟩=some (.int .i64 p.terrain.step)) (c1:w.cell? ⟨b,off+1,none⟩=some (.int .i64 p.terrain.width)) (c2:w.cell? ⟨b,off+2,none⟩=some (.int .i64 p.terrain.height)) (c3:w.cell? ⟨b,off+3,none⟩=some (v3)) (c4:w.cell? ⟨b,off+4,none⟩=some (v4)) (c5:w.cell? ⟨b,off+5,none⟩=some (v5)) (c6:w.cell? ⟨b,off+6,none⟩=some (v6)) (c7:w.cell? ⟨b,off+7,none⟩=some (v7)) (c8:w.cell? ⟨b,off+8,none⟩=some (v8)) (c9:w.cell? ⟨b,off+9,none⟩=some (v9)) (c10:w.cell? ⟨b,off+10,none⟩=some (v10)) (c11:w.cell? ⟨b,off+11,none⟩=some (v11)) (c12:w.cell? ⟨b,off+12,none⟩=some (v12)) (c13:w.cell? ⟨b,off+13,none⟩=some (.int .i64 p.day)) (ka kr:Nat) (hP:Parts p.network (gSector p.network.sectors k) ka kr) :
  Calls Tryz.prog 69 #[.pointer (some ⟨b,off,none⟩),.int .i64 (k:Int)] w fun e w'=>∃ a c fp,e=.returned (.slice a (ownF p (gSector p.network.sectors k)).length c)∧Below w.heap.size w w'∧Own w' (DFault.sT (ownF p (gSector p.network.sectors k))) (.slice a (ownF p (gSector p.network.sectors k)).length c) fp∧In w.heap.size w'.heap.size fp:=by
 have H:=Lib.hid h
 clear h
 have Z:=Lib.hid (PlanSz.of hs)
 have hbl:=cell_lt c0
 dsimp only at hbl
 have hsec:=planB_sector hp hkl
 obtain⟨hc1,hc2⟩:=sectorB_channel hsec.1
 obtain⟨t1_,tw_,th_,tm1_,tm2_⟩:=planB_terr hp
 obtain⟨hl,hlc⟩:=refers_site hsec.2
 obtain⟨a6,k6,e6,_,_,hcl6⟩:=DSector.rd H.out.r6
 subst e6
 obtain⟨b6,o6,e6,hb6,hat6⟩:=hcl6 (Nat.lt_of_le_of_lt (Nat.zero_le _) hkl)
 subst e6
 obtain⟨x0,x1,x2,x3,x4,x5,x6,x7,x8⟩:=hat6 k hkl
 rw[gSector_eq hkl] at x0 x1 x2 x3 x4 x5 x6 x7 x8
 obtain⟨a5,k5,e5,_,_,hcl5⟩:=DSite.rd H.out.r5
 subst e5
 obtain⟨bs,os,e5,hbs,hat5⟩:=hcl5 (Nat.lt_of_le_of_lt (Nat.zero_le _) hl)
 subst e5
 obtain⟨s0,s1,s2,s3⟩:=hat5 _ hl
 rw[gSite_eq hl] at s0 s1 s2 s3
 obtain⟨a7,k7,e7,_,_,hcl7⟩:=DAntenna.rd H.out.r7
 subst e7
 obtain⟨b7,o7,e7,hb7,hat7⟩:=hcl7 (Nat.lt_of_le_of_lt (Nat.zero_le _) hP.la)
 subst e7
 have n1:=(hat7 ka hP.la).2.1
 rw[gAntenna_eq hP.la] at n1
 obtain⟨a8,k8,e8,_,_,hcl8⟩:=DRadio.rd H.out.r8
 subst e8
 obtain⟨b8,o8,e8,hb8,hat8⟩:=hcl8 (Nat.lt_of_le_of_lt (Nat.zero_le _) hP.lr)
 subst e8
 have q1:=(hat8 kr hP.lr).2.1
 have q2:=(hat8 kr hP.lr).2.2.1
 rw[gRadio_eq hP.lr] at q1 q2
 obtain⟨al,kl,el,_,_,hcl⟩:=DLicence.rd H.out.r10
 subst el
 have HCL:=Lib.hid hcl
 clear hat5 hat6 hcl5 hcl6 hat7 hcl7 hat8 hcl8 hcl
 have CR:Hid (∀ W:World,Below w.heap.size w W→Calls Tryz.prog 131 #[.pointer (some ⟨b,off,none⟩),.int .i64 (k:Int)] W fun e w'=>e=.returned (.tuple #[.int .i64 (rngV p (gSector p.network.sectors k)).1,.int .i64 (rngV p (gSector p.network.sectors k)).2.1,.bool (rngV p (gSector p.network.sectors k)).2.2])∧Below W.heap.size W w'):=fun W hW=>l30Range_any p k v3 v4 _ _ _ _ v9 _ v11 v12 b off W ((H.out.below hW).mono hW.size) hs hk hp hkl ((hW.cell (p:=⟨b,_,none⟩) hbl).trans c0) ((hW.cell (p:=⟨b,_,none⟩) hbl).trans c6) ((hW.cell (p:=⟨b,_,none⟩) hbl).trans c9)
 have hrv:(rngV p (gSector p.network.sectors k)).2.2=hasB p (gSector p.network.sectors k):=by
  unfold rngV
  by_cases hh:hasB p (gSector p.network.sectors k)=true
  ·rw[if_pos hh,hh]
  ·rw[if_neg hh];exact (Bool.eq_false_iff.2 hh).symm
 rw[hrv] at CR
 clear hrv
 have CS:Hid (∀ W:World,Below w.heap.size w W→Calls Tryz.prog 130 #[.pointer (some ⟨b,off,none⟩),.int .i64 (k:Int)] W fun e w'=>e=.returned (.pointer (some ⟨bs,os+(idxSite p.network.sites (gSector p.network.sectors k).site).toNat*4,none⟩))∧Below W.heap.size W w'):=fun W hW=>l30Site_any p k b off bs os k5 b6 o6 k6 W ((H.out.r5.below hW).mono hW.size) Z.out.sites Z.out.sectors hsec.2 hkl (Nat.lt_of_lt_of_le hb6 hW.size) (Nat.lt_of_lt_of_le hbl hW.size) ((hW.cell (p:=⟨b,_,none⟩) hbl).trans c5) ((hW.cell (p:=⟨b,_,none⟩) hbl).trans c6) ((hW.cell (p:=⟨b6,_,none⟩) hb6).trans x1)
 have CI:Hid (∀ W:World,Below w.heap.size w W→Calls Tryz.prog 129 #[.pointer (some ⟨b,off,none⟩),.agg #[.int .i64 (siteN p (gSector p.network.sectors k)).place.x,.int .i64 (siteN p (gSector p.network.sectors k)).place.y]] W fun e w'=>e=.returned (.bool (inTerr p.terrain (siteN p (gSector p.network.sectors k)).place))∧Below W.heap.size W w'):=fun W hW=>l04In_any p.terrain (siteN p (gSector p.network.sectors k)).place b off tw_ th_ tm1_ tm2_ W ((hW.cell (p:=⟨b,_,none⟩) hbl).trans c0) ((hW.cell (p:=⟨b,_,none⟩) hbl).trans c1) ((hW.cell (p:=⟨b,_,none⟩) hbl).trans c2)
 have CL:Hid (∀ W:World,Below w.heap.size w W→Calls Tryz.prog 132 #[.pointer (some ⟨b,off,none⟩),.int .i64 (k:Int)] W fun e w'=>e=.returned (.int .i64 (licIdx p (gSector p.network.sectors k)))∧Below W.heap.size W w'):=fun W hW=>l30Licence_any p k v3 v4 _ _ _ _ v9 _ v11 v12 b off W ((H.out.below hW).mono hW.size) hs hk hp hkl ((hW.cell (p:=⟨b,_,none⟩) hbl).trans c0) ((hW.cell (p:=⟨b,_,none⟩) hbl).trans c1) ((hW.cell (p:=⟨b,_,none⟩) hbl).trans c2) ((hW.cell (p:=⟨b,_,none⟩) hbl).trans c3) ((hW.cell (p:=⟨b,_,none⟩) hbl).trans c4) ((hW.cell (p:=⟨b,_,none⟩) hbl).trans c5) ((hW.cell (p:=⟨b,_,none⟩) hbl).trans c6) ((hW.cell (p:=⟨b,_,none⟩) hbl).trans c7) ((hW.cell (p:=⟨b,_,none⟩) hbl).trans c8) ((hW.cell (p:=⟨b,_,none⟩) hbl).trans c9) ((hW.cell (p:=⟨b,_,none⟩) hbl).trans c10) ((hW.cell (p:=⟨b,_,none⟩) hbl).trans c11) ((hW.cell (p:=⟨b,_,none⟩) hbl).trans c12) ((hW.cell (p:=⟨b,_,none⟩) hbl).trans c13)
 have CRD:Hid (∀ W:World,Below w.heap.size w W→Calls Tryz.prog 133 #[.pointer (some ⟨b,off+5,none⟩),.string (gSector p.network.sectors k).radio] W fun e w'=>e=.returned (.int .i64 (kr:Int))∧W=w'):=fun W hW=>by
  have:=l14Radio_off p.network.radios (gSector p.network.sectors k).radio _ b (off+5) w.heap.size W (H.out.r8.below hW) hW.size ((hW.cell (p:=⟨b,_,none⟩) hbl).trans c8) Z.out.radios
  rw[hP.ir] at this
  exact this
 have CAN:Hid (∀ W:World,Below w.heap.size w W→Calls Tryz.prog 134 #[.pointer (some ⟨b,off+5,none⟩),.string (gSector p.network.sectors k).antenna] W fun e w'=>e=.returned (.int .i64 (ka:Int))∧W=w'):=fun W hW=>by
  have:=l14Antenna_off p.network.antennas (gSector p.network.sectors k).antenna _ b (off+5) w.heap.size W (H.out.r7.below hW) hW.size ((hW.cell (p:=⟨b,_,none⟩) hbl).trans c7) Z.out.antennas
  rw[hP.ia] at this
  exact this
 have HX:Hid (siteN p (gSector p.network.sectors k)=gSite p.network.sites (idxSite p.network.sites (gSector p.network.sectors k).site).toNat):=rfl
 rw[← HX.out] at s0 s1 s2 s3
 clear HX
 obtain⟨⟨rp1,rp2⟩,⟨rf1,rf2⟩⟩:=radio_bd hP.rok
 obtain⟨ag1,ag2⟩:=ant_gain hP.ok
 have hradN:radN p (gSector p.network.sectors k)=gRadio p.network.radios kr:=by unfold radN;rw[hP.ir,Int.toNat_natCast]
 have hantN:antN p (gSector p.network.sectors k)=gAntenna p.network.antennas ka:=by unfold antN;rw[hP.ia,Int.toNat_natCast]
 have hpw:powB p (gSector p.network.sectors k)=decide ((licN p (gSector p.network.sectors k)).power<(gRadio p.network.radios kr).power-(gRadio p.network.radios kr).feeder+(gAntenna p.network.antennas ka).gain):=by unfold powB;rw[hradN,hantN]
 have HPW:=Lib.hid hpw
 clear hradN hantN hpw
 have hbd:licIdx p (gSector p.network.sectors k) = -1∨(0≤licIdx p (gSector p.network.sectors k)∧(licIdx p (gSector p.network.sectors k)).toNat<p.licences.length∧((licIdx p (gSector p.network.sectors k)).toNat:Int)=licIdx p (gSector p.network.sectors k)):=by
  unfold licIdx
  split
  ·have:=firstIdx_bounds (fun y=>allowsB y (siteN p (gSector p.network.sectors k)).holder (siteN p (gSector p.network.sectors k)).place (rngLow p (gSector p.network.sectors k)) (rngHigh p (gSector p.network.sectors k)) p.day) p.licences
   omega
  ·exact Or.inl rfl
 have HBD:=Lib.hid hbd
 clear hbd
 have HLN:Hid (licN p (gSector p.network.sectors k)=gLicence p.licences (licIdx p (gSector p.network.sectors k)).toNat):=rfl
 have lk1:(0:Int)≤(k:Int):=by omega
 have lk2:(k:Int)<(p.network.sectors.length:Int):=by omega
 have la1:(0:Int)≤(ka:Int):=by omega
 have la2:(ka:Int)<(p.network.antennas.length:Int):=by have:=hP.la;omega
 have lr1:(0:Int)≤(kr:Int):=by omega
 have lr2:(kr:Int)<(p.network.radios.length:Int):=by have:=hP.lr;omega
 have HPF:Hid (placeF p (gSector p.network.sectors k)=if inTerr p.terrain (siteN p (gSector p.network.sectors k)).place=true then [] else [⟨1,(gSector p.network.sectors k).name,(gSector p.network.sectors k).site⟩]):=rfl
 have HRF:Hid (restF p (gSector p.network.sectors k)=if (gSector p.network.sectors k).channel<0 then [⟨2,(gSector p.network.sectors k).name,⟨#[]⟩⟩] else if hasB p (gSector p.network.sectors k)=true then (if 0≤licIdx p (gSector p.network.sectors k) then (if powB p (gSector p.network.sectors k)=true then [⟨5,(gSector p.network.sectors k).name,(licN p (gSector p.network.sectors k)).id⟩] else []) else [⟨4,(gSector p.network.sectors k).name,(siteN p (gSector p.network.sectors k)).holder⟩]) else [⟨3,(gSector p.network.sectors k).name,(gSector p.network.sectors k).band⟩]):=rfl
 have HOF:Hid (ownF p (gSector p.network.sectors k)=placeF p (gSector p.network.sectors k)++restF p (gSector p.network.sectors k)):=rfl
 have hpl:=placeF_len p (gSector p.network.sectors k)
 clear hP hsec hp tw_ th_ tm1_ tm2_ t1_ hlc
 generalize (idxSite p.network.sites (gSector p.network.sectors k).site).toNat=m at *
 generalize placeF p (gSector p.network.sectors k)=pf at *
 generalize restF p (gSector p.network.sectors k)=rt at *
 generalize ownF p (gSector p.network.sectors k)=of at *
 generalize powB p (gSector p.network.sectors k)=pw at *
 generalize licN p (gSector p.network.sectors k)=lN at *
 generalize licIdx p (gSector p.network.sectors k)=li at *
 generalize siteN p (gSector p.network.sectors k)=y at *
 generalize inTerr p.terrain y.place=ter at *
 generalize hasB p (gSector p.network.sectors k)=hasb at *
 generalize (rngV p (gSector p.network.sectors k)).1=lo at *
 generalize (rngV p (gSector p.network.sectors k)).2.1=hi at *
 generalize gRadio p.network.radios kr=R at *
 generalize gAntenna p.network.antennas ka=A at *
 generalize (gSector p.network.sectors k)=x at *
 have HC:Hid (∀ W:World,Below w.heap.size w W→(W.cell? ⟨b,off+6,none⟩=some (.slice (some ⟨b6,o6,none⟩) p.network.sectors.length k6)∧W.cell? ⟨b,off+7,none⟩=some (.slice (some ⟨b7,o7,none⟩) p.network.antennas.length k7)∧W.cell? ⟨b,off+8,none⟩=some (.slice (some ⟨b8,o8,none⟩) p.network.radios.length k8)∧W.cell? ⟨b,off+10,none⟩=some (.slice al p.licences.length kl)∧W.cell? ⟨b6,o6+k*9,none⟩=some (.string x.name)∧W.cell? ⟨b6,o6+k*9+1,none⟩=some (.string x.site)∧W.cell? ⟨b6,o6+k*9+2,none⟩=some (.string x.antenna)∧W.cell? ⟨b6,o6+k*9+3,none⟩=some (.string x.radio)∧W.cell? ⟨b6,o6+k*9+4,none⟩=some (.string x.band)∧W.cell? ⟨b6,o6+k*9+8,none⟩=some (.int .i64 x.channel)∧W.cell? ⟨bs,os+m*4,none⟩=some (.string y.name)∧W.cell? ⟨bs,os+m*4+1,none⟩=some (.string y.holder)∧W.cell? ⟨bs,os+m*4+2,none⟩=some (.int .i64 y.place.x)∧W.cell? ⟨bs,os+m*4+3,none⟩=some (.int .i64 y.place.y)∧W.cell? ⟨b7,o7+ka*4+1,none⟩=some (.int .i64 A.gain)∧W.cell? ⟨b8,o8+kr*6+1,none⟩=some (.int .i64 R.power)∧W.cell? ⟨b8,o8+kr*6+2,none⟩=some (.int .i64 R.feeder))):=fun W hW=>⟨(bat hW b _ hbl).trans c6,(bat hW b _ hbl).trans c7,(bat hW b _ hbl).trans c8,(bat hW b _ hbl).trans c10,(bat hW b6 _ hb6).trans x0,(bat hW b6 _ hb6).trans x1,(bat hW b6 _ hb6).trans x2,(bat hW b6 _ hb6).trans x3,(bat hW b6 _ hb6).trans x4,(bat hW b6 _ hb6).trans x8,(bat hW bs _ hbs).trans s0,(bat hW bs _ hbs).trans s1,(bat hW bs _ hbs).trans s2,(bat hW bs _ hbs).trans s3,(bat hW b7 _ hb7).trans n1,(bat hW b8 _ hb8).trans q1,(bat hW b8 _ hb8).trans q2⟩
 clear c0 c1 c2 c3 c4 c5 c6 c7 c8 c9 c10 c11 c12 c13 x0 x1 x2 x3 x4 x5 x6 x7 x8 s0 s1 s2 s3 n1 q1 q2
 obtain⟨i0,hi0,hz0,hz1,hz2⟩:=info_parts infoF
 have HB0:Hid (Below w.heap.size w w):=Below.refl _ _
 obtain⟨t0,t1,t2,t3,t4,t5,t6,t7,t8,t9,t10,t11,t12,t13,t14,t15,t16⟩:=HC.out _ HB0.out
 go_enter Tryz.func69,Tryz.ntmps69
 go_upto_region 3 with (fail)
 clear t0 t1 t2 t3 t4 t5 t6 t7 t8 t9 t10 t11 t12 t13 t14 t15 t16 HB0
 have HB:=Lib.hid (below_alloc w (.cells #[] 114))
 have HG0:=Lib.hid (grow_empty3 w 114)
 generalize (w.alloc (.cells #[] 114))=w1 at *
 obtain⟨t0,t1,t2,t3,t4,t5,t6,t7,t8,t9,t10,t11,t12,t13,t14,t15,t16⟩:=HC.out _ HB.out
 have z1:=HB.out.size
 go_cut [32] (fun s W=>s=.bool (!ter)∧Below w1.heap.size w1 W)
 case first =>
  have vP:=overC (w0:=w1) (show b<w1.heap.size by omega)
  have v6:=overC (w0:=w1) (show b6<w1.heap.size by omega)
  have vS:=overC (w0:=w1) (show bs<w1.heap.size by omega)
  have v7:=overC (w0:=w1) (show b7<w1.heap.size by omega)
  have v8:=overC (w0:=w1) (show b8<w1.heap.size by omega)
  refine wp_region_over w1.heap.size w1 (Below.refl _ _) (by kernel_rfl) (by kernel_rfl) ?_
  repeat (go_big_quiet_step (first|(go_at_call 130;with_reducible exact over_left (Nat.le_refl _) (CS.out _ (HB.out.trans ((over_below w1.heap.size w1 _).mono HB.out.size))))|(go_at_call 129;with_reducible exact over_left (Nat.le_refl _) (CI.out _ (HB.out.trans ((over_below w1.heap.size w1 _).mono HB.out.size))))))
  refine wpQuiet_nil ?_
  rintro _ ⟨X,rfl⟩
  clear vP v6 vS v7 v8
  have BE:=Lib.hid (over_below w1.heap.size w1 X)
  generalize over w1.heap.size w1 X=W9 at *
  go_wp2_with fail
  go_meet
  exact⟨rfl,BE.out⟩
 obtain⟨rfl,hb2⟩:=hcut
 generalize wc=w2 at *
 replace HB:=Lib.hid (HB.out.trans (hb2.mono HB.out.size))
 have HG1:=Lib.hid (HG0.out.below (lo:=0) In.nil hb2)
 have zw2:=hb2.size
 clear hb2 t0 t1 t2 t3 t4 t5 t6 t7 t8 t9 t10 t11 t12 t13 t14 t15 t16 HG0
 obtain⟨t0,t1,t2,t3,t4,t5,t6,t7,t8,t9,t10,t11,t12,t13,t14,t15,t16⟩:=HC.out _ HB.out
 go_upto_if 32 with (fail)
 go_cut [6] (fun s6 W=>Below w.heap.size w W∧Grow W w.heap.size 114 3 s6 pf.length (pf.flatMap DFault.tr) [])
 case first =>
  cases ter
  case true =>
   have HPE:Hid (pf = []):=by show _=_;rw[HPF.out];rfl
   go_wp2_with fail
   go_meet
   exact⟨HB.out,by rw[HPE.out];exact HG1.out⟩
  case false =>
   have HPE:Hid (pf = [⟨1,x.name,x.site⟩]):=by show _=_;rw[HPF.out];rfl
   go_upto_region 4 with (fail)
   have HS_:Hid (∀ W:World,Below w.heap.size w W→(W.cell? ⟨b6,o6+k*9,none⟩=some (.string x.name)∧W.cell? ⟨b6,o6+k*9+1,none⟩=some (.string x.site))):=fun W hW=>by
    obtain⟨t0,t1,t2,t3,t4,t5,t6,t7,t8,t9,t10,t11,t12,t13,t14,t15,t16⟩:=HC.out W hW
    exact⟨t4,t5⟩
   refine wp_region_ord 11 [(0,true),(1,true),(2,true),(3,true),(4,true),(5,true),(6,true),(7,true),(8,true),(9,true),(10,false)] (fun W=>W.cell? ⟨b6,o6+k*9,none⟩=some (.string x.name)∧W.cell? ⟨b6,o6+k*9+1,none⟩=some (.string x.site)) (by kernel_rfl) (by kernel_rfl) (HS_.out _ (HB.out.trans ((below_drew1 _).mono HB.out.size))) (fun hHeld=>?_)
   have bd:=below_drew1 w2
   have HG4:=Lib.hid (HG1.out.below (lo:=0) In.nil bd)
   replace HB:=Lib.hid (HB.out.trans (bd.mono HB.out.size))
   have zd:=HB.out.size
   clear bd t0 t1 t2 t3 t4 t5 t6 t7 t8 t9 t10 t11 t12 t13 t14 t15 t16 hHeld
   generalize w2.drew=w4 at *
   refine wpOrd_read (v:=?_) rfl (fun _ _ _ h=>h) ?_ ?_
   rotate_left
   ·(intro W hSW;(try dsimp only at hSW);(go_simp<;>with_reducible rfl))
   (try simp only[Act.put,List.setIfInBounds_toArray,List.set_cons_zero,List.set_cons_succ])
   refine wpOrd_read (v:=?_) rfl (fun _ _ _ h=>h) ?_ ?_
   rotate_left
   ·(intro W hSW;(try dsimp only at hSW);(go_simp<;>with_reducible rfl))
   (try simp only[Act.put,List.setIfInBounds_toArray,List.set_cons_zero,List.set_cons_succ])
   refine wpOrd_read (v:=?_) rfl (fun _ _ _ h=>h) ?_ ?_
   rotate_left
   ·(intro W hSW;(try dsimp only at hSW);(go_simp<;>with_reducible rfl))
   (try simp only[Act.put,List.setIfInBounds_toArray,List.set_cons_zero,List.set_cons_succ])
   refine wpOrd_read (v:=?_) rfl (fun _ _ _ h=>h) ?_ ?_
   rotate_left
   ·(intro W hSW;(try dsimp only at hSW);(go_simp<;>with_reducible rfl))
   (try simp only[Act.put,List.setIfInBounds_toArray,List.set_cons_zero,List.set_cons_succ])
   refine wpOrd_read (v:=?_) rfl (fun _ _ _ h=>h) ?_ ?_
   rotate_left
   ·(intro W hSW;(try dsimp only at hSW);(go_simp<;>with_reducible rfl))
   (try simp only[Act.put,List.setIfInBounds_toArray,List.set_cons_zero,List.set_cons_succ])
   refine wpOrd_read (v:=?_) rfl (fun _ _ _ h=>h) ?_ ?_
   rotate_left
   ·(intro W hSW;(try dsimp only at hSW);(go_simp<;>with_reducible rfl))
   (try simp only[Act.put,List.setIfInBounds_toArray,List.set_cons_zero,List.set_cons_succ])
   refine wpOrd_read (v:=?_) rfl (fun _ _ _ h=>h) ?_ ?_
   rotate_left
   ·(intro W hSW;(try dsimp only at hSW);(go_simp<;>with_reducible rfl))
   (try simp only[Act.put,List.setIfInBounds_toArray,List.set_cons_zero,List.set_cons_succ])
   refine wpOrd_read (v:=?_) rfl (fun _ _ _ h=>h) ?_ ?_
   rotate_left
   ·(intro W hSW;(try dsimp only at hSW);(go_simp<;>with_reducible rfl))
   (try simp only[Act.put,List.setIfInBounds_toArray,List.set_cons_zero,List.set_cons_succ])
   refine wpOrd_read (v:=?_) rfl (fun _ _ _ h=>h) ?_ ?_
   rotate_left
   ·(intro W hSW;(try dsimp only at hSW);(go_simp<;>with_reducible rfl))
   (try simp only[Act.put,List.setIfInBounds_toArray,List.set_cons_zero,List.set_cons_succ])
   refine wpOrd_read (v:=?_) rfl (fun _ _ _ h=>h) ?_ ?_
   rotate_left
   ·(intro W hSW;(try dsimp only at hSW);(go_simp<;>with_reducible rfl))
   (try simp only[Act.put,List.setIfInBounds_toArray,List.set_cons_zero,List.set_cons_succ])
   refine wpOrd_step rfl (fun K hK=>?_)
   go_simp
   refine hK.out _ _ (HS_.out _ (HB.out.alloc HB.out.size _)) ?_
   clear hK K
   (try simp only[Act.put,List.setIfInBounds_toArray,List.set_cons_zero,List.set_cons_succ])
   refine wpOrd_nil ?_
   simp only[List.drop_succ_cons,List.drop_zero]
   refine wpList_append1 rfl (.tmp 33) (.tmp 43) _ rfl w.heap.size 114 i0 _ 3 40 Tryz.underlying60 hi0 hz0 hz1 hz2 rfl (by omega) _ _ _ [] rfl HG4.out [.int .i64 1,.string x.name,.string x.site] (DFault.tr ⟨1,x.name,x.site⟩) [] rfl 1 rfl (fun u hu=>by simp at hu;rcases hu with rfl|rfl|rfl<;>rfl) (RepV_lits _ [.int .i64 1,.string x.name,.string x.site]) List.nodup_nil (fun b h=>by simp at h) 0 In.nil In.nil (by simp) (by simp) (by unfold maxLen;omega) (by omega) HB.out.size ?_
   intro v2 w8 hgn
   have HGN:=Lib.hid hgn
   clear hgn
   go_wp2_with fail
   go_meet
   exact⟨HB.out.trans HGN.out.below,by rw[HPE.out];exact HGN.out.grow⟩
 obtain⟨hbn,hgr⟩:=hcut
 replace HB:=Lib.hid hbn
 have HG:=Lib.hid hgr
 clear hbn hgr t0 t1 t2 t3 t4 t5 t6 t7 t8 t9 t10 t11 t12 t13 t14 t15 t16 HG1
 generalize wc=w3 at *
 obtain⟨t0,t1,t2,t3,t4,t5,t6,t7,t8,t9,t10,t11,t12,t13,t14,t15,t16⟩:=HC.out _ HB.out
 have z3:=HB.out.size
 by_cases c0:x.channel<0
 case pos =>
  have HRE:Hid (rt = [⟨2,x.name,⟨#[]⟩⟩]):=by show _=_;rw[HRF.out,if_pos c0]
  have HO:of=pf++[⟨2,x.name,⟨#[]⟩⟩]:=by rw[HOF.out,HRE.out]
  subst HO
  go_wp2_with (at_builtin;refine wpList_append1 rfl (.tmp 50) (.tmp 56) _ rfl w.heap.size 114 i0 _ 3 40 Tryz.underlying60 hi0 hz0 hz1 hz2 rfl (by omega) _ _ _ [] rfl HG.out [.int .i64 2,.string x.name,.string ⟨#[]⟩] (DFault.tr ⟨2,x.name,⟨#[]⟩⟩) [] rfl 1 rfl (fun u hu=>by simp at hu;rcases hu with rfl|rfl|rfl<;>rfl) (RepV_lits _ [.int .i64 2,.string x.name,.string ⟨#[]⟩]) List.nodup_nil (fun b h=>by simp at h) 0 In.nil In.nil (by simp) (by simp) (by unfold maxLen;omega) (by omega) HB.out.size ?_;intro v2 w8 hgn)
  have HGN:=Lib.hid hgn
  clear hgn
  obtain⟨av,cv,fv,ev,ov,iv⟩:=HGN.out.grow.toOwn (lo:=w.heap.size) (by omega) In.nil (Nat.le_refl _)
  subst ev
  have OV2:Own w8 (DFault.sT (pf++[⟨2,x.name,⟨#[]⟩⟩])) (.slice av (pf.length+1) cv) fv:=by rw[DFault.sT_eq,List.flatMap_append];simpa using ov
  have OV:=Lib.hid OV2
  have IV:=Lib.hid iv
  have BF:=Lib.hid (HB.out.trans HGN.out.below)
  clear ov iv OV2
  go_wp2
  refine bodyPost_ret (v:=.slice av (pf.length+1) cv) (by simp[results,Tryz.results69,go_sem, *]) rfl ?_
  first|exact⟨av,cv,rfl,BF.out,fv,OV.out,IV.out⟩|exact⟨av,cv,fv,rfl,BF.out,OV.out,IV.out⟩|(rw[List.length_append];exact⟨av,cv,fv,rfl,BF.out,OV.out,IV.out⟩)
 replace c0:0≤x.channel:=by omega
 cases hasb
 case false =>
  have HRE:Hid (rt = [⟨3,x.name,x.band⟩]):=by show _=_;rw[HRF.out,if_neg (show ¬ x.channel<0 by omega)];rfl
  have HO:of=pf++[⟨3,x.name,x.band⟩]:=by rw[HOF.out,HRE.out]
  subst HO
  go_upto_region 9 with (go_at_call 131;with_reducible refine (CR.out _ HB.out).mono ?_;rintro e w4 ⟨rfl,hb2⟩;have HG4:=Lib.hid (HG.out.below (lo:=0) In.nil hb2);clear t0 t1 t2 t3 t4 t5 t6 t7 t8 t9 t10 t11 t12 t13 t14 t15 t16 HG;replace HB:=Lib.hid (HB.out.trans (hb2.mono HB.out.size));clear hb2;obtain⟨t0,t1,t2,t3,t4,t5,t6,t7,t8,t9,t10,t11,t12,t13,t14,t15,t16⟩:=HC.out _ HB.out)
  have z4:=HB.out.size
  have HS_:Hid (∀ W:World,Below w.heap.size w W→(W.cell? ⟨b6,o6+k*9,none⟩=some (.string x.name)∧W.cell? ⟨b6,o6+k*9+4,none⟩=some (.string x.band))):=fun W hW=>by
   obtain⟨t0,t1,t2,t3,t4,t5,t6,t7,t8,t9,t10,t11,t12,t13,t14,t15,t16⟩:=HC.out W hW
   exact⟨t4,t8⟩
  refine wp_region_ord 11 [(0,true),(1,true),(2,true),(3,true),(4,true),(5,true),(6,true),(7,true),(8,true),(9,true),(10,false)] (fun W=>W.cell? ⟨b6,o6+k*9,none⟩=some (.string x.name)∧W.cell? ⟨b6,o6+k*9+4,none⟩=some (.string x.band)) (by kernel_rfl) (by kernel_rfl) (HS_.out _ (HB.out.trans ((below_drew1 _).mono HB.out.size))) (fun hHeld=>?_)
  have bd:=below_drew1 w4
  have HG4:=Lib.hid (HG4.out.below (lo:=0) In.nil bd)
  replace HB:=Lib.hid (HB.out.trans (bd.mono HB.out.size))
  have zd:=HB.out.size
  clear bd t0 t1 t2 t3 t4 t5 t6 t7 t8 t9 t10 t11 t12 t13 t14 t15 t16 hHeld
  generalize w4.drew=w4 at *
  refine wpOrd_read (v:=?_) rfl (fun _ _ _ h=>h) ?_ ?_
  rotate_left
  ·(intro W hSW;(try dsimp only at hSW);(go_simp<;>with_reducible rfl))
  (try simp only[Act.put,List.setIfInBounds_toArray,List.set_cons_zero,List.set_cons_succ])
  refine wpOrd_read (v:=?_) rfl (fun _ _ _ h=>h) ?_ ?_
  rotate_left
  ·(intro W hSW;(try dsimp only at hSW);(go_simp<;>with_reducible rfl))
  (try simp only[Act.put,List.setIfInBounds_toArray,List.set_cons_zero,List.set_cons_succ])
  refine wpOrd_read (v:=?_) rfl (fun _ _ _ h=>h) ?_ ?_
  rotate_left
  ·(intro W hSW;(try dsimp only at hSW);(go_simp<;>with_reducible rfl))
  (try simp only[Act.put,List.setIfInBounds_toArray,List.set_cons_zero,List.set_cons_succ])
  refine wpOrd_read (v:=?_) rfl (fun _ _ _ h=>h) ?_ ?_
  rotate_left
  ·(intro W hSW;(try dsimp only at hSW);(go_simp<;>with_reducible rfl))
  (try simp only[Act.put,List.setIfInBounds_toArray,List.set_cons_zero,List.set_cons_succ])
  refine wpOrd_read (v:=?_) rfl (fun _ _ _ h=>h) ?_ ?_
  rotate_left
  ·(intro W hSW;(try dsimp only at hSW);(go_simp<;>with_reducible rfl))
  (try simp only[Act.put,List.setIfInBounds_toArray,List.set_cons_zero,List.set_cons_succ])
  refine wpOrd_read (v:=?_) rfl (fun _ _ _ h=>h) ?_ ?_
  rotate_left
  ·(intro W hSW;(try dsimp only at hSW);(go_simp<;>with_reducible rfl))
  (try simp only[Act.put,List.setIfInBounds_toArray,List.set_cons_zero,List.set_cons_succ])
  refine wpOrd_read (v:=?_) rfl (fun _ _ _ h=>h) ?_ ?_
  rotate_left
  ·(intro W hSW;(try dsimp only at hSW);(go_simp<;>with_reducible rfl))
  (try simp only[Act.put,List.setIfInBounds_toArray,List.set_cons_zero,List.set_cons_succ])
  refine wpOrd_read (v:=?_) rfl (fun _ _ _ h=>h) ?_ ?_
  rotate_left
  ·(intro W hSW;(try dsimp only at hSW);(go_simp<;>with_reducible rfl))
  (try simp only[Act.put,List.setIfInBounds_toArray,List.set_cons_zero,List.set_cons_succ])
  refine wpOrd_read (v:=?_) rfl (fun _ _ _ h=>h) ?_ ?_
  rotate_left
  ·(intro W hSW;(try dsimp only at hSW);(go_simp<;>with_reducible rfl))
  (try simp only[Act.put,List.setIfInBounds_toArray,List.set_cons_zero,List.set_cons_succ])
  refine wpOrd_read (v:=?_) rfl (fun _ _ _ h=>h) ?_ ?_
  rotate_left
  ·(intro W hSW;(try dsimp only at hSW);(go_simp<;>with_reducible rfl))
  (try simp only[Act.put,List.setIfInBounds_toArray,List.set_cons_zero,List.set_cons_succ])
  refine wpOrd_step rfl (fun K hK=>?_)
  go_simp
  refine hK.out _ _ (HS_.out _ (HB.out.alloc HB.out.size _)) ?_
  clear hK K
  (try simp only[Act.put,List.setIfInBounds_toArray,List.set_cons_zero,List.set_cons_succ])
  refine wpOrd_nil ?_
  simp only[List.drop_succ_cons,List.drop_zero]
  refine wpList_append1 rfl (.tmp 67) (.tmp 77) _ rfl w.heap.size 114 i0 _ 3 40 Tryz.underlying60 hi0 hz0 hz1 hz2 rfl (by omega) _ _ _ [] rfl HG4.out [.int .i64 3,.string x.name,.string x.band] (DFault.tr ⟨3,x.name,x.band⟩) [] rfl 1 rfl (fun u hu=>by simp at hu;rcases hu with rfl|rfl|rfl<;>rfl) (RepV_lits _ [.int .i64 3,.string x.name,.string x.band]) List.nodup_nil (fun b h=>by simp at h) 0 In.nil In.nil (by simp) (by simp) (by unfold maxLen;omega) (by omega) HB.out.size ?_
  intro v2 w8 hgn
  have HGN:=Lib.hid hgn
  clear hgn
  obtain⟨av,cv,fv,ev,ov,iv⟩:=HGN.out.grow.toOwn (lo:=w.heap.size) (by omega) In.nil (Nat.le_refl _)
  subst ev
  have OV2:Own w8 (DFault.sT (pf++[⟨3,x.name,x.band⟩])) (.slice av (pf.length+1) cv) fv:=by rw[DFault.sT_eq,List.flatMap_append];simpa using ov
  have OV:=Lib.hid OV2
  have IV:=Lib.hid iv
  have BF:=Lib.hid (HB.out.trans HGN.out.below)
  clear ov iv OV2
  go_wp2
  refine bodyPost_ret (v:=.slice av (pf.length+1) cv) (by simp[results,Tryz.results69,go_sem, *]) rfl ?_
  first|exact⟨av,cv,rfl,BF.out,fv,OV.out,IV.out⟩|exact⟨av,cv,fv,rfl,BF.out,OV.out,IV.out⟩|(rw[List.length_append];exact⟨av,cv,fv,rfl,BF.out,OV.out,IV.out⟩)
 rcases HBD.out with a1|⟨a1,a2,a3⟩
 case inl =>
  subst a1
  have HRE:Hid (rt = [⟨4,x.name,y.holder⟩]):=by show _=_;rw[HRF.out,if_neg (show ¬ x.channel<0 by omega),if_pos rfl,if_neg (by omega)]
  have HO:of=pf++[⟨4,x.name,y.holder⟩]:=by rw[HOF.out,HRE.out]
  subst HO
  go_upto_region 12 with (first|(go_at_call 131;with_reducible refine (CR.out _ HB.out).mono ?_;rintro e w4 ⟨rfl,hb2⟩;have HG4:=Lib.hid (HG.out.below (lo:=0) In.nil hb2);clear t0 t1 t2 t3 t4 t5 t6 t7 t8 t9 t10 t11 t12 t13 t14 t15 t16 HG;replace HB:=Lib.hid (HB.out.trans (hb2.mono HB.out.size));clear hb2;obtain⟨t0,t1,t2,t3,t4,t5,t6,t7,t8,t9,t10,t11,t12,t13,t14,t15,t16⟩:=HC.out _ HB.out)|(go_at_call 132;with_reducible refine (CL.out _ HB.out).mono ?_;rintro e w5 ⟨rfl,hb2⟩;have HG5:=Lib.hid (HG4.out.below (lo:=0) In.nil hb2);clear t0 t1 t2 t3 t4 t5 t6 t7 t8 t9 t10 t11 t12 t13 t14 t15 t16 z3;replace HB:=Lib.hid (HB.out.trans (hb2.mono HB.out.size));clear hb2;obtain⟨t0,t1,t2,t3,t4,t5,t6,t7,t8,t9,t10,t11,t12,t13,t14,t15,t16⟩:=HC.out _ HB.out))
  have z5:=HB.out.size
  have HS_:Hid (∀ W:World,Below w.heap.size w W→(W.cell? ⟨b6,o6+k*9,none⟩=some (.string x.name)∧W.cell? ⟨bs,os+m*4+1,none⟩=some (.string y.holder))):=fun W hW=>by
   obtain⟨t0,t1,t2,t3,t4,t5,t6,t7,t8,t9,t10,t11,t12,t13,t14,t15,t16⟩:=HC.out W hW
   exact⟨t4,t11⟩
  refine wp_region_ord 13 [(0,true),(1,true),(2,true),(3,true),(4,true),(5,true),(6,true),(7,false),(8,true),(9,true),(10,true),(11,true),(12,false)] (fun W=>W.cell? ⟨b6,o6+k*9,none⟩=some (.string x.name)∧W.cell? ⟨bs,os+m*4+1,none⟩=some (.string y.holder)) (by kernel_rfl) (by kernel_rfl) (HS_.out _ (HB.out.trans ((below_drew1 _).mono HB.out.size))) (fun hHeld=>?_)
  have bd:=below_drew1 w5
  have HG4:=Lib.hid (HG5.out.below (lo:=0) In.nil bd)
  replace HB:=Lib.hid (HB.out.trans (bd.mono HB.out.size))
  have zd:=HB.out.size
  clear bd t0 t1 t2 t3 t4 t5 t6 t7 t8 t9 t10 t11 t12 t13 t14 t15 t16 hHeld
  generalize w5.drew=w4 at *
  refine wpOrd_read (v:=?_) rfl (fun _ _ _ h=>h) ?_ ?_
  rotate_left
  ·(intro W hSW;(try dsimp only at hSW);(go_simp<;>with_reducible rfl))
  (try simp only[Act.put,List.setIfInBounds_toArray,List.set_cons_zero,List.set_cons_succ])
  refine wpOrd_read (v:=?_) rfl (fun _ _ _ h=>h) ?_ ?_
  rotate_left
  ·(intro W hSW;(try dsimp only at hSW);(go_simp<;>with_reducible rfl))
  (try simp only[Act.put,List.setIfInBounds_toArray,List.set_cons_zero,List.set_cons_succ])
  refine wpOrd_read (v:=?_) rfl (fun _ _ _ h=>h) ?_ ?_
  rotate_left
  ·(intro W hSW;(try dsimp only at hSW);(go_simp<;>with_reducible rfl))
  (try simp only[Act.put,List.setIfInBounds_toArray,List.set_cons_zero,List.set_cons_succ])
  refine wpOrd_read (v:=?_) rfl (fun _ _ _ h=>h) ?_ ?_
  rotate_left
  ·(intro W hSW;(try dsimp only at hSW);(go_simp<;>with_reducible rfl))
  (try simp only[Act.put,List.setIfInBounds_toArray,List.set_cons_zero,List.set_cons_succ])
  refine wpOrd_read (v:=?_) rfl (fun _ _ _ h=>h) ?_ ?_
  rotate_left
  ·(intro W hSW;(try dsimp only at hSW);(go_simp<;>with_reducible rfl))
  (try simp only[Act.put,List.setIfInBounds_toArray,List.set_cons_zero,List.set_cons_succ])
  refine wpOrd_read (v:=?_) rfl (fun _ _ _ h=>h) ?_ ?_
  rotate_left
  ·(intro W hSW;(try dsimp only at hSW);(go_simp<;>with_reducible rfl))
  (try simp only[Act.put,List.setIfInBounds_toArray,List.set_cons_zero,List.set_cons_succ])
  refine wpOrd_read (v:=?_) rfl (fun _ _ _ h=>h) ?_ ?_
  rotate_left
  ·(intro W hSW;(try dsimp only at hSW);(go_simp<;>with_reducible rfl))
  (try simp only[Act.put,List.setIfInBounds_toArray,List.set_cons_zero,List.set_cons_succ])
  refine wpOrd_step rfl (fun K hK=>?_)
  go_simp
  refine (CS.out _ HB.out).mono ?_
  rintro e w5 ⟨rfl,hb5⟩
  have HG5:=Lib.hid (HG4.out.below (lo:=0) In.nil hb5)
  replace HB:=Lib.hid (HB.out.trans (hb5.mono HB.out.size))
  have z5:=HB.out.size
  refine hK.out _ _ (HS_.out _ HB.out) ?_
  clear hK K hb5
  (try simp only[Act.put,List.setIfInBounds_toArray,List.set_cons_zero,List.set_cons_succ])
  refine wpOrd_read (v:=?_) rfl (fun _ _ _ h=>h) ?_ ?_
  rotate_left
  ·(intro W hSW;(try dsimp only at hSW);(go_simp<;>with_reducible rfl))
  (try simp only[Act.put,List.setIfInBounds_toArray,List.set_cons_zero,List.set_cons_succ])
  refine wpOrd_read (v:=?_) rfl (fun _ _ _ h=>h) ?_ ?_
  rotate_left
  ·(intro W hSW;(try dsimp only at hSW);(go_simp<;>with_reducible rfl))
  (try simp only[Act.put,List.setIfInBounds_toArray,List.set_cons_zero,List.set_cons_succ])
  refine wpOrd_read (v:=?_) rfl (fun _ _ _ h=>h) ?_ ?_
  rotate_left
  ·(intro W hSW;(try dsimp only at hSW);(go_simp<;>with_reducible rfl))
  (try simp only[Act.put,List.setIfInBounds_toArray,List.set_cons_zero,List.set_cons_succ])
  refine wpOrd_read (v:=?_) rfl (fun _ _ _ h=>h) ?_ ?_
  rotate_left
  ·(intro W hSW;(try dsimp only at hSW);(go_simp<;>with_reducible rfl))
  (try simp only[Act.put,List.setIfInBounds_toArray,List.set_cons_zero,List.set_cons_succ])
  refine wpOrd_step rfl (fun K hK=>?_)
  go_simp
  refine hK.out _ _ (HS_.out _ (HB.out.alloc HB.out.size _)) ?_
  clear hK K
  (try simp only[Act.put,List.setIfInBounds_toArray,List.set_cons_zero,List.set_cons_succ])
  refine wpOrd_nil ?_
  simp only[List.drop_succ_cons,List.drop_zero]
  refine wpList_append1 rfl (.tmp 84) (.tmp 96) _ rfl w.heap.size 114 i0 _ 3 40 Tryz.underlying60 hi0 hz0 hz1 hz2 rfl (by omega) _ _ _ [] rfl HG5.out [.int .i64 4,.string x.name,.string y.holder] (DFault.tr ⟨4,x.name,y.holder⟩) [] rfl 1 rfl (fun u hu=>by simp at hu;rcases hu with rfl|rfl|rfl<;>rfl) (RepV_lits _ [.int .i64 4,.string x.name,.string y.holder]) List.nodup_nil (fun b h=>by simp at h) 0 In.nil In.nil (by simp) (by simp) (by unfold maxLen;omega) (by omega) HB.out.size ?_
  intro v2 w8 hgn
  have HGN:=Lib.hid hgn
  clear hgn
  obtain⟨av,cv,fv,ev,ov,iv⟩:=HGN.out.grow.toOwn (lo:=w.heap.size) (by omega) In.nil (Nat.le_refl _)
  subst ev
  have OV2:Own w8 (DFault.sT (pf++[⟨4,x.name,y.holder⟩])) (.slice av (pf.length+1) cv) fv:=by rw[DFault.sT_eq,List.flatMap_append];simpa using ov
  have OV:=Lib.hid OV2
  have IV:=Lib.hid iv
  have BF:=Lib.hid (HB.out.trans HGN.out.below)
  clear ov iv OV2
  go_wp2
  refine bodyPost_ret (v:=.slice av (pf.length+1) cv) (by simp[results,Tryz.results69,go_sem, *]) rfl ?_
  first|exact⟨av,cv,rfl,BF.out,fv,OV.out,IV.out⟩|exact⟨av,cv,fv,rfl,BF.out,OV.out,IV.out⟩|(rw[List.length_append];exact⟨av,cv,fv,rfl,BF.out,OV.out,IV.out⟩)
 rw[← a3] at CL
 have HLN2:Hid (lN=gLicence p.licences li.toNat):=HLN.out
 have A1:=Lib.hid a1
 clear a1 a3
 generalize hq:li.toNat=q at *
 clear hq
 obtain⟨bL,oL,el,hbL,hatL⟩:=HCL.out (Nat.lt_of_le_of_lt (Nat.zero_le _) a2)
 subst el
 obtain⟨l0,l1,l2,l3,l4,l5,l6,l7,l8,l9,l10⟩:=hatL q a2
 rw[gLicence_eq a2,← HLN2.out] at l0 l1 l2 l3 l4 l5 l6 l7 l8 l9 l10
 have HL0:Hid (∀ W:World,Below w.heap.size w W→(W.cell? ⟨bL,oL+q*11,none⟩=some (.string lN.id)∧W.cell? ⟨bL,oL+q*11+10,none⟩=some (.int .i64 lN.power))):=fun W hW=>⟨(bat hW bL _ hbL).trans l0,(bat hW bL _ hbL).trans l10⟩
 clear hatL HLN HLN2 l0 l1 l2 l3 l4 l5 l6 l7 l8 l9 l10
 have ll1:(0:Int)≤(q:Int):=by omega
 have ll2:(q:Int)<(p.licences.length:Int):=by omega
 go_upto_region 14 with (first|(go_at_call 131;with_reducible refine (CR.out _ HB.out).mono ?_;rintro e w4 ⟨rfl,hb2⟩;have HG4:=Lib.hid (HG.out.below (lo:=0) In.nil hb2);clear t0 t1 t2 t3 t4 t5 t6 t7 t8 t9 t10 t11 t12 t13 t14 t15 t16 HG;replace HB:=Lib.hid (HB.out.trans (hb2.mono HB.out.size));clear hb2;obtain⟨t0,t1,t2,t3,t4,t5,t6,t7,t8,t9,t10,t11,t12,t13,t14,t15,t16⟩:=HC.out _ HB.out)|(go_at_call 132;with_reducible refine (CL.out _ HB.out).mono ?_;rintro e w5 ⟨rfl,hb2⟩;have HG5:=Lib.hid (HG4.out.below (lo:=0) In.nil hb2);clear t0 t1 t2 t3 t4 t5 t6 t7 t8 t9 t10 t11 t12 t13 t14 t15 t16 z3;replace HB:=Lib.hid (HB.out.trans (hb2.mono HB.out.size));clear hb2;obtain⟨t0,t1,t2,t3,t4,t5,t6,t7,t8,t9,t10,t11,t12,t13,t14,t15,t16⟩:=HC.out _ HB.out))
 have z5:=HB.out.size
 have z6:=HB.out.size
 go_cut [12] (fun s W=>s=.pointer (some ⟨b8,o8+kr*6,none⟩)∧Below w5.heap.size w5 W)
 case first =>
  have vP:=overC (w0:=w5) (show b<w5.heap.size by omega)
  have v6:=overC (w0:=w5) (show b6<w5.heap.size by omega)
  have vS:=overC (w0:=w5) (show bs<w5.heap.size by omega)
  have v7:=overC (w0:=w5) (show b7<w5.heap.size by omega)
  have v8:=overC (w0:=w5) (show b8<w5.heap.size by omega)
  refine wp_region_over w5.heap.size w5 (Below.refl _ _) (by kernel_rfl) (by kernel_rfl) ?_
  repeat (go_big_quiet_step (first|(go_at_call 133;with_reducible exact over_same (CRD.out _ (HB.out.trans ((over_below w5.heap.size w5 _).mono HB.out.size))))))
  refine wpQuiet_nil ?_
  rintro _ ⟨X,rfl⟩
  clear vP v6 vS v7 v8
  have BE:=Lib.hid (over_below w5.heap.size w5 X)
  generalize over w5.heap.size w5 X=W9 at *
  go_wp2_with fail
  go_meet
  exact⟨rfl,BE.out⟩
 obtain⟨rfl,hb2⟩:=hcut
 generalize wc=w6 at *
 replace HB:=Lib.hid (HB.out.trans (hb2.mono HB.out.size))
 have HG6:=Lib.hid (HG5.out.below (lo:=0) In.nil hb2)
 have zw6:=hb2.size
 clear hb2 t0 t1 t2 t3 t4 t5 t6 t7 t8 t9 t10 t11 t12 t13 t14 t15 t16 HG5
 obtain⟨t0,t1,t2,t3,t4,t5,t6,t7,t8,t9,t10,t11,t12,t13,t14,t15,t16⟩:=HC.out _ HB.out
 go_upto_region 15 with (fail)
 go_cut [13] (fun s W=>s=.pointer (some ⟨b7,o7+ka*4,none⟩)∧Below w6.heap.size w6 W)
 case first =>
  have vP:=overC (w0:=w6) (show b<w6.heap.size by omega)
  have v6:=overC (w0:=w6) (show b6<w6.heap.size by omega)
  have vS:=overC (w0:=w6) (show bs<w6.heap.size by omega)
  have v7:=overC (w0:=w6) (show b7<w6.heap.size by omega)
  have v8:=overC (w0:=w6) (show b8<w6.heap.size by omega)
  refine wp_region_over w6.heap.size w6 (Below.refl _ _) (by kernel_rfl) (by kernel_rfl) ?_
  repeat (go_big_quiet_step (first|(go_at_call 134;with_reducible exact over_same (CAN.out _ (HB.out.trans ((over_below w6.heap.size w6 _).mono HB.out.size))))))
  refine wpQuiet_nil ?_
  rintro _ ⟨X,rfl⟩
  clear vP v6 vS v7 v8
  have BE:=Lib.hid (over_below w6.heap.size w6 X)
  generalize over w6.heap.size w6 X=W9 at *
  go_wp2_with fail
  go_meet
  exact⟨rfl,BE.out⟩
 obtain⟨rfl,hb2⟩:=hcut
 generalize wc=w7 at *
 replace HB:=Lib.hid (HB.out.trans (hb2.mono HB.out.size))
 have HG7:=Lib.hid (HG6.out.below (lo:=0) In.nil hb2)
 have zw7:=hb2.size
 clear hb2 t0 t1 t2 t3 t4 t5 t6 t7 t8 t9 t10 t11 t12 t13 t14 t15 t16 HG6
 obtain⟨t0,t1,t2,t3,t4,t5,t6,t7,t8,t9,t10,t11,t12,t13,t14,t15,t16⟩:=HC.out _ HB.out
 go_upto_region 16 with (fail)
 obtain⟨l0,l10⟩:=HL0.out _ HB.out
 have hpq:pw=decide (lN.power<R.power-R.feeder+A.gain):=HPW.out
 have HPQ:=Lib.hid hpq
 clear hpq
 have uL:bL<w7.heap.size:=by omega
 go_cut [145] (fun s W=>s=.bool pw∧Below w7.heap.size w7 W)
 case first =>
  have HDEC:Hid (∀ bb,decide (lN.power<R.power-R.feeder+A.gain)=bb→pw=bb):=fun bb h=>by rw[HPQ.out,h]
  have vP:=overC (w0:=w7) (show b<w7.heap.size by omega)
  have v6:=overC (w0:=w7) (show b6<w7.heap.size by omega)
  have v7:=overC (w0:=w7) (show b7<w7.heap.size by omega)
  have v8:=overC (w0:=w7) (show b8<w7.heap.size by omega)
  have vL:=overC (w0:=w7) uL
  refine wp_region_over w7.heap.size w7 (Below.refl _ _) (by kernel_rfl) (by kernel_rfl) ?_
  repeat (go_big_quiet_step (fail))
  refine wpQuiet_nil ?_
  rintro _ ⟨X,rfl⟩
  clear vP v6 v7 v8 vL
  have BE:=Lib.hid (over_below w7.heap.size w7 X)
  generalize over w7.heap.size w7 X=W9 at *
  go_wp2_with fail
  go_meet
  exact⟨by rw[HPQ.out],BE.out⟩
 obtain⟨rfl,hb2⟩:=hcut
 generalize wc=w9 at *
 replace HB:=Lib.hid (HB.out.trans (hb2.mono HB.out.size))
 have HG9:=Lib.hid (HG7.out.below (lo:=0) In.nil hb2)
 have zw9:=hb2.size
 clear hb2 t0 t1 t2 t3 t4 t5 t6 t7 t8 t9 t10 t11 t12 t13 t14 t15 t16 HG7
 obtain⟨t0,t1,t2,t3,t4,t5,t6,t7,t8,t9,t10,t11,t12,t13,t14,t15,t16⟩:=HC.out _ HB.out
 cases pw
 case false =>
  have HRE:Hid (rt = []):=by show _=_;rw[HRF.out];simp[show ¬ x.channel<0 by omega,A1.out]
  have HO:of=pf:=by rw[HOF.out,HRE.out,List.append_nil]
  subst HO
  obtain⟨av,cv,fv,ev,ov,iv⟩:=HG9.out.toOwn (lo:=w.heap.size) (by omega) In.nil (Nat.le_refl _)
  subst ev
  have OV:=Lib.hid ov
  have IV:=Lib.hid iv
  have BF:=Lib.hid HB.out
  clear ov iv
  go_wp2
  refine bodyPost_ret (v:=.slice av of.length cv) (by simp[results,Tryz.results69,go_sem, *]) rfl ?_
  first|exact⟨av,cv,rfl,BF.out,fv,OV.out,IV.out⟩|exact⟨av,cv,fv,rfl,BF.out,OV.out,IV.out⟩
 have HRE:Hid (rt = [⟨5,x.name,lN.id⟩]):=by show _=_;rw[HRF.out];simp[show ¬ x.channel<0 by omega,A1.out]
 have HO:of=pf++[⟨5,x.name,lN.id⟩]:=by rw[HOF.out,HRE.out]
 subst HO
 go_upto_region 17 with (fail)
 have HS_:Hid (∀ W:World,Below w.heap.size w W→(W.cell? ⟨b,off+10,none⟩=some (.slice (some ⟨bL,oL,none⟩) p.licences.length kl)∧W.cell? ⟨b6,o6+k*9,none⟩=some (.string x.name)∧W.cell? ⟨bL,oL+q*11,none⟩=some (.string lN.id))):=fun W hW=>by
  obtain⟨t0,t1,t2,t3,t4,t5,t6,t7,t8,t9,t10,t11,t12,t13,t14,t15,t16⟩:=HC.out W hW
  exact⟨t3,t4,(HL0.out W hW).1⟩
 refine wp_region_ord 15 [(0,true),(1,true),(2,true),(3,true),(4,true),(5,true),(6,true),(7,true),(8,true),(9,true),(10,true),(11,true),(12,true),(13,true),(14,false)] (fun W=>W.cell? ⟨b,off+10,none⟩=some (.slice (some ⟨bL,oL,none⟩) p.licences.length kl)∧W.cell? ⟨b6,o6+k*9,none⟩=some (.string x.name)∧W.cell? ⟨bL,oL+q*11,none⟩=some (.string lN.id)) (by kernel_rfl) (by kernel_rfl) (HS_.out _ (HB.out.trans ((below_drew1 _).mono HB.out.size))) (fun hHeld=>?_)
 have bd:=below_drew1 w9
 have HG4:=Lib.hid (HG9.out.below (lo:=0) In.nil bd)
 replace HB:=Lib.hid (HB.out.trans (bd.mono HB.out.size))
 have zd:=HB.out.size
 clear bd t0 t1 t2 t3 t4 t5 t6 t7 t8 t9 t10 t11 t12 t13 t14 t15 t16 hHeld
 generalize w9.drew=w4 at *
 refine wpOrd_read (v:=?_) rfl (fun _ _ _ h=>h) ?_ ?_
 rotate_left
 ·(intro W hSW;(try dsimp only at hSW);(go_simp<;>with_reducible rfl))
 (try simp only[Act.put,List.setIfInBounds_toArray,List.set_cons_zero,List.set_cons_succ])
 refine wpOrd_read (v:=?_) rfl (fun _ _ _ h=>h) ?_ ?_
 rotate_left
 ·(intro W hSW;(try dsimp only at hSW);(go_simp<;>with_reducible rfl))
 (try simp only[Act.put,List.setIfInBounds_toArray,List.set_cons_zero,List.set_cons_succ])
 refine wpOrd_read (v:=?_) rfl (fun _ _ _ h=>h) ?_ ?_
 rotate_left
 ·(intro W hSW;(try dsimp only at hSW);(go_simp<;>with_reducible rfl))
 (try simp only[Act.put,List.setIfInBounds_toArray,List.set_cons_zero,List.set_cons_succ])
 refine wpOrd_read (v:=?_) rfl (fun _ _ _ h=>h) ?_ ?_
 rotate_left
 ·(intro W hSW;(try dsimp only at hSW);(go_simp<;>with_reducible rfl))
 (try simp only[Act.put,List.setIfInBounds_toArray,List.set_cons_zero,List.set_cons_succ])
 refine wpOrd_read (v:=?_) rfl (fun _ _ _ h=>h) ?_ ?_
 rotate_left
 ·(intro W hSW;(try dsimp only at hSW);(go_simp<;>with_reducible rfl))
 (try simp only[Act.put,List.setIfInBounds_toArray,List.set_cons_zero,List.set_cons_succ])
 refine wpOrd_read (v:=?_) rfl (fun _ _ _ h=>h) ?_ ?_
 rotate_left
 ·(intro W hSW;(try dsimp only at hSW);(go_simp<;>with_reducible rfl))
 (try simp only[Act.put,List.setIfInBounds_toArray,List.set_cons_zero,List.set_cons_succ])
 refine wpOrd_read (v:=?_) rfl (fun _ _ _ h=>h) ?_ ?_
 rotate_left
 ·(intro W hSW;(try dsimp only at hSW);(go_simp<;>with_reducible rfl))
 (try simp only[Act.put,List.setIfInBounds_toArray,List.set_cons_zero,List.set_cons_succ])
 refine wpOrd_read (v:=?_) rfl (fun _ _ _ h=>h) ?_ ?_
 rotate_left
 ·(intro W hSW;(try dsimp only at hSW);(go_simp<;>with_reducible rfl))
 (try simp only[Act.put,List.setIfInBounds_toArray,List.set_cons_zero,List.set_cons_succ])
 refine wpOrd_read (v:=?_) rfl (fun _ _ _ h=>h) ?_ ?_
 rotate_left
 ·(intro W hSW;(try dsimp only at hSW);(go_simp<;>with_reducible rfl))
 (try simp only[Act.put,List.setIfInBounds_toArray,List.set_cons_zero,List.set_cons_succ])
 refine wpOrd_read (v:=?_) rfl (fun _ _ _ h=>h) ?_ ?_
 rotate_left
 ·(intro W hSW;(try dsimp only at hSW);(go_simp<;>with_reducible rfl))
 (try simp only[Act.put,List.setIfInBounds_toArray,List.set_cons_zero,List.set_cons_succ])
 refine wpOrd_read (v:=?_) rfl (fun _ _ _ h=>h) ?_ ?_
 rotate_left
 ·(intro W hSW;(try dsimp only at hSW);(go_simp<;>with_reducible rfl))
 (try simp only[Act.put,List.setIfInBounds_toArray,List.set_cons_zero,List.set_cons_succ])
 refine wpOrd_read (v:=?_) rfl (fun _ _ _ h=>h) ?_ ?_
 rotate_left
 ·(intro W hSW;(try dsimp only at hSW);(go_simp<;>with_reducible rfl))
 (try simp only[Act.put,List.setIfInBounds_toArray,List.set_cons_zero,List.set_cons_succ])
 refine wpOrd_read (v:=?_) rfl (fun _ _ _ h=>h) ?_ ?_
 rotate_left
 ·(intro W hSW;(try dsimp only at hSW);(go_simp<;>with_reducible rfl))
 (try simp only[Act.put,List.setIfInBounds_toArray,List.set_cons_zero,List.set_cons_succ])
 refine wpOrd_read (v:=?_) rfl (fun _ _ _ h=>h) ?_ ?_
 rotate_left
 ·(intro W hSW;(try dsimp only at hSW);(go_simp<;>with_reducible rfl))
 (try simp only[Act.put,List.setIfInBounds_toArray,List.set_cons_zero,List.set_cons_succ])
 refine wpOrd_step rfl (fun K hK=>?_)
 go_simp
 refine hK.out _ _ (HS_.out _ (HB.out.alloc HB.out.size _)) ?_
 clear hK K
 (try simp only[Act.put,List.setIfInBounds_toArray,List.set_cons_zero,List.set_cons_succ])
 refine wpOrd_nil ?_
 simp only[List.drop_succ_cons,List.drop_zero]
 refine wpList_append1 rfl (.tmp 146) (.tmp 160) _ rfl w.heap.size 114 i0 _ 3 40 Tryz.underlying60 hi0 hz0 hz1 hz2 rfl (by omega) _ _ _ [] rfl HG4.out [.int .i64 5,.string x.name,.string lN.id] (DFault.tr ⟨5,x.name,lN.id⟩) [] rfl 1 rfl (fun u hu=>by simp at hu;rcases hu with rfl|rfl|rfl<;>rfl) (RepV_lits _ [.int .i64 5,.string x.name,.string lN.id]) List.nodup_nil (fun b h=>by simp at h) 0 In.nil In.nil (by simp) (by simp) (by unfold maxLen;omega) (by omega) HB.out.size ?_
 intro v2 w8 hgn
 have HGN:=Lib.hid hgn
 clear hgn
 obtain⟨av,cv,fv,ev,ov,iv⟩:=HGN.out.grow.toOwn (lo:=w.heap.size) (by omega) In.nil (Nat.le_refl _)
 subst ev
 have OV2:Own w8 (DFault.sT (pf++[⟨5,x.name,lN.id⟩])) (.slice av (pf.length+1) cv) fv:=by rw[DFault.sT_eq,List.flatMap_append];simpa using ov
 have OV:=Lib.hid OV2
 have IV:=Lib.hid iv
 have BF:=Lib.hid (HB.out.trans HGN.out.below)
 clear ov iv OV2
 go_wp2
 refine bodyPost_ret (v:=.slice av (pf.length+1) cv) (by simp[results,Tryz.results69,go_sem, *]) rfl ?_
 first|exact⟨av,cv,rfl,BF.out,fv,OV.out,IV.out⟩|exact⟨av,cv,fv,rfl,BF.out,OV.out,IV.out⟩|(rw[List.length_append];exact⟨av,cv,fv,rfl,BF.out,OV.out,IV.out⟩)
end Go.Proofs.YtjfmkmcefnidcaaGreat
