/- Contracts: the faults of a sector for itself, for the program. Conditions: bounded sizes. -/
import Derived.Test.YtjfmkmcefnidcaaGreatSf1
import Derived.Test.YtjfmkmcefnidcaaGreatTree
import Derived.Deep.DeepCutAuto
namespace Go.Proofs.YtjfmkmcefnidcaaGreat
set_option maxHeartbeats 16000000
set_option maxRecDepth 100000
open Go.RowKit
set_option linter.unusedVariables false
set_option linter.unusedSimpArgs false
theorem sectorFaults_any (p:DPlan) (x:DSector) (v3 v4 v5 v6 v7 v8 v9 v10 v11 v12:Value) (w:World) (h:PlanRd w.heap.size w p v3 v4 v5 v6 v7 v8 v9 v10 v11 v12) (hs:sizL p.tr≤1099511627776) (hk:p.ok) (hp:planB p=true) (hx:sectorB x=true) (hr:refersB p.network x=true) (ka kr:Nat) (hP:Parts p.network x ka kr) :
  Calls Tryz.prog 71 #[.agg #[.int .i64 p.terrain.step,.int .i64 p.terrain.width,.int .i64 p.terrain.height,v3,v4,v5,v6,v7,v8,v9,v10,v11,v12,.int .i64 p.day],.agg #[.string x.name,.string x.site,.string x.antenna,.string x.radio,.string x.band,.int .i64 x.azimuth,.int .i64 x.tilt,.int .i64 x.above,.int .i64 x.channel]] w fun e w'=>∃ a c fp,e=.returned (.slice a (ownF p x).length c)∧Below w.heap.size w w'∧Own w' (DFault.sT (ownF p x)) (.slice a (ownF p x).length c) fp∧In w.heap.size w'.heap.size fp:=by
 have H:=Lib.hid h
 clear h
 have Z:=Lib.hid (PlanSz.of hs)
 obtain⟨hc1,hc2⟩:=sectorB_channel hx
 have hv:∀ j,j<p.bands.length→bandB (gBand p.bands j)=true:=fun j hj=>planB_bands hp hj
 obtain⟨t1_,tw_,th_,tm1_,tm2_⟩:=planB_terr hp
 have HPP:=Lib.hid hP
 have r7:=H.out.r7
 obtain⟨a7,k7,e7,_,_,hcl7⟩:=DAntenna.rd r7
 subst e7
 obtain⟨b7,o7,e7,hb7,hat7⟩:=hcl7 (Nat.lt_of_le_of_lt (Nat.zero_le _) hP.la)
 subst e7
 obtain⟨n0,n1,⟨u2,n2,m2⟩,⟨u3,n3,m3⟩⟩:=hat7 ka hP.la
 rw[gAntenna_eq hP.la] at n0 n1 m2 m3
 obtain⟨an2,cn2,en2,_,_,_⟩:=Rd.ints m2
 subst en2
 obtain⟨an3,cn3,en3,_,_,_⟩:=Rd.ints m3
 subst en3
 have r8:=H.out.r8
 obtain⟨a8,k8,e8,_,_,hcl8⟩:=DRadio.rd r8
 subst e8
 obtain⟨b8,o8,e8,hb8,hat8⟩:=hcl8 (Nat.lt_of_le_of_lt (Nat.zero_le _) hP.lr)
 subst e8
 obtain⟨q0,q1,q2,q3,q4,⟨u5,q5,m5⟩⟩:=hat8 kr hP.lr
 rw[gRadio_eq hP.lr] at m5
 obtain⟨am,cm,em,_,_,_⟩:=DMode.rd m5
 subst em
 have HQ5:=Lib.hid q5
 clear hat7 hat8 hcl7 hcl8 m2 m3 m5 q0 q1 q2 q3 q4 q5 r7 r8 hP
 obtain⟨W0,hW0,b0,z0,k0,k1⟩:=boxes2 w #[.int .i64 p.terrain.step,.int .i64 p.terrain.width,.int .i64 p.terrain.height,v3,v4,v5,v6,.slice (some ⟨b7,o7,none⟩) p.network.antennas.length k7,.slice (some ⟨b8,o8,none⟩) p.network.radios.length k8,v9,v10,v11,v12,.int .i64 p.day] 53 #[.string x.name,.string x.site,.string x.antenna,.string x.radio,.string x.band,.int .i64 x.azimuth,.int .i64 x.tilt,.int .i64 x.above,.int .i64 x.channel] 128
 have HW0:=Lib.hid hW0
 clear hW0
 have B0:=Lib.hid b0
 clear b0
 have K0:=Lib.hid k0
 clear k0
 have K1:=Lib.hid k1
 clear k1
 have HD:Hid (∀ W:World,Below W0.heap.size W0 W→(W.cell? ⟨w.heap.size,0,none⟩=some (.int .i64 p.terrain.step)∧W.cell? ⟨w.heap.size,1,none⟩=some (.int .i64 p.terrain.width)∧W.cell? ⟨w.heap.size,2,none⟩=some (.int .i64 p.terrain.height)∧W.cell? ⟨w.heap.size,3,none⟩=some (v3)∧W.cell? ⟨w.heap.size,4,none⟩=some (v4)∧W.cell? ⟨w.heap.size,5,none⟩=some (v5)∧W.cell? ⟨w.heap.size,6,none⟩=some (v6)∧W.cell? ⟨w.heap.size,7,none⟩=some (.slice (some ⟨b7,o7,none⟩) p.network.antennas.length k7)∧W.cell? ⟨w.heap.size,8,none⟩=some (.slice (some ⟨b8,o8,none⟩) p.network.radios.length k8)∧W.cell? ⟨w.heap.size,9,none⟩=some (v9)∧W.cell? ⟨w.heap.size,10,none⟩=some (v10)∧W.cell? ⟨w.heap.size,11,none⟩=some (v11)∧W.cell? ⟨w.heap.size,12,none⟩=some (v12)∧W.cell? ⟨w.heap.size,13,none⟩=some (.int .i64 p.day)∧W.cell? ⟨w.heap.size+1,0,none⟩=some (.string x.name)∧W.cell? ⟨w.heap.size+1,1,none⟩=some (.string x.site)∧W.cell? ⟨w.heap.size+1,2,none⟩=some (.string x.antenna)∧W.cell? ⟨w.heap.size+1,3,none⟩=some (.string x.radio)∧W.cell? ⟨w.heap.size+1,4,none⟩=some (.string x.band)∧W.cell? ⟨w.heap.size+1,5,none⟩=some (.int .i64 x.azimuth)∧W.cell? ⟨w.heap.size+1,6,none⟩=some (.int .i64 x.tilt)∧W.cell? ⟨w.heap.size+1,7,none⟩=some (.int .i64 x.above)∧W.cell? ⟨w.heap.size+1,8,none⟩=some (.int .i64 x.channel))):=fun W hW=>⟨bkC (bkB K0.out hW (by omega)) 0 rfl,bkC (bkB K0.out hW (by omega)) 1 rfl,bkC (bkB K0.out hW (by omega)) 2 rfl,bkC (bkB K0.out hW (by omega)) 3 rfl,bkC (bkB K0.out hW (by omega)) 4 rfl,bkC (bkB K0.out hW (by omega)) 5 rfl,bkC (bkB K0.out hW (by omega)) 6 rfl,bkC (bkB K0.out hW (by omega)) 7 rfl,bkC (bkB K0.out hW (by omega)) 8 rfl,bkC (bkB K0.out hW (by omega)) 9 rfl,bkC (bkB K0.out hW (by omega)) 10 rfl,bkC (bkB K0.out hW (by omega)) 11 rfl,bkC (bkB K0.out hW (by omega)) 12 rfl,bkC (bkB K0.out hW (by omega)) 13 rfl,bkC (bkB K1.out hW (by omega)) 0 rfl,bkC (bkB K1.out hW (by omega)) 1 rfl,bkC (bkB K1.out hW (by omega)) 2 rfl,bkC (bkB K1.out hW (by omega)) 3 rfl,bkC (bkB K1.out hW (by omega)) 4 rfl,bkC (bkB K1.out hW (by omega)) 5 rfl,bkC (bkB K1.out hW (by omega)) 6 rfl,bkC (bkB K1.out hW (by omega)) 7 rfl,bkC (bkB K1.out hW (by omega)) 8 rfl⟩
 have HB:Hid (Below W0.heap.size W0 W0):=Below.refl _ _
 have HH:Hid (∀ W:World,Below W0.heap.size W0 W→Below w.heap.size w W):=fun W hW=>B0.out.trans (hW.mono (by omega))
 have HNM:=Lib.hid (siteN_name hr)
 have CS:Hid (∀ W:World,Below W0.heap.size W0 W→Calls Tryz.prog 136 #[.agg #[.int .i64 p.terrain.step,.int .i64 p.terrain.width,.int .i64 p.terrain.height,v3,v4,v5,v6,.slice (some ⟨b7,o7,none⟩) p.network.antennas.length k7,.slice (some ⟨b8,o8,none⟩) p.network.radios.length k8,v9,v10,v11,v12,.int .i64 p.day],.agg #[.string x.name,.string x.site,.string x.antenna,.string x.radio,.string x.band,.int .i64 x.azimuth,.int .i64 x.tilt,.int .i64 x.above,.int .i64 x.channel]] W fun e w'=>e=.returned (.agg #[.string (siteN p x).name,.string (siteN p x).holder,.int .i64 (siteN p x).place.x,.int .i64 (siteN p x).place.y])∧Below W.heap.size W w'):=fun W hW=>siteOf_any p x v3 v4 v5 v6 _ _ v9 v10 v11 v12 W ((H.out.r5.below (HH.out W hW)).mono (HH.out W hW).size) Z.out.sites hr
 have CH:Hid (∀ W:World,Calls Tryz.prog 137 #[.agg #[.int .i64 p.terrain.step,.int .i64 p.terrain.width,.int .i64 p.terrain.height,v3,v4],.agg #[.int .i64 (siteN p x).place.x,.int .i64 (siteN p x).place.y]] W fun e w'=>e=.returned (.bool (inTerr p.terrain (siteN p x).place))∧Below W.heap.size W w'):=fun W=>has_any p.terrain (siteN p x).place v3 v4 tw_ th_ tm1_ tm2_ W
 have hrv:(rngV p x).2.2=hasB p x:=by
  unfold rngV
  by_cases hh:hasB p x=true
  ·rw[if_pos hh,hh]
  ·rw[if_neg hh];exact (Bool.eq_false_iff.2 hh).symm
 have CR:Hid (∀ W:World,Below W0.heap.size W0 W→Calls Tryz.prog 138 #[.agg #[.int .i64 p.terrain.step,.int .i64 p.terrain.width,.int .i64 p.terrain.height,v3,v4,v5,v6,.slice (some ⟨b7,o7,none⟩) p.network.antennas.length k7,.slice (some ⟨b8,o8,none⟩) p.network.radios.length k8,v9,v10,v11,v12,.int .i64 p.day],.agg #[.string x.name,.string x.site,.string x.antenna,.string x.radio,.string x.band,.int .i64 x.azimuth,.int .i64 x.tilt,.int .i64 x.above,.int .i64 x.channel]] W fun e w'=>e=.returned (.tuple #[.int .i64 (rngV p x).1,.int .i64 (rngV p x).2.1,.bool (rngV p x).2.2])∧Below W.heap.size W w'):=fun W hW=>rangeOf_any p x v3 v4 v5 v6 _ _ v9 v10 v11 v12 W ((H.out.r9.below (HH.out W hW)).mono (HH.out W hW).size) Z.out.bands hv hk.bands hc1 hc2
 rw[hrv] at CR
 clear hrv
 have CL:Hid (∀ W:World,Below W0.heap.size W0 W→Calls Tryz.prog 139 #[.agg #[.int .i64 p.terrain.step,.int .i64 p.terrain.width,.int .i64 p.terrain.height,v3,v4,v5,v6,.slice (some ⟨b7,o7,none⟩) p.network.antennas.length k7,.slice (some ⟨b8,o8,none⟩) p.network.radios.length k8,v9,v10,v11,v12,.int .i64 p.day],.agg #[.string x.name,.string x.site,.string x.antenna,.string x.radio,.string x.band,.int .i64 x.azimuth,.int .i64 x.tilt,.int .i64 x.above,.int .i64 x.channel]] W fun e w'=>∃ (L:DLicence) (ok:Bool),e=.returned (.tuple #[.agg #[.string L.id,.string L.holder,.int .i64 L.low,.int .i64 L.high,.int .i64 L.area.west,.int .i64 L.area.south,.int .i64 L.area.east,.int .i64 L.area.north,.int .i64 L.from_,.int .i64 L.until_,.int .i64 L.power],.bool ok])∧((0≤licIdx p x∧L=licN p x∧ok=true)∨(licIdx p x = -1∧ok=false))∧Below W.heap.size W w'):=fun W hW=>(licenceOf_any p x v3 v4 v5 v6 _ _ v9 v10 v11 v12 W ((H.out.below (HH.out W hW)).mono (HH.out W hW).size) hs hk hp hx hr).mono fun e w' h=>by
  obtain⟨hh,hb⟩:=h
  rcases hh with ⟨a1,a2,rfl⟩|⟨a1,rfl⟩
  ·exact⟨_,_,rfl,Or.inl ⟨a1,rfl,rfl⟩,hb⟩
  ·exact⟨zeroL,_,rfl,Or.inr ⟨a1,rfl⟩,hb⟩
 have CRD:Hid (∀ W:World,Below W0.heap.size W0 W→Calls Tryz.prog 140 #[.agg #[v5,v6,.slice (some ⟨b7,o7,none⟩) p.network.antennas.length k7,.slice (some ⟨b8,o8,none⟩) p.network.radios.length k8],.agg #[.string x.name,.string x.site,.string x.antenna,.string x.radio,.string x.band,.int .i64 x.azimuth,.int .i64 x.tilt,.int .i64 x.above,.int .i64 x.channel]] W fun e w'=>e=.returned (.agg #[.string (gRadio p.network.radios kr).name,.int .i64 (gRadio p.network.radios kr).power,.int .i64 (gRadio p.network.radios kr).feeder,.int .i64 (gRadio p.network.radios kr).noise,.int .i64 (gRadio p.network.radios kr).width,.slice am (gRadio p.network.radios kr).modes.length cm])∧Below W.heap.size W w'):=fun W hW=>iRadio_any p.network x _ _ _ _ W ((H.out.r8.below (HH.out W hW)).mono (HH.out W hW).size) Z.out.radios kr HPP.out.lr HPP.out.ir b8 o8 k8 cm am rfl (Nat.lt_of_lt_of_le hb8 (HH.out W hW).size) ((bat (HH.out W hW) b8 _ hb8).trans HQ5.out)
 have CAN:Hid (∀ W:World,Below W0.heap.size W0 W→Calls Tryz.prog 141 #[.agg #[v5,v6,.slice (some ⟨b7,o7,none⟩) p.network.antennas.length k7,.slice (some ⟨b8,o8,none⟩) p.network.radios.length k8],.string x.antenna] W fun e w'=>e=.returned (.int .i64 (ka:Int))∧Below W.heap.size W w'):=fun W hW=>by
  have:=antennaNamed_any p.network.antennas x.antenna v5 v6 (.slice (some ⟨b7,o7,none⟩) p.network.antennas.length k7) (.slice (some ⟨b8,o8,none⟩) p.network.radios.length k8) w.heap.size W (H.out.r7.below (HH.out W hW)) (HH.out W hW).size Z.out.antennas
  rw[HPP.out.ia] at this
  exact this
 obtain⟨rp,rf⟩:=radio_bd HPP.out.rok
 have ag:=ant_gain HPP.out.ok
 have hradN:radN p x=gRadio p.network.radios kr:=by unfold radN;rw[HPP.out.ir,Int.toNat_natCast]
 have hantN:antN p x=gAntenna p.network.antennas ka:=by unfold antN;rw[HPP.out.ia,Int.toNat_natCast]
 have hpw:powB p x=decide ((licN p x).power<(gRadio p.network.radios kr).power-(gRadio p.network.radios kr).feeder+(gAntenna p.network.antennas ka).gain):=by unfold powB;rw[hradN,hantN]
 clear hradN hantN
 have HPW:=Lib.hid hpw
 clear hpw
 have la1:(0:Int)≤(ka:Int):=by omega
 have la2:(ka:Int)<(p.network.antennas.length:Int):=by have:=HPP.out.la;omega
 have HA7:Hid (∀ W:World,Below W0.heap.size W0 W→(W.cell? ⟨b7,o7+ka*4,none⟩=some (.string (gAntenna p.network.antennas ka).name)∧W.cell? ⟨b7,o7+ka*4+1,none⟩=some (.int .i64 (gAntenna p.network.antennas ka).gain)∧W.cell? ⟨b7,o7+ka*4+2,none⟩=some (.slice an2 (gAntenna p.network.antennas ka).horizontal.length cn2)∧W.cell? ⟨b7,o7+ka*4+3,none⟩=some (.slice an3 (gAntenna p.network.antennas ka).vertical.length cn3))):=fun W hW=>⟨(bat (HH.out W hW) b7 _ hb7).trans n0,(bat (HH.out W hW) b7 _ hb7).trans n1,(bat (HH.out W hW) b7 _ hb7).trans n2,(bat (HH.out W hW) b7 _ hb7).trans n3⟩
 clear n0 n1 n2 n3
 have HPF:Hid (placeF p x=if inTerr p.terrain (siteN p x).place=true then [] else [⟨1,x.name,x.site⟩]):=rfl
 have HRF:Hid (restF p x=if x.channel<0 then [⟨2,x.name,⟨#[]⟩⟩] else if hasB p x=true then (if 0≤licIdx p x then (if powB p x=true then [⟨5,x.name,(licN p x).id⟩] else []) else [⟨4,x.name,(siteN p x).holder⟩]) else [⟨3,x.name,x.band⟩]):=rfl
 have HOF:Hid (ownF p x=placeF p x++restF p x):=rfl
 have hpl:=placeF_len p x
 clear hx hr hp hv tw_ th_ tm1_ tm2_ t1_ HPP HQ5
 generalize placeF p x=pf at *
 generalize restF p x=rt at *
 generalize ownF p x=of at *
 generalize powB p x=pw at *
 generalize licN p x=lN at *
 generalize licIdx p x=li at *
 generalize siteN p x=y at *
 generalize inTerr p.terrain y.place=ter at *
 generalize hasB p x=hasb at *
 generalize (rngV p x).1=lo at *
 generalize (rngV p x).2.1=hi at *
 generalize gRadio p.network.radios kr=R at *
 generalize gAntenna p.network.antennas ka=A at *
 obtain⟨i0,hi0,hz0,hz1,hz2⟩:=info_parts infoF
 go_enter Tryz.func71,Tryz.ntmps71
 go_upto_region 1 with (fail)
 rw[HW0.out]
 obtain⟨t0,t1,t2,t3,t4,t5,t6,t7,t8,t9,t10,t11,t12,t13,t14,t15,t16,t17,t18,t19,t20,t21,t22⟩:=HD.out _ HB.out
 go_upto_region 3 with (go_at_call 136;with_reducible refine (CS.out _ HB.out).mono ?_;rintro e w2 ⟨rfl,hb2⟩;(try clear t0 t1 t2 t3 t4 t5 t6 t7 t8 t9 t10 t11 t12 t13 t14 t15 t16 t17 t18 t19 t20 t21 t22);replace HB:=Lib.hid (HB.out.trans (hb2.mono HB.out.size));clear hb2;obtain⟨t0,t1,t2,t3,t4,t5,t6,t7,t8,t9,t10,t11,t12,t13,t14,t15,t16,t17,t18,t19,t20,t21,t22⟩:=HD.out _ HB.out)
 have HX:=Lib.hid (HB.out.alloc HB.out.size (.cells #[.string y.name,.string y.holder,.int .i64 y.place.x,.int .i64 y.place.y] 132))
 have KS:=Lib.hid (bkN w2 #[.string y.name,.string y.holder,.int .i64 y.place.x,.int .i64 y.place.y] 132)
 have zKS:w2.heap.size<(w2.alloc (.cells #[.string y.name,.string y.holder,.int .i64 y.place.x,.int .i64 y.place.y] 132)).heap.size:=by simp
 have bKS:=below_alloc w2 (.cells #[.string y.name,.string y.holder,.int .i64 y.place.x,.int .i64 y.place.y] 132)
 generalize (w2.alloc (.cells #[.string y.name,.string y.holder,.int .i64 y.place.x,.int .i64 y.place.y] 132))=w3 at *
 clear t0 t1 t2 t3 t4 t5 t6 t7 t8 t9 t10 t11 t12 t13 t14 t15 t16 t17 t18 t19 t20 t21 t22
 replace HB:=Lib.hid HX.out
 clear HX
 obtain⟨t0,t1,t2,t3,t4,t5,t6,t7,t8,t9,t10,t11,t12,t13,t14,t15,t16,t17,t18,t19,t20,t21,t22⟩:=HD.out _ HB.out
 clear bKS
 have y0:=bkC (v:=.string y.name) KS.out 0 rfl
 have y2:=bkC (v:=.int .i64 y.place.x) KS.out 2 rfl
 have y3:=bkC (v:=.int .i64 y.place.y) KS.out 3 rfl
 go_cut [22] (fun s22 W=>s22=.bool (!ter)∧Below w3.heap.size w3 W)
 case first =>
  go_wp2_with fail
  refine (CH.out _).mono ?_
  rintro e w4 ⟨rfl,hb4⟩
  go_wp2_with fail
  go_meet
  exact⟨rfl,hb4⟩
 obtain⟨rfl,hb2⟩:=hcut
 generalize wc=w4 at *
 have KS4:=Lib.hid (bkB KS.out hb2 zKS)
 have z34:=hb2.size
 clear y0 y2 y3 KS
 (try clear t0 t1 t2 t3 t4 t5 t6 t7 t8 t9 t10 t11 t12 t13 t14 t15 t16 t17 t18 t19 t20 t21 t22)
 replace HB:=Lib.hid (HB.out.trans (hb2.mono HB.out.size))
 clear hb2
 obtain⟨t0,t1,t2,t3,t4,t5,t6,t7,t8,t9,t10,t11,t12,t13,t14,t15,t16,t17,t18,t19,t20,t21,t22⟩:=HD.out _ HB.out
 have y0:=bkC (v:=.string y.name) KS4.out 0 rfl
 go_upto_if 22 with (fail)
 go_cut [5] (fun s5 W=>∃ base,W0.heap.size≤base∧base≤W.heap.size∧Below w4.heap.size w4 W∧Grow W base 114 3 s5 pf.length (pf.flatMap DFault.tr) [])
 case first =>
  cases ter
  case true =>
   have HPE:Hid (pf = []):=by show _=_;rw[HPF.out];rfl
   go_wp2_with fail
   go_meet
   exact⟨w4.heap.size,HB.out.size,Nat.le_refl _,Below.refl _ _,by rw[HPE.out];exact Grow.nil⟩
  case false =>
   have HPE:Hid (pf = [⟨1,x.name,x.site⟩]):=by show _=_;rw[HPF.out];rfl
   have HN0:Hid (∀ (e:Value),e=.string y.name→e=.string x.site):=fun e h=>by rw[h,HNM.out]
   rw[HNM.out] at y0
   go_wp2_with (at_builtin;refine wpList_append1 rfl (.tmp 23) (.tmp 29) _ rfl w4.heap.size 114 i0 _ 3 40 Tryz.underlying60 hi0 hz0 hz1 hz2 rfl (by omega) (.slice none 0 0) 0 [] [] rfl Grow.nil [.int .i64 1,.string x.name,.string x.site] (DFault.tr ⟨1,x.name,x.site⟩) [] rfl 1 rfl (fun u hu=>by simp at hu;rcases hu with rfl|rfl|rfl<;>rfl) (RepV_lits _ [.int .i64 1,.string x.name,.string x.site]) List.nodup_nil (fun b h=>by simp at h) 0 In.nil In.nil (by simp) (by simp[Value.ownBlock]) (by unfold maxLen;omega) (by omega) (Nat.le_refl _) ?_;intro v2 w5 hgn)
   have HGN:=Lib.hid hgn
   clear hgn
   go_wp2_with fail
   go_meet
   exact⟨w4.heap.size,HB.out.size,by have:=HGN.out.size;omega,HGN.out.below,by rw[HPE.out];exact HGN.out.grow⟩
 obtain⟨base,hba0,hba1,hb2,hgr⟩:=hcut
 have HG:=Lib.hid hgr
 have KS5:=Lib.hid (bkB KS4.out hb2 (by omega))
 have z45:=hb2.size
 clear hgr y0 KS4
 generalize wc=w5 at *
 (try clear t0 t1 t2 t3 t4 t5 t6 t7 t8 t9 t10 t11 t12 t13 t14 t15 t16 t17 t18 t19 t20 t21 t22)
 replace HB:=Lib.hid (HB.out.trans (hb2.mono HB.out.size))
 clear hb2
 obtain⟨t0,t1,t2,t3,t4,t5,t6,t7,t8,t9,t10,t11,t12,t13,t14,t15,t16,t17,t18,t19,t20,t21,t22⟩:=HD.out _ HB.out
 have HV:Hid (Below w5.heap.size w5 w5):=Below.refl _ _
 go_upto_region 7 with (first|(go_at_call 138;with_reducible refine (CR.out _ HB.out).mono ?_;rintro e w2 ⟨rfl,hb2⟩;replace HV:=Lib.hid (HV.out.trans (hb2.mono HV.out.size));(try clear t0 t1 t2 t3 t4 t5 t6 t7 t8 t9 t10 t11 t12 t13 t14 t15 t16 t17 t18 t19 t20 t21 t22);replace HB:=Lib.hid (HB.out.trans (hb2.mono HB.out.size));clear hb2;obtain⟨t0,t1,t2,t3,t4,t5,t6,t7,t8,t9,t10,t11,t12,t13,t14,t15,t16,t17,t18,t19,t20,t21,t22⟩:=HD.out _ HB.out)|(go_at_call 139;with_reducible refine (CL.out _ HB.out).mono ?_;rintro e w2 ⟨L,ok,rfl,hlr,hb2⟩;have HLR:=Lib.hid hlr;clear hlr;replace HV:=Lib.hid (HV.out.trans (hb2.mono HV.out.size));(try clear t0 t1 t2 t3 t4 t5 t6 t7 t8 t9 t10 t11 t12 t13 t14 t15 t16 t17 t18 t19 t20 t21 t22);replace HB:=Lib.hid (HB.out.trans (hb2.mono HB.out.size));clear hb2;obtain⟨t0,t1,t2,t3,t4,t5,t6,t7,t8,t9,t10,t11,t12,t13,t14,t15,t16,t17,t18,t19,t20,t21,t22⟩:=HD.out _ HB.out))
 have HX:=Lib.hid (HB.out.alloc HB.out.size (.cells #[.string L.id,.string L.holder,.int .i64 L.low,.int .i64 L.high,.int .i64 L.area.west,.int .i64 L.area.south,.int .i64 L.area.east,.int .i64 L.area.north,.int .i64 L.from_,.int .i64 L.until_,.int .i64 L.power] 90))
 have KL:=Lib.hid (bkN w2 #[.string L.id,.string L.holder,.int .i64 L.low,.int .i64 L.high,.int .i64 L.area.west,.int .i64 L.area.south,.int .i64 L.area.east,.int .i64 L.area.north,.int .i64 L.from_,.int .i64 L.until_,.int .i64 L.power] 90)
 have zKL:w2.heap.size<(w2.alloc (.cells #[.string L.id,.string L.holder,.int .i64 L.low,.int .i64 L.high,.int .i64 L.area.west,.int .i64 L.area.south,.int .i64 L.area.east,.int .i64 L.area.north,.int .i64 L.from_,.int .i64 L.until_,.int .i64 L.power] 90)).heap.size:=by simp
 have bKL:=below_alloc w2 (.cells #[.string L.id,.string L.holder,.int .i64 L.low,.int .i64 L.high,.int .i64 L.area.west,.int .i64 L.area.south,.int .i64 L.area.east,.int .i64 L.area.north,.int .i64 L.from_,.int .i64 L.until_,.int .i64 L.power] 90)
 generalize (w2.alloc (.cells #[.string L.id,.string L.holder,.int .i64 L.low,.int .i64 L.high,.int .i64 L.area.west,.int .i64 L.area.south,.int .i64 L.area.east,.int .i64 L.area.north,.int .i64 L.from_,.int .i64 L.until_,.int .i64 L.power] 90))=w6 at *
 clear t0 t1 t2 t3 t4 t5 t6 t7 t8 t9 t10 t11 t12 t13 t14 t15 t16 t17 t18 t19 t20 t21 t22
 replace HB:=Lib.hid HX.out
 clear HX
 obtain⟨t0,t1,t2,t3,t4,t5,t6,t7,t8,t9,t10,t11,t12,t13,t14,t15,t16,t17,t18,t19,t20,t21,t22⟩:=HD.out _ HB.out
 replace HV:=Lib.hid (HV.out.trans (bKL.mono HV.out.size))
 clear bKL
 clear t0 t1 t2 t3 t4 t5 t6 t7 t8 t9 t10 t11 t12 t13 t14 t15 t16 t17 t18 t19 t20 t21 t22
 have HKB:Hid (∀ W:World,Below w6.heap.size w6 W→((W.cell? ⟨w.heap.size,0,none⟩=some (.int .i64 p.terrain.step)∧W.cell? ⟨w.heap.size,1,none⟩=some (.int .i64 p.terrain.width)∧W.cell? ⟨w.heap.size,2,none⟩=some (.int .i64 p.terrain.height)∧W.cell? ⟨w.heap.size,3,none⟩=some (v3)∧W.cell? ⟨w.heap.size,4,none⟩=some (v4)∧W.cell? ⟨w.heap.size,5,none⟩=some (v5)∧W.cell? ⟨w.heap.size,6,none⟩=some (v6)∧W.cell? ⟨w.heap.size,7,none⟩=some (.slice (some ⟨b7,o7,none⟩) p.network.antennas.length k7)∧W.cell? ⟨w.heap.size,8,none⟩=some (.slice (some ⟨b8,o8,none⟩) p.network.radios.length k8)∧W.cell? ⟨w.heap.size,9,none⟩=some (v9)∧W.cell? ⟨w.heap.size,10,none⟩=some (v10)∧W.cell? ⟨w.heap.size,11,none⟩=some (v11)∧W.cell? ⟨w.heap.size,12,none⟩=some (v12)∧W.cell? ⟨w.heap.size,13,none⟩=some (.int .i64 p.day))∧(W.cell? ⟨w.heap.size+1,0,none⟩=some (.string x.name)∧W.cell? ⟨w.heap.size+1,1,none⟩=some (.string x.site)∧W.cell? ⟨w.heap.size+1,2,none⟩=some (.string x.antenna)∧W.cell? ⟨w.heap.size+1,3,none⟩=some (.string x.radio)∧W.cell? ⟨w.heap.size+1,4,none⟩=some (.string x.band)∧W.cell? ⟨w.heap.size+1,5,none⟩=some (.int .i64 x.azimuth)∧W.cell? ⟨w.heap.size+1,6,none⟩=some (.int .i64 x.tilt)∧W.cell? ⟨w.heap.size+1,7,none⟩=some (.int .i64 x.above)∧W.cell? ⟨w.heap.size+1,8,none⟩=some (.int .i64 x.channel))∧(W.cell? ⟨b7,o7+ka*4,none⟩=some (.string A.name)∧W.cell? ⟨b7,o7+ka*4+1,none⟩=some (.int .i64 A.gain)∧W.cell? ⟨b7,o7+ka*4+2,none⟩=some (.slice an2 A.horizontal.length cn2)∧W.cell? ⟨b7,o7+ka*4+3,none⟩=some (.slice an3 A.vertical.length cn3)))):=fun W hW=>by
  have hW2:=HB.out.trans (hW.mono HB.out.size)
  obtain⟨t0,t1,t2,t3,t4,t5,t6,t7,t8,t9,t10,t11,t12,t13,t14,t15,t16,t17,t18,t19,t20,t21,t22⟩:=HD.out W hW2
  exact⟨⟨t0,t1,t2,t3,t4,t5,t6,t7,t8,t9,t10,t11,t12,t13⟩,⟨t14,t15,t16,t17,t18,t19,t20,t21,t22⟩,HA7.out W hW2⟩
 have zz:=HB.out.size
 have BBd:Hid (Below w6.heap.size w6 w6.drew):=below_drew1 w6
 go_cut [12,13] (fun s12 s13 wx=>∃ (h12 h13:Nat),s12=.pointer (some ⟨h12,0,none⟩)∧s13=.pointer (some ⟨h13,0,none⟩)∧wx.heap[h12]? = some (.cells #[.string R.name,.int .i64 R.power,.int .i64 R.feeder,.int .i64 R.noise,.int .i64 R.width,.slice am R.modes.length cm] 139 (0,0))∧wx.heap[h13]? = some (.cells #[.string A.name,.int .i64 A.gain,.slice an2 A.horizontal.length cn2,.slice an3 A.vertical.length cn3] 135 (0,0))∧h12<wx.heap.size∧h13<wx.heap.size∧Below w6.heap.size w6 wx)
 case first =>
  refine wp_region_tree 18 (.read 0 (.read 1 (.read 2 (.read 4 (.read 5 (.read 6 (.read 7 (.read 8 (.read 9 (.read 10 (.three 3 14 15 (.three 11 14 15 (.read 12 (.read 13 (.two 14 15 (.one 15 (.one 16 (.one 17 .nil))) (.one 14 (.one 16 (.one 17 .nil)))))) (.two 11 15 (.read 12 (.read 13 (.one 15 (.one 16 (.one 17 .nil))))) (.one 11 (.read 12 (.read 13 (.one 16 (.one 17 .nil)))))) (.two 11 14 (.read 12 (.read 13 (.one 14 (.one 16 (.one 17 .nil))))) (.one 11 (.read 12 (.read 13 (.one 16 (.one 17 .nil))))))) (.two 3 15 (.two 11 15 (.read 12 (.read 13 (.one 15 (.one 16 (.one 17 .nil))))) (.one 11 (.read 12 (.read 13 (.one 16 (.one 17 .nil)))))) (.one 3 (.one 11 (.read 12 (.read 13 (.one 16 (.one 17 .nil))))))) (.two 3 14 (.two 11 14 (.read 12 (.read 13 (.one 14 (.one 16 (.one 17 .nil))))) (.one 11 (.read 12 (.read 13 (.one 16 (.one 17 .nil)))))) (.one 3 (.one 11 (.read 12 (.read 13 (.one 16 (.one 17 .nil)))))))))))))))))) (fun W=>((W.cell? ⟨w.heap.size,0,none⟩=some (.int .i64 p.terrain.step)∧W.cell? ⟨w.heap.size,1,none⟩=some (.int .i64 p.terrain.width)∧W.cell? ⟨w.heap.size,2,none⟩=some (.int .i64 p.terrain.height)∧W.cell? ⟨w.heap.size,3,none⟩=some (v3)∧W.cell? ⟨w.heap.size,4,none⟩=some (v4)∧W.cell? ⟨w.heap.size,5,none⟩=some (v5)∧W.cell? ⟨w.heap.size,6,none⟩=some (v6)∧W.cell? ⟨w.heap.size,7,none⟩=some (.slice (some ⟨b7,o7,none⟩) p.network.antennas.length k7)∧W.cell? ⟨w.heap.size,8,none⟩=some (.slice (some ⟨b8,o8,none⟩) p.network.radios.length k8)∧W.cell? ⟨w.heap.size,9,none⟩=some (v9)∧W.cell? ⟨w.heap.size,10,none⟩=some (v10)∧W.cell? ⟨w.heap.size,11,none⟩=some (v11)∧W.cell? ⟨w.heap.size,12,none⟩=some (v12)∧W.cell? ⟨w.heap.size,13,none⟩=some (.int .i64 p.day))∧(W.cell? ⟨w.heap.size+1,0,none⟩=some (.string x.name)∧W.cell? ⟨w.heap.size+1,1,none⟩=some (.string x.site)∧W.cell? ⟨w.heap.size+1,2,none⟩=some (.string x.antenna)∧W.cell? ⟨w.heap.size+1,3,none⟩=some (.string x.radio)∧W.cell? ⟨w.heap.size+1,4,none⟩=some (.string x.band)∧W.cell? ⟨w.heap.size+1,5,none⟩=some (.int .i64 x.azimuth)∧W.cell? ⟨w.heap.size+1,6,none⟩=some (.int .i64 x.tilt)∧W.cell? ⟨w.heap.size+1,7,none⟩=some (.int .i64 x.above)∧W.cell? ⟨w.heap.size+1,8,none⟩=some (.int .i64 x.channel))∧(W.cell? ⟨b7,o7+ka*4,none⟩=some (.string A.name)∧W.cell? ⟨b7,o7+ka*4+1,none⟩=some (.int .i64 A.gain)∧W.cell? ⟨b7,o7+ka*4+2,none⟩=some (.slice an2 A.horizontal.length cn2)∧W.cell? ⟨b7,o7+ka*4+3,none⟩=some (.slice an3 A.vertical.length cn3)))) (by kernel_rfl) (by kernel_rfl) (HKB.out _ BBd.out) ?_
  have zd:w6.heap.size≤w6.drew.heap.size:=Nat.le_refl _
  generalize w6.drew=Y at *
  refine wpTree_read (v:=?_) rfl (fun _ _ _ h=>h) ?_ ?_
  rotate_left
  ·(intro W hSW;(try dsimp only at hSW);(go_simp<;>with_reducible rfl))
  (try simp only[Act.put,List.setIfInBounds_toArray,List.set_cons_zero,List.set_cons_succ])
  refine wpTree_read (v:=?_) rfl (fun _ _ _ h=>h) ?_ ?_
  rotate_left
  ·(intro W hSW;(try dsimp only at hSW);(go_simp<;>with_reducible rfl))
  (try simp only[Act.put,List.setIfInBounds_toArray,List.set_cons_zero,List.set_cons_succ])
  refine wpTree_read (v:=?_) rfl (fun _ _ _ h=>h) ?_ ?_
  rotate_left
  ·(intro W hSW;(try dsimp only at hSW);(go_simp<;>with_reducible rfl))
  (try simp only[Act.put,List.setIfInBounds_toArray,List.set_cons_zero,List.set_cons_succ])
  refine wpTree_read (v:=?_) rfl (fun _ _ _ h=>h) ?_ ?_
  rotate_left
  ·(intro W hSW;(try dsimp only at hSW);(go_simp<;>with_reducible rfl))
  (try simp only[Act.put,List.setIfInBounds_toArray,List.set_cons_zero,List.set_cons_succ])
  refine wpTree_read (v:=?_) rfl (fun _ _ _ h=>h) ?_ ?_
  rotate_left
  ·(intro W hSW;(try dsimp only at hSW);(go_simp<;>with_reducible rfl))
  (try simp only[Act.put,List.setIfInBounds_toArray,List.set_cons_zero,List.set_cons_succ])
  refine wpTree_read (v:=?_) rfl (fun _ _ _ h=>h) ?_ ?_
  rotate_left
  ·(intro W hSW;(try dsimp only at hSW);(go_simp<;>with_reducible rfl))
  (try simp only[Act.put,List.setIfInBounds_toArray,List.set_cons_zero,List.set_cons_succ])
  refine wpTree_read (v:=?_) rfl (fun _ _ _ h=>h) ?_ ?_
  rotate_left
  ·(intro W hSW;(try dsimp only at hSW);(go_simp<;>with_reducible rfl))
  (try simp only[Act.put,List.setIfInBounds_toArray,List.set_cons_zero,List.set_cons_succ])
  refine wpTree_read (v:=?_) rfl (fun _ _ _ h=>h) ?_ ?_
  rotate_left
  ·(intro W hSW;(try dsimp only at hSW);(go_simp<;>with_reducible rfl))
  (try simp only[Act.put,List.setIfInBounds_toArray,List.set_cons_zero,List.set_cons_succ])
  refine wpTree_read (v:=?_) rfl (fun _ _ _ h=>h) ?_ ?_
  rotate_left
  ·(intro W hSW;(try dsimp only at hSW);(go_simp<;>with_reducible rfl))
  (try simp only[Act.put,List.setIfInBounds_toArray,List.set_cons_zero,List.set_cons_succ])
  refine wpTree_read (v:=?_) rfl (fun _ _ _ h=>h) ?_ ?_
  rotate_left
  ·(intro W hSW;(try dsimp only at hSW);(go_simp<;>with_reducible rfl))
  (try simp only[Act.put,List.setIfInBounds_toArray,List.set_cons_zero,List.set_cons_succ])
  refine wpTree_three ?_ ?_ ?_
  ·refine stepT_mk rfl (fun K hK=>?_)
   go_simp
   refine (CRD.out _ (HB.out.trans (BBd.out.mono HB.out.size))).mono ?_
   rintro e Y1 ⟨rfl,hb1⟩
   refine hK.out _ _ (HKB.out _ (BBd.out.trans (hb1.mono (by omega)))) ?_
   clear hK K
   (try simp only[Act.put,List.setIfInBounds_toArray,List.set_cons_zero,List.set_cons_succ])
   have bs1:Y.heap.size≤Y1.heap.size:=hb1.size
   have BY1:=Lib.hid (BBd.out.trans (hb1.mono (by omega)))
   clear hb1
   refine wpTree_three ?_ ?_ ?_
   ·refine stepT_mk rfl (fun K hK=>?_)
    go_simp
    refine (CAN.out _ (HB.out.trans (BY1.out.mono HB.out.size))).mono ?_
    rintro e Y2 ⟨rfl,hb2⟩
    refine hK.out _ _ (HKB.out _ (BY1.out.trans (hb2.mono (by omega)))) ?_
    clear hK K
    (try simp only[Act.put,List.setIfInBounds_toArray,List.set_cons_zero,List.set_cons_succ])
    have bs2:Y1.heap.size≤Y2.heap.size:=hb2.size
    have BY2:=Lib.hid (BY1.out.trans (hb2.mono (by omega)))
    clear hb2
    refine wpTree_read (v:=?_) rfl (fun _ _ _ h=>h) ?_ ?_
    rotate_left
    ·(intro W hSW;(try dsimp only at hSW);(go_simp<;>with_reducible rfl))
    (try simp only[Act.put,List.setIfInBounds_toArray,List.set_cons_zero,List.set_cons_succ])
    refine wpTree_read (v:=?_) rfl (fun _ _ _ h=>h) ?_ ?_
    rotate_left
    ·(intro W hSW;(try dsimp only at hSW);(go_simp<;>with_reducible rfl))
    (try simp only[Act.put,List.setIfInBounds_toArray,List.set_cons_zero,List.set_cons_succ])
    refine wpTree_two ?_ ?_
    ·refine stepT_mk rfl (fun K hK=>?_)
     go_simp
     have hb3:Below Y2.heap.size Y2 (Y2.alloc (.cells #[.string ⟨#[]⟩,.int .i64 0,.int .i64 0,.int .i64 0,.int .i64 0,.slice none 0 0] 139)):=below_alloc _ _
     have kk3:=Lib.hid (bkN Y2 #[.string ⟨#[]⟩,.int .i64 0,.int .i64 0,.int .i64 0,.int .i64 0,.slice none 0 0] 139)
     have zl3:Y2.heap.size+1≤(Y2.alloc (.cells #[.string ⟨#[]⟩,.int .i64 0,.int .i64 0,.int .i64 0,.int .i64 0,.slice none 0 0] 139)).heap.size:=by simp
     refine hK.out _ _ (HKB.out _ (BY2.out.trans (hb3.mono (by omega)))) ?_
     clear hK K
     (try simp only[Act.put,List.setIfInBounds_toArray,List.set_cons_zero,List.set_cons_succ])
     generalize (Y2.alloc (.cells #[.string ⟨#[]⟩,.int .i64 0,.int .i64 0,.int .i64 0,.int .i64 0,.slice none 0 0] 139))=Y3 at *
     have bs3:Y2.heap.size≤Y3.heap.size:=hb3.size
     have BY3:=Lib.hid (BY2.out.trans (hb3.mono (by omega)))
     clear hb3
     refine wpTree_one ?_
     refine stepT_mk rfl (fun K hK=>?_)
     go_simp
     have hb4:Below Y3.heap.size Y3 (Y3.alloc (.cells #[.string ⟨#[]⟩,.int .i64 0,.slice none 0 0,.slice none 0 0] 135)):=below_alloc _ _
     have kk4:=Lib.hid (bkN Y3 #[.string ⟨#[]⟩,.int .i64 0,.slice none 0 0,.slice none 0 0] 135)
     have zl4:Y3.heap.size+1≤(Y3.alloc (.cells #[.string ⟨#[]⟩,.int .i64 0,.slice none 0 0,.slice none 0 0] 135)).heap.size:=by simp
     refine hK.out _ _ (HKB.out _ (BY3.out.trans (hb4.mono (by omega)))) ?_
     clear hK K
     (try simp only[Act.put,List.setIfInBounds_toArray,List.set_cons_zero,List.set_cons_succ])
     generalize (Y3.alloc (.cells #[.string ⟨#[]⟩,.int .i64 0,.slice none 0 0,.slice none 0 0] 135))=Y4 at *
     have bs4:Y3.heap.size≤Y4.heap.size:=hb4.size
     have BY4:=Lib.hid (BY3.out.trans (hb4.mono (by omega)))
     have kh4_14:=Lib.hid (bkB kk3.out hb4 (by omega))
     clear hb4
     refine wpTree_one ?_
     refine stepT_mk rfl (fun K hK=>?_)
     obtain⟨Y5,hW,kf,ho,hsz,hbl⟩:=store6 Y4 (Y2.heap.size) 139 _ _ _ _ _ _ (.string R.name) (.int .i64 R.power) (.int .i64 R.feeder) (.int .i64 R.noise) (.int .i64 R.width) (.slice am R.modes.length cm) kh4_14.out
     have kk5:=Lib.hid kf
     have BY5:=Lib.hid (hbl _ _ BY4.out (by omega))
     have kh5_15:=Lib.hid ((ho (Y3.heap.size) (by omega)).trans kk4.out)
     have g0:=bkC (v:=.string ⟨#[]⟩) kh4_14.out 0 rfl
     have g1:=bkC (v:=.int .i64 0) kh4_14.out 1 rfl
     have g2:=bkC (v:=.int .i64 0) kh4_14.out 2 rfl
     have g3:=bkC (v:=.int .i64 0) kh4_14.out 3 rfl
     have g4:=bkC (v:=.int .i64 0) kh4_14.out 4 rfl
     have g5:=bkC (v:=.slice none 0 0) kh4_14.out 5 rfl
     have fz:=bkF kh4_14.out
     clear kf ho hbl
     go_simp
     (try rw[hW])
     refine hK.out _ _ (HKB.out _ BY5.out) ?_
     clear hK K fz hW g0 g1 g2 g3 g4 g5
     (try simp only[Act.put,List.setIfInBounds_toArray,List.set_cons_zero,List.set_cons_succ])
     refine wpTree_one ?_
     refine stepT_mk rfl (fun K hK=>?_)
     obtain⟨Y6,hW,kf,ho,hsz,hbl⟩:=store4 Y5 (Y3.heap.size) 135 _ _ _ _ (.string A.name) (.int .i64 A.gain) (.slice an2 A.horizontal.length cn2) (.slice an3 A.vertical.length cn3) kh5_15.out
     have kk6:=Lib.hid kf
     have BY6:=Lib.hid (hbl _ _ BY5.out (by omega))
     have kh6_14:=Lib.hid ((ho (Y2.heap.size) (by omega)).trans kk5.out)
     have g0:=bkC (v:=.string ⟨#[]⟩) kh5_15.out 0 rfl
     have g1:=bkC (v:=.int .i64 0) kh5_15.out 1 rfl
     have g2:=bkC (v:=.slice none 0 0) kh5_15.out 2 rfl
     have g3:=bkC (v:=.slice none 0 0) kh5_15.out 3 rfl
     have fz:=bkF kh5_15.out
     clear kf ho hbl
     go_simp
     (try rw[hW])
     refine hK.out _ _ (HKB.out _ BY6.out) ?_
     clear hK K fz hW g0 g1 g2 g3
     (try simp only[Act.put,List.setIfInBounds_toArray,List.set_cons_zero,List.set_cons_succ])
     refine wpTree_nil ?_
     simp only[List.drop_succ_cons,List.drop_zero]
     go_wp2_with fail
     go_meet
     exact⟨_,_,rfl,rfl,kh6_14.out,kk6.out,by omega,by omega,BY6.out⟩
    ·refine stepT_mk rfl (fun K hK=>?_)
     go_simp
     have hb7:Below Y2.heap.size Y2 (Y2.alloc (.cells #[.string ⟨#[]⟩,.int .i64 0,.slice none 0 0,.slice none 0 0] 135)):=below_alloc _ _
     have kk7:=Lib.hid (bkN Y2 #[.string ⟨#[]⟩,.int .i64 0,.slice none 0 0,.slice none 0 0] 135)
     have zl7:Y2.heap.size+1≤(Y2.alloc (.cells #[.string ⟨#[]⟩,.int .i64 0,.slice none 0 0,.slice none 0 0] 135)).heap.size:=by simp
     refine hK.out _ _ (HKB.out _ (BY2.out.trans (hb7.mono (by omega)))) ?_
     clear hK K
     (try simp only[Act.put,List.setIfInBounds_toArray,List.set_cons_zero,List.set_cons_succ])
     generalize (Y2.alloc (.cells #[.string ⟨#[]⟩,.int .i64 0,.slice none 0 0,.slice none 0 0] 135))=Y7 at *
     have bs7:Y2.heap.size≤Y7.heap.size:=hb7.size
     have BY7:=Lib.hid (BY2.out.trans (hb7.mono (by omega)))
     clear hb7
     refine wpTree_one ?_
     refine stepT_mk rfl (fun K hK=>?_)
     go_simp
     have hb8:Below Y7.heap.size Y7 (Y7.alloc (.cells #[.string ⟨#[]⟩,.int .i64 0,.int .i64 0,.int .i64 0,.int .i64 0,.slice none 0 0] 139)):=below_alloc _ _
     have kk8:=Lib.hid (bkN Y7 #[.string ⟨#[]⟩,.int .i64 0,.int .i64 0,.int .i64 0,.int .i64 0,.slice none 0 0] 139)
     have zl8:Y7.heap.size+1≤(Y7.alloc (.cells #[.string ⟨#[]⟩,.int .i64 0,.int .i64 0,.int .i64 0,.int .i64 0,.slice none 0 0] 139)).heap.size:=by simp
     refine hK.out _ _ (HKB.out _ (BY7.out.trans (hb8.mono (by omega)))) ?_
     clear hK K
     (try simp only[Act.put,List.setIfInBounds_toArray,List.set_cons_zero,List.set_cons_succ])
     generalize (Y7.alloc (.cells #[.string ⟨#[]⟩,.int .i64 0,.int .i64 0,.int .i64 0,.int .i64 0,.slice none 0 0] 139))=Y8 at *
     have bs8:Y7.heap.size≤Y8.heap.size:=hb8.size
     have BY8:=Lib.hid (BY7.out.trans (hb8.mono (by omega)))
     have kh8_15:=Lib.hid (bkB kk7.out hb8 (by omega))
     clear hb8
     refine wpTree_one ?_
     refine stepT_mk rfl (fun K hK=>?_)
     obtain⟨Y9,hW,kf,ho,hsz,hbl⟩:=store6 Y8 (Y7.heap.size) 139 _ _ _ _ _ _ (.string R.name) (.int .i64 R.power) (.int .i64 R.feeder) (.int .i64 R.noise) (.int .i64 R.width) (.slice am R.modes.length cm) kk8.out
     have kk9:=Lib.hid kf
     have BY9:=Lib.hid (hbl _ _ BY8.out (by omega))
     have kh9_15:=Lib.hid ((ho (Y2.heap.size) (by omega)).trans kh8_15.out)
     have g0:=bkC (v:=.string ⟨#[]⟩) kk8.out 0 rfl
     have g1:=bkC (v:=.int .i64 0) kk8.out 1 rfl
     have g2:=bkC (v:=.int .i64 0) kk8.out 2 rfl
     have g3:=bkC (v:=.int .i64 0) kk8.out 3 rfl
     have g4:=bkC (v:=.int .i64 0) kk8.out 4 rfl
     have g5:=bkC (v:=.slice none 0 0) kk8.out 5 rfl
     have fz:=bkF kk8.out
     clear kf ho hbl
     go_simp
     (try rw[hW])
     refine hK.out _ _ (HKB.out _ BY9.out) ?_
     clear hK K fz hW g0 g1 g2 g3 g4 g5
     (try simp only[Act.put,List.setIfInBounds_toArray,List.set_cons_zero,List.set_cons_succ])
     refine wpTree_one ?_
     refine stepT_mk rfl (fun K hK=>?_)
     obtain⟨Y10,hW,kf,ho,hsz,hbl⟩:=store4 Y9 (Y2.heap.size) 135 _ _ _ _ (.string A.name) (.int .i64 A.gain) (.slice an2 A.horizontal.length cn2) (.slice an3 A.vertical.length cn3) kh9_15.out
     have kk10:=Lib.hid kf
     have BY10:=Lib.hid (hbl _ _ BY9.out (by omega))
     have kh10_14:=Lib.hid ((ho (Y7.heap.size) (by omega)).trans kk9.out)
     have g0:=bkC (v:=.string ⟨#[]⟩) kh9_15.out 0 rfl
     have g1:=bkC (v:=.int .i64 0) kh9_15.out 1 rfl
     have g2:=bkC (v:=.slice none 0 0) kh9_15.out 2 rfl
     have g3:=bkC (v:=.slice none 0 0) kh9_15.out 3 rfl
     have fz:=bkF kh9_15.out
     clear kf ho hbl
     go_simp
     (try rw[hW])
     refine hK.out _ _ (HKB.out _ BY10.out) ?_
     clear hK K fz hW g0 g1 g2 g3
     (try simp only[Act.put,List.setIfInBounds_toArray,List.set_cons_zero,List.set_cons_succ])
     refine wpTree_nil ?_
     simp only[List.drop_succ_cons,List.drop_zero]
     go_wp2_with fail
     go_meet
     exact⟨_,_,rfl,rfl,kh10_14.out,kk10.out,by omega,by omega,BY10.out⟩
   ·refine stepT_mk rfl (fun K hK=>?_)
    go_simp
    have hb11:Below Y1.heap.size Y1 (Y1.alloc (.cells #[.string ⟨#[]⟩,.int .i64 0,.int .i64 0,.int .i64 0,.int .i64 0,.slice none 0 0] 139)):=below_alloc _ _
    have kk11:=Lib.hid (bkN Y1 #[.string ⟨#[]⟩,.int .i64 0,.int .i64 0,.int .i64 0,.int .i64 0,.slice none 0 0] 139)
    have zl11:Y1.heap.size+1≤(Y1.alloc (.cells #[.string ⟨#[]⟩,.int .i64 0,.int .i64 0,.int .i64 0,.int .i64 0,.slice none 0 0] 139)).heap.size:=by simp
    refine hK.out _ _ (HKB.out _ (BY1.out.trans (hb11.mono (by omega)))) ?_
    clear hK K
    (try simp only[Act.put,List.setIfInBounds_toArray,List.set_cons_zero,List.set_cons_succ])
    generalize (Y1.alloc (.cells #[.string ⟨#[]⟩,.int .i64 0,.int .i64 0,.int .i64 0,.int .i64 0,.slice none 0 0] 139))=Y11 at *
    have bs11:Y1.heap.size≤Y11.heap.size:=hb11.size
    have BY11:=Lib.hid (BY1.out.trans (hb11.mono (by omega)))
    clear hb11
    refine wpTree_two ?_ ?_
    ·refine stepT_mk rfl (fun K hK=>?_)
     go_simp
     refine (CAN.out _ (HB.out.trans (BY11.out.mono HB.out.size))).mono ?_
     rintro e Y12 ⟨rfl,hb12⟩
     refine hK.out _ _ (HKB.out _ (BY11.out.trans (hb12.mono (by omega)))) ?_
     clear hK K
     (try simp only[Act.put,List.setIfInBounds_toArray,List.set_cons_zero,List.set_cons_succ])
     have bs12:Y11.heap.size≤Y12.heap.size:=hb12.size
     have BY12:=Lib.hid (BY11.out.trans (hb12.mono (by omega)))
     have kh12_14:=Lib.hid (bkB kk11.out hb12 (by omega))
     clear hb12
     refine wpTree_read (v:=?_) rfl (fun _ _ _ h=>h) ?_ ?_
     rotate_left
     ·(intro W hSW;(try dsimp only at hSW);(go_simp<;>with_reducible rfl))
     (try simp only[Act.put,List.setIfInBounds_toArray,List.set_cons_zero,List.set_cons_succ])
     refine wpTree_read (v:=?_) rfl (fun _ _ _ h=>h) ?_ ?_
     rotate_left
     ·(intro W hSW;(try dsimp only at hSW);(go_simp<;>with_reducible rfl))
     (try simp only[Act.put,List.setIfInBounds_toArray,List.set_cons_zero,List.set_cons_succ])
     refine wpTree_one ?_
     refine stepT_mk rfl (fun K hK=>?_)
     go_simp
     have hb13:Below Y12.heap.size Y12 (Y12.alloc (.cells #[.string ⟨#[]⟩,.int .i64 0,.slice none 0 0,.slice none 0 0] 135)):=below_alloc _ _
     have kk13:=Lib.hid (bkN Y12 #[.string ⟨#[]⟩,.int .i64 0,.slice none 0 0,.slice none 0 0] 135)
     have zl13:Y12.heap.size+1≤(Y12.alloc (.cells #[.string ⟨#[]⟩,.int .i64 0,.slice none 0 0,.slice none 0 0] 135)).heap.size:=by simp
     refine hK.out _ _ (HKB.out _ (BY12.out.trans (hb13.mono (by omega)))) ?_
     clear hK K
     (try simp only[Act.put,List.setIfInBounds_toArray,List.set_cons_zero,List.set_cons_succ])
     generalize (Y12.alloc (.cells #[.string ⟨#[]⟩,.int .i64 0,.slice none 0 0,.slice none 0 0] 135))=Y13 at *
     have bs13:Y12.heap.size≤Y13.heap.size:=hb13.size
     have BY13:=Lib.hid (BY12.out.trans (hb13.mono (by omega)))
     have kh13_14:=Lib.hid (bkB kh12_14.out hb13 (by omega))
     clear hb13
     refine wpTree_one ?_
     refine stepT_mk rfl (fun K hK=>?_)
     obtain⟨Y14,hW,kf,ho,hsz,hbl⟩:=store6 Y13 (Y1.heap.size) 139 _ _ _ _ _ _ (.string R.name) (.int .i64 R.power) (.int .i64 R.feeder) (.int .i64 R.noise) (.int .i64 R.width) (.slice am R.modes.length cm) kh13_14.out
     have kk14:=Lib.hid kf
     have BY14:=Lib.hid (hbl _ _ BY13.out (by omega))
     have kh14_15:=Lib.hid ((ho (Y12.heap.size) (by omega)).trans kk13.out)
     have g0:=bkC (v:=.string ⟨#[]⟩) kh13_14.out 0 rfl
     have g1:=bkC (v:=.int .i64 0) kh13_14.out 1 rfl
     have g2:=bkC (v:=.int .i64 0) kh13_14.out 2 rfl
     have g3:=bkC (v:=.int .i64 0) kh13_14.out 3 rfl
     have g4:=bkC (v:=.int .i64 0) kh13_14.out 4 rfl
     have g5:=bkC (v:=.slice none 0 0) kh13_14.out 5 rfl
     have fz:=bkF kh13_14.out
     clear kf ho hbl
     go_simp
     (try rw[hW])
     refine hK.out _ _ (HKB.out _ BY14.out) ?_
     clear hK K fz hW g0 g1 g2 g3 g4 g5
     (try simp only[Act.put,List.setIfInBounds_toArray,List.set_cons_zero,List.set_cons_succ])
     refine wpTree_one ?_
     refine stepT_mk rfl (fun K hK=>?_)
     obtain⟨Y15,hW,kf,ho,hsz,hbl⟩:=store4 Y14 (Y12.heap.size) 135 _ _ _ _ (.string A.name) (.int .i64 A.gain) (.slice an2 A.horizontal.length cn2) (.slice an3 A.vertical.length cn3) kh14_15.out
     have kk15:=Lib.hid kf
     have BY15:=Lib.hid (hbl _ _ BY14.out (by omega))
     have kh15_14:=Lib.hid ((ho (Y1.heap.size) (by omega)).trans kk14.out)
     have g0:=bkC (v:=.string ⟨#[]⟩) kh14_15.out 0 rfl
     have g1:=bkC (v:=.int .i64 0) kh14_15.out 1 rfl
     have g2:=bkC (v:=.slice none 0 0) kh14_15.out 2 rfl
     have g3:=bkC (v:=.slice none 0 0) kh14_15.out 3 rfl
     have fz:=bkF kh14_15.out
     clear kf ho hbl
     go_simp
     (try rw[hW])
     refine hK.out _ _ (HKB.out _ BY15.out) ?_
     clear hK K fz hW g0 g1 g2 g3
     (try simp only[Act.put,List.setIfInBounds_toArray,List.set_cons_zero,List.set_cons_succ])
     refine wpTree_nil ?_
     simp only[List.drop_succ_cons,List.drop_zero]
     go_wp2_with fail
     go_meet
     exact⟨_,_,rfl,rfl,kh15_14.out,kk15.out,by omega,by omega,BY15.out⟩
    ·refine stepT_mk rfl (fun K hK=>?_)
     go_simp
     have hb16:Below Y11.heap.size Y11 (Y11.alloc (.cells #[.string ⟨#[]⟩,.int .i64 0,.slice none 0 0,.slice none 0 0] 135)):=below_alloc _ _
     have kk16:=Lib.hid (bkN Y11 #[.string ⟨#[]⟩,.int .i64 0,.slice none 0 0,.slice none 0 0] 135)
     have zl16:Y11.heap.size+1≤(Y11.alloc (.cells #[.string ⟨#[]⟩,.int .i64 0,.slice none 0 0,.slice none 0 0] 135)).heap.size:=by simp
     refine hK.out _ _ (HKB.out _ (BY11.out.trans (hb16.mono (by omega)))) ?_
     clear hK K
     (try simp only[Act.put,List.setIfInBounds_toArray,List.set_cons_zero,List.set_cons_succ])
     generalize (Y11.alloc (.cells #[.string ⟨#[]⟩,.int .i64 0,.slice none 0 0,.slice none 0 0] 135))=Y16 at *
     have bs16:Y11.heap.size≤Y16.heap.size:=hb16.size
     have BY16:=Lib.hid (BY11.out.trans (hb16.mono (by omega)))
     have kh16_14:=Lib.hid (bkB kk11.out hb16 (by omega))
     clear hb16
     refine wpTree_one ?_
     refine stepT_mk rfl (fun K hK=>?_)
     go_simp
     refine (CAN.out _ (HB.out.trans (BY16.out.mono HB.out.size))).mono ?_
     rintro e Y17 ⟨rfl,hb17⟩
     refine hK.out _ _ (HKB.out _ (BY16.out.trans (hb17.mono (by omega)))) ?_
     clear hK K
     (try simp only[Act.put,List.setIfInBounds_toArray,List.set_cons_zero,List.set_cons_succ])
     have bs17:Y16.heap.size≤Y17.heap.size:=hb17.size
     have BY17:=Lib.hid (BY16.out.trans (hb17.mono (by omega)))
     have kh17_14:=Lib.hid (bkB kh16_14.out hb17 (by omega))
     have kh17_15:=Lib.hid (bkB kk16.out hb17 (by omega))
     clear hb17
     refine wpTree_read (v:=?_) rfl (fun _ _ _ h=>h) ?_ ?_
     rotate_left
     ·(intro W hSW;(try dsimp only at hSW);(go_simp<;>with_reducible rfl))
     (try simp only[Act.put,List.setIfInBounds_toArray,List.set_cons_zero,List.set_cons_succ])
     refine wpTree_read (v:=?_) rfl (fun _ _ _ h=>h) ?_ ?_
     rotate_left
     ·(intro W hSW;(try dsimp only at hSW);(go_simp<;>with_reducible rfl))
     (try simp only[Act.put,List.setIfInBounds_toArray,List.set_cons_zero,List.set_cons_succ])
     refine wpTree_one ?_
     refine stepT_mk rfl (fun K hK=>?_)
     obtain⟨Y18,hW,kf,ho,hsz,hbl⟩:=store6 Y17 (Y1.heap.size) 139 _ _ _ _ _ _ (.string R.name) (.int .i64 R.power) (.int .i64 R.feeder) (.int .i64 R.noise) (.int .i64 R.width) (.slice am R.modes.length cm) kh17_14.out
     have kk18:=Lib.hid kf
     have BY18:=Lib.hid (hbl _ _ BY17.out (by omega))
     have kh18_15:=Lib.hid ((ho (Y11.heap.size) (by omega)).trans kh17_15.out)
     have g0:=bkC (v:=.string ⟨#[]⟩) kh17_14.out 0 rfl
     have g1:=bkC (v:=.int .i64 0) kh17_14.out 1 rfl
     have g2:=bkC (v:=.int .i64 0) kh17_14.out 2 rfl
     have g3:=bkC (v:=.int .i64 0) kh17_14.out 3 rfl
     have g4:=bkC (v:=.int .i64 0) kh17_14.out 4 rfl
     have g5:=bkC (v:=.slice none 0 0) kh17_14.out 5 rfl
     have fz:=bkF kh17_14.out
     clear kf ho hbl
     go_simp
     (try rw[hW])
     refine hK.out _ _ (HKB.out _ BY18.out) ?_
     clear hK K fz hW g0 g1 g2 g3 g4 g5
     (try simp only[Act.put,List.setIfInBounds_toArray,List.set_cons_zero,List.set_cons_succ])
     refine wpTree_one ?_
     refine stepT_mk rfl (fun K hK=>?_)
     obtain⟨Y19,hW,kf,ho,hsz,hbl⟩:=store4 Y18 (Y11.heap.size) 135 _ _ _ _ (.string A.name) (.int .i64 A.gain) (.slice an2 A.horizontal.length cn2) (.slice an3 A.vertical.length cn3) kh18_15.out
     have kk19:=Lib.hid kf
     have BY19:=Lib.hid (hbl _ _ BY18.out (by omega))
     have kh19_14:=Lib.hid ((ho (Y1.heap.size) (by omega)).trans kk18.out)
     have g0:=bkC (v:=.string ⟨#[]⟩) kh18_15.out 0 rfl
     have g1:=bkC (v:=.int .i64 0) kh18_15.out 1 rfl
     have g2:=bkC (v:=.slice none 0 0) kh18_15.out 2 rfl
     have g3:=bkC (v:=.slice none 0 0) kh18_15.out 3 rfl
     have fz:=bkF kh18_15.out
     clear kf ho hbl
     go_simp
     (try rw[hW])
     refine hK.out _ _ (HKB.out _ BY19.out) ?_
     clear hK K fz hW g0 g1 g2 g3
     (try simp only[Act.put,List.setIfInBounds_toArray,List.set_cons_zero,List.set_cons_succ])
     refine wpTree_nil ?_
     simp only[List.drop_succ_cons,List.drop_zero]
     go_wp2_with fail
     go_meet
     exact⟨_,_,rfl,rfl,kh19_14.out,kk19.out,by omega,by omega,BY19.out⟩
   ·refine stepT_mk rfl (fun K hK=>?_)
    go_simp
    have hb20:Below Y1.heap.size Y1 (Y1.alloc (.cells #[.string ⟨#[]⟩,.int .i64 0,.slice none 0 0,.slice none 0 0] 135)):=below_alloc _ _
    have kk20:=Lib.hid (bkN Y1 #[.string ⟨#[]⟩,.int .i64 0,.slice none 0 0,.slice none 0 0] 135)
    have zl20:Y1.heap.size+1≤(Y1.alloc (.cells #[.string ⟨#[]⟩,.int .i64 0,.slice none 0 0,.slice none 0 0] 135)).heap.size:=by simp
    refine hK.out _ _ (HKB.out _ (BY1.out.trans (hb20.mono (by omega)))) ?_
    clear hK K
    (try simp only[Act.put,List.setIfInBounds_toArray,List.set_cons_zero,List.set_cons_succ])
    generalize (Y1.alloc (.cells #[.string ⟨#[]⟩,.int .i64 0,.slice none 0 0,.slice none 0 0] 135))=Y20 at *
    have bs20:Y1.heap.size≤Y20.heap.size:=hb20.size
    have BY20:=Lib.hid (BY1.out.trans (hb20.mono (by omega)))
    clear hb20
    refine wpTree_two ?_ ?_
    ·refine stepT_mk rfl (fun K hK=>?_)
     go_simp
     refine (CAN.out _ (HB.out.trans (BY20.out.mono HB.out.size))).mono ?_
     rintro e Y21 ⟨rfl,hb21⟩
     refine hK.out _ _ (HKB.out _ (BY20.out.trans (hb21.mono (by omega)))) ?_
     clear hK K
     (try simp only[Act.put,List.setIfInBounds_toArray,List.set_cons_zero,List.set_cons_succ])
     have bs21:Y20.heap.size≤Y21.heap.size:=hb21.size
     have BY21:=Lib.hid (BY20.out.trans (hb21.mono (by omega)))
     have kh21_15:=Lib.hid (bkB kk20.out hb21 (by omega))
     clear hb21
     refine wpTree_read (v:=?_) rfl (fun _ _ _ h=>h) ?_ ?_
     rotate_left
     ·(intro W hSW;(try dsimp only at hSW);(go_simp<;>with_reducible rfl))
     (try simp only[Act.put,List.setIfInBounds_toArray,List.set_cons_zero,List.set_cons_succ])
     refine wpTree_read (v:=?_) rfl (fun _ _ _ h=>h) ?_ ?_
     rotate_left
     ·(intro W hSW;(try dsimp only at hSW);(go_simp<;>with_reducible rfl))
     (try simp only[Act.put,List.setIfInBounds_toArray,List.set_cons_zero,List.set_cons_succ])
     refine wpTree_one ?_
     refine stepT_mk rfl (fun K hK=>?_)
     go_simp
     have hb22:Below Y21.heap.size Y21 (Y21.alloc (.cells #[.string ⟨#[]⟩,.int .i64 0,.int .i64 0,.int .i64 0,.int .i64 0,.slice none 0 0] 139)):=below_alloc _ _
     have kk22:=Lib.hid (bkN Y21 #[.string ⟨#[]⟩,.int .i64 0,.int .i64 0,.int .i64 0,.int .i64 0,.slice none 0 0] 139)
     have zl22:Y21.heap.size+1≤(Y21.alloc (.cells #[.string ⟨#[]⟩,.int .i64 0,.int .i64 0,.int .i64 0,.int .i64 0,.slice none 0 0] 139)).heap.size:=by simp
     refine hK.out _ _ (HKB.out _ (BY21.out.trans (hb22.mono (by omega)))) ?_
     clear hK K
     (try simp only[Act.put,List.setIfInBounds_toArray,List.set_cons_zero,List.set_cons_succ])
     generalize (Y21.alloc (.cells #[.string ⟨#[]⟩,.int .i64 0,.int .i64 0,.int .i64 0,.int .i64 0,.slice none 0 0] 139))=Y22 at *
     have bs22:Y21.heap.size≤Y22.heap.size:=hb22.size
     have BY22:=Lib.hid (BY21.out.trans (hb22.mono (by omega)))
     have kh22_15:=Lib.hid (bkB kh21_15.out hb22 (by omega))
     clear hb22
     refine wpTree_one ?_
     refine stepT_mk rfl (fun K hK=>?_)
     obtain⟨Y23,hW,kf,ho,hsz,hbl⟩:=store6 Y22 (Y21.heap.size) 139 _ _ _ _ _ _ (.string R.name) (.int .i64 R.power) (.int .i64 R.feeder) (.int .i64 R.noise) (.int .i64 R.width) (.slice am R.modes.length cm) kk22.out
     have kk23:=Lib.hid kf
     have BY23:=Lib.hid (hbl _ _ BY22.out (by omega))
     have kh23_15:=Lib.hid ((ho (Y1.heap.size) (by omega)).trans kh22_15.out)
     have g0:=bkC (v:=.string ⟨#[]⟩) kk22.out 0 rfl
     have g1:=bkC (v:=.int .i64 0) kk22.out 1 rfl
     have g2:=bkC (v:=.int .i64 0) kk22.out 2 rfl
     have g3:=bkC (v:=.int .i64 0) kk22.out 3 rfl
     have g4:=bkC (v:=.int .i64 0) kk22.out 4 rfl
     have g5:=bkC (v:=.slice none 0 0) kk22.out 5 rfl
     have fz:=bkF kk22.out
     clear kf ho hbl
     go_simp
     (try rw[hW])
     refine hK.out _ _ (HKB.out _ BY23.out) ?_
     clear hK K fz hW g0 g1 g2 g3 g4 g5
     (try simp only[Act.put,List.setIfInBounds_toArray,List.set_cons_zero,List.set_cons_succ])
     refine wpTree_one ?_
     refine stepT_mk rfl (fun K hK=>?_)
     obtain⟨Y24,hW,kf,ho,hsz,hbl⟩:=store4 Y23 (Y1.heap.size) 135 _ _ _ _ (.string A.name) (.int .i64 A.gain) (.slice an2 A.horizontal.length cn2) (.slice an3 A.vertical.length cn3) kh23_15.out
     have kk24:=Lib.hid kf
     have BY24:=Lib.hid (hbl _ _ BY23.out (by omega))
     have kh24_14:=Lib.hid ((ho (Y21.heap.size) (by omega)).trans kk23.out)
     have g0:=bkC (v:=.string ⟨#[]⟩) kh23_15.out 0 rfl
     have g1:=bkC (v:=.int .i64 0) kh23_15.out 1 rfl
     have g2:=bkC (v:=.slice none 0 0) kh23_15.out 2 rfl
     have g3:=bkC (v:=.slice none 0 0) kh23_15.out 3 rfl
     have fz:=bkF kh23_15.out
     clear kf ho hbl
     go_simp
     (try rw[hW])
     refine hK.out _ _ (HKB.out _ BY24.out) ?_
     clear hK K fz hW g0 g1 g2 g3
     (try simp only[Act.put,List.setIfInBounds_toArray,List.set_cons_zero,List.set_cons_succ])
     refine wpTree_nil ?_
     simp only[List.drop_succ_cons,List.drop_zero]
     go_wp2_with fail
     go_meet
     exact⟨_,_,rfl,rfl,kh24_14.out,kk24.out,by omega,by omega,BY24.out⟩
    ·refine stepT_mk rfl (fun K hK=>?_)
     go_simp
     have hb25:Below Y20.heap.size Y20 (Y20.alloc (.cells #[.string ⟨#[]⟩,.int .i64 0,.int .i64 0,.int .i64 0,.int .i64 0,.slice none 0 0] 139)):=below_alloc _ _
     have kk25:=Lib.hid (bkN Y20 #[.string ⟨#[]⟩,.int .i64 0,.int .i64 0,.int .i64 0,.int .i64 0,.slice none 0 0] 139)
     have zl25:Y20.heap.size+1≤(Y20.alloc (.cells #[.string ⟨#[]⟩,.int .i64 0,.int .i64 0,.int .i64 0,.int .i64 0,.slice none 0 0] 139)).heap.size:=by simp
     refine hK.out _ _ (HKB.out _ (BY20.out.trans (hb25.mono (by omega)))) ?_
     clear hK K
     (try simp only[Act.put,List.setIfInBounds_toArray,List.set_cons_zero,List.set_cons_succ])
     generalize (Y20.alloc (.cells #[.string ⟨#[]⟩,.int .i64 0,.int .i64 0,.int .i64 0,.int .i64 0,.slice none 0 0] 139))=Y25 at *
     have bs25:Y20.heap.size≤Y25.heap.size:=hb25.size
     have BY25:=Lib.hid (BY20.out.trans (hb25.mono (by omega)))
     have kh25_15:=Lib.hid (bkB kk20.out hb25 (by omega))
     clear hb25
     refine wpTree_one ?_
     refine stepT_mk rfl (fun K hK=>?_)
     go_simp
     refine (CAN.out _ (HB.out.trans (BY25.out.mono HB.out.size))).mono ?_
     rintro e Y26 ⟨rfl,hb26⟩
     refine hK.out _ _ (HKB.out _ (BY25.out.trans (hb26.mono (by omega)))) ?_
     clear hK K
     (try simp only[Act.put,List.setIfInBounds_toArray,List.set_cons_zero,List.set_cons_succ])
     have bs26:Y25.heap.size≤Y26.heap.size:=hb26.size
     have BY26:=Lib.hid (BY25.out.trans (hb26.mono (by omega)))
     have kh26_15:=Lib.hid (bkB kh25_15.out hb26 (by omega))
     have kh26_14:=Lib.hid (bkB kk25.out hb26 (by omega))
     clear hb26
     refine wpTree_read (v:=?_) rfl (fun _ _ _ h=>h) ?_ ?_
     rotate_left
     ·(intro W hSW;(try dsimp only at hSW);(go_simp<;>with_reducible rfl))
     (try simp only[Act.put,List.setIfInBounds_toArray,List.set_cons_zero,List.set_cons_succ])
     refine wpTree_read (v:=?_) rfl (fun _ _ _ h=>h) ?_ ?_
     rotate_left
     ·(intro W hSW;(try dsimp only at hSW);(go_simp<;>with_reducible rfl))
     (try simp only[Act.put,List.setIfInBounds_toArray,List.set_cons_zero,List.set_cons_succ])
     refine wpTree_one ?_
     refine stepT_mk rfl (fun K hK=>?_)
     obtain⟨Y27,hW,kf,ho,hsz,hbl⟩:=store6 Y26 (Y20.heap.size) 139 _ _ _ _ _ _ (.string R.name) (.int .i64 R.power) (.int .i64 R.feeder) (.int .i64 R.noise) (.int .i64 R.width) (.slice am R.modes.length cm) kh26_14.out
     have kk27:=Lib.hid kf
     have BY27:=Lib.hid (hbl _ _ BY26.out (by omega))
     have kh27_15:=Lib.hid ((ho (Y1.heap.size) (by omega)).trans kh26_15.out)
     have g0:=bkC (v:=.string ⟨#[]⟩) kh26_14.out 0 rfl
     have g1:=bkC (v:=.int .i64 0) kh26_14.out 1 rfl
     have g2:=bkC (v:=.int .i64 0) kh26_14.out 2 rfl
     have g3:=bkC (v:=.int .i64 0) kh26_14.out 3 rfl
     have g4:=bkC (v:=.int .i64 0) kh26_14.out 4 rfl
     have g5:=bkC (v:=.slice none 0 0) kh26_14.out 5 rfl
     have fz:=bkF kh26_14.out
     clear kf ho hbl
     go_simp
     (try rw[hW])
     refine hK.out _ _ (HKB.out _ BY27.out) ?_
     clear hK K fz hW g0 g1 g2 g3 g4 g5
     (try simp only[Act.put,List.setIfInBounds_toArray,List.set_cons_zero,List.set_cons_succ])
     refine wpTree_one ?_
     refine stepT_mk rfl (fun K hK=>?_)
     obtain⟨Y28,hW,kf,ho,hsz,hbl⟩:=store4 Y27 (Y1.heap.size) 135 _ _ _ _ (.string A.name) (.int .i64 A.gain) (.slice an2 A.horizontal.length cn2) (.slice an3 A.vertical.length cn3) kh27_15.out
     have kk28:=Lib.hid kf
     have BY28:=Lib.hid (hbl _ _ BY27.out (by omega))
     have kh28_14:=Lib.hid ((ho (Y20.heap.size) (by omega)).trans kk27.out)
     have g0:=bkC (v:=.string ⟨#[]⟩) kh27_15.out 0 rfl
     have g1:=bkC (v:=.int .i64 0) kh27_15.out 1 rfl
     have g2:=bkC (v:=.slice none 0 0) kh27_15.out 2 rfl
     have g3:=bkC (v:=.slice none 0 0) kh27_15.out 3 rfl
     have fz:=bkF kh27_15.out
     clear kf ho hbl
     go_simp
     (try rw[hW])
     refine hK.out _ _ (HKB.out _ BY28.out) ?_
     clear hK K fz hW g0 g1 g2 g3
     (try simp only[Act.put,List.setIfInBounds_toArray,List.set_cons_zero,List.set_cons_succ])
     refine wpTree_nil ?_
     simp only[List.drop_succ_cons,List.drop_zero]
     go_wp2_with fail
     go_meet
     exact⟨_,_,rfl,rfl,kh28_14.out,kk28.out,by omega,by omega,BY28.out⟩
  ·refine stepT_mk rfl (fun K hK=>?_)
   go_simp
   have hb29:Below Y.heap.size Y (Y.alloc (.cells #[.string ⟨#[]⟩,.int .i64 0,.int .i64 0,.int .i64 0,.int .i64 0,.slice none 0 0] 139)):=below_alloc _ _
   have kk29:=Lib.hid (bkN Y #[.string ⟨#[]⟩,.int .i64 0,.int .i64 0,.int .i64 0,.int .i64 0,.slice none 0 0] 139)
   have zl29:Y.heap.size+1≤(Y.alloc (.cells #[.string ⟨#[]⟩,.int .i64 0,.int .i64 0,.int .i64 0,.int .i64 0,.slice none 0 0] 139)).heap.size:=by simp
   refine hK.out _ _ (HKB.out _ (BBd.out.trans (hb29.mono (by omega)))) ?_
   clear hK K
   (try simp only[Act.put,List.setIfInBounds_toArray,List.set_cons_zero,List.set_cons_succ])
   generalize (Y.alloc (.cells #[.string ⟨#[]⟩,.int .i64 0,.int .i64 0,.int .i64 0,.int .i64 0,.slice none 0 0] 139))=Y29 at *
   have bs29:Y.heap.size≤Y29.heap.size:=hb29.size
   have BY29:=Lib.hid (BBd.out.trans (hb29.mono (by omega)))
   clear hb29
   refine wpTree_two ?_ ?_
   ·refine stepT_mk rfl (fun K hK=>?_)
    go_simp
    refine (CRD.out _ (HB.out.trans (BY29.out.mono HB.out.size))).mono ?_
    rintro e Y30 ⟨rfl,hb30⟩
    refine hK.out _ _ (HKB.out _ (BY29.out.trans (hb30.mono (by omega)))) ?_
    clear hK K
    (try simp only[Act.put,List.setIfInBounds_toArray,List.set_cons_zero,List.set_cons_succ])
    have bs30:Y29.heap.size≤Y30.heap.size:=hb30.size
    have BY30:=Lib.hid (BY29.out.trans (hb30.mono (by omega)))
    have kh30_14:=Lib.hid (bkB kk29.out hb30 (by omega))
    clear hb30
    refine wpTree_two ?_ ?_
    ·refine stepT_mk rfl (fun K hK=>?_)
     go_simp
     refine (CAN.out _ (HB.out.trans (BY30.out.mono HB.out.size))).mono ?_
     rintro e Y31 ⟨rfl,hb31⟩
     refine hK.out _ _ (HKB.out _ (BY30.out.trans (hb31.mono (by omega)))) ?_
     clear hK K
     (try simp only[Act.put,List.setIfInBounds_toArray,List.set_cons_zero,List.set_cons_succ])
     have bs31:Y30.heap.size≤Y31.heap.size:=hb31.size
     have BY31:=Lib.hid (BY30.out.trans (hb31.mono (by omega)))
     have kh31_14:=Lib.hid (bkB kh30_14.out hb31 (by omega))
     clear hb31
     refine wpTree_read (v:=?_) rfl (fun _ _ _ h=>h) ?_ ?_
     rotate_left
     ·(intro W hSW;(try dsimp only at hSW);(go_simp<;>with_reducible rfl))
     (try simp only[Act.put,List.setIfInBounds_toArray,List.set_cons_zero,List.set_cons_succ])
     refine wpTree_read (v:=?_) rfl (fun _ _ _ h=>h) ?_ ?_
     rotate_left
     ·(intro W hSW;(try dsimp only at hSW);(go_simp<;>with_reducible rfl))
     (try simp only[Act.put,List.setIfInBounds_toArray,List.set_cons_zero,List.set_cons_succ])
     refine wpTree_one ?_
     refine stepT_mk rfl (fun K hK=>?_)
     go_simp
     have hb32:Below Y31.heap.size Y31 (Y31.alloc (.cells #[.string ⟨#[]⟩,.int .i64 0,.slice none 0 0,.slice none 0 0] 135)):=below_alloc _ _
     have kk32:=Lib.hid (bkN Y31 #[.string ⟨#[]⟩,.int .i64 0,.slice none 0 0,.slice none 0 0] 135)
     have zl32:Y31.heap.size+1≤(Y31.alloc (.cells #[.string ⟨#[]⟩,.int .i64 0,.slice none 0 0,.slice none 0 0] 135)).heap.size:=by simp
     refine hK.out _ _ (HKB.out _ (BY31.out.trans (hb32.mono (by omega)))) ?_
     clear hK K
     (try simp only[Act.put,List.setIfInBounds_toArray,List.set_cons_zero,List.set_cons_succ])
     generalize (Y31.alloc (.cells #[.string ⟨#[]⟩,.int .i64 0,.slice none 0 0,.slice none 0 0] 135))=Y32 at *
     have bs32:Y31.heap.size≤Y32.heap.size:=hb32.size
     have BY32:=Lib.hid (BY31.out.trans (hb32.mono (by omega)))
     have kh32_14:=Lib.hid (bkB kh31_14.out hb32 (by omega))
     clear hb32
     refine wpTree_one ?_
     refine stepT_mk rfl (fun K hK=>?_)
     obtain⟨Y33,hW,kf,ho,hsz,hbl⟩:=store6 Y32 (Y.heap.size) 139 _ _ _ _ _ _ (.string R.name) (.int .i64 R.power) (.int .i64 R.feeder) (.int .i64 R.noise) (.int .i64 R.width) (.slice am R.modes.length cm) kh32_14.out
     have kk33:=Lib.hid kf
     have BY33:=Lib.hid (hbl _ _ BY32.out (by omega))
     have kh33_15:=Lib.hid ((ho (Y31.heap.size) (by omega)).trans kk32.out)
     have g0:=bkC (v:=.string ⟨#[]⟩) kh32_14.out 0 rfl
     have g1:=bkC (v:=.int .i64 0) kh32_14.out 1 rfl
     have g2:=bkC (v:=.int .i64 0) kh32_14.out 2 rfl
     have g3:=bkC (v:=.int .i64 0) kh32_14.out 3 rfl
     have g4:=bkC (v:=.int .i64 0) kh32_14.out 4 rfl
     have g5:=bkC (v:=.slice none 0 0) kh32_14.out 5 rfl
     have fz:=bkF kh32_14.out
     clear kf ho hbl
     go_simp
     (try rw[hW])
     refine hK.out _ _ (HKB.out _ BY33.out) ?_
     clear hK K fz hW g0 g1 g2 g3 g4 g5
     (try simp only[Act.put,List.setIfInBounds_toArray,List.set_cons_zero,List.set_cons_succ])
     refine wpTree_one ?_
     refine stepT_mk rfl (fun K hK=>?_)
     obtain⟨Y34,hW,kf,ho,hsz,hbl⟩:=store4 Y33 (Y31.heap.size) 135 _ _ _ _ (.string A.name) (.int .i64 A.gain) (.slice an2 A.horizontal.length cn2) (.slice an3 A.vertical.length cn3) kh33_15.out
     have kk34:=Lib.hid kf
     have BY34:=Lib.hid (hbl _ _ BY33.out (by omega))
     have kh34_14:=Lib.hid ((ho (Y.heap.size) (by omega)).trans kk33.out)
     have g0:=bkC (v:=.string ⟨#[]⟩) kh33_15.out 0 rfl
     have g1:=bkC (v:=.int .i64 0) kh33_15.out 1 rfl
     have g2:=bkC (v:=.slice none 0 0) kh33_15.out 2 rfl
     have g3:=bkC (v:=.slice none 0 0) kh33_15.out 3 rfl
     have fz:=bkF kh33_15.out
     clear kf ho hbl
     go_simp
     (try rw[hW])
     refine hK.out _ _ (HKB.out _ BY34.out) ?_
     clear hK K fz hW g0 g1 g2 g3
     (try simp only[Act.put,List.setIfInBounds_toArray,List.set_cons_zero,List.set_cons_succ])
     refine wpTree_nil ?_
     simp only[List.drop_succ_cons,List.drop_zero]
     go_wp2_with fail
     go_meet
     exact⟨_,_,rfl,rfl,kh34_14.out,kk34.out,by omega,by omega,BY34.out⟩
    ·refine stepT_mk rfl (fun K hK=>?_)
     go_simp
     have hb35:Below Y30.heap.size Y30 (Y30.alloc (.cells #[.string ⟨#[]⟩,.int .i64 0,.slice none 0 0,.slice none 0 0] 135)):=below_alloc _ _
     have kk35:=Lib.hid (bkN Y30 #[.string ⟨#[]⟩,.int .i64 0,.slice none 0 0,.slice none 0 0] 135)
     have zl35:Y30.heap.size+1≤(Y30.alloc (.cells #[.string ⟨#[]⟩,.int .i64 0,.slice none 0 0,.slice none 0 0] 135)).heap.size:=by simp
     refine hK.out _ _ (HKB.out _ (BY30.out.trans (hb35.mono (by omega)))) ?_
     clear hK K
     (try simp only[Act.put,List.setIfInBounds_toArray,List.set_cons_zero,List.set_cons_succ])
     generalize (Y30.alloc (.cells #[.string ⟨#[]⟩,.int .i64 0,.slice none 0 0,.slice none 0 0] 135))=Y35 at *
     have bs35:Y30.heap.size≤Y35.heap.size:=hb35.size
     have BY35:=Lib.hid (BY30.out.trans (hb35.mono (by omega)))
     have kh35_14:=Lib.hid (bkB kh30_14.out hb35 (by omega))
     clear hb35
     refine wpTree_one ?_
     refine stepT_mk rfl (fun K hK=>?_)
     go_simp
     refine (CAN.out _ (HB.out.trans (BY35.out.mono HB.out.size))).mono ?_
     rintro e Y36 ⟨rfl,hb36⟩
     refine hK.out _ _ (HKB.out _ (BY35.out.trans (hb36.mono (by omega)))) ?_
     clear hK K
     (try simp only[Act.put,List.setIfInBounds_toArray,List.set_cons_zero,List.set_cons_succ])
     have bs36:Y35.heap.size≤Y36.heap.size:=hb36.size
     have BY36:=Lib.hid (BY35.out.trans (hb36.mono (by omega)))
     have kh36_14:=Lib.hid (bkB kh35_14.out hb36 (by omega))
     have kh36_15:=Lib.hid (bkB kk35.out hb36 (by omega))
     clear hb36
     refine wpTree_read (v:=?_) rfl (fun _ _ _ h=>h) ?_ ?_
     rotate_left
     ·(intro W hSW;(try dsimp only at hSW);(go_simp<;>with_reducible rfl))
     (try simp only[Act.put,List.setIfInBounds_toArray,List.set_cons_zero,List.set_cons_succ])
     refine wpTree_read (v:=?_) rfl (fun _ _ _ h=>h) ?_ ?_
     rotate_left
     ·(intro W hSW;(try dsimp only at hSW);(go_simp<;>with_reducible rfl))
     (try simp only[Act.put,List.setIfInBounds_toArray,List.set_cons_zero,List.set_cons_succ])
     refine wpTree_one ?_
     refine stepT_mk rfl (fun K hK=>?_)
     obtain⟨Y37,hW,kf,ho,hsz,hbl⟩:=store6 Y36 (Y.heap.size) 139 _ _ _ _ _ _ (.string R.name) (.int .i64 R.power) (.int .i64 R.feeder) (.int .i64 R.noise) (.int .i64 R.width) (.slice am R.modes.length cm) kh36_14.out
     have kk37:=Lib.hid kf
     have BY37:=Lib.hid (hbl _ _ BY36.out (by omega))
     have kh37_15:=Lib.hid ((ho (Y30.heap.size) (by omega)).trans kh36_15.out)
     have g0:=bkC (v:=.string ⟨#[]⟩) kh36_14.out 0 rfl
     have g1:=bkC (v:=.int .i64 0) kh36_14.out 1 rfl
     have g2:=bkC (v:=.int .i64 0) kh36_14.out 2 rfl
     have g3:=bkC (v:=.int .i64 0) kh36_14.out 3 rfl
     have g4:=bkC (v:=.int .i64 0) kh36_14.out 4 rfl
     have g5:=bkC (v:=.slice none 0 0) kh36_14.out 5 rfl
     have fz:=bkF kh36_14.out
     clear kf ho hbl
     go_simp
     (try rw[hW])
     refine hK.out _ _ (HKB.out _ BY37.out) ?_
     clear hK K fz hW g0 g1 g2 g3 g4 g5
     (try simp only[Act.put,List.setIfInBounds_toArray,List.set_cons_zero,List.set_cons_succ])
     refine wpTree_one ?_
     refine stepT_mk rfl (fun K hK=>?_)
     obtain⟨Y38,hW,kf,ho,hsz,hbl⟩:=store4 Y37 (Y30.heap.size) 135 _ _ _ _ (.string A.name) (.int .i64 A.gain) (.slice an2 A.horizontal.length cn2) (.slice an3 A.vertical.length cn3) kh37_15.out
     have kk38:=Lib.hid kf
     have BY38:=Lib.hid (hbl _ _ BY37.out (by omega))
     have kh38_14:=Lib.hid ((ho (Y.heap.size) (by omega)).trans kk37.out)
     have g0:=bkC (v:=.string ⟨#[]⟩) kh37_15.out 0 rfl
     have g1:=bkC (v:=.int .i64 0) kh37_15.out 1 rfl
     have g2:=bkC (v:=.slice none 0 0) kh37_15.out 2 rfl
     have g3:=bkC (v:=.slice none 0 0) kh37_15.out 3 rfl
     have fz:=bkF kh37_15.out
     clear kf ho hbl
     go_simp
     (try rw[hW])
     refine hK.out _ _ (HKB.out _ BY38.out) ?_
     clear hK K fz hW g0 g1 g2 g3
     (try simp only[Act.put,List.setIfInBounds_toArray,List.set_cons_zero,List.set_cons_succ])
     refine wpTree_nil ?_
     simp only[List.drop_succ_cons,List.drop_zero]
     go_wp2_with fail
     go_meet
     exact⟨_,_,rfl,rfl,kh38_14.out,kk38.out,by omega,by omega,BY38.out⟩
   ·refine stepT_mk rfl (fun K hK=>?_)
    go_simp
    have hb39:Below Y29.heap.size Y29 (Y29.alloc (.cells #[.string ⟨#[]⟩,.int .i64 0,.slice none 0 0,.slice none 0 0] 135)):=below_alloc _ _
    have kk39:=Lib.hid (bkN Y29 #[.string ⟨#[]⟩,.int .i64 0,.slice none 0 0,.slice none 0 0] 135)
    have zl39:Y29.heap.size+1≤(Y29.alloc (.cells #[.string ⟨#[]⟩,.int .i64 0,.slice none 0 0,.slice none 0 0] 135)).heap.size:=by simp
    refine hK.out _ _ (HKB.out _ (BY29.out.trans (hb39.mono (by omega)))) ?_
    clear hK K
    (try simp only[Act.put,List.setIfInBounds_toArray,List.set_cons_zero,List.set_cons_succ])
    generalize (Y29.alloc (.cells #[.string ⟨#[]⟩,.int .i64 0,.slice none 0 0,.slice none 0 0] 135))=Y39 at *
    have bs39:Y29.heap.size≤Y39.heap.size:=hb39.size
    have BY39:=Lib.hid (BY29.out.trans (hb39.mono (by omega)))
    have kh39_14:=Lib.hid (bkB kk29.out hb39 (by omega))
    clear hb39
    refine wpTree_one ?_
    refine stepT_mk rfl (fun K hK=>?_)
    go_simp
    refine (CRD.out _ (HB.out.trans (BY39.out.mono HB.out.size))).mono ?_
    rintro e Y40 ⟨rfl,hb40⟩
    refine hK.out _ _ (HKB.out _ (BY39.out.trans (hb40.mono (by omega)))) ?_
    clear hK K
    (try simp only[Act.put,List.setIfInBounds_toArray,List.set_cons_zero,List.set_cons_succ])
    have bs40:Y39.heap.size≤Y40.heap.size:=hb40.size
    have BY40:=Lib.hid (BY39.out.trans (hb40.mono (by omega)))
    have kh40_14:=Lib.hid (bkB kh39_14.out hb40 (by omega))
    have kh40_15:=Lib.hid (bkB kk39.out hb40 (by omega))
    clear hb40
    refine wpTree_one ?_
    refine stepT_mk rfl (fun K hK=>?_)
    go_simp
    refine (CAN.out _ (HB.out.trans (BY40.out.mono HB.out.size))).mono ?_
    rintro e Y41 ⟨rfl,hb41⟩
    refine hK.out _ _ (HKB.out _ (BY40.out.trans (hb41.mono (by omega)))) ?_
    clear hK K
    (try simp only[Act.put,List.setIfInBounds_toArray,List.set_cons_zero,List.set_cons_succ])
    have bs41:Y40.heap.size≤Y41.heap.size:=hb41.size
    have BY41:=Lib.hid (BY40.out.trans (hb41.mono (by omega)))
    have kh41_14:=Lib.hid (bkB kh40_14.out hb41 (by omega))
    have kh41_15:=Lib.hid (bkB kh40_15.out hb41 (by omega))
    clear hb41
    refine wpTree_read (v:=?_) rfl (fun _ _ _ h=>h) ?_ ?_
    rotate_left
    ·(intro W hSW;(try dsimp only at hSW);(go_simp<;>with_reducible rfl))
    (try simp only[Act.put,List.setIfInBounds_toArray,List.set_cons_zero,List.set_cons_succ])
    refine wpTree_read (v:=?_) rfl (fun _ _ _ h=>h) ?_ ?_
    rotate_left
    ·(intro W hSW;(try dsimp only at hSW);(go_simp<;>with_reducible rfl))
    (try simp only[Act.put,List.setIfInBounds_toArray,List.set_cons_zero,List.set_cons_succ])
    refine wpTree_one ?_
    refine stepT_mk rfl (fun K hK=>?_)
    obtain⟨Y42,hW,kf,ho,hsz,hbl⟩:=store6 Y41 (Y.heap.size) 139 _ _ _ _ _ _ (.string R.name) (.int .i64 R.power) (.int .i64 R.feeder) (.int .i64 R.noise) (.int .i64 R.width) (.slice am R.modes.length cm) kh41_14.out
    have kk42:=Lib.hid kf
    have BY42:=Lib.hid (hbl _ _ BY41.out (by omega))
    have kh42_15:=Lib.hid ((ho (Y29.heap.size) (by omega)).trans kh41_15.out)
    have g0:=bkC (v:=.string ⟨#[]⟩) kh41_14.out 0 rfl
    have g1:=bkC (v:=.int .i64 0) kh41_14.out 1 rfl
    have g2:=bkC (v:=.int .i64 0) kh41_14.out 2 rfl
    have g3:=bkC (v:=.int .i64 0) kh41_14.out 3 rfl
    have g4:=bkC (v:=.int .i64 0) kh41_14.out 4 rfl
    have g5:=bkC (v:=.slice none 0 0) kh41_14.out 5 rfl
    have fz:=bkF kh41_14.out
    clear kf ho hbl
    go_simp
    (try rw[hW])
    refine hK.out _ _ (HKB.out _ BY42.out) ?_
    clear hK K fz hW g0 g1 g2 g3 g4 g5
    (try simp only[Act.put,List.setIfInBounds_toArray,List.set_cons_zero,List.set_cons_succ])
    refine wpTree_one ?_
    refine stepT_mk rfl (fun K hK=>?_)
    obtain⟨Y43,hW,kf,ho,hsz,hbl⟩:=store4 Y42 (Y29.heap.size) 135 _ _ _ _ (.string A.name) (.int .i64 A.gain) (.slice an2 A.horizontal.length cn2) (.slice an3 A.vertical.length cn3) kh42_15.out
    have kk43:=Lib.hid kf
    have BY43:=Lib.hid (hbl _ _ BY42.out (by omega))
    have kh43_14:=Lib.hid ((ho (Y.heap.size) (by omega)).trans kk42.out)
    have g0:=bkC (v:=.string ⟨#[]⟩) kh42_15.out 0 rfl
    have g1:=bkC (v:=.int .i64 0) kh42_15.out 1 rfl
    have g2:=bkC (v:=.slice none 0 0) kh42_15.out 2 rfl
    have g3:=bkC (v:=.slice none 0 0) kh42_15.out 3 rfl
    have fz:=bkF kh42_15.out
    clear kf ho hbl
    go_simp
    (try rw[hW])
    refine hK.out _ _ (HKB.out _ BY43.out) ?_
    clear hK K fz hW g0 g1 g2 g3
    (try simp only[Act.put,List.setIfInBounds_toArray,List.set_cons_zero,List.set_cons_succ])
    refine wpTree_nil ?_
    simp only[List.drop_succ_cons,List.drop_zero]
    go_wp2_with fail
    go_meet
    exact⟨_,_,rfl,rfl,kh43_14.out,kk43.out,by omega,by omega,BY43.out⟩
  ·refine stepT_mk rfl (fun K hK=>?_)
   go_simp
   have hb44:Below Y.heap.size Y (Y.alloc (.cells #[.string ⟨#[]⟩,.int .i64 0,.slice none 0 0,.slice none 0 0] 135)):=below_alloc _ _
   have kk44:=Lib.hid (bkN Y #[.string ⟨#[]⟩,.int .i64 0,.slice none 0 0,.slice none 0 0] 135)
   have zl44:Y.heap.size+1≤(Y.alloc (.cells #[.string ⟨#[]⟩,.int .i64 0,.slice none 0 0,.slice none 0 0] 135)).heap.size:=by simp
   refine hK.out _ _ (HKB.out _ (BBd.out.trans (hb44.mono (by omega)))) ?_
   clear hK K
   (try simp only[Act.put,List.setIfInBounds_toArray,List.set_cons_zero,List.set_cons_succ])
   generalize (Y.alloc (.cells #[.string ⟨#[]⟩,.int .i64 0,.slice none 0 0,.slice none 0 0] 135))=Y44 at *
   have bs44:Y.heap.size≤Y44.heap.size:=hb44.size
   have BY44:=Lib.hid (BBd.out.trans (hb44.mono (by omega)))
   clear hb44
   refine wpTree_two ?_ ?_
   ·refine stepT_mk rfl (fun K hK=>?_)
    go_simp
    refine (CRD.out _ (HB.out.trans (BY44.out.mono HB.out.size))).mono ?_
    rintro e Y45 ⟨rfl,hb45⟩
    refine hK.out _ _ (HKB.out _ (BY44.out.trans (hb45.mono (by omega)))) ?_
    clear hK K
    (try simp only[Act.put,List.setIfInBounds_toArray,List.set_cons_zero,List.set_cons_succ])
    have bs45:Y44.heap.size≤Y45.heap.size:=hb45.size
    have BY45:=Lib.hid (BY44.out.trans (hb45.mono (by omega)))
    have kh45_15:=Lib.hid (bkB kk44.out hb45 (by omega))
    clear hb45
    refine wpTree_two ?_ ?_
    ·refine stepT_mk rfl (fun K hK=>?_)
     go_simp
     refine (CAN.out _ (HB.out.trans (BY45.out.mono HB.out.size))).mono ?_
     rintro e Y46 ⟨rfl,hb46⟩
     refine hK.out _ _ (HKB.out _ (BY45.out.trans (hb46.mono (by omega)))) ?_
     clear hK K
     (try simp only[Act.put,List.setIfInBounds_toArray,List.set_cons_zero,List.set_cons_succ])
     have bs46:Y45.heap.size≤Y46.heap.size:=hb46.size
     have BY46:=Lib.hid (BY45.out.trans (hb46.mono (by omega)))
     have kh46_15:=Lib.hid (bkB kh45_15.out hb46 (by omega))
     clear hb46
     refine wpTree_read (v:=?_) rfl (fun _ _ _ h=>h) ?_ ?_
     rotate_left
     ·(intro W hSW;(try dsimp only at hSW);(go_simp<;>with_reducible rfl))
     (try simp only[Act.put,List.setIfInBounds_toArray,List.set_cons_zero,List.set_cons_succ])
     refine wpTree_read (v:=?_) rfl (fun _ _ _ h=>h) ?_ ?_
     rotate_left
     ·(intro W hSW;(try dsimp only at hSW);(go_simp<;>with_reducible rfl))
     (try simp only[Act.put,List.setIfInBounds_toArray,List.set_cons_zero,List.set_cons_succ])
     refine wpTree_one ?_
     refine stepT_mk rfl (fun K hK=>?_)
     go_simp
     have hb47:Below Y46.heap.size Y46 (Y46.alloc (.cells #[.string ⟨#[]⟩,.int .i64 0,.int .i64 0,.int .i64 0,.int .i64 0,.slice none 0 0] 139)):=below_alloc _ _
     have kk47:=Lib.hid (bkN Y46 #[.string ⟨#[]⟩,.int .i64 0,.int .i64 0,.int .i64 0,.int .i64 0,.slice none 0 0] 139)
     have zl47:Y46.heap.size+1≤(Y46.alloc (.cells #[.string ⟨#[]⟩,.int .i64 0,.int .i64 0,.int .i64 0,.int .i64 0,.slice none 0 0] 139)).heap.size:=by simp
     refine hK.out _ _ (HKB.out _ (BY46.out.trans (hb47.mono (by omega)))) ?_
     clear hK K
     (try simp only[Act.put,List.setIfInBounds_toArray,List.set_cons_zero,List.set_cons_succ])
     generalize (Y46.alloc (.cells #[.string ⟨#[]⟩,.int .i64 0,.int .i64 0,.int .i64 0,.int .i64 0,.slice none 0 0] 139))=Y47 at *
     have bs47:Y46.heap.size≤Y47.heap.size:=hb47.size
     have BY47:=Lib.hid (BY46.out.trans (hb47.mono (by omega)))
     have kh47_15:=Lib.hid (bkB kh46_15.out hb47 (by omega))
     clear hb47
     refine wpTree_one ?_
     refine stepT_mk rfl (fun K hK=>?_)
     obtain⟨Y48,hW,kf,ho,hsz,hbl⟩:=store6 Y47 (Y46.heap.size) 139 _ _ _ _ _ _ (.string R.name) (.int .i64 R.power) (.int .i64 R.feeder) (.int .i64 R.noise) (.int .i64 R.width) (.slice am R.modes.length cm) kk47.out
     have kk48:=Lib.hid kf
     have BY48:=Lib.hid (hbl _ _ BY47.out (by omega))
     have kh48_15:=Lib.hid ((ho (Y.heap.size) (by omega)).trans kh47_15.out)
     have g0:=bkC (v:=.string ⟨#[]⟩) kk47.out 0 rfl
     have g1:=bkC (v:=.int .i64 0) kk47.out 1 rfl
     have g2:=bkC (v:=.int .i64 0) kk47.out 2 rfl
     have g3:=bkC (v:=.int .i64 0) kk47.out 3 rfl
     have g4:=bkC (v:=.int .i64 0) kk47.out 4 rfl
     have g5:=bkC (v:=.slice none 0 0) kk47.out 5 rfl
     have fz:=bkF kk47.out
     clear kf ho hbl
     go_simp
     (try rw[hW])
     refine hK.out _ _ (HKB.out _ BY48.out) ?_
     clear hK K fz hW g0 g1 g2 g3 g4 g5
     (try simp only[Act.put,List.setIfInBounds_toArray,List.set_cons_zero,List.set_cons_succ])
     refine wpTree_one ?_
     refine stepT_mk rfl (fun K hK=>?_)
     obtain⟨Y49,hW,kf,ho,hsz,hbl⟩:=store4 Y48 (Y.heap.size) 135 _ _ _ _ (.string A.name) (.int .i64 A.gain) (.slice an2 A.horizontal.length cn2) (.slice an3 A.vertical.length cn3) kh48_15.out
     have kk49:=Lib.hid kf
     have BY49:=Lib.hid (hbl _ _ BY48.out (by omega))
     have kh49_14:=Lib.hid ((ho (Y46.heap.size) (by omega)).trans kk48.out)
     have g0:=bkC (v:=.string ⟨#[]⟩) kh48_15.out 0 rfl
     have g1:=bkC (v:=.int .i64 0) kh48_15.out 1 rfl
     have g2:=bkC (v:=.slice none 0 0) kh48_15.out 2 rfl
     have g3:=bkC (v:=.slice none 0 0) kh48_15.out 3 rfl
     have fz:=bkF kh48_15.out
     clear kf ho hbl
     go_simp
     (try rw[hW])
     refine hK.out _ _ (HKB.out _ BY49.out) ?_
     clear hK K fz hW g0 g1 g2 g3
     (try simp only[Act.put,List.setIfInBounds_toArray,List.set_cons_zero,List.set_cons_succ])
     refine wpTree_nil ?_
     simp only[List.drop_succ_cons,List.drop_zero]
     go_wp2_with fail
     go_meet
     exact⟨_,_,rfl,rfl,kh49_14.out,kk49.out,by omega,by omega,BY49.out⟩
    ·refine stepT_mk rfl (fun K hK=>?_)
     go_simp
     have hb50:Below Y45.heap.size Y45 (Y45.alloc (.cells #[.string ⟨#[]⟩,.int .i64 0,.int .i64 0,.int .i64 0,.int .i64 0,.slice none 0 0] 139)):=below_alloc _ _
     have kk50:=Lib.hid (bkN Y45 #[.string ⟨#[]⟩,.int .i64 0,.int .i64 0,.int .i64 0,.int .i64 0,.slice none 0 0] 139)
     have zl50:Y45.heap.size+1≤(Y45.alloc (.cells #[.string ⟨#[]⟩,.int .i64 0,.int .i64 0,.int .i64 0,.int .i64 0,.slice none 0 0] 139)).heap.size:=by simp
     refine hK.out _ _ (HKB.out _ (BY45.out.trans (hb50.mono (by omega)))) ?_
     clear hK K
     (try simp only[Act.put,List.setIfInBounds_toArray,List.set_cons_zero,List.set_cons_succ])
     generalize (Y45.alloc (.cells #[.string ⟨#[]⟩,.int .i64 0,.int .i64 0,.int .i64 0,.int .i64 0,.slice none 0 0] 139))=Y50 at *
     have bs50:Y45.heap.size≤Y50.heap.size:=hb50.size
     have BY50:=Lib.hid (BY45.out.trans (hb50.mono (by omega)))
     have kh50_15:=Lib.hid (bkB kh45_15.out hb50 (by omega))
     clear hb50
     refine wpTree_one ?_
     refine stepT_mk rfl (fun K hK=>?_)
     go_simp
     refine (CAN.out _ (HB.out.trans (BY50.out.mono HB.out.size))).mono ?_
     rintro e Y51 ⟨rfl,hb51⟩
     refine hK.out _ _ (HKB.out _ (BY50.out.trans (hb51.mono (by omega)))) ?_
     clear hK K
     (try simp only[Act.put,List.setIfInBounds_toArray,List.set_cons_zero,List.set_cons_succ])
     have bs51:Y50.heap.size≤Y51.heap.size:=hb51.size
     have BY51:=Lib.hid (BY50.out.trans (hb51.mono (by omega)))
     have kh51_15:=Lib.hid (bkB kh50_15.out hb51 (by omega))
     have kh51_14:=Lib.hid (bkB kk50.out hb51 (by omega))
     clear hb51
     refine wpTree_read (v:=?_) rfl (fun _ _ _ h=>h) ?_ ?_
     rotate_left
     ·(intro W hSW;(try dsimp only at hSW);(go_simp<;>with_reducible rfl))
     (try simp only[Act.put,List.setIfInBounds_toArray,List.set_cons_zero,List.set_cons_succ])
     refine wpTree_read (v:=?_) rfl (fun _ _ _ h=>h) ?_ ?_
     rotate_left
     ·(intro W hSW;(try dsimp only at hSW);(go_simp<;>with_reducible rfl))
     (try simp only[Act.put,List.setIfInBounds_toArray,List.set_cons_zero,List.set_cons_succ])
     refine wpTree_one ?_
     refine stepT_mk rfl (fun K hK=>?_)
     obtain⟨Y52,hW,kf,ho,hsz,hbl⟩:=store6 Y51 (Y45.heap.size) 139 _ _ _ _ _ _ (.string R.name) (.int .i64 R.power) (.int .i64 R.feeder) (.int .i64 R.noise) (.int .i64 R.width) (.slice am R.modes.length cm) kh51_14.out
     have kk52:=Lib.hid kf
     have BY52:=Lib.hid (hbl _ _ BY51.out (by omega))
     have kh52_15:=Lib.hid ((ho (Y.heap.size) (by omega)).trans kh51_15.out)
     have g0:=bkC (v:=.string ⟨#[]⟩) kh51_14.out 0 rfl
     have g1:=bkC (v:=.int .i64 0) kh51_14.out 1 rfl
     have g2:=bkC (v:=.int .i64 0) kh51_14.out 2 rfl
     have g3:=bkC (v:=.int .i64 0) kh51_14.out 3 rfl
     have g4:=bkC (v:=.int .i64 0) kh51_14.out 4 rfl
     have g5:=bkC (v:=.slice none 0 0) kh51_14.out 5 rfl
     have fz:=bkF kh51_14.out
     clear kf ho hbl
     go_simp
     (try rw[hW])
     refine hK.out _ _ (HKB.out _ BY52.out) ?_
     clear hK K fz hW g0 g1 g2 g3 g4 g5
     (try simp only[Act.put,List.setIfInBounds_toArray,List.set_cons_zero,List.set_cons_succ])
     refine wpTree_one ?_
     refine stepT_mk rfl (fun K hK=>?_)
     obtain⟨Y53,hW,kf,ho,hsz,hbl⟩:=store4 Y52 (Y.heap.size) 135 _ _ _ _ (.string A.name) (.int .i64 A.gain) (.slice an2 A.horizontal.length cn2) (.slice an3 A.vertical.length cn3) kh52_15.out
     have kk53:=Lib.hid kf
     have BY53:=Lib.hid (hbl _ _ BY52.out (by omega))
     have kh53_14:=Lib.hid ((ho (Y45.heap.size) (by omega)).trans kk52.out)
     have g0:=bkC (v:=.string ⟨#[]⟩) kh52_15.out 0 rfl
     have g1:=bkC (v:=.int .i64 0) kh52_15.out 1 rfl
     have g2:=bkC (v:=.slice none 0 0) kh52_15.out 2 rfl
     have g3:=bkC (v:=.slice none 0 0) kh52_15.out 3 rfl
     have fz:=bkF kh52_15.out
     clear kf ho hbl
     go_simp
     (try rw[hW])
     refine hK.out _ _ (HKB.out _ BY53.out) ?_
     clear hK K fz hW g0 g1 g2 g3
     (try simp only[Act.put,List.setIfInBounds_toArray,List.set_cons_zero,List.set_cons_succ])
     refine wpTree_nil ?_
     simp only[List.drop_succ_cons,List.drop_zero]
     go_wp2_with fail
     go_meet
     exact⟨_,_,rfl,rfl,kh53_14.out,kk53.out,by omega,by omega,BY53.out⟩
   ·refine stepT_mk rfl (fun K hK=>?_)
    go_simp
    have hb54:Below Y44.heap.size Y44 (Y44.alloc (.cells #[.string ⟨#[]⟩,.int .i64 0,.int .i64 0,.int .i64 0,.int .i64 0,.slice none 0 0] 139)):=below_alloc _ _
    have kk54:=Lib.hid (bkN Y44 #[.string ⟨#[]⟩,.int .i64 0,.int .i64 0,.int .i64 0,.int .i64 0,.slice none 0 0] 139)
    have zl54:Y44.heap.size+1≤(Y44.alloc (.cells #[.string ⟨#[]⟩,.int .i64 0,.int .i64 0,.int .i64 0,.int .i64 0,.slice none 0 0] 139)).heap.size:=by simp
    refine hK.out _ _ (HKB.out _ (BY44.out.trans (hb54.mono (by omega)))) ?_
    clear hK K
    (try simp only[Act.put,List.setIfInBounds_toArray,List.set_cons_zero,List.set_cons_succ])
    generalize (Y44.alloc (.cells #[.string ⟨#[]⟩,.int .i64 0,.int .i64 0,.int .i64 0,.int .i64 0,.slice none 0 0] 139))=Y54 at *
    have bs54:Y44.heap.size≤Y54.heap.size:=hb54.size
    have BY54:=Lib.hid (BY44.out.trans (hb54.mono (by omega)))
    have kh54_15:=Lib.hid (bkB kk44.out hb54 (by omega))
    clear hb54
    refine wpTree_one ?_
    refine stepT_mk rfl (fun K hK=>?_)
    go_simp
    refine (CRD.out _ (HB.out.trans (BY54.out.mono HB.out.size))).mono ?_
    rintro e Y55 ⟨rfl,hb55⟩
    refine hK.out _ _ (HKB.out _ (BY54.out.trans (hb55.mono (by omega)))) ?_
    clear hK K
    (try simp only[Act.put,List.setIfInBounds_toArray,List.set_cons_zero,List.set_cons_succ])
    have bs55:Y54.heap.size≤Y55.heap.size:=hb55.size
    have BY55:=Lib.hid (BY54.out.trans (hb55.mono (by omega)))
    have kh55_15:=Lib.hid (bkB kh54_15.out hb55 (by omega))
    have kh55_14:=Lib.hid (bkB kk54.out hb55 (by omega))
    clear hb55
    refine wpTree_one ?_
    refine stepT_mk rfl (fun K hK=>?_)
    go_simp
    refine (CAN.out _ (HB.out.trans (BY55.out.mono HB.out.size))).mono ?_
    rintro e Y56 ⟨rfl,hb56⟩
    refine hK.out _ _ (HKB.out _ (BY55.out.trans (hb56.mono (by omega)))) ?_
    clear hK K
    (try simp only[Act.put,List.setIfInBounds_toArray,List.set_cons_zero,List.set_cons_succ])
    have bs56:Y55.heap.size≤Y56.heap.size:=hb56.size
    have BY56:=Lib.hid (BY55.out.trans (hb56.mono (by omega)))
    have kh56_15:=Lib.hid (bkB kh55_15.out hb56 (by omega))
    have kh56_14:=Lib.hid (bkB kh55_14.out hb56 (by omega))
    clear hb56
    refine wpTree_read (v:=?_) rfl (fun _ _ _ h=>h) ?_ ?_
    rotate_left
    ·(intro W hSW;(try dsimp only at hSW);(go_simp<;>with_reducible rfl))
    (try simp only[Act.put,List.setIfInBounds_toArray,List.set_cons_zero,List.set_cons_succ])
    refine wpTree_read (v:=?_) rfl (fun _ _ _ h=>h) ?_ ?_
    rotate_left
    ·(intro W hSW;(try dsimp only at hSW);(go_simp<;>with_reducible rfl))
    (try simp only[Act.put,List.setIfInBounds_toArray,List.set_cons_zero,List.set_cons_succ])
    refine wpTree_one ?_
    refine stepT_mk rfl (fun K hK=>?_)
    obtain⟨Y57,hW,kf,ho,hsz,hbl⟩:=store6 Y56 (Y44.heap.size) 139 _ _ _ _ _ _ (.string R.name) (.int .i64 R.power) (.int .i64 R.feeder) (.int .i64 R.noise) (.int .i64 R.width) (.slice am R.modes.length cm) kh56_14.out
    have kk57:=Lib.hid kf
    have BY57:=Lib.hid (hbl _ _ BY56.out (by omega))
    have kh57_15:=Lib.hid ((ho (Y.heap.size) (by omega)).trans kh56_15.out)
    have g0:=bkC (v:=.string ⟨#[]⟩) kh56_14.out 0 rfl
    have g1:=bkC (v:=.int .i64 0) kh56_14.out 1 rfl
    have g2:=bkC (v:=.int .i64 0) kh56_14.out 2 rfl
    have g3:=bkC (v:=.int .i64 0) kh56_14.out 3 rfl
    have g4:=bkC (v:=.int .i64 0) kh56_14.out 4 rfl
    have g5:=bkC (v:=.slice none 0 0) kh56_14.out 5 rfl
    have fz:=bkF kh56_14.out
    clear kf ho hbl
    go_simp
    (try rw[hW])
    refine hK.out _ _ (HKB.out _ BY57.out) ?_
    clear hK K fz hW g0 g1 g2 g3 g4 g5
    (try simp only[Act.put,List.setIfInBounds_toArray,List.set_cons_zero,List.set_cons_succ])
    refine wpTree_one ?_
    refine stepT_mk rfl (fun K hK=>?_)
    obtain⟨Y58,hW,kf,ho,hsz,hbl⟩:=store4 Y57 (Y.heap.size) 135 _ _ _ _ (.string A.name) (.int .i64 A.gain) (.slice an2 A.horizontal.length cn2) (.slice an3 A.vertical.length cn3) kh57_15.out
    have kk58:=Lib.hid kf
    have BY58:=Lib.hid (hbl _ _ BY57.out (by omega))
    have kh58_14:=Lib.hid ((ho (Y44.heap.size) (by omega)).trans kk57.out)
    have g0:=bkC (v:=.string ⟨#[]⟩) kh57_15.out 0 rfl
    have g1:=bkC (v:=.int .i64 0) kh57_15.out 1 rfl
    have g2:=bkC (v:=.slice none 0 0) kh57_15.out 2 rfl
    have g3:=bkC (v:=.slice none 0 0) kh57_15.out 3 rfl
    have fz:=bkF kh57_15.out
    clear kf ho hbl
    go_simp
    (try rw[hW])
    refine hK.out _ _ (HKB.out _ BY58.out) ?_
    clear hK K fz hW g0 g1 g2 g3
    (try simp only[Act.put,List.setIfInBounds_toArray,List.set_cons_zero,List.set_cons_succ])
    refine wpTree_nil ?_
    simp only[List.drop_succ_cons,List.drop_zero]
    go_wp2_with fail
    go_meet
    exact⟨_,_,rfl,rfl,kh58_14.out,kk58.out,by omega,by omega,BY58.out⟩
 obtain⟨h12,h13,rfl,rfl,kr12,ka13,l12,l13,hb2⟩:=hcut
 generalize wc=w7 at *
 have KR:=Lib.hid kr12
 have KA:=Lib.hid ka13
 have KL7:=Lib.hid (bkB KL.out hb2 zKL)
 have B67:=Lib.hid hb2
 have z67:=hb2.size
 replace HV:=Lib.hid (HV.out.trans (hb2.mono HV.out.size))
 have KS7:=Lib.hid (bkB KS5.out HV.out (by omega))
 have HG7:=Lib.hid (HG.out.below (lo:=0) In.nil HV.out)
 clear kr12 ka13 HKB BBd KS5 KL HG
 replace HB:=Lib.hid (HB.out.trans (hb2.mono HB.out.size))
 clear hb2
 obtain⟨t0,t1,t2,t3,t4,t5,t6,t7,t8,t9,t10,t11,t12,t13,t14,t15,t16,t17,t18,t19,t20,t21,t22⟩:=HD.out _ HB.out
 obtain⟨rp1,rp2⟩:=rp
 obtain⟨rf1,rf2⟩:=rf
 obtain⟨ag1,ag2⟩:=ag
 have BW:=Lib.hid HB.out
 have hbs:base≤w7.heap.size:=by have:=HV.out.size;omega
 by_cases c0:x.channel<0
 case pos =>
  have HRE:Hid (rt = [⟨2,x.name,⟨#[]⟩⟩]):=by show _=_;rw[HRF.out,if_pos c0]
  have HO:of=pf++[⟨2,x.name,⟨#[]⟩⟩]:=by rw[HOF.out,HRE.out]
  subst HO
  go_wp2_with (at_builtin;refine wpList_append1 rfl (.tmp 62) (.tmp 66) _ rfl base 114 i0 _ 3 40 Tryz.underlying60 hi0 hz0 hz1 hz2 rfl (by omega) _ _ _ [] rfl HG7.out [.int .i64 2,.string x.name,.string ⟨#[]⟩] (DFault.tr ⟨2,x.name,⟨#[]⟩⟩) [] rfl 1 rfl (fun u hu=>by simp at hu;rcases hu with rfl|rfl|rfl<;>rfl) (RepV_lits _ [.int .i64 2,.string x.name,.string ⟨#[]⟩]) List.nodup_nil (fun b h=>by simp at h) 0 In.nil In.nil (by simp) (by simp) (by unfold maxLen;omega) (by omega) hbs ?_;intro v2 w8 hgn)
  have HGN:=Lib.hid hgn
  clear hgn
  obtain⟨av,cv,fv,ev,ov,iv⟩:=HGN.out.grow.toOwn (lo:=w.heap.size) (by omega) In.nil (by omega)
  subst ev
  have OV:=Lib.hid ov
  have IV:=Lib.hid iv
  clear ov iv
  go_wp2
  refine bodyPost_ret (v:=.slice av (pf.length+1) cv) (by simp[results,Tryz.results71,go_sem, *]) rfl ?_
  have OV2:Own w8 (DFault.sT (pf++[⟨2,x.name,⟨#[]⟩⟩])) (.slice av (pf.length+1) cv) fv:=by rw[DFault.sT_eq,List.flatMap_append];simpa using OV.out
  have BF:=HH.out _ (BW.out.trans (HGN.out.below.mono hba0))
  first|exact⟨av,cv,rfl,BF,fv,OV2,IV.out⟩|exact⟨av,cv,fv,rfl,BF,OV2,IV.out⟩|(rw[List.length_append];exact⟨av,cv,fv,rfl,BF,OV2,IV.out⟩)
 have c1:0≤x.channel:=by omega
 cases hasb
 case false =>
  have HRE:Hid (rt = [⟨3,x.name,x.band⟩]):=by show _=_;rw[HRF.out,if_neg c0];rfl
  have HO:of=pf++[⟨3,x.name,x.band⟩]:=by rw[HOF.out,HRE.out]
  subst HO
  go_wp2_with (at_builtin;refine wpList_append1 rfl (.tmp 71) (.tmp 77) _ rfl base 114 i0 _ 3 40 Tryz.underlying60 hi0 hz0 hz1 hz2 rfl (by omega) _ _ _ [] rfl HG7.out [.int .i64 3,.string x.name,.string x.band] (DFault.tr ⟨3,x.name,x.band⟩) [] rfl 1 rfl (fun u hu=>by simp at hu;rcases hu with rfl|rfl|rfl<;>rfl) (RepV_lits _ [.int .i64 3,.string x.name,.string x.band]) List.nodup_nil (fun b h=>by simp at h) 0 In.nil In.nil (by simp) (by simp) (by unfold maxLen;omega) (by omega) hbs ?_;intro v2 w8 hgn)
  have HGN:=Lib.hid hgn
  clear hgn
  obtain⟨av,cv,fv,ev,ov,iv⟩:=HGN.out.grow.toOwn (lo:=w.heap.size) (by omega) In.nil (by omega)
  subst ev
  have OV:=Lib.hid ov
  have IV:=Lib.hid iv
  clear ov iv
  go_wp2
  refine bodyPost_ret (v:=.slice av (pf.length+1) cv) (by simp[results,Tryz.results71,go_sem, *]) rfl ?_
  have OV2:Own w8 (DFault.sT (pf++[⟨3,x.name,x.band⟩])) (.slice av (pf.length+1) cv) fv:=by rw[DFault.sT_eq,List.flatMap_append];simpa using OV.out
  have BF:=HH.out _ (BW.out.trans (HGN.out.below.mono hba0))
  first|exact⟨av,cv,rfl,BF,fv,OV2,IV.out⟩|exact⟨av,cv,fv,rfl,BF,OV2,IV.out⟩|(rw[List.length_append];exact⟨av,cv,fv,rfl,BF,OV2,IV.out⟩)
 rcases HLR.out with ⟨a1,a2,rfl⟩|⟨a1,rfl⟩
 case inr =>
  have HRE:Hid (rt = [⟨4,x.name,y.holder⟩]):=by show _=_;rw[HRF.out,if_neg c0,if_pos rfl,if_neg (by omega)]
  have yh:=bkC (v:=.string y.holder) KS7.out 1 rfl
  have HO:of=pf++[⟨4,x.name,y.holder⟩]:=by rw[HOF.out,HRE.out]
  subst HO
  go_wp2_with (at_builtin;refine wpList_append1 rfl (.tmp 82) (.tmp 88) _ rfl base 114 i0 _ 3 40 Tryz.underlying60 hi0 hz0 hz1 hz2 rfl (by omega) _ _ _ [] rfl HG7.out [.int .i64 4,.string x.name,.string y.holder] (DFault.tr ⟨4,x.name,y.holder⟩) [] rfl 1 rfl (fun u hu=>by simp at hu;rcases hu with rfl|rfl|rfl<;>rfl) (RepV_lits _ [.int .i64 4,.string x.name,.string y.holder]) List.nodup_nil (fun b h=>by simp at h) 0 In.nil In.nil (by simp) (by simp) (by unfold maxLen;omega) (by omega) hbs ?_;intro v2 w8 hgn)
  have HGN:=Lib.hid hgn
  clear hgn
  obtain⟨av,cv,fv,ev,ov,iv⟩:=HGN.out.grow.toOwn (lo:=w.heap.size) (by omega) In.nil (by omega)
  subst ev
  have OV:=Lib.hid ov
  have IV:=Lib.hid iv
  clear ov iv
  go_wp2
  refine bodyPost_ret (v:=.slice av (pf.length+1) cv) (by simp[results,Tryz.results71,go_sem, *]) rfl ?_
  have OV2:Own w8 (DFault.sT (pf++[⟨4,x.name,y.holder⟩])) (.slice av (pf.length+1) cv) fv:=by rw[DFault.sT_eq,List.flatMap_append];simpa using OV.out
  have BF:=HH.out _ (BW.out.trans (HGN.out.below.mono hba0))
  first|exact⟨av,cv,rfl,BF,fv,OV2,IV.out⟩|exact⟨av,cv,fv,rfl,BF,OV2,IV.out⟩|(rw[List.length_append];exact⟨av,cv,fv,rfl,BF,OV2,IV.out⟩)
 subst a2
 have l0:=bkC (v:=.string L.id) KL7.out 0 rfl
 have l7:=bkC (v:=.int .i64 L.power) KL7.out 10 rfl
 have r1:=bkC (v:=.int .i64 R.power) KR.out 1 rfl
 have r2:=bkC (v:=.int .i64 R.feeder) KR.out 2 rfl
 have a1_:=bkC (v:=.int .i64 A.gain) KA.out 1 rfl
 by_cases hq:L.power<R.power-R.feeder+A.gain
 case pos =>
  have hpw:pw=true:=by rw[HPW.out];exact decide_eq_true hq
  have HRE:Hid (rt = [⟨5,x.name,L.id⟩]):=by show _=_;rw[HRF.out,if_neg c0,if_pos rfl,if_pos a1,if_pos hpw]
  have HO:of=pf++[⟨5,x.name,L.id⟩]:=by rw[HOF.out,HRE.out]
  subst HO
  go_wp2_with (at_builtin;refine wpList_append1 rfl (.tmp 102) (.tmp 108) _ rfl base 114 i0 _ 3 40 Tryz.underlying60 hi0 hz0 hz1 hz2 rfl (by omega) _ _ _ [] rfl HG7.out [.int .i64 5,.string x.name,.string L.id] (DFault.tr ⟨5,x.name,L.id⟩) [] rfl 1 rfl (fun u hu=>by simp at hu;rcases hu with rfl|rfl|rfl<;>rfl) (RepV_lits _ [.int .i64 5,.string x.name,.string L.id]) List.nodup_nil (fun b h=>by simp at h) 0 In.nil In.nil (by simp) (by simp) (by unfold maxLen;omega) (by omega) hbs ?_;intro v2 w8 hgn)
  have HGN:=Lib.hid hgn
  clear hgn
  obtain⟨av,cv,fv,ev,ov,iv⟩:=HGN.out.grow.toOwn (lo:=w.heap.size) (by omega) In.nil (by omega)
  subst ev
  have OV:=Lib.hid ov
  have IV:=Lib.hid iv
  clear ov iv
  go_wp2
  refine bodyPost_ret (v:=.slice av (pf.length+1) cv) (by simp[results,Tryz.results71,go_sem, *]) rfl ?_
  have OV2:Own w8 (DFault.sT (pf++[⟨5,x.name,L.id⟩])) (.slice av (pf.length+1) cv) fv:=by rw[DFault.sT_eq,List.flatMap_append];simpa using OV.out
  have BF:=HH.out _ (BW.out.trans (HGN.out.below.mono hba0))
  first|exact⟨av,cv,rfl,BF,fv,OV2,IV.out⟩|exact⟨av,cv,fv,rfl,BF,OV2,IV.out⟩|(rw[List.length_append];exact⟨av,cv,fv,rfl,BF,OV2,IV.out⟩)
 have hpw:¬ pw=true:=by rw[HPW.out];simpa using hq
 replace hq:R.power-R.feeder+A.gain≤L.power:=by omega
 have HRE:Hid (rt = []):=by show _=_;rw[HRF.out,if_neg c0,if_pos rfl,if_pos a1,if_neg hpw]
 have HO:of=pf:=by rw[HOF.out,HRE.out,List.append_nil]
 subst HO
 obtain⟨av,cv,fv,ev,ov,iv⟩:=HG7.out.toOwn (lo:=w.heap.size) (by omega) In.nil (by omega)
 subst ev
 have OV:=Lib.hid ov
 have IV:=Lib.hid iv
 clear ov iv
 go_wp2
 refine bodyPost_ret (v:=.slice av of.length cv) (by simp[results,Tryz.results71,go_sem, *]) rfl ?_
 exact⟨av,cv,rfl,HH.out _ BW.out,fv,OV.out,IV.out⟩
end Go.Proofs.YtjfmkmcefnidcaaGreat
