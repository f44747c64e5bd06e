/- Contracts: LevelAt, for the program and for the reference. Conditions: bounded sizes; for the program: what the tables hold. -/
import Derived.Test.YtdgmgchdjlfchaaGreatDoorLvY
import Derived.Test.YtdgmgchdjlfchaaGreatDoorHSector
import Derived.Test.YtdgmgchdjlfchaaGreatDoorHNetwork
import Derived.IntWalk
namespace Go.Proofs.YtdgmgchdjlfchaaGreatDoor
set_option maxHeartbeats 16000000
set_option maxRecDepth 100000
open Go.RowKit
set_option linter.unusedVariables false
set_option linter.unusedSimpArgs false
theorem iLevelAt_std (t:DTerrain) (nw:DNetwork) (nm:ByteArray) (f:Int) (q:DEnd) (vt3 vt4 vnw0 vnw1 vnw2 vnw3:Value) (w:World) (L:TabW w) (rt3:Rd w.heap.size w (intsT t.heights) vt3) (rt4:Rd w.heap.size w (intsT t.clutter) vt4) (rnw0:Rd w.heap.size w (DSite.sT nw.sites) vnw0) (rnw1:Rd w.heap.size w (DSector.sT nw.sectors) vnw1) (rnw2:Rd w.heap.size w (DAntenna.sT nw.antennas) vnw2) (rnw3:Rd w.heap.size w (DRadio.sT nw.radios) vnw3) (hs_t:sizL t.tr≤1048576) (hk_t:t.ok) (hs_nw:sizL nw.tr≤1048576) (hk_nw:nw.ok) (hs_nm:nm.size≤1048576) (hk_f:I64 f) (hk_q:q.ok) :
  Calls Tryz.prog 13 #[.agg #[.int .i64 t.step,.int .i64 t.width,.int .i64 t.height,vt3,vt4],.agg #[vnw0,vnw1,vnw2,vnw3],.string nm,.int .i64 f,.agg #[.int .i64 q.place.x,.int .i64 q.place.y,.int .i64 q.above]] w (fun e w'=>e=.returned (.tuple #[.int .i64 (levAtR t nw nm f q).1,.int .i64 (levAtR t nw nm f q).2])∧Below w.heap.size w w'):=by
 have hq:=DNetwork.siz_tr nw
 rw[DSite.siz_s,DSector.siz_s,DAntenna.siz_s,DRadio.siz_s] at hq
 have hqt:=DTerrain.siz_tr t
 rw[siz_ints,siz_ints] at hqt
 obtain⟨A0,C0,e0,_,_,_⟩:=DSite.rd rnw0
 obtain⟨A1,C1,e1,_,_,_⟩:=DSector.rd rnw1
 obtain⟨A2,C2,e2,_,_,_⟩:=DAntenna.rd rnw2
 obtain⟨A3,C3,e3,_,_,_⟩:=DRadio.rd rnw3
 subst e0 e1 e2 e3
 have HE0:Hid (levAtR t nw nm f q=if terrB t=true∧netB nw=true∧endB q=true then (if inB f 1 100000000=true∧inTerr t q.place=true then (if 0≤idxSector nw.sectors nm then (if reachB t nw (gSector nw.sectors (idxSector nw.sectors nm).toNat) q=true then (levI t nw (gSector nw.sectors (idxSector nw.sectors nm).toNat) f q,0) else (0,6)) else (0,3)) else (0,2)) else (0,1)):=rfl
 obtain⟨W0,hW0,b0_,z0,k0,k1,k2⟩:=boxes3 w #[.int .i64 t.step,.int .i64 t.width,.int .i64 t.height,vt3,vt4] 39 #[.slice A0 nw.sites.length C0,.slice A1 nw.sectors.length C1,.slice A2 nw.antennas.length C2,.slice A3 nw.radios.length C3] 46 #[.int .i64 q.place.x,.int .i64 q.place.y,.int .i64 q.above] 50
 have e0_0:=bkC (v:=.int .i64 t.step) k0 0 rfl
 have e0_1:=bkC (v:=.int .i64 t.width) k0 1 rfl
 have e0_2:=bkC (v:=.int .i64 t.height) k0 2 rfl
 have e0_3:=bkC (v:=vt3) k0 3 rfl
 have e0_4:=bkC (v:=vt4) k0 4 rfl
 have e1_0:=bkC (v:=.slice A0 nw.sites.length C0) k1 0 rfl
 have e1_1:=bkC (v:=.slice A1 nw.sectors.length C1) k1 1 rfl
 have e1_2:=bkC (v:=.slice A2 nw.antennas.length C2) k1 2 rfl
 have e1_3:=bkC (v:=.slice A3 nw.radios.length C3) k1 3 rfl
 have e2_0:=bkC (v:=.int .i64 q.place.x) k2 0 rfl
 have e2_1:=bkC (v:=.int .i64 q.place.y) k2 1 rfl
 have e2_2:=bkC (v:=.int .i64 q.above) k2 2 rfl
 have HW0:=Lib.hid hW0
 have B0:=Lib.hid b0_
 have HD:Hid (∀ W:World,Below W0.heap.size W0 W→(W.cell? ⟨w.heap.size,0,none⟩=some (.int .i64 t.step)∧W.cell? ⟨w.heap.size,1,none⟩=some (.int .i64 t.width)∧W.cell? ⟨w.heap.size,2,none⟩=some (.int .i64 t.height)∧W.cell? ⟨w.heap.size,3,none⟩=some (vt3)∧W.cell? ⟨w.heap.size,4,none⟩=some (vt4)∧W.cell? ⟨w.heap.size+1,0,none⟩=some (.slice A0 nw.sites.length C0)∧W.cell? ⟨w.heap.size+1,1,none⟩=some (.slice A1 nw.sectors.length C1)∧W.cell? ⟨w.heap.size+1,2,none⟩=some (.slice A2 nw.antennas.length C2)∧W.cell? ⟨w.heap.size+1,3,none⟩=some (.slice A3 nw.radios.length C3)∧W.cell? ⟨w.heap.size+2,0,none⟩=some (.int .i64 q.place.x)∧W.cell? ⟨w.heap.size+2,1,none⟩=some (.int .i64 q.place.y)∧W.cell? ⟨w.heap.size+2,2,none⟩=some (.int .i64 q.above))):=fun W hW=>⟨(bat hW w.heap.size _ (by omega)).trans e0_0,(bat hW w.heap.size _ (by omega)).trans e0_1,(bat hW w.heap.size _ (by omega)).trans e0_2,(bat hW w.heap.size _ (by omega)).trans e0_3,(bat hW w.heap.size _ (by omega)).trans e0_4,(bat hW (w.heap.size+1) _ (by omega)).trans e1_0,(bat hW (w.heap.size+1) _ (by omega)).trans e1_1,(bat hW (w.heap.size+1) _ (by omega)).trans e1_2,(bat hW (w.heap.size+1) _ (by omega)).trans e1_3,(bat hW (w.heap.size+2) _ (by omega)).trans e2_0,(bat hW (w.heap.size+2) _ (by omega)).trans e2_1,(bat hW (w.heap.size+2) _ (by omega)).trans e2_2⟩
 have HB:Hid (Below W0.heap.size W0 W0):=Below.refl _ _
 clear k0 k1 k2 e0_0 e0_1 e0_2 e0_3 e0_4 e1_0 e1_1 e1_2 e1_3 e2_0 e2_1 e2_2 hW0 b0_
 have CN:Hid (∀ W:World,Below W0.heap.size W0 W→Calls Tryz.prog 53 #[.agg #[.slice A0 nw.sites.length C0,.slice A1 nw.sectors.length C1,.slice A2 nw.antennas.length C2,.slice A3 nw.radios.length C3],.string nm] W fun e w'=>e=.returned (.int .i64 (idxSector nw.sectors nm))∧Below W.heap.size W w'):=fun  W hW=>sectorNamed_any nw.sectors nm _ _ _ _ w.heap.size W (rnw1.below (B0.out.trans (hW.mono B0.out.size))) (B0.out.trans (hW.mono B0.out.size)).size (by omega)
 have CT:Hid (∀ W:World,Below W0.heap.size W0 W→Calls Tryz.prog 54 #[.agg #[.int .i64 t.step,.int .i64 t.width,.int .i64 t.height,vt3,vt4]] W fun e w'=>e=.returned (.bool (terrB t))∧Below W.heap.size W w'):=fun  W hW=>validTerrain_any t vt3 vt4 w.heap.size W (rt3.below (B0.out.trans (hW.mono B0.out.size))) (rt4.below (B0.out.trans (hW.mono B0.out.size))) (B0.out.trans (hW.mono B0.out.size)).size (by omega) (by omega)
 have CV:Hid (∀ W:World,Below W0.heap.size W0 W→Calls Tryz.prog 55 #[.agg #[.slice A0 nw.sites.length C0,.slice A1 nw.sectors.length C1,.slice A2 nw.antennas.length C2,.slice A3 nw.radios.length C3]] W fun e w'=>e=.returned (.bool (netB nw))∧Below W.heap.size W w'):=fun  W hW=>validNetwork_any nw _ _ _ _ W ((rnw0.below (B0.out.trans (hW.mono B0.out.size))).mono (B0.out.trans (hW.mono B0.out.size)).size) ((rnw1.below (B0.out.trans (hW.mono B0.out.size))).mono (B0.out.trans (hW.mono B0.out.size)).size) ((rnw2.below (B0.out.trans (hW.mono B0.out.size))).mono (B0.out.trans (hW.mono B0.out.size)).size) ((rnw3.below (B0.out.trans (hW.mono B0.out.size))).mono (B0.out.trans (hW.mono B0.out.size)).size) (by omega) hk_nw
 have CQ:Hid (∀ W:World,Below W0.heap.size W0 W→Calls Tryz.prog 56 #[.agg #[.int .i64 q.place.x,.int .i64 q.place.y,.int .i64 q.above]] W fun e w'=>e=.returned (.bool (endB q))∧Below W.heap.size W w'):=fun  W hW=>validEnd_any q W
 have CF:Hid (∀ W:World,Below W0.heap.size W0 W→Calls Tryz.prog 57 #[.int .i64 f] W fun e w'=>e=.returned (.bool (inB f 1 100000000))∧Below W.heap.size W w'):=fun  W hW=>same_below (frequencyOk_any f W)
 cases hT:terrB t with
 | false =>
  rw[hT] at CT
  have HE:Hid (levAtR t nw nm f q=(0,1)):=by show _=_;rw[HE0.out,if_neg (by rw[hT];simp)]
  clear HE0
  generalize levAtR t nw nm f q=RV at *
  go_enter Tryz.func13,Tryz.ntmps13
  go_upto_region 1 with (fail)
  rw[HW0.out]
  obtain⟨t0,t1,t2,t3,t4,t5,t6,t7,t8,t9,t10,t11⟩:=HD.out _ HB.out
  go_wp2_with ((first|(go_at_call 53;with_reducible refine (CN.out _ HB.out).mono ?_)|(go_at_call 54;with_reducible refine (CT.out _ HB.out).mono ?_)|(go_at_call 55;with_reducible refine (CV.out _ HB.out).mono ?_)|(go_at_call 56;with_reducible refine (CQ.out _ HB.out).mono ?_)|(go_at_call 57;with_reducible refine (CF.out _ HB.out).mono ?_));rintro e v1 ⟨rfl,hb_⟩;(try clear t0 t1 t2 t3 t4 t5 t6 t7 t8 t9 t10 t11);replace HB:=btr HB hb_;clear hb_;obtain⟨t0,t1,t2,t3,t4,t5,t6,t7,t8,t9,t10,t11⟩:=HD.out _ HB.out)
  go_ret2
  exact⟨by rw[HE.out];rfl,B0.out.trans (HB.out.mono B0.out.size)⟩
 | true =>
  rw[hT] at CT
  have T:=terrB_ok hT
  have CH:Hid (∀ W:World,Below W0.heap.size W0 W→Calls Tryz.prog 58 #[.agg #[.int .i64 t.step,.int .i64 t.width,.int .i64 t.height,vt3,vt4],.agg #[.int .i64 q.place.x,.int .i64 q.place.y]] W fun e w'=>e=.returned (.bool (inTerr t q.place))∧Below W.heap.size W w'):=fun  W hW=>has_any t q.place vt3 vt4 ⟨T.w0,T.w1⟩ ⟨T.h0,T.h1⟩ ⟨T.mw.1,Int.le_trans T.mw.2 (by decide)⟩ ⟨T.mh.1,Int.le_trans T.mh.2 (by decide)⟩ W
  cases hV:netB nw with
  | false =>
   rw[hV] at CV
   have HE:Hid (levAtR t nw nm f q=(0,1)):=by show _=_;rw[HE0.out,if_neg (by rw[hV];simp)]
   clear HE0
   generalize levAtR t nw nm f q=RV at *
   go_enter Tryz.func13,Tryz.ntmps13
   go_upto_region 1 with (fail)
   rw[HW0.out]
   obtain⟨t0,t1,t2,t3,t4,t5,t6,t7,t8,t9,t10,t11⟩:=HD.out _ HB.out
   go_wp2_with ((first|(go_at_call 53;with_reducible refine (CN.out _ HB.out).mono ?_)|(go_at_call 54;with_reducible refine (CT.out _ HB.out).mono ?_)|(go_at_call 55;with_reducible refine (CV.out _ HB.out).mono ?_)|(go_at_call 56;with_reducible refine (CQ.out _ HB.out).mono ?_)|(go_at_call 57;with_reducible refine (CF.out _ HB.out).mono ?_)|(go_at_call 58;with_reducible refine (CH.out _ HB.out).mono ?_));rintro e v1 ⟨rfl,hb_⟩;(try clear t0 t1 t2 t3 t4 t5 t6 t7 t8 t9 t10 t11);replace HB:=btr HB hb_;clear hb_;obtain⟨t0,t1,t2,t3,t4,t5,t6,t7,t8,t9,t10,t11⟩:=HD.out _ HB.out)
   go_ret2
   exact⟨by rw[HE.out];rfl,B0.out.trans (HB.out.mono B0.out.size)⟩
  | true =>
   rw[hV] at CV
   cases hQ:endB q with
   | false =>
    rw[hQ] at CQ
    have HE:Hid (levAtR t nw nm f q=(0,1)):=by show _=_;rw[HE0.out,if_neg (by rw[hQ];simp)]
    clear HE0
    generalize levAtR t nw nm f q=RV at *
    go_enter Tryz.func13,Tryz.ntmps13
    go_upto_region 1 with (fail)
    rw[HW0.out]
    obtain⟨t0,t1,t2,t3,t4,t5,t6,t7,t8,t9,t10,t11⟩:=HD.out _ HB.out
    go_wp2_with ((first|(go_at_call 53;with_reducible refine (CN.out _ HB.out).mono ?_)|(go_at_call 54;with_reducible refine (CT.out _ HB.out).mono ?_)|(go_at_call 55;with_reducible refine (CV.out _ HB.out).mono ?_)|(go_at_call 56;with_reducible refine (CQ.out _ HB.out).mono ?_)|(go_at_call 57;with_reducible refine (CF.out _ HB.out).mono ?_)|(go_at_call 58;with_reducible refine (CH.out _ HB.out).mono ?_));rintro e v1 ⟨rfl,hb_⟩;(try clear t0 t1 t2 t3 t4 t5 t6 t7 t8 t9 t10 t11);replace HB:=btr HB hb_;clear hb_;obtain⟨t0,t1,t2,t3,t4,t5,t6,t7,t8,t9,t10,t11⟩:=HD.out _ HB.out)
    go_ret2
    exact⟨by rw[HE.out];rfl,B0.out.trans (HB.out.mono B0.out.size)⟩
   | true =>
    rw[hQ] at CQ
    cases hF:inB f 1 100000000 with
    | false =>
     rw[hF] at CF
     have HE:Hid (levAtR t nw nm f q=(0,2)):=by show _=_;rw[HE0.out,if_pos ⟨hT,hV,hQ⟩,if_neg (by rw[hF];simp)]
     clear HE0
     generalize levAtR t nw nm f q=RV at *
     go_enter Tryz.func13,Tryz.ntmps13
     go_upto_region 1 with (fail)
     rw[HW0.out]
     obtain⟨t0,t1,t2,t3,t4,t5,t6,t7,t8,t9,t10,t11⟩:=HD.out _ HB.out
     go_wp2_with ((first|(go_at_call 53;with_reducible refine (CN.out _ HB.out).mono ?_)|(go_at_call 54;with_reducible refine (CT.out _ HB.out).mono ?_)|(go_at_call 55;with_reducible refine (CV.out _ HB.out).mono ?_)|(go_at_call 56;with_reducible refine (CQ.out _ HB.out).mono ?_)|(go_at_call 57;with_reducible refine (CF.out _ HB.out).mono ?_)|(go_at_call 58;with_reducible refine (CH.out _ HB.out).mono ?_));rintro e v1 ⟨rfl,hb_⟩;(try clear t0 t1 t2 t3 t4 t5 t6 t7 t8 t9 t10 t11);replace HB:=btr HB hb_;clear hb_;obtain⟨t0,t1,t2,t3,t4,t5,t6,t7,t8,t9,t10,t11⟩:=HD.out _ HB.out)
     go_ret2
     exact⟨by rw[HE.out];rfl,B0.out.trans (HB.out.mono B0.out.size)⟩
    | true =>
     rw[hF] at CF
     cases hI:inTerr t q.place with
     | false =>
      rw[hI] at CH
      have HE:Hid (levAtR t nw nm f q=(0,2)):=by show _=_;rw[HE0.out,if_pos ⟨hT,hV,hQ⟩,if_neg (by rw[hI];simp)]
      clear HE0
      generalize levAtR t nw nm f q=RV at *
      go_enter Tryz.func13,Tryz.ntmps13
      go_upto_region 1 with (fail)
      rw[HW0.out]
      obtain⟨t0,t1,t2,t3,t4,t5,t6,t7,t8,t9,t10,t11⟩:=HD.out _ HB.out
      go_wp2_with ((first|(go_at_call 53;with_reducible refine (CN.out _ HB.out).mono ?_)|(go_at_call 54;with_reducible refine (CT.out _ HB.out).mono ?_)|(go_at_call 55;with_reducible refine (CV.out _ HB.out).mono ?_)|(go_at_call 56;with_reducible refine (CQ.out _ HB.out).mono ?_)|(go_at_call 57;with_reducible refine (CF.out _ HB.out).mono ?_)|(go_at_call 58;with_reducible refine (CH.out _ HB.out).mono ?_));rintro e v1 ⟨rfl,hb_⟩;(try clear t0 t1 t2 t3 t4 t5 t6 t7 t8 t9 t10 t11);replace HB:=btr HB hb_;clear hb_;obtain⟨t0,t1,t2,t3,t4,t5,t6,t7,t8,t9,t10,t11⟩:=HD.out _ HB.out)
      go_ret2
      exact⟨by rw[HE.out];rfl,B0.out.trans (HB.out.mono B0.out.size)⟩
     | true =>
      rw[hI] at CH
      rcases firstIdx_cases' (fun x:DSector=>eqS x.name nm) nw.sectors with ⟨hi,_⟩|⟨k,hk,hi,_,_⟩
      case inl =>
       rw[show idxSector nw.sectors nm = -1 from hi] at CN
       have HE:Hid (levAtR t nw nm f q=(0,3)):=by show _=_;rw[HE0.out,if_pos ⟨hT,hV,hQ⟩,if_pos ⟨hF,hI⟩,if_neg (by rw[show idxSector nw.sectors nm = -1 from hi];omega)]
       clear HE0
       generalize levAtR t nw nm f q=RV at *
       go_enter Tryz.func13,Tryz.ntmps13
       go_upto_region 1 with (fail)
       rw[HW0.out]
       obtain⟨t0,t1,t2,t3,t4,t5,t6,t7,t8,t9,t10,t11⟩:=HD.out _ HB.out
       go_wp2_with ((first|(go_at_call 53;with_reducible refine (CN.out _ HB.out).mono ?_)|(go_at_call 54;with_reducible refine (CT.out _ HB.out).mono ?_)|(go_at_call 55;with_reducible refine (CV.out _ HB.out).mono ?_)|(go_at_call 56;with_reducible refine (CQ.out _ HB.out).mono ?_)|(go_at_call 57;with_reducible refine (CF.out _ HB.out).mono ?_)|(go_at_call 58;with_reducible refine (CH.out _ HB.out).mono ?_));rintro e v1 ⟨rfl,hb_⟩;(try clear t0 t1 t2 t3 t4 t5 t6 t7 t8 t9 t10 t11);replace HB:=btr HB hb_;clear hb_;obtain⟨t0,t1,t2,t3,t4,t5,t6,t7,t8,t9,t10,t11⟩:=HD.out _ HB.out)
       go_ret2
       exact⟨by rw[HE.out];rfl,B0.out.trans (HB.out.mono B0.out.size)⟩
      rw[show idxSector nw.sectors nm=(k:Int) from hi] at CN
      have i1:(0:Int)≤(k:Int):=by omega
      have i2:(k:Int)<(nw.sectors.length:Int):=by omega
      obtain⟨ks,hks,his⟩:=site_of_sector hV hk
      obtain⟨ka,kr,hp⟩:=parts_of_sector hV hk
      have hea:=sector_above hV hk
      obtain⟨f0,f1⟩:=inB_true.1 hF
      have hpb:=inTB_true.1 (show inTB t q.place=true from hI)
      have heb:=(endB_true.1 hQ).2
      have hRT:=fun h:reachB t nw (gSector nw.sectors k) q=true=>reachB_true.1 h
      obtain⟨a',c',e',-,-,hcl⟩:=DSector.rd rnw1
      injection e' with e1 _ e3
      subst e1 e3
      obtain⟨b,off,ea,hbl,hat⟩:=hcl (by omega)
      subst ea
      obtain⟨s0,s1,s2,s3,s4,s5,s6,s7,s8⟩:=hat k hk
      rw[gSector_eq hk] at s0 s1 s2 s3 s4 s5 s6 s7 s8
      clear hat hcl
      have CR:Hid (∀ W:World,Below W0.heap.size W0 W→Calls Tryz.prog 59 #[.agg #[.slice A0 nw.sites.length C0,.slice (some ⟨b,off,none⟩) nw.sectors.length C1,.slice A2 nw.antennas.length C2,.slice A3 nw.radios.length C3],.agg #[.int .i64 t.step,.int .i64 t.width,.int .i64 t.height,vt3,vt4],.agg #[.string (gSector nw.sectors k).name,.string (gSector nw.sectors k).site,.string (gSector nw.sectors k).antenna,.string (gSector nw.sectors k).radio,.string (gSector nw.sectors k).band,.int .i64 (gSector nw.sectors k).azimuth,.int .i64 (gSector nw.sectors k).tilt,.int .i64 (gSector nw.sectors k).above,.int .i64 (gSector nw.sectors k).channel],.agg #[.int .i64 q.place.x,.int .i64 q.place.y,.int .i64 q.above]] W fun e w'=>e=.returned (.bool (reachB t nw (gSector nw.sectors k) q))∧Below W.heap.size W w'):=fun  W hW=>iReach_any t nw (gSector nw.sectors k) q T _ _ _ _ vt3 vt4 ks hks his (by omega) W ((rnw0.below (B0.out.trans (hW.mono B0.out.size))).mono (B0.out.trans (hW.mono B0.out.size)).size)
      have CL:Hid (reachB t nw (gSector nw.sectors k) q=true→∀ W:World,Below W0.heap.size W0 W→Calls Tryz.prog 60 #[.agg #[.slice A0 nw.sites.length C0,.slice (some ⟨b,off,none⟩) nw.sectors.length C1,.slice A2 nw.antennas.length C2,.slice A3 nw.radios.length C3],.agg #[.int .i64 t.step,.int .i64 t.width,.int .i64 t.height,vt3,vt4],.agg #[.string (gSector nw.sectors k).name,.string (gSector nw.sectors k).site,.string (gSector nw.sectors k).antenna,.string (gSector nw.sectors k).radio,.string (gSector nw.sectors k).band,.int .i64 (gSector nw.sectors k).azimuth,.int .i64 (gSector nw.sectors k).tilt,.int .i64 (gSector nw.sectors k).above,.int .i64 (gSector nw.sectors k).channel],.int .i64 f,.agg #[.int .i64 q.place.x,.int .i64 q.place.y,.int .i64 q.above]] W fun e w'=>e=.returned (.int .i64 (levI t nw (gSector nw.sectors k) f q))∧Below W.heap.size W w'):=fun hr W hW=>iLevel_any t nw (gSector nw.sectors k) q T _ _ _ _ vt3 vt4 (hRT hr).1 hpb hea heb (hRT hr).2 ks hks his ka kr hp (by omega) (by omega) (by omega) f f0 f1 W ((rnw0.below (B0.out.trans (hW.mono B0.out.size))).mono (B0.out.trans (hW.mono B0.out.size)).size) ((rnw2.below (B0.out.trans (hW.mono B0.out.size))).mono (B0.out.trans (hW.mono B0.out.size)).size) ((rnw3.below (B0.out.trans (hW.mono B0.out.size))).mono (B0.out.trans (hW.mono B0.out.size)).size) ((rt3.below (B0.out.trans (hW.mono B0.out.size))).mono (B0.out.trans (hW.mono B0.out.size)).size) ((rt4.below (B0.out.trans (hW.mono B0.out.size))).mono (B0.out.trans (hW.mono B0.out.size)).size) (L.mono (B0.out.trans (hW.mono B0.out.size)))
      have HS:Hid (∀ W:World,Below W0.heap.size W0 W→(W.cell? ⟨b,off+k*9,none⟩=some (.string (gSector nw.sectors k).name)∧W.cell? ⟨b,off+k*9+1,none⟩=some (.string (gSector nw.sectors k).site)∧W.cell? ⟨b,off+k*9+2,none⟩=some (.string (gSector nw.sectors k).antenna)∧W.cell? ⟨b,off+k*9+3,none⟩=some (.string (gSector nw.sectors k).radio)∧W.cell? ⟨b,off+k*9+4,none⟩=some (.string (gSector nw.sectors k).band)∧W.cell? ⟨b,off+k*9+5,none⟩=some (.int .i64 (gSector nw.sectors k).azimuth)∧W.cell? ⟨b,off+k*9+6,none⟩=some (.int .i64 (gSector nw.sectors k).tilt)∧W.cell? ⟨b,off+k*9+7,none⟩=some (.int .i64 (gSector nw.sectors k).above)∧W.cell? ⟨b,off+k*9+8,none⟩=some (.int .i64 (gSector nw.sectors k).channel))):=fun W hW=>by
       have hz:=B0.out.size
       exact⟨(bat (B0.out.trans (hW.mono B0.out.size)) b _ hbl).trans s0,(bat (B0.out.trans (hW.mono B0.out.size)) b _ hbl).trans s1,(bat (B0.out.trans (hW.mono B0.out.size)) b _ hbl).trans s2,(bat (B0.out.trans (hW.mono B0.out.size)) b _ hbl).trans s3,(bat (B0.out.trans (hW.mono B0.out.size)) b _ hbl).trans s4,(bat (B0.out.trans (hW.mono B0.out.size)) b _ hbl).trans s5,(bat (B0.out.trans (hW.mono B0.out.size)) b _ hbl).trans s6,(bat (B0.out.trans (hW.mono B0.out.size)) b _ hbl).trans s7,(bat (B0.out.trans (hW.mono B0.out.size)) b _ hbl).trans s8⟩
      have hbW:b<W0.heap.size:=by have:=B0.out.size;omega
      clear s0 s1 s2 s3 s4 s5 s6 s7 s8
      have HR:Hid (reachB t nw (gSector nw.sectors k) q=(inTerr t (endR nw (gSector nw.sectors k)).place&&!(decide ((endR nw (gSector nw.sectors k)).place.x=q.place.x)&&decide ((endR nw (gSector nw.sectors k)).place.y=q.place.y)))):=rfl
      clear rnw0 rnw1 rnw2 rnw3 rt3 rt4 T hks his hp hea heb hpb hRT L
      cases hR:reachB t nw (gSector nw.sectors k) q with
      | false =>
       rw[hR] at CR
       have HE:Hid (levAtR t nw nm f q=(0,6)):=by show _=_;rw[HE0.out,if_pos ⟨hT,hV,hQ⟩,if_pos ⟨hF,hI⟩,if_pos (by rw[show idxSector nw.sectors nm=(k:Int) from hi];omega),show idxSector nw.sectors nm=(k:Int) from hi,Int.toNat_natCast,if_neg (by rw[hR];simp)]
       clear HE0 hi hT hV hQ hF hI
       clear hR HR CL
       generalize levAtR t nw nm f q=RV at *
       generalize levI t nw (gSector nw.sectors k) f q=LV at *
       generalize endR nw (gSector nw.sectors k)=ER at *
       generalize gSector nw.sectors k=x at *
       go_enter Tryz.func13,Tryz.ntmps13
       go_upto_region 1 with (fail)
       rw[HW0.out]
       obtain⟨t0,t1,t2,t3,t4,t5,t6,t7,t8,t9,t10,t11⟩:=HD.out _ HB.out
       go_upto_region 8 with ((first|(go_at_call 53;with_reducible refine (CN.out _ HB.out).mono ?_)|(go_at_call 54;with_reducible refine (CT.out _ HB.out).mono ?_)|(go_at_call 55;with_reducible refine (CV.out _ HB.out).mono ?_)|(go_at_call 56;with_reducible refine (CQ.out _ HB.out).mono ?_)|(go_at_call 57;with_reducible refine (CF.out _ HB.out).mono ?_)|(go_at_call 58;with_reducible refine (CH.out _ HB.out).mono ?_));rintro e v1 ⟨rfl,hb_⟩;(try clear t0 t1 t2 t3 t4 t5 t6 t7 t8 t9 t10 t11);replace HB:=btr HB hb_;clear hb_;obtain⟨t0,t1,t2,t3,t4,t5,t6,t7,t8,t9,t10,t11⟩:=HD.out _ HB.out)
       obtain⟨s0,s1,s2,s3,s4,s5,s6,s7,s8⟩:=HS.out _ HB.out
       have hbc:b<v1.heap.size:=by have:=HB.out.size;omega
       have o0:=overC (w0:=v1) (show w.heap.size<v1.heap.size by have:=HB.out.size;omega)
       have o1:=overC (w0:=v1) (show (w.heap.size+1)<v1.heap.size by have:=HB.out.size;omega)
       have o2:=overC (w0:=v1) (show (w.heap.size+2)<v1.heap.size by have:=HB.out.size;omega)
       have o3:=overC (w0:=v1) (show b<v1.heap.size by have:=HB.out.size;omega)
       refine wp_region_over v1.heap.size v1 (Below.refl _ _) (by kernel_rfl) (by kernel_rfl) ?_
       repeat (go_big_quiet_step (first|(go_at_call 59;with_reducible exact over_left (Nat.le_refl _) (CR.out _ (HB.out.trans ((over_below _ _ _).mono HB.out.size))))))
       refine wpQuiet_nil ?_
       rintro _ ⟨X,rfl⟩
       replace HB:=btr HB (over_below v1.heap.size v1 X)
       clear o0 o1 o2 o3
       (try clear t0 t1 t2 t3 t4 t5 t6 t7 t8 t9 t10 t11)
       clear hbc s0 s1 s2 s3 s4 s5 s6 s7 s8
       generalize over v1.heap.size v1 X=u2 at *
       obtain⟨t0,t1,t2,t3,t4,t5,t6,t7,t8,t9,t10,t11⟩:=HD.out _ HB.out
       go_wp2
       go_ret2
       exact⟨by rw[HE.out];rfl,B0.out.trans (HB.out.mono B0.out.size)⟩
      | true =>
       rw[hR] at CR
       have CLV:=Lib.hid (CL.out hR)
       have HE:Hid (levAtR t nw nm f q=(levI t nw (gSector nw.sectors k) f q,0)):=by show _=_;rw[HE0.out,if_pos ⟨hT,hV,hQ⟩,if_pos ⟨hF,hI⟩,if_pos (by rw[show idxSector nw.sectors nm=(k:Int) from hi];omega),show idxSector nw.sectors nm=(k:Int) from hi,Int.toNat_natCast,if_pos hR]
       clear HE0 hi hT hV hQ hF hI
       clear hR HR CL
       generalize levAtR t nw nm f q=RV at *
       generalize levI t nw (gSector nw.sectors k) f q=LV at *
       generalize endR nw (gSector nw.sectors k)=ER at *
       generalize gSector nw.sectors k=x at *
       go_enter Tryz.func13,Tryz.ntmps13
       go_upto_region 1 with (fail)
       rw[HW0.out]
       obtain⟨t0,t1,t2,t3,t4,t5,t6,t7,t8,t9,t10,t11⟩:=HD.out _ HB.out
       go_upto_region 8 with ((first|(go_at_call 53;with_reducible refine (CN.out _ HB.out).mono ?_)|(go_at_call 54;with_reducible refine (CT.out _ HB.out).mono ?_)|(go_at_call 55;with_reducible refine (CV.out _ HB.out).mono ?_)|(go_at_call 56;with_reducible refine (CQ.out _ HB.out).mono ?_)|(go_at_call 57;with_reducible refine (CF.out _ HB.out).mono ?_)|(go_at_call 58;with_reducible refine (CH.out _ HB.out).mono ?_));rintro e v1 ⟨rfl,hb_⟩;(try clear t0 t1 t2 t3 t4 t5 t6 t7 t8 t9 t10 t11);replace HB:=btr HB hb_;clear hb_;obtain⟨t0,t1,t2,t3,t4,t5,t6,t7,t8,t9,t10,t11⟩:=HD.out _ HB.out)
       obtain⟨s0,s1,s2,s3,s4,s5,s6,s7,s8⟩:=HS.out _ HB.out
       have hbc:b<v1.heap.size:=by have:=HB.out.size;omega
       have o0:=overC (w0:=v1) (show w.heap.size<v1.heap.size by have:=HB.out.size;omega)
       have o1:=overC (w0:=v1) (show (w.heap.size+1)<v1.heap.size by have:=HB.out.size;omega)
       have o2:=overC (w0:=v1) (show (w.heap.size+2)<v1.heap.size by have:=HB.out.size;omega)
       have o3:=overC (w0:=v1) (show b<v1.heap.size by have:=HB.out.size;omega)
       refine wp_region_over v1.heap.size v1 (Below.refl _ _) (by kernel_rfl) (by kernel_rfl) ?_
       repeat (go_big_quiet_step (first|(go_at_call 59;with_reducible exact over_left (Nat.le_refl _) (CR.out _ (HB.out.trans ((over_below _ _ _).mono HB.out.size))))))
       refine wpQuiet_nil ?_
       rintro _ ⟨X,rfl⟩
       replace HB:=btr HB (over_below v1.heap.size v1 X)
       clear o0 o1 o2 o3
       (try clear t0 t1 t2 t3 t4 t5 t6 t7 t8 t9 t10 t11)
       clear hbc s0 s1 s2 s3 s4 s5 s6 s7 s8
       generalize over v1.heap.size v1 X=u2 at *
       obtain⟨t0,t1,t2,t3,t4,t5,t6,t7,t8,t9,t10,t11⟩:=HD.out _ HB.out
       go_upto_region 10 with (fail)
       obtain⟨s0,s1,s2,s3,s4,s5,s6,s7,s8⟩:=HS.out _ HB.out
       have hbc:b<u2.heap.size:=by have:=HB.out.size;omega
       have o0:=overC (w0:=u2) (show w.heap.size<u2.heap.size by have:=HB.out.size;omega)
       have o1:=overC (w0:=u2) (show (w.heap.size+1)<u2.heap.size by have:=HB.out.size;omega)
       have o2:=overC (w0:=u2) (show (w.heap.size+2)<u2.heap.size by have:=HB.out.size;omega)
       have o3:=overC (w0:=u2) (show b<u2.heap.size by have:=HB.out.size;omega)
       refine wp_region_over u2.heap.size u2 (Below.refl _ _) (by kernel_rfl) (by kernel_rfl) ?_
       repeat (go_big_quiet_step (first|(go_at_call 60;with_reducible exact over_left (Nat.le_refl _) (CLV.out _ (HB.out.trans ((over_below _ _ _).mono HB.out.size))))))
       refine wpQuiet_nil ?_
       rintro _ ⟨X,rfl⟩
       replace HB:=btr HB (over_below u2.heap.size u2 X)
       clear o0 o1 o2 o3
       (try clear t0 t1 t2 t3 t4 t5 t6 t7 t8 t9 t10 t11)
       clear hbc s0 s1 s2 s3 s4 s5 s6 s7 s8
       generalize over u2.heap.size u2 X=u3 at *
       obtain⟨t0,t1,t2,t3,t4,t5,t6,t7,t8,t9,t10,t11⟩:=HD.out _ HB.out
       go_wp2
       go_ret2
       exact⟨by rw[HE.out];rfl,B0.out.trans (HB.out.mono B0.out.size)⟩
theorem sLevelAt_std (t:DTerrain) (nw:DNetwork) (nm:ByteArray) (f:Int) (q:DEnd) (vt3 vt4 vnw0 vnw1 vnw2 vnw3:Value) (w:World) (rt3:Rd w.heap.size w (intsT t.heights) vt3) (rt4:Rd w.heap.size w (intsT t.clutter) vt4) (rnw0:Rd w.heap.size w (DSite.sT nw.sites) vnw0) (rnw1:Rd w.heap.size w (DSector.sT nw.sectors) vnw1) (rnw2:Rd w.heap.size w (DAntenna.sT nw.antennas) vnw2) (rnw3:Rd w.heap.size w (DRadio.sT nw.radios) vnw3) (hs_t:sizL t.tr≤1048576) (hk_t:t.ok) (hs_nw:sizL nw.tr≤1048576) (hk_nw:nw.ok) (hs_nm:nm.size≤1048576) (hk_f:I64 f) (hk_q:q.ok) :
  Calls Tryz.prog 9 #[.agg #[.int .i64 t.step,.int .i64 t.width,.int .i64 t.height,vt3,vt4],.agg #[vnw0,vnw1,vnw2,vnw3],.string nm,.int .i64 f,.agg #[.int .i64 q.place.x,.int .i64 q.place.y,.int .i64 q.above]] w (fun e w'=>e=.returned (.tuple #[.int .i64 (levAtR t nw nm f q).1,.int .i64 (levAtR t nw nm f q).2])∧Below w.heap.size w w'):=by
 have hq:=DNetwork.siz_tr nw
 rw[DSite.siz_s,DSector.siz_s,DAntenna.siz_s,DRadio.siz_s] at hq
 have hqt:=DTerrain.siz_tr t
 rw[siz_ints,siz_ints] at hqt
 obtain⟨A0,C0,e0,_,_,_⟩:=DSite.rd rnw0
 obtain⟨A1,C1,e1,_,_,_⟩:=DSector.rd rnw1
 obtain⟨A2,C2,e2,_,_,_⟩:=DAntenna.rd rnw2
 obtain⟨A3,C3,e3,_,_,_⟩:=DRadio.rd rnw3
 subst e0 e1 e2 e3
 have HE0:Hid (levAtR t nw nm f q=if terrB t=true∧netB nw=true∧endB q=true then (if inB f 1 100000000=true∧inTerr t q.place=true then (if 0≤idxSector nw.sectors nm then (if reachB t nw (gSector nw.sectors (idxSector nw.sectors nm).toNat) q=true then (levI t nw (gSector nw.sectors (idxSector nw.sectors nm).toNat) f q,0) else (0,6)) else (0,3)) else (0,2)) else (0,1)):=rfl
 obtain⟨W0,hW0,b0_,z0,k0,k1,k2⟩:=boxes3 w #[.int .i64 t.step,.int .i64 t.width,.int .i64 t.height,vt3,vt4] 39 #[.slice A0 nw.sites.length C0,.slice A1 nw.sectors.length C1,.slice A2 nw.antennas.length C2,.slice A3 nw.radios.length C3] 46 #[.int .i64 q.place.x,.int .i64 q.place.y,.int .i64 q.above] 50
 have e0_0:=bkC (v:=.int .i64 t.step) k0 0 rfl
 have e0_1:=bkC (v:=.int .i64 t.width) k0 1 rfl
 have e0_2:=bkC (v:=.int .i64 t.height) k0 2 rfl
 have e0_3:=bkC (v:=vt3) k0 3 rfl
 have e0_4:=bkC (v:=vt4) k0 4 rfl
 have e1_0:=bkC (v:=.slice A0 nw.sites.length C0) k1 0 rfl
 have e1_1:=bkC (v:=.slice A1 nw.sectors.length C1) k1 1 rfl
 have e1_2:=bkC (v:=.slice A2 nw.antennas.length C2) k1 2 rfl
 have e1_3:=bkC (v:=.slice A3 nw.radios.length C3) k1 3 rfl
 have e2_0:=bkC (v:=.int .i64 q.place.x) k2 0 rfl
 have e2_1:=bkC (v:=.int .i64 q.place.y) k2 1 rfl
 have e2_2:=bkC (v:=.int .i64 q.above) k2 2 rfl
 have HW0:=Lib.hid hW0
 have B0:=Lib.hid b0_
 have HD:Hid (∀ W:World,Below W0.heap.size W0 W→(W.cell? ⟨w.heap.size,0,none⟩=some (.int .i64 t.step)∧W.cell? ⟨w.heap.size,1,none⟩=some (.int .i64 t.width)∧W.cell? ⟨w.heap.size,2,none⟩=some (.int .i64 t.height)∧W.cell? ⟨w.heap.size,3,none⟩=some (vt3)∧W.cell? ⟨w.heap.size,4,none⟩=some (vt4)∧W.cell? ⟨w.heap.size+1,0,none⟩=some (.slice A0 nw.sites.length C0)∧W.cell? ⟨w.heap.size+1,1,none⟩=some (.slice A1 nw.sectors.length C1)∧W.cell? ⟨w.heap.size+1,2,none⟩=some (.slice A2 nw.antennas.length C2)∧W.cell? ⟨w.heap.size+1,3,none⟩=some (.slice A3 nw.radios.length C3)∧W.cell? ⟨w.heap.size+2,0,none⟩=some (.int .i64 q.place.x)∧W.cell? ⟨w.heap.size+2,1,none⟩=some (.int .i64 q.place.y)∧W.cell? ⟨w.heap.size+2,2,none⟩=some (.int .i64 q.above))):=fun W hW=>⟨(bat hW w.heap.size _ (by omega)).trans e0_0,(bat hW w.heap.size _ (by omega)).trans e0_1,(bat hW w.heap.size _ (by omega)).trans e0_2,(bat hW w.heap.size _ (by omega)).trans e0_3,(bat hW w.heap.size _ (by omega)).trans e0_4,(bat hW (w.heap.size+1) _ (by omega)).trans e1_0,(bat hW (w.heap.size+1) _ (by omega)).trans e1_1,(bat hW (w.heap.size+1) _ (by omega)).trans e1_2,(bat hW (w.heap.size+1) _ (by omega)).trans e1_3,(bat hW (w.heap.size+2) _ (by omega)).trans e2_0,(bat hW (w.heap.size+2) _ (by omega)).trans e2_1,(bat hW (w.heap.size+2) _ (by omega)).trans e2_2⟩
 have HB:Hid (Below W0.heap.size W0 W0):=Below.refl _ _
 clear k0 k1 k2 e0_0 e0_1 e0_2 e0_3 e0_4 e1_0 e1_1 e1_2 e1_3 e2_0 e2_1 e2_2 hW0 b0_
 have CT:Hid (∀ W:World,Below W0.heap.size W0 W→Calls Tryz.prog 39 #[.pointer (some ⟨w.heap.size,0,none⟩)] W fun e w'=>e=.returned (.bool (terrB t))∧Below W.heap.size W w'):=fun  W hW=>l04Ok_any t vt3 vt4 w.heap.size 0 w.heap.size W (rt3.below (B0.out.trans (hW.mono B0.out.size))) (rt4.below (B0.out.trans (hW.mono B0.out.size))) (B0.out.trans (hW.mono B0.out.size)).size (HD.out W hW).1 (HD.out W hW).2.1 (HD.out W hW).2.2.1 (HD.out W hW).2.2.2.1 (HD.out W hW).2.2.2.2.1 (by omega) (by omega)
 have CV:Hid (∀ W:World,Below W0.heap.size W0 W→Calls Tryz.prog 40 #[.pointer (some ⟨(w.heap.size+1),0,none⟩)] W fun e w'=>e=.returned (.bool (netB nw))∧Below W.heap.size W w'):=fun  W hW=>l14Ok_any nw _ _ _ _ (w.heap.size+1) W ((rnw0.below (B0.out.trans (hW.mono B0.out.size))).mono (B0.out.trans (hW.mono B0.out.size)).size) ((rnw1.below (B0.out.trans (hW.mono B0.out.size))).mono (B0.out.trans (hW.mono B0.out.size)).size) ((rnw2.below (B0.out.trans (hW.mono B0.out.size))).mono (B0.out.trans (hW.mono B0.out.size)).size) ((rnw3.below (B0.out.trans (hW.mono B0.out.size))).mono (B0.out.trans (hW.mono B0.out.size)).size) (by have:=hW.size;omega) (HD.out W hW).2.2.2.2.2.1 (HD.out W hW).2.2.2.2.2.2.1 (HD.out W hW).2.2.2.2.2.2.2.1 (HD.out W hW).2.2.2.2.2.2.2.2.1 (by omega) hk_nw
 have CQ:Hid (∀ W:World,Below W0.heap.size W0 W→Calls Tryz.prog 41 #[.agg #[.int .i64 q.place.x,.int .i64 q.place.y,.int .i64 q.above]] W fun e w'=>e=.returned (.bool (endB q))∧Below W.heap.size W w'):=fun  W hW=>l12End_any q W
 have CF:Hid (∀ W:World,Below W0.heap.size W0 W→Calls Tryz.prog 42 #[.int .i64 f] W fun e w'=>e=.returned (.bool (inB f 1 100000000))∧Below W.heap.size W w'):=fun  W hW=>same_below (l05Frequency_any f W)
 have CN:Hid (∀ W:World,Below W0.heap.size W0 W→Calls Tryz.prog 44 #[.pointer (some ⟨(w.heap.size+1),0,none⟩),.string nm] W fun e w'=>e=.returned (.int .i64 (idxSector nw.sectors nm))∧Below W.heap.size W w'):=fun  W hW=>same_below (l14Find_any nw.sectors nm _ (w.heap.size+1) w.heap.size W (rnw1.below (B0.out.trans (hW.mono B0.out.size))) (B0.out.trans (hW.mono B0.out.size)).size (HD.out W hW).2.2.2.2.2.2.1 (by omega))
 cases hT:terrB t with
 | false =>
  rw[hT] at CT
  have HE:Hid (levAtR t nw nm f q=(0,1)):=by show _=_;rw[HE0.out,if_neg (by rw[hT];simp)]
  clear HE0
  generalize levAtR t nw nm f q=RV at *
  go_enter Tryz.func9,Tryz.ntmps9
  go_upto_region 1 with (fail)
  rw[HW0.out]
  obtain⟨t0,t1,t2,t3,t4,t5,t6,t7,t8,t9,t10,t11⟩:=HD.out _ HB.out
  go_wp2_with ((first|(go_at_call 39;with_reducible refine (CT.out _ HB.out).mono ?_)|(go_at_call 40;with_reducible refine (CV.out _ HB.out).mono ?_)|(go_at_call 41;with_reducible refine (CQ.out _ HB.out).mono ?_)|(go_at_call 42;with_reducible refine (CF.out _ HB.out).mono ?_)|(go_at_call 44;with_reducible refine (CN.out _ HB.out).mono ?_));rintro e v1 ⟨rfl,hb_⟩;(try clear t0 t1 t2 t3 t4 t5 t6 t7 t8 t9 t10 t11);replace HB:=btr HB hb_;clear hb_;obtain⟨t0,t1,t2,t3,t4,t5,t6,t7,t8,t9,t10,t11⟩:=HD.out _ HB.out)
  go_ret2
  exact⟨by rw[HE.out];rfl,B0.out.trans (HB.out.mono B0.out.size)⟩
 | true =>
  rw[hT] at CT
  have T:=terrB_ok hT
  have CH:Hid (∀ W:World,Below W0.heap.size W0 W→Calls Tryz.prog 43 #[.pointer (some ⟨w.heap.size,0,none⟩),.agg #[.int .i64 q.place.x,.int .i64 q.place.y]] W fun e w'=>e=.returned (.bool (inTerr t q.place))∧Below W.heap.size W w'):=fun  W hW=>l04In_any t q.place w.heap.size 0 ⟨T.w0,T.w1⟩ ⟨T.h0,T.h1⟩ ⟨T.mw.1,Int.le_trans T.mw.2 (by decide)⟩ ⟨T.mh.1,Int.le_trans T.mh.2 (by decide)⟩ W (HD.out W hW).1 (HD.out W hW).2.1 (HD.out W hW).2.2.1
  cases hV:netB nw with
  | false =>
   rw[hV] at CV
   have HE:Hid (levAtR t nw nm f q=(0,1)):=by show _=_;rw[HE0.out,if_neg (by rw[hV];simp)]
   clear HE0
   generalize levAtR t nw nm f q=RV at *
   go_enter Tryz.func9,Tryz.ntmps9
   go_upto_region 1 with (fail)
   rw[HW0.out]
   obtain⟨t0,t1,t2,t3,t4,t5,t6,t7,t8,t9,t10,t11⟩:=HD.out _ HB.out
   go_wp2_with ((first|(go_at_call 39;with_reducible refine (CT.out _ HB.out).mono ?_)|(go_at_call 40;with_reducible refine (CV.out _ HB.out).mono ?_)|(go_at_call 41;with_reducible refine (CQ.out _ HB.out).mono ?_)|(go_at_call 42;with_reducible refine (CF.out _ HB.out).mono ?_)|(go_at_call 44;with_reducible refine (CN.out _ HB.out).mono ?_)|(go_at_call 43;with_reducible refine (CH.out _ HB.out).mono ?_));rintro e v1 ⟨rfl,hb_⟩;(try clear t0 t1 t2 t3 t4 t5 t6 t7 t8 t9 t10 t11);replace HB:=btr HB hb_;clear hb_;obtain⟨t0,t1,t2,t3,t4,t5,t6,t7,t8,t9,t10,t11⟩:=HD.out _ HB.out)
   go_ret2
   exact⟨by rw[HE.out];rfl,B0.out.trans (HB.out.mono B0.out.size)⟩
  | true =>
   rw[hV] at CV
   cases hQ:endB q with
   | false =>
    rw[hQ] at CQ
    have HE:Hid (levAtR t nw nm f q=(0,1)):=by show _=_;rw[HE0.out,if_neg (by rw[hQ];simp)]
    clear HE0
    generalize levAtR t nw nm f q=RV at *
    go_enter Tryz.func9,Tryz.ntmps9
    go_upto_region 1 with (fail)
    rw[HW0.out]
    obtain⟨t0,t1,t2,t3,t4,t5,t6,t7,t8,t9,t10,t11⟩:=HD.out _ HB.out
    go_wp2_with ((first|(go_at_call 39;with_reducible refine (CT.out _ HB.out).mono ?_)|(go_at_call 40;with_reducible refine (CV.out _ HB.out).mono ?_)|(go_at_call 41;with_reducible refine (CQ.out _ HB.out).mono ?_)|(go_at_call 42;with_reducible refine (CF.out _ HB.out).mono ?_)|(go_at_call 44;with_reducible refine (CN.out _ HB.out).mono ?_)|(go_at_call 43;with_reducible refine (CH.out _ HB.out).mono ?_));rintro e v1 ⟨rfl,hb_⟩;(try clear t0 t1 t2 t3 t4 t5 t6 t7 t8 t9 t10 t11);replace HB:=btr HB hb_;clear hb_;obtain⟨t0,t1,t2,t3,t4,t5,t6,t7,t8,t9,t10,t11⟩:=HD.out _ HB.out)
    go_ret2
    exact⟨by rw[HE.out];rfl,B0.out.trans (HB.out.mono B0.out.size)⟩
   | true =>
    rw[hQ] at CQ
    cases hF:inB f 1 100000000 with
    | false =>
     rw[hF] at CF
     have HE:Hid (levAtR t nw nm f q=(0,2)):=by show _=_;rw[HE0.out,if_pos ⟨hT,hV,hQ⟩,if_neg (by rw[hF];simp)]
     clear HE0
     generalize levAtR t nw nm f q=RV at *
     go_enter Tryz.func9,Tryz.ntmps9
     go_upto_region 1 with (fail)
     rw[HW0.out]
     obtain⟨t0,t1,t2,t3,t4,t5,t6,t7,t8,t9,t10,t11⟩:=HD.out _ HB.out
     go_wp2_with ((first|(go_at_call 39;with_reducible refine (CT.out _ HB.out).mono ?_)|(go_at_call 40;with_reducible refine (CV.out _ HB.out).mono ?_)|(go_at_call 41;with_reducible refine (CQ.out _ HB.out).mono ?_)|(go_at_call 42;with_reducible refine (CF.out _ HB.out).mono ?_)|(go_at_call 44;with_reducible refine (CN.out _ HB.out).mono ?_)|(go_at_call 43;with_reducible refine (CH.out _ HB.out).mono ?_));rintro e v1 ⟨rfl,hb_⟩;(try clear t0 t1 t2 t3 t4 t5 t6 t7 t8 t9 t10 t11);replace HB:=btr HB hb_;clear hb_;obtain⟨t0,t1,t2,t3,t4,t5,t6,t7,t8,t9,t10,t11⟩:=HD.out _ HB.out)
     go_ret2
     exact⟨by rw[HE.out];rfl,B0.out.trans (HB.out.mono B0.out.size)⟩
    | true =>
     rw[hF] at CF
     cases hI:inTerr t q.place with
     | false =>
      rw[hI] at CH
      have HE:Hid (levAtR t nw nm f q=(0,2)):=by show _=_;rw[HE0.out,if_pos ⟨hT,hV,hQ⟩,if_neg (by rw[hI];simp)]
      clear HE0
      generalize levAtR t nw nm f q=RV at *
      go_enter Tryz.func9,Tryz.ntmps9
      go_upto_region 1 with (fail)
      rw[HW0.out]
      obtain⟨t0,t1,t2,t3,t4,t5,t6,t7,t8,t9,t10,t11⟩:=HD.out _ HB.out
      go_wp2_with ((first|(go_at_call 39;with_reducible refine (CT.out _ HB.out).mono ?_)|(go_at_call 40;with_reducible refine (CV.out _ HB.out).mono ?_)|(go_at_call 41;with_reducible refine (CQ.out _ HB.out).mono ?_)|(go_at_call 42;with_reducible refine (CF.out _ HB.out).mono ?_)|(go_at_call 44;with_reducible refine (CN.out _ HB.out).mono ?_)|(go_at_call 43;with_reducible refine (CH.out _ HB.out).mono ?_));rintro e v1 ⟨rfl,hb_⟩;(try clear t0 t1 t2 t3 t4 t5 t6 t7 t8 t9 t10 t11);replace HB:=btr HB hb_;clear hb_;obtain⟨t0,t1,t2,t3,t4,t5,t6,t7,t8,t9,t10,t11⟩:=HD.out _ HB.out)
      go_ret2
      exact⟨by rw[HE.out];rfl,B0.out.trans (HB.out.mono B0.out.size)⟩
     | true =>
      rw[hI] at CH
      rcases firstIdx_cases' (fun x:DSector=>eqS x.name nm) nw.sectors with ⟨hi,_⟩|⟨k,hk,hi,_,_⟩
      case inl =>
       rw[show idxSector nw.sectors nm = -1 from hi] at CN
       have HE:Hid (levAtR t nw nm f q=(0,3)):=by show _=_;rw[HE0.out,if_pos ⟨hT,hV,hQ⟩,if_pos ⟨hF,hI⟩,if_neg (by rw[show idxSector nw.sectors nm = -1 from hi];omega)]
       clear HE0
       generalize levAtR t nw nm f q=RV at *
       go_enter Tryz.func9,Tryz.ntmps9
       go_upto_region 1 with (fail)
       rw[HW0.out]
       obtain⟨t0,t1,t2,t3,t4,t5,t6,t7,t8,t9,t10,t11⟩:=HD.out _ HB.out
       go_wp2_with ((first|(go_at_call 39;with_reducible refine (CT.out _ HB.out).mono ?_)|(go_at_call 40;with_reducible refine (CV.out _ HB.out).mono ?_)|(go_at_call 41;with_reducible refine (CQ.out _ HB.out).mono ?_)|(go_at_call 42;with_reducible refine (CF.out _ HB.out).mono ?_)|(go_at_call 44;with_reducible refine (CN.out _ HB.out).mono ?_)|(go_at_call 43;with_reducible refine (CH.out _ HB.out).mono ?_));rintro e v1 ⟨rfl,hb_⟩;(try clear t0 t1 t2 t3 t4 t5 t6 t7 t8 t9 t10 t11);replace HB:=btr HB hb_;clear hb_;obtain⟨t0,t1,t2,t3,t4,t5,t6,t7,t8,t9,t10,t11⟩:=HD.out _ HB.out)
       go_ret2
       exact⟨by rw[HE.out];rfl,B0.out.trans (HB.out.mono B0.out.size)⟩
      rw[show idxSector nw.sectors nm=(k:Int) from hi] at CN
      have i1:(0:Int)≤(k:Int):=by omega
      have i2:(k:Int)<(nw.sectors.length:Int):=by omega
      obtain⟨ks,hks,his⟩:=site_of_sector hV hk
      obtain⟨ka,kr,hp⟩:=parts_of_sector hV hk
      have hea:=sector_above hV hk
      obtain⟨f0,f1⟩:=inB_true.1 hF
      have hpb:=inTB_true.1 (show inTB t q.place=true from hI)
      have heb:=(endB_true.1 hQ).2
      have hRT:=fun h:reachB t nw (gSector nw.sectors k) q=true=>reachB_true.1 h
      have CE:Hid (∀ W:World,Below W0.heap.size W0 W→Calls Tryz.prog 45 #[.pointer (some ⟨(w.heap.size+1),0,none⟩),.int .i64 (k:Int)] W fun e w'=>e=.returned (.agg #[.int .i64 (endR nw (gSector nw.sectors k)).place.x,.int .i64 (endR nw (gSector nw.sectors k)).place.y,.int .i64 (endR nw (gSector nw.sectors k)).above])∧Below W.heap.size W w'):=fun  W hW=>l14End_any nw _ _ (w.heap.size+1) k W ((rnw0.below (B0.out.trans (hW.mono B0.out.size))).mono (B0.out.trans (hW.mono B0.out.size)).size) ((rnw1.below (B0.out.trans (hW.mono B0.out.size))).mono (B0.out.trans (hW.mono B0.out.size)).size) (by have:=hW.size;omega) (HD.out W hW).2.2.2.2.2.1 (HD.out W hW).2.2.2.2.2.2.1 (by omega) (by omega) hk ks hks his
      have CH2:Hid (∀ W:World,Below W0.heap.size W0 W→Calls Tryz.prog 43 #[.pointer (some ⟨w.heap.size,0,none⟩),.agg #[.int .i64 (endR nw (gSector nw.sectors k)).place.x,.int .i64 (endR nw (gSector nw.sectors k)).place.y]] W fun e w'=>e=.returned (.bool (inTerr t (endR nw (gSector nw.sectors k)).place))∧Below W.heap.size W w'):=fun  W hW=>l04In_any t (endR nw (gSector nw.sectors k)).place w.heap.size 0 ⟨T.w0,T.w1⟩ ⟨T.h0,T.h1⟩ ⟨T.mw.1,Int.le_trans T.mw.2 (by decide)⟩ ⟨T.mh.1,Int.le_trans T.mh.2 (by decide)⟩ W (HD.out W hW).1 (HD.out W hW).2.1 (HD.out W hW).2.2.1
      have CL:Hid (reachB t nw (gSector nw.sectors k) q=true→∀ W:World,Below W0.heap.size W0 W→Calls Tryz.prog 46 #[.pointer (some ⟨w.heap.size,0,none⟩),.pointer (some ⟨(w.heap.size+1),0,none⟩),.int .i64 (k:Int),.int .i64 f,.agg #[.int .i64 q.place.x,.int .i64 q.place.y,.int .i64 q.above]] W fun e w'=>e=.returned (.int .i64 (levI t nw (gSector nw.sectors k) f q))∧Below W.heap.size W w'):=fun hr W hW=>l14Level_any t nw k hk q T _ _ _ _ vt3 vt4 w.heap.size 0 (w.heap.size+1) (hRT hr).1 hpb hea heb (hRT hr).2 ks hks his ka kr hp (by omega) (by omega) (by omega) (by omega) f f0 f1 W ((rnw0.below (B0.out.trans (hW.mono B0.out.size))).mono (B0.out.trans (hW.mono B0.out.size)).size) ((rnw1.below (B0.out.trans (hW.mono B0.out.size))).mono (B0.out.trans (hW.mono B0.out.size)).size) ((rnw2.below (B0.out.trans (hW.mono B0.out.size))).mono (B0.out.trans (hW.mono B0.out.size)).size) ((rnw3.below (B0.out.trans (hW.mono B0.out.size))).mono (B0.out.trans (hW.mono B0.out.size)).size) ((rt3.below (B0.out.trans (hW.mono B0.out.size))).mono (B0.out.trans (hW.mono B0.out.size)).size) ((rt4.below (B0.out.trans (hW.mono B0.out.size))).mono (B0.out.trans (hW.mono B0.out.size)).size) (by have:=hW.size;omega) (HD.out W hW).1 (HD.out W hW).2.1 (HD.out W hW).2.2.1 (HD.out W hW).2.2.2.1 (HD.out W hW).2.2.2.2.1 (HD.out W hW).2.2.2.2.2.1 (HD.out W hW).2.2.2.2.2.2.1 (HD.out W hW).2.2.2.2.2.2.2.1 (HD.out W hW).2.2.2.2.2.2.2.2.1
      have HR:Hid (reachB t nw (gSector nw.sectors k) q=(inTerr t (endR nw (gSector nw.sectors k)).place&&!(decide ((endR nw (gSector nw.sectors k)).place.x=q.place.x)&&decide ((endR nw (gSector nw.sectors k)).place.y=q.place.y)))):=rfl
      clear rnw0 rnw1 rnw2 rnw3 rt3 rt4 T hks his hp hea heb hpb hRT
      cases hJ:inTerr t (endR nw (gSector nw.sectors k)).place with
      | false =>
       rw[hJ] at CH2
       have hR:reachB t nw (gSector nw.sectors k) q=false:=by rw[HR.out,hJ];rfl
       clear hJ
       have HE:Hid (levAtR t nw nm f q=(0,6)):=by show _=_;rw[HE0.out,if_pos ⟨hT,hV,hQ⟩,if_pos ⟨hF,hI⟩,if_pos (by rw[show idxSector nw.sectors nm=(k:Int) from hi];omega),show idxSector nw.sectors nm=(k:Int) from hi,Int.toNat_natCast,if_neg (by rw[hR];simp)]
       clear HE0 hi hT hV hQ hF hI
       clear hR HR CL
       generalize levAtR t nw nm f q=RV at *
       generalize levI t nw (gSector nw.sectors k) f q=LV at *
       generalize endR nw (gSector nw.sectors k)=ER at *
       generalize gSector nw.sectors k=x at *
       skip
       go_enter Tryz.func9,Tryz.ntmps9
       go_upto_region 1 with (fail)
       rw[HW0.out]
       obtain⟨t0,t1,t2,t3,t4,t5,t6,t7,t8,t9,t10,t11⟩:=HD.out _ HB.out
       go_upto_region 8 with ((first|(go_at_call 39;with_reducible refine (CT.out _ HB.out).mono ?_)|(go_at_call 40;with_reducible refine (CV.out _ HB.out).mono ?_)|(go_at_call 41;with_reducible refine (CQ.out _ HB.out).mono ?_)|(go_at_call 42;with_reducible refine (CF.out _ HB.out).mono ?_)|(go_at_call 44;with_reducible refine (CN.out _ HB.out).mono ?_)|(go_at_call 43;with_reducible refine (CH.out _ HB.out).mono ?_));rintro e v1 ⟨rfl,hb_⟩;(try clear t0 t1 t2 t3 t4 t5 t6 t7 t8 t9 t10 t11);replace HB:=btr HB hb_;clear hb_;obtain⟨t0,t1,t2,t3,t4,t5,t6,t7,t8,t9,t10,t11⟩:=HD.out _ HB.out)
       go_upto_region 9 with (go_at_call 45;with_reducible refine (CE.out _ HB.out).mono ?_;rintro e v2 ⟨rfl,hb_⟩;(try clear t0 t1 t2 t3 t4 t5 t6 t7 t8 t9 t10 t11);replace HB:=btr HB hb_;clear hb_;obtain⟨t0,t1,t2,t3,t4,t5,t6,t7,t8,t9,t10,t11⟩:=HD.out _ HB.out)
       clear t0 t1 t2 t3 t4 t5 t6 t7 t8 t9 t10 t11
       obtain⟨b2,hW_,b_,z_,kp_⟩:=boxes1 v2 #[.int .i64 ER.place.x,.int .i64 ER.place.y,.int .i64 ER.above] 50
       rw[hW_]
       have kp0:=bkC (v:=.int .i64 ER.place.x) kp_ 0 rfl
       have kp1:=bkC (v:=.int .i64 ER.place.y) kp_ 1 rfl
       have KP:=Lib.hid kp_
       have zc:v2.heap.size<b2.heap.size:=by omega
       replace HB:=Lib.hid (HB.out.trans (b_.mono HB.out.size))
       clear hW_ b_ kp_
       obtain⟨t0,t1,t2,t3,t4,t5,t6,t7,t8,t9,t10,t11⟩:=HD.out _ HB.out
       go_wp2_with (go_at_call 43;with_reducible refine (CH2.out _ HB.out).mono ?_;rintro e v3 ⟨rfl,hb_⟩;(have kq:=bkB KP.out hb_ zc);(try clear t0 t1 t2 t3 t4 t5 t6 t7 t8 t9 t10 t11);replace HB:=btr HB hb_;clear hb_;obtain⟨t0,t1,t2,t3,t4,t5,t6,t7,t8,t9,t10,t11⟩:=HD.out _ HB.out;clear kp0 kp1;(have kp0:=bkC (v:=.int .i64 ER.place.x) kq 0 rfl);(have kp1:=bkC (v:=.int .i64 ER.place.y) kq 1 rfl);clear kq)
       go_ret2
       exact⟨by rw[HE.out];rfl,B0.out.trans (HB.out.mono B0.out.size)⟩
      | true =>
       rw[hJ] at CH2
       by_cases c1:(endR nw (gSector nw.sectors k)).place.x=q.place.x
       case neg =>
        have hR:reachB t nw (gSector nw.sectors k) q=true:=by rw[HR.out,hJ,decide_eq_false c1];rfl
        have d1:((endR nw (gSector nw.sectors k)).place.x == q.place.x)=false:=beq_eq_false_iff_ne.2 c1
        clear hJ c1
        have CLV:=Lib.hid (CL.out hR)
        have HE:Hid (levAtR t nw nm f q=(levI t nw (gSector nw.sectors k) f q,0)):=by show _=_;rw[HE0.out,if_pos ⟨hT,hV,hQ⟩,if_pos ⟨hF,hI⟩,if_pos (by rw[show idxSector nw.sectors nm=(k:Int) from hi];omega),show idxSector nw.sectors nm=(k:Int) from hi,Int.toNat_natCast,if_pos hR]
        clear HE0 hi hT hV hQ hF hI
        clear hR HR CL
        generalize levAtR t nw nm f q=RV at *
        generalize levI t nw (gSector nw.sectors k) f q=LV at *
        generalize endR nw (gSector nw.sectors k)=ER at *
        generalize gSector nw.sectors k=x at *
        skip
        go_enter Tryz.func9,Tryz.ntmps9
        go_upto_region 1 with (fail)
        rw[HW0.out]
        obtain⟨t0,t1,t2,t3,t4,t5,t6,t7,t8,t9,t10,t11⟩:=HD.out _ HB.out
        go_upto_region 8 with ((first|(go_at_call 39;with_reducible refine (CT.out _ HB.out).mono ?_)|(go_at_call 40;with_reducible refine (CV.out _ HB.out).mono ?_)|(go_at_call 41;with_reducible refine (CQ.out _ HB.out).mono ?_)|(go_at_call 42;with_reducible refine (CF.out _ HB.out).mono ?_)|(go_at_call 44;with_reducible refine (CN.out _ HB.out).mono ?_)|(go_at_call 43;with_reducible refine (CH.out _ HB.out).mono ?_));rintro e v1 ⟨rfl,hb_⟩;(try clear t0 t1 t2 t3 t4 t5 t6 t7 t8 t9 t10 t11);replace HB:=btr HB hb_;clear hb_;obtain⟨t0,t1,t2,t3,t4,t5,t6,t7,t8,t9,t10,t11⟩:=HD.out _ HB.out)
        go_upto_region 9 with (go_at_call 45;with_reducible refine (CE.out _ HB.out).mono ?_;rintro e v2 ⟨rfl,hb_⟩;(try clear t0 t1 t2 t3 t4 t5 t6 t7 t8 t9 t10 t11);replace HB:=btr HB hb_;clear hb_;obtain⟨t0,t1,t2,t3,t4,t5,t6,t7,t8,t9,t10,t11⟩:=HD.out _ HB.out)
        clear t0 t1 t2 t3 t4 t5 t6 t7 t8 t9 t10 t11
        obtain⟨b2,hW_,b_,z_,kp_⟩:=boxes1 v2 #[.int .i64 ER.place.x,.int .i64 ER.place.y,.int .i64 ER.above] 50
        rw[hW_]
        have kp0:=bkC (v:=.int .i64 ER.place.x) kp_ 0 rfl
        have kp1:=bkC (v:=.int .i64 ER.place.y) kp_ 1 rfl
        have KP:=Lib.hid kp_
        have zc:v2.heap.size<b2.heap.size:=by omega
        replace HB:=Lib.hid (HB.out.trans (b_.mono HB.out.size))
        clear hW_ b_ kp_
        obtain⟨t0,t1,t2,t3,t4,t5,t6,t7,t8,t9,t10,t11⟩:=HD.out _ HB.out
        go_upto_region 11 with (go_at_call 43;with_reducible refine (CH2.out _ HB.out).mono ?_;rintro e v3 ⟨rfl,hb_⟩;(have kq:=bkB KP.out hb_ zc);(try clear t0 t1 t2 t3 t4 t5 t6 t7 t8 t9 t10 t11);replace HB:=btr HB hb_;clear hb_;obtain⟨t0,t1,t2,t3,t4,t5,t6,t7,t8,t9,t10,t11⟩:=HD.out _ HB.out;clear kp0 kp1;(have kp0:=bkC (v:=.int .i64 ER.place.x) kq 0 rfl);(have kp1:=bkC (v:=.int .i64 ER.place.y) kq 1 rfl);clear kq)
        clear kp0 kp1
        go_wp2_with (first|(go_at_call 46;with_reducible refine (CLV.out _ HB.out).mono ?_;rintro e v4 ⟨rfl,hb_⟩;(try clear t0 t1 t2 t3 t4 t5 t6 t7 t8 t9 t10 t11);replace HB:=btr HB hb_;clear hb_;obtain⟨t0,t1,t2,t3,t4,t5,t6,t7,t8,t9,t10,t11⟩:=HD.out _ HB.out))
        go_ret2
        exact⟨by rw[HE.out];rfl,B0.out.trans (HB.out.mono B0.out.size)⟩
       by_cases c2:(endR nw (gSector nw.sectors k)).place.y=q.place.y
       case neg =>
        have hR:reachB t nw (gSector nw.sectors k) q=true:=by rw[HR.out,hJ,decide_eq_false c2,Bool.and_false];rfl
        have d1:((endR nw (gSector nw.sectors k)).place.x == q.place.x)=true:=beq_iff_eq.2 c1
        have d2:((endR nw (gSector nw.sectors k)).place.y == q.place.y)=false:=beq_eq_false_iff_ne.2 c2
        clear hJ c1 c2
        have CLV:=Lib.hid (CL.out hR)
        have HE:Hid (levAtR t nw nm f q=(levI t nw (gSector nw.sectors k) f q,0)):=by show _=_;rw[HE0.out,if_pos ⟨hT,hV,hQ⟩,if_pos ⟨hF,hI⟩,if_pos (by rw[show idxSector nw.sectors nm=(k:Int) from hi];omega),show idxSector nw.sectors nm=(k:Int) from hi,Int.toNat_natCast,if_pos hR]
        clear HE0 hi hT hV hQ hF hI
        clear hR HR CL
        generalize levAtR t nw nm f q=RV at *
        generalize levI t nw (gSector nw.sectors k) f q=LV at *
        generalize endR nw (gSector nw.sectors k)=ER at *
        generalize gSector nw.sectors k=x at *
        skip
        go_enter Tryz.func9,Tryz.ntmps9
        go_upto_region 1 with (fail)
        rw[HW0.out]
        obtain⟨t0,t1,t2,t3,t4,t5,t6,t7,t8,t9,t10,t11⟩:=HD.out _ HB.out
        go_upto_region 8 with ((first|(go_at_call 39;with_reducible refine (CT.out _ HB.out).mono ?_)|(go_at_call 40;with_reducible refine (CV.out _ HB.out).mono ?_)|(go_at_call 41;with_reducible refine (CQ.out _ HB.out).mono ?_)|(go_at_call 42;with_reducible refine (CF.out _ HB.out).mono ?_)|(go_at_call 44;with_reducible refine (CN.out _ HB.out).mono ?_)|(go_at_call 43;with_reducible refine (CH.out _ HB.out).mono ?_));rintro e v1 ⟨rfl,hb_⟩;(try clear t0 t1 t2 t3 t4 t5 t6 t7 t8 t9 t10 t11);replace HB:=btr HB hb_;clear hb_;obtain⟨t0,t1,t2,t3,t4,t5,t6,t7,t8,t9,t10,t11⟩:=HD.out _ HB.out)
        go_upto_region 9 with (go_at_call 45;with_reducible refine (CE.out _ HB.out).mono ?_;rintro e v2 ⟨rfl,hb_⟩;(try clear t0 t1 t2 t3 t4 t5 t6 t7 t8 t9 t10 t11);replace HB:=btr HB hb_;clear hb_;obtain⟨t0,t1,t2,t3,t4,t5,t6,t7,t8,t9,t10,t11⟩:=HD.out _ HB.out)
        clear t0 t1 t2 t3 t4 t5 t6 t7 t8 t9 t10 t11
        obtain⟨b2,hW_,b_,z_,kp_⟩:=boxes1 v2 #[.int .i64 ER.place.x,.int .i64 ER.place.y,.int .i64 ER.above] 50
        rw[hW_]
        have kp0:=bkC (v:=.int .i64 ER.place.x) kp_ 0 rfl
        have kp1:=bkC (v:=.int .i64 ER.place.y) kp_ 1 rfl
        have KP:=Lib.hid kp_
        have zc:v2.heap.size<b2.heap.size:=by omega
        replace HB:=Lib.hid (HB.out.trans (b_.mono HB.out.size))
        clear hW_ b_ kp_
        obtain⟨t0,t1,t2,t3,t4,t5,t6,t7,t8,t9,t10,t11⟩:=HD.out _ HB.out
        go_upto_region 11 with (go_at_call 43;with_reducible refine (CH2.out _ HB.out).mono ?_;rintro e v3 ⟨rfl,hb_⟩;(have kq:=bkB KP.out hb_ zc);(try clear t0 t1 t2 t3 t4 t5 t6 t7 t8 t9 t10 t11);replace HB:=btr HB hb_;clear hb_;obtain⟨t0,t1,t2,t3,t4,t5,t6,t7,t8,t9,t10,t11⟩:=HD.out _ HB.out;clear kp0 kp1;(have kp0:=bkC (v:=.int .i64 ER.place.x) kq 0 rfl);(have kp1:=bkC (v:=.int .i64 ER.place.y) kq 1 rfl);clear kq)
        clear kp0 kp1
        go_wp2_with (first|(go_at_call 46;with_reducible refine (CLV.out _ HB.out).mono ?_;rintro e v4 ⟨rfl,hb_⟩;(try clear t0 t1 t2 t3 t4 t5 t6 t7 t8 t9 t10 t11);replace HB:=btr HB hb_;clear hb_;obtain⟨t0,t1,t2,t3,t4,t5,t6,t7,t8,t9,t10,t11⟩:=HD.out _ HB.out))
        go_ret2
        exact⟨by rw[HE.out];rfl,B0.out.trans (HB.out.mono B0.out.size)⟩
       have hR:reachB t nw (gSector nw.sectors k) q=false:=by rw[HR.out,hJ,decide_eq_true c1,decide_eq_true c2];rfl
       have d1:((endR nw (gSector nw.sectors k)).place.x == q.place.x)=true:=beq_iff_eq.2 c1
       have d2:((endR nw (gSector nw.sectors k)).place.y == q.place.y)=true:=beq_iff_eq.2 c2
       clear hJ c1 c2
       have HE:Hid (levAtR t nw nm f q=(0,6)):=by show _=_;rw[HE0.out,if_pos ⟨hT,hV,hQ⟩,if_pos ⟨hF,hI⟩,if_pos (by rw[show idxSector nw.sectors nm=(k:Int) from hi];omega),show idxSector nw.sectors nm=(k:Int) from hi,Int.toNat_natCast,if_neg (by rw[hR];simp)]
       clear HE0 hi hT hV hQ hF hI
       clear hR HR CL
       generalize levAtR t nw nm f q=RV at *
       generalize levI t nw (gSector nw.sectors k) f q=LV at *
       generalize endR nw (gSector nw.sectors k)=ER at *
       generalize gSector nw.sectors k=x at *
       skip
       go_enter Tryz.func9,Tryz.ntmps9
       go_upto_region 1 with (fail)
       rw[HW0.out]
       obtain⟨t0,t1,t2,t3,t4,t5,t6,t7,t8,t9,t10,t11⟩:=HD.out _ HB.out
       go_upto_region 8 with ((first|(go_at_call 39;with_reducible refine (CT.out _ HB.out).mono ?_)|(go_at_call 40;with_reducible refine (CV.out _ HB.out).mono ?_)|(go_at_call 41;with_reducible refine (CQ.out _ HB.out).mono ?_)|(go_at_call 42;with_reducible refine (CF.out _ HB.out).mono ?_)|(go_at_call 44;with_reducible refine (CN.out _ HB.out).mono ?_)|(go_at_call 43;with_reducible refine (CH.out _ HB.out).mono ?_));rintro e v1 ⟨rfl,hb_⟩;(try clear t0 t1 t2 t3 t4 t5 t6 t7 t8 t9 t10 t11);replace HB:=btr HB hb_;clear hb_;obtain⟨t0,t1,t2,t3,t4,t5,t6,t7,t8,t9,t10,t11⟩:=HD.out _ HB.out)
       go_upto_region 9 with (go_at_call 45;with_reducible refine (CE.out _ HB.out).mono ?_;rintro e v2 ⟨rfl,hb_⟩;(try clear t0 t1 t2 t3 t4 t5 t6 t7 t8 t9 t10 t11);replace HB:=btr HB hb_;clear hb_;obtain⟨t0,t1,t2,t3,t4,t5,t6,t7,t8,t9,t10,t11⟩:=HD.out _ HB.out)
       clear t0 t1 t2 t3 t4 t5 t6 t7 t8 t9 t10 t11
       obtain⟨b2,hW_,b_,z_,kp_⟩:=boxes1 v2 #[.int .i64 ER.place.x,.int .i64 ER.place.y,.int .i64 ER.above] 50
       rw[hW_]
       have kp0:=bkC (v:=.int .i64 ER.place.x) kp_ 0 rfl
       have kp1:=bkC (v:=.int .i64 ER.place.y) kp_ 1 rfl
       have KP:=Lib.hid kp_
       have zc:v2.heap.size<b2.heap.size:=by omega
       replace HB:=Lib.hid (HB.out.trans (b_.mono HB.out.size))
       clear hW_ b_ kp_
       obtain⟨t0,t1,t2,t3,t4,t5,t6,t7,t8,t9,t10,t11⟩:=HD.out _ HB.out
       go_wp2_with (go_at_call 43;with_reducible refine (CH2.out _ HB.out).mono ?_;rintro e v3 ⟨rfl,hb_⟩;(have kq:=bkB KP.out hb_ zc);(try clear t0 t1 t2 t3 t4 t5 t6 t7 t8 t9 t10 t11);replace HB:=btr HB hb_;clear hb_;obtain⟨t0,t1,t2,t3,t4,t5,t6,t7,t8,t9,t10,t11⟩:=HD.out _ HB.out;clear kp0 kp1;(have kp0:=bkC (v:=.int .i64 ER.place.x) kq 0 rfl);(have kp1:=bkC (v:=.int .i64 ER.place.y) kq 1 rfl);clear kq)
       go_ret2
       exact⟨by rw[HE.out];rfl,B0.out.trans (HB.out.mono B0.out.size)⟩
end Go.Proofs.YtdgmgchdjlfchaaGreatDoor
