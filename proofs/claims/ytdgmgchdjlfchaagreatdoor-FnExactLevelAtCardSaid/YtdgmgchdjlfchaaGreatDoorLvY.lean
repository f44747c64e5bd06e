/- Contracts: whether a sector reaches an end, and its level there, for the program and for the reference. Conditions: what reaching means. -/
import Derived.Test.YtdgmgchdjlfchaaGreatDoorLvN
import Derived.Test.YtdgmgchdjlfchaaGreatDoorLvU
import Derived.Test.YtdgmgchdjlfchaaGreatDoorLvX
import Derived.Test.YtdgmgchdjlfchaaGreatDoorTer
import Derived.Test.YtdgmgchdjlfchaaGreatDoorEirp5
import Derived.IntWalk
namespace Go.Proofs.YtdgmgchdjlfchaaGreatDoor
set_option maxHeartbeats 8000000
set_option maxRecDepth 100000
open Go.RowKit
set_option linter.unusedVariables false
set_option linter.unusedSimpArgs false
theorem eirpN_bd {n:DNetwork} {x:DSector} {ka kr:Nat} (h:Parts n x ka kr) (b e:Int):-250000≤eirpN n x b e∧eirpN n x b e≤160000:=by
 have hr:=radio_bd h.rok
 have ht:=tow_bd h.ok x.azimuth x.tilt b e
 unfold eirpN
 rw[h.ir,h.ia,Int.toNat_natCast,Int.toNat_natCast]
 omega
theorem elevP_bd (t:DTerrain) (a b:DEnd):-90≤pathE t a b∧pathE t a b≤90:=elevI_bd _ _
theorem reachB_eq (t:DTerrain) (n:DNetwork) (x:DSector) (e:DEnd):reachB t n x e=(inTerr t (endR n x).place&&!(decide ((endR n x).place.x=e.place.x)&&decide ((endR n x).place.y=e.place.y))):=rfl
theorem iReach_any (t:DTerrain) (n:DNetwork) (x:DSector) (q:DEnd) (T:TerrOk t) (v0 v1 v2 v3 v4 v5:Value) (k:Nat) (hk:k<n.sites.length) (hi:idxSite n.sites x.site=(k:Int)) (l0:n.sites.length≤1099511627776) (w:World) (r0:Rd w.heap.size w (DSite.sT n.sites) v0) :
  Calls Tryz.prog 59 #[.agg #[v0,v1,v2,v3],.agg #[.int .i64 t.step,.int .i64 t.width,.int .i64 t.height,v4,v5],.agg #[.string x.name,.string x.site,.string x.antenna,.string x.radio,.string x.band,.int .i64 x.azimuth,.int .i64 x.tilt,.int .i64 x.above,.int .i64 x.channel],.agg #[.int .i64 q.place.x,.int .i64 q.place.y,.int .i64 q.above]] w fun e w'=>e=.returned (.bool (reachB t n x q))∧Below w.heap.size w w':=by
 have HE0:=Lib.hid (reachB_eq t n x q)
 generalize reachB t n x q=RV at *
 obtain⟨W0,hW0,b0_,z0,k0,k1,k2,k3⟩:=boxes4 w #[v0,v1,v2,v3] 46 #[.int .i64 t.step,.int .i64 t.width,.int .i64 t.height,v4,v5] 39 #[.string x.name,.string x.site,.string x.antenna,.string x.radio,.string x.band,.int .i64 x.azimuth,.int .i64 x.tilt,.int .i64 x.above,.int .i64 x.channel] 102 #[.int .i64 q.place.x,.int .i64 q.place.y,.int .i64 q.above] 50
 have e0_0:=bkC (v:=v0) k0 0 rfl
 have e0_1:=bkC (v:=v1) k0 1 rfl
 have e0_2:=bkC (v:=v2) k0 2 rfl
 have e0_3:=bkC (v:=v3) k0 3 rfl
 have e1_0:=bkC (v:=.int .i64 t.step) k1 0 rfl
 have e1_1:=bkC (v:=.int .i64 t.width) k1 1 rfl
 have e1_2:=bkC (v:=.int .i64 t.height) k1 2 rfl
 have e1_3:=bkC (v:=v4) k1 3 rfl
 have e1_4:=bkC (v:=v5) k1 4 rfl
 have e2_0:=bkC (v:=.string x.name) k2 0 rfl
 have e2_1:=bkC (v:=.string x.site) k2 1 rfl
 have e2_2:=bkC (v:=.string x.antenna) k2 2 rfl
 have e2_3:=bkC (v:=.string x.radio) k2 3 rfl
 have e2_4:=bkC (v:=.string x.band) k2 4 rfl
 have e2_5:=bkC (v:=.int .i64 x.azimuth) k2 5 rfl
 have e2_6:=bkC (v:=.int .i64 x.tilt) k2 6 rfl
 have e2_7:=bkC (v:=.int .i64 x.above) k2 7 rfl
 have e2_8:=bkC (v:=.int .i64 x.channel) k2 8 rfl
 have e3_0:=bkC (v:=.int .i64 q.place.x) k3 0 rfl
 have e3_1:=bkC (v:=.int .i64 q.place.y) k3 1 rfl
 have e3_2:=bkC (v:=.int .i64 q.above) k3 2 rfl
 have HW0:=Lib.hid hW0
 have B0:=Lib.hid b0_
 have HD:Hid (∀ W:World,Below W0.heap.size W0 W→(W.cell? ⟨w.heap.size,0,none⟩=some (v0)∧W.cell? ⟨w.heap.size,1,none⟩=some (v1)∧W.cell? ⟨w.heap.size,2,none⟩=some (v2)∧W.cell? ⟨w.heap.size,3,none⟩=some (v3)∧W.cell? ⟨w.heap.size+1,0,none⟩=some (.int .i64 t.step)∧W.cell? ⟨w.heap.size+1,1,none⟩=some (.int .i64 t.width)∧W.cell? ⟨w.heap.size+1,2,none⟩=some (.int .i64 t.height)∧W.cell? ⟨w.heap.size+1,3,none⟩=some (v4)∧W.cell? ⟨w.heap.size+1,4,none⟩=some (v5)∧W.cell? ⟨w.heap.size+2,0,none⟩=some (.string x.name)∧W.cell? ⟨w.heap.size+2,1,none⟩=some (.string x.site)∧W.cell? ⟨w.heap.size+2,2,none⟩=some (.string x.antenna)∧W.cell? ⟨w.heap.size+2,3,none⟩=some (.string x.radio)∧W.cell? ⟨w.heap.size+2,4,none⟩=some (.string x.band)∧W.cell? ⟨w.heap.size+2,5,none⟩=some (.int .i64 x.azimuth)∧W.cell? ⟨w.heap.size+2,6,none⟩=some (.int .i64 x.tilt)∧W.cell? ⟨w.heap.size+2,7,none⟩=some (.int .i64 x.above)∧W.cell? ⟨w.heap.size+2,8,none⟩=some (.int .i64 x.channel)∧W.cell? ⟨w.heap.size+3,0,none⟩=some (.int .i64 q.place.x)∧W.cell? ⟨w.heap.size+3,1,none⟩=some (.int .i64 q.place.y)∧W.cell? ⟨w.heap.size+3,2,none⟩=some (.int .i64 q.above))):=fun W hW=>⟨(bat hW w.heap.size _ (by omega)).trans e0_0,(bat hW w.heap.size _ (by omega)).trans e0_1,(bat hW w.heap.size _ (by omega)).trans e0_2,(bat hW w.heap.size _ (by omega)).trans e0_3,(bat hW (w.heap.size+1) _ (by omega)).trans e1_0,(bat hW (w.heap.size+1) _ (by omega)).trans e1_1,(bat hW (w.heap.size+1) _ (by omega)).trans e1_2,(bat hW (w.heap.size+1) _ (by omega)).trans e1_3,(bat hW (w.heap.size+1) _ (by omega)).trans e1_4,(bat hW (w.heap.size+2) _ (by omega)).trans e2_0,(bat hW (w.heap.size+2) _ (by omega)).trans e2_1,(bat hW (w.heap.size+2) _ (by omega)).trans e2_2,(bat hW (w.heap.size+2) _ (by omega)).trans e2_3,(bat hW (w.heap.size+2) _ (by omega)).trans e2_4,(bat hW (w.heap.size+2) _ (by omega)).trans e2_5,(bat hW (w.heap.size+2) _ (by omega)).trans e2_6,(bat hW (w.heap.size+2) _ (by omega)).trans e2_7,(bat hW (w.heap.size+2) _ (by omega)).trans e2_8,(bat hW (w.heap.size+3) _ (by omega)).trans e3_0,(bat hW (w.heap.size+3) _ (by omega)).trans e3_1,(bat hW (w.heap.size+3) _ (by omega)).trans e3_2⟩
 have HB:Hid (Below W0.heap.size W0 W0):=Below.refl _ _
 clear k0 k1 k2 k3 e0_0 e0_1 e0_2 e0_3 e1_0 e1_1 e1_2 e1_3 e1_4 e2_0 e2_1 e2_2 e2_3 e2_4 e2_5 e2_6 e2_7 e2_8 e3_0 e3_1 e3_2 hW0 b0_
 have CE:Hid (∀ W:World,Below W0.heap.size W0 W→Calls Tryz.prog 75 #[.agg #[v0,v1,v2,v3],.agg #[.string x.name,.string x.site,.string x.antenna,.string x.radio,.string x.band,.int .i64 x.azimuth,.int .i64 x.tilt,.int .i64 x.above,.int .i64 x.channel]] W fun e w'=>e=.returned (.agg #[.int .i64 (endR n x).place.x,.int .i64 (endR n x).place.y,.int .i64 (endR n x).above])∧Below W.heap.size W w'):=fun  W hW=>iEnd_any n x v0 v1 v2 v3 W ((r0.below (B0.out.trans (hW.mono B0.out.size))).mono (B0.out.trans (hW.mono B0.out.size)).size) l0 k hk hi
 have CH:Hid (∀ W:World,Below W0.heap.size W0 W→Calls Tryz.prog 58 #[.agg #[.int .i64 t.step,.int .i64 t.width,.int .i64 t.height,v4,v5],.agg #[.int .i64 (endR n x).place.x,.int .i64 (endR n x).place.y]] W fun e w'=>e=.returned (.bool (inTerr t (endR n x).place))∧Below W.heap.size W w'):=fun  W hW=>has_any t (endR n x).place v4 v5 ⟨T.w0,T.w1⟩ ⟨T.h0,T.h1⟩ ⟨T.mw.1,Int.le_trans T.mw.2 (by decide)⟩ ⟨T.mh.1,Int.le_trans T.mh.2 (by decide)⟩ W
 clear r0 hk hi l0 T
 generalize inTerr t (endR n x).place=IT at *
 generalize (endR n x).place.x=px at *
 generalize (endR n x).place.y=py at *
 generalize (endR n x).above=pz at *
 have hfd:∀ w:World,(Instr.field 50 (.agg #[.int .i64 px,.int .i64 py,.int .i64 pz]) 0).run Tryz.prog w=.ok (.agg #[.int .i64 px,.int .i64 py]) w:=fun _=>by kernel_rfl
 cases hI:IT with
 | false =>
  rw[hI] at CH
  have HE:Hid (RV=false):=by show _=_;rw[HE0.out,hI,Bool.false_and]
  clear HE0
  go_enter Tryz.func59,Tryz.ntmps59
  go_upto_region 1 with (fail)
  rw[HW0.out]
  obtain⟨t0,t1,t2,t3,t4,t5,t6,t7,t8,t9,t10,t11,t12,t13,t14,t15,t16,t17,t18,t19,t20⟩:=HD.out _ HB.out
  go_upto_region 2 with (first|(go_at_call 75;with_reducible refine (CE.out _ HB.out).mono ?_;rintro e v1 ⟨rfl,hb_⟩;(try clear t0 t1 t2 t3 t4 t5 t6 t7 t8 t9 t10 t11 t12 t13 t14 t15 t16 t17 t18 t19 t20);replace HB:=btr HB hb_;clear hb_;obtain⟨t0,t1,t2,t3,t4,t5,t6,t7,t8,t9,t10,t11,t12,t13,t14,t15,t16,t17,t18,t19,t20⟩:=HD.out _ HB.out))
  clear t0 t1 t2 t3 t4 t5 t6 t7 t8 t9 t10 t11 t12 t13 t14 t15 t16 t17 t18 t19 t20
  obtain⟨b1,hW_,b_,z_,kp_⟩:=boxes1 v1 #[.int .i64 px,.int .i64 py] 48
  rw[hW_]
  have kp0:=bkC (v:=.int .i64 px) kp_ 0 rfl
  have kp1:=bkC (v:=.int .i64 py) kp_ 1 rfl
  have KP:=Lib.hid kp_
  have zc:v1.heap.size<b1.heap.size:=by omega
  replace HB:=Lib.hid (HB.out.trans (b_.mono HB.out.size))
  clear hW_ b_ kp_
  obtain⟨t0,t1,t2,t3,t4,t5,t6,t7,t8,t9,t10,t11,t12,t13,t14,t15,t16,t17,t18,t19,t20⟩:=HD.out _ HB.out
  go_wp2_with (go_at_call 58;with_reducible refine (CH.out _ HB.out).mono ?_;rintro e v2 ⟨rfl,hb_⟩;(have kq:=bkB KP.out hb_ zc);(try clear t0 t1 t2 t3 t4 t5 t6 t7 t8 t9 t10 t11 t12 t13 t14 t15 t16 t17 t18 t19 t20);replace HB:=btr HB hb_;clear hb_;obtain⟨t0,t1,t2,t3,t4,t5,t6,t7,t8,t9,t10,t11,t12,t13,t14,t15,t16,t17,t18,t19,t20⟩:=HD.out _ HB.out;clear kp0 kp1;(have kp0:=bkC (v:=.int .i64 px) kq 0 rfl);(have kp1:=bkC (v:=.int .i64 py) kq 1 rfl);clear kq)
  go_ret
  exact⟨by rw[HE.out];rfl,B0.out.trans (HB.out.mono B0.out.size)⟩
 | true =>
  rw[hI] at CH
  by_cases c1:px=q.place.x
  case neg =>
   have d1:(px == q.place.x)=false:=beq_eq_false_iff_ne.2 c1
   have HE:Hid (RV=true):=by show _=_;rw[HE0.out,hI,decide_eq_false c1,Bool.false_and,Bool.not_false,Bool.true_and]
   clear HE0 c1
   go_enter Tryz.func59,Tryz.ntmps59
   go_upto_region 1 with (fail)
   rw[HW0.out]
   obtain⟨t0,t1,t2,t3,t4,t5,t6,t7,t8,t9,t10,t11,t12,t13,t14,t15,t16,t17,t18,t19,t20⟩:=HD.out _ HB.out
   go_upto_region 2 with (first|(go_at_call 75;with_reducible refine (CE.out _ HB.out).mono ?_;rintro e v1 ⟨rfl,hb_⟩;(try clear t0 t1 t2 t3 t4 t5 t6 t7 t8 t9 t10 t11 t12 t13 t14 t15 t16 t17 t18 t19 t20);replace HB:=btr HB hb_;clear hb_;obtain⟨t0,t1,t2,t3,t4,t5,t6,t7,t8,t9,t10,t11,t12,t13,t14,t15,t16,t17,t18,t19,t20⟩:=HD.out _ HB.out))
   clear t0 t1 t2 t3 t4 t5 t6 t7 t8 t9 t10 t11 t12 t13 t14 t15 t16 t17 t18 t19 t20
   obtain⟨b1,hW_,b_,z_,kp_⟩:=boxes1 v1 #[.int .i64 px,.int .i64 py] 48
   rw[hW_]
   have kp0:=bkC (v:=.int .i64 px) kp_ 0 rfl
   have kp1:=bkC (v:=.int .i64 py) kp_ 1 rfl
   have KP:=Lib.hid kp_
   have zc:v1.heap.size<b1.heap.size:=by omega
   replace HB:=Lib.hid (HB.out.trans (b_.mono HB.out.size))
   clear hW_ b_ kp_
   obtain⟨t0,t1,t2,t3,t4,t5,t6,t7,t8,t9,t10,t11,t12,t13,t14,t15,t16,t17,t18,t19,t20⟩:=HD.out _ HB.out
   go_wp2_with (go_at_call 58;with_reducible refine (CH.out _ HB.out).mono ?_;rintro e v2 ⟨rfl,hb_⟩;(have kq:=bkB KP.out hb_ zc);(try clear t0 t1 t2 t3 t4 t5 t6 t7 t8 t9 t10 t11 t12 t13 t14 t15 t16 t17 t18 t19 t20);replace HB:=btr HB hb_;clear hb_;obtain⟨t0,t1,t2,t3,t4,t5,t6,t7,t8,t9,t10,t11,t12,t13,t14,t15,t16,t17,t18,t19,t20⟩:=HD.out _ HB.out;clear kp0 kp1;(have kp0:=bkC (v:=.int .i64 px) kq 0 rfl);(have kp1:=bkC (v:=.int .i64 py) kq 1 rfl);clear kq)
   go_ret
   exact⟨by rw[HE.out];rfl,B0.out.trans (HB.out.mono B0.out.size)⟩
  by_cases c2:py=q.place.y
  case neg =>
   have d1:(px == q.place.x)=true:=beq_iff_eq.2 c1
   have d2:(py == q.place.y)=false:=beq_eq_false_iff_ne.2 c2
   have HE:Hid (RV=true):=by show _=_;rw[HE0.out,hI,decide_eq_false c2,Bool.and_false,Bool.not_false,Bool.true_and]
   clear HE0 c1 c2
   go_enter Tryz.func59,Tryz.ntmps59
   go_upto_region 1 with (fail)
   rw[HW0.out]
   obtain⟨t0,t1,t2,t3,t4,t5,t6,t7,t8,t9,t10,t11,t12,t13,t14,t15,t16,t17,t18,t19,t20⟩:=HD.out _ HB.out
   go_upto_region 2 with (first|(go_at_call 75;with_reducible refine (CE.out _ HB.out).mono ?_;rintro e v1 ⟨rfl,hb_⟩;(try clear t0 t1 t2 t3 t4 t5 t6 t7 t8 t9 t10 t11 t12 t13 t14 t15 t16 t17 t18 t19 t20);replace HB:=btr HB hb_;clear hb_;obtain⟨t0,t1,t2,t3,t4,t5,t6,t7,t8,t9,t10,t11,t12,t13,t14,t15,t16,t17,t18,t19,t20⟩:=HD.out _ HB.out))
   clear t0 t1 t2 t3 t4 t5 t6 t7 t8 t9 t10 t11 t12 t13 t14 t15 t16 t17 t18 t19 t20
   obtain⟨b1,hW_,b_,z_,kp_⟩:=boxes1 v1 #[.int .i64 px,.int .i64 py] 48
   rw[hW_]
   have kp0:=bkC (v:=.int .i64 px) kp_ 0 rfl
   have kp1:=bkC (v:=.int .i64 py) kp_ 1 rfl
   have KP:=Lib.hid kp_
   have zc:v1.heap.size<b1.heap.size:=by omega
   replace HB:=Lib.hid (HB.out.trans (b_.mono HB.out.size))
   clear hW_ b_ kp_
   obtain⟨t0,t1,t2,t3,t4,t5,t6,t7,t8,t9,t10,t11,t12,t13,t14,t15,t16,t17,t18,t19,t20⟩:=HD.out _ HB.out
   go_wp2_with (go_at_call 58;with_reducible refine (CH.out _ HB.out).mono ?_;rintro e v2 ⟨rfl,hb_⟩;(have kq:=bkB KP.out hb_ zc);(try clear t0 t1 t2 t3 t4 t5 t6 t7 t8 t9 t10 t11 t12 t13 t14 t15 t16 t17 t18 t19 t20);replace HB:=btr HB hb_;clear hb_;obtain⟨t0,t1,t2,t3,t4,t5,t6,t7,t8,t9,t10,t11,t12,t13,t14,t15,t16,t17,t18,t19,t20⟩:=HD.out _ HB.out;clear kp0 kp1;(have kp0:=bkC (v:=.int .i64 px) kq 0 rfl);(have kp1:=bkC (v:=.int .i64 py) kq 1 rfl);clear kq)
   go_ret
   exact⟨by rw[HE.out];rfl,B0.out.trans (HB.out.mono B0.out.size)⟩
  have d1:(px == q.place.x)=true:=beq_iff_eq.2 c1
  have d2:(py == q.place.y)=true:=beq_iff_eq.2 c2
  have HE:Hid (RV=false):=by show _=_;rw[HE0.out,hI,decide_eq_true c1,decide_eq_true c2,Bool.and_true,Bool.not_true,Bool.true_and]
  clear HE0 c1 c2
  go_enter Tryz.func59,Tryz.ntmps59
  go_upto_region 1 with (fail)
  rw[HW0.out]
  obtain⟨t0,t1,t2,t3,t4,t5,t6,t7,t8,t9,t10,t11,t12,t13,t14,t15,t16,t17,t18,t19,t20⟩:=HD.out _ HB.out
  go_upto_region 2 with (first|(go_at_call 75;with_reducible refine (CE.out _ HB.out).mono ?_;rintro e v1 ⟨rfl,hb_⟩;(try clear t0 t1 t2 t3 t4 t5 t6 t7 t8 t9 t10 t11 t12 t13 t14 t15 t16 t17 t18 t19 t20);replace HB:=btr HB hb_;clear hb_;obtain⟨t0,t1,t2,t3,t4,t5,t6,t7,t8,t9,t10,t11,t12,t13,t14,t15,t16,t17,t18,t19,t20⟩:=HD.out _ HB.out))
  clear t0 t1 t2 t3 t4 t5 t6 t7 t8 t9 t10 t11 t12 t13 t14 t15 t16 t17 t18 t19 t20
  obtain⟨b1,hW_,b_,z_,kp_⟩:=boxes1 v1 #[.int .i64 px,.int .i64 py] 48
  rw[hW_]
  have kp0:=bkC (v:=.int .i64 px) kp_ 0 rfl
  have kp1:=bkC (v:=.int .i64 py) kp_ 1 rfl
  have KP:=Lib.hid kp_
  have zc:v1.heap.size<b1.heap.size:=by omega
  replace HB:=Lib.hid (HB.out.trans (b_.mono HB.out.size))
  clear hW_ b_ kp_
  obtain⟨t0,t1,t2,t3,t4,t5,t6,t7,t8,t9,t10,t11,t12,t13,t14,t15,t16,t17,t18,t19,t20⟩:=HD.out _ HB.out
  go_wp2_with (go_at_call 58;with_reducible refine (CH.out _ HB.out).mono ?_;rintro e v2 ⟨rfl,hb_⟩;(have kq:=bkB KP.out hb_ zc);(try clear t0 t1 t2 t3 t4 t5 t6 t7 t8 t9 t10 t11 t12 t13 t14 t15 t16 t17 t18 t19 t20);replace HB:=btr HB hb_;clear hb_;obtain⟨t0,t1,t2,t3,t4,t5,t6,t7,t8,t9,t10,t11,t12,t13,t14,t15,t16,t17,t18,t19,t20⟩:=HD.out _ HB.out;clear kp0 kp1;(have kp0:=bkC (v:=.int .i64 px) kq 0 rfl);(have kp1:=bkC (v:=.int .i64 py) kq 1 rfl);clear kq)
  go_ret
  exact⟨by rw[HE.out];rfl,B0.out.trans (HB.out.mono B0.out.size)⟩
theorem iLevel_any (t:DTerrain) (n:DNetwork) (x:DSector) (q:DEnd) (T:TerrOk t) (v0 v1 v2 v3 v4 v5:Value) (pa:inT t (endR n x).place) (pb:inT t q.place) (ea:endP (endR n x)) (eb:endP q) (hd:¬ ((endR n x).place.x=q.place.x∧(endR n x).place.y=q.place.y)) (k:Nat) (hk:k<n.sites.length) (hi:idxSite n.sites x.site=(k:Int)) (ka kr:Nat) (hp:Parts n x ka kr) (l0:n.sites.length≤1099511627776) (l2:n.antennas.length≤1099511627776) (l3:n.radios.length≤1099511627776) (f:Int) (f0:1≤f) (f1:f≤100000000) (w:World) (r0:Rd w.heap.size w (DSite.sT n.sites) v0) (r2:Rd w.heap.size w (DAntenna.sT n.antennas) v2) (r3:Rd w.heap.size w (DRadio.sT n.radios) v3) (r4:Rd w.heap.size w (intsT t.heights) v4) (r5:Rd w.heap.size w (intsT t.clutter) v5) (L:TabW w) :
  Calls Tryz.prog 60 #[.agg #[v0,v1,v2,v3],.agg #[.int .i64 t.step,.int .i64 t.width,.int .i64 t.height,v4,v5],.agg #[.string x.name,.string x.site,.string x.antenna,.string x.radio,.string x.band,.int .i64 x.azimuth,.int .i64 x.tilt,.int .i64 x.above,.int .i64 x.channel],.int .i64 f,.agg #[.int .i64 q.place.x,.int .i64 q.place.y,.int .i64 q.above]] w fun e w'=>e=.returned (.int .i64 (levI t n x f q))∧Below w.heap.size w w':=by
 have HE:Hid (levI t n x f q=eirpN n x (bearI (endR n x).place q.place) (pathE t (endR n x) q)-pathT t (endR n x) q f):=rfl
 obtain⟨bp0,bp1⟩:=pathT_bd T pa pb ea eb f1
 obtain⟨be0,be1⟩:=eirpN_bd hp (bearI (endR n x).place q.place) (pathE t (endR n x) q)
 obtain⟨bb0,bb1⟩:=bearI_bd (endR n x).place q.place
 obtain⟨bl0,bl1⟩:=elevP_bd t (endR n x) q
 obtain⟨W0,hW0,b0_,z0,k0,k1,k2,k3⟩:=boxes4 w #[v0,v1,v2,v3] 46 #[.int .i64 t.step,.int .i64 t.width,.int .i64 t.height,v4,v5] 39 #[.string x.name,.string x.site,.string x.antenna,.string x.radio,.string x.band,.int .i64 x.azimuth,.int .i64 x.tilt,.int .i64 x.above,.int .i64 x.channel] 102 #[.int .i64 q.place.x,.int .i64 q.place.y,.int .i64 q.above] 50
 have e0_0:=bkC (v:=v0) k0 0 rfl
 have e0_1:=bkC (v:=v1) k0 1 rfl
 have e0_2:=bkC (v:=v2) k0 2 rfl
 have e0_3:=bkC (v:=v3) k0 3 rfl
 have e1_0:=bkC (v:=.int .i64 t.step) k1 0 rfl
 have e1_1:=bkC (v:=.int .i64 t.width) k1 1 rfl
 have e1_2:=bkC (v:=.int .i64 t.height) k1 2 rfl
 have e1_3:=bkC (v:=v4) k1 3 rfl
 have e1_4:=bkC (v:=v5) k1 4 rfl
 have e2_0:=bkC (v:=.string x.name) k2 0 rfl
 have e2_1:=bkC (v:=.string x.site) k2 1 rfl
 have e2_2:=bkC (v:=.string x.antenna) k2 2 rfl
 have e2_3:=bkC (v:=.string x.radio) k2 3 rfl
 have e2_4:=bkC (v:=.string x.band) k2 4 rfl
 have e2_5:=bkC (v:=.int .i64 x.azimuth) k2 5 rfl
 have e2_6:=bkC (v:=.int .i64 x.tilt) k2 6 rfl
 have e2_7:=bkC (v:=.int .i64 x.above) k2 7 rfl
 have e2_8:=bkC (v:=.int .i64 x.channel) k2 8 rfl
 have e3_0:=bkC (v:=.int .i64 q.place.x) k3 0 rfl
 have e3_1:=bkC (v:=.int .i64 q.place.y) k3 1 rfl
 have e3_2:=bkC (v:=.int .i64 q.above) k3 2 rfl
 have HW0:=Lib.hid hW0
 have B0:=Lib.hid b0_
 have HD:Hid (∀ W:World,Below W0.heap.size W0 W→(W.cell? ⟨w.heap.size,0,none⟩=some (v0)∧W.cell? ⟨w.heap.size,1,none⟩=some (v1)∧W.cell? ⟨w.heap.size,2,none⟩=some (v2)∧W.cell? ⟨w.heap.size,3,none⟩=some (v3)∧W.cell? ⟨w.heap.size+1,0,none⟩=some (.int .i64 t.step)∧W.cell? ⟨w.heap.size+1,1,none⟩=some (.int .i64 t.width)∧W.cell? ⟨w.heap.size+1,2,none⟩=some (.int .i64 t.height)∧W.cell? ⟨w.heap.size+1,3,none⟩=some (v4)∧W.cell? ⟨w.heap.size+1,4,none⟩=some (v5)∧W.cell? ⟨w.heap.size+2,0,none⟩=some (.string x.name)∧W.cell? ⟨w.heap.size+2,1,none⟩=some (.string x.site)∧W.cell? ⟨w.heap.size+2,2,none⟩=some (.string x.antenna)∧W.cell? ⟨w.heap.size+2,3,none⟩=some (.string x.radio)∧W.cell? ⟨w.heap.size+2,4,none⟩=some (.string x.band)∧W.cell? ⟨w.heap.size+2,5,none⟩=some (.int .i64 x.azimuth)∧W.cell? ⟨w.heap.size+2,6,none⟩=some (.int .i64 x.tilt)∧W.cell? ⟨w.heap.size+2,7,none⟩=some (.int .i64 x.above)∧W.cell? ⟨w.heap.size+2,8,none⟩=some (.int .i64 x.channel)∧W.cell? ⟨w.heap.size+3,0,none⟩=some (.int .i64 q.place.x)∧W.cell? ⟨w.heap.size+3,1,none⟩=some (.int .i64 q.place.y)∧W.cell? ⟨w.heap.size+3,2,none⟩=some (.int .i64 q.above))):=fun W hW=>⟨(bat hW w.heap.size _ (by omega)).trans e0_0,(bat hW w.heap.size _ (by omega)).trans e0_1,(bat hW w.heap.size _ (by omega)).trans e0_2,(bat hW w.heap.size _ (by omega)).trans e0_3,(bat hW (w.heap.size+1) _ (by omega)).trans e1_0,(bat hW (w.heap.size+1) _ (by omega)).trans e1_1,(bat hW (w.heap.size+1) _ (by omega)).trans e1_2,(bat hW (w.heap.size+1) _ (by omega)).trans e1_3,(bat hW (w.heap.size+1) _ (by omega)).trans e1_4,(bat hW (w.heap.size+2) _ (by omega)).trans e2_0,(bat hW (w.heap.size+2) _ (by omega)).trans e2_1,(bat hW (w.heap.size+2) _ (by omega)).trans e2_2,(bat hW (w.heap.size+2) _ (by omega)).trans e2_3,(bat hW (w.heap.size+2) _ (by omega)).trans e2_4,(bat hW (w.heap.size+2) _ (by omega)).trans e2_5,(bat hW (w.heap.size+2) _ (by omega)).trans e2_6,(bat hW (w.heap.size+2) _ (by omega)).trans e2_7,(bat hW (w.heap.size+2) _ (by omega)).trans e2_8,(bat hW (w.heap.size+3) _ (by omega)).trans e3_0,(bat hW (w.heap.size+3) _ (by omega)).trans e3_1,(bat hW (w.heap.size+3) _ (by omega)).trans e3_2⟩
 have HB:Hid (Below W0.heap.size W0 W0):=Below.refl _ _
 clear k0 k1 k2 k3 e0_0 e0_1 e0_2 e0_3 e1_0 e1_1 e1_2 e1_3 e1_4 e2_0 e2_1 e2_2 e2_3 e2_4 e2_5 e2_6 e2_7 e2_8 e3_0 e3_1 e3_2 hW0 b0_
 have CE:Hid (∀ W:World,Below W0.heap.size W0 W→Calls Tryz.prog 75 #[.agg #[v0,v1,v2,v3],.agg #[.string x.name,.string x.site,.string x.antenna,.string x.radio,.string x.band,.int .i64 x.azimuth,.int .i64 x.tilt,.int .i64 x.above,.int .i64 x.channel]] W fun e w'=>e=.returned (.agg #[.int .i64 (endR n x).place.x,.int .i64 (endR n x).place.y,.int .i64 (endR n x).above])∧Below W.heap.size W w'):=fun  W hW=>iEnd_any n x v0 v1 v2 v3 W ((r0.below (B0.out.trans (hW.mono B0.out.size))).mono (B0.out.trans (hW.mono B0.out.size)).size) l0 k hk hi
 have CP:Hid (∀ W:World,Below W0.heap.size W0 W→Calls Tryz.prog 109 #[.agg #[.int .i64 t.step,.int .i64 t.width,.int .i64 t.height,v4,v5],.agg #[.int .i64 (endR n x).place.x,.int .i64 (endR n x).place.y,.int .i64 (endR n x).above],.agg #[.int .i64 q.place.x,.int .i64 q.place.y,.int .i64 q.above],.int .i64 f] W fun e w'=>∃ cl:Bool,e=.returned (.agg #[.int .i64 (distI (endR n x).place q.place),.int .i64 (bearI (endR n x).place q.place),.int .i64 (pathE t (endR n x) q),.int .i64 (freeI f (distI (endR n x).place q.place)),.int .i64 (gasI f (distI (endR n x).place q.place)),.int .i64 (deyP (profO t (endR n x) q) f),.int .i64 (cluI (cAt t (endR n x).place) f (endR n x).above+cluI (cAt t q.place) f q.above),.int .i64 (pathT t (endR n x) q f),.bool cl])∧Below W.heap.size W w'):=fun  W hW=>iPath_any t (endR n x) q T pa pb ea eb v4 v5 hd f f0 f1 W ((r4.below (B0.out.trans (hW.mono B0.out.size))).mono (B0.out.trans (hW.mono B0.out.size)).size) ((r5.below (B0.out.trans (hW.mono B0.out.size))).mono (B0.out.trans (hW.mono B0.out.size)).size) (L.mono (B0.out.trans (hW.mono B0.out.size)))
 have CI:Hid (∀ W:World,Below W0.heap.size W0 W→Calls Tryz.prog 110 #[.agg #[v0,v1,v2,v3],.agg #[.string x.name,.string x.site,.string x.antenna,.string x.radio,.string x.band,.int .i64 x.azimuth,.int .i64 x.tilt,.int .i64 x.above,.int .i64 x.channel],.int .i64 (bearI (endR n x).place q.place),.int .i64 (pathE t (endR n x) q)] W fun e w'=>e=.returned (.int .i64 (eirpN n x (bearI (endR n x).place q.place) (pathE t (endR n x) q)))∧Below W.heap.size W w'):=fun  W hW=>iEirp_any n x v0 v1 v2 v3 _ _ W ((r2.below (B0.out.trans (hW.mono B0.out.size))).mono (B0.out.trans (hW.mono B0.out.size)).size) ((r3.below (B0.out.trans (hW.mono B0.out.size))).mono (B0.out.trans (hW.mono B0.out.size)).size) l2 l3 ka kr hp bb0 bb1 bl0 bl1
 clear r0 r2 r3 r4 r5 L hk hi l0 l2 l3 hp T pa pb ea eb hd
 generalize cluI (cAt t (endR n x).place) f (endR n x).above+cluI (cAt t q.place) f q.above=KC at *
 generalize pathT t (endR n x) q f=PT at *
 generalize deyP (profO t (endR n x) q) f=DE at *
 generalize freeI f (distI (endR n x).place q.place)=FR at *
 generalize gasI f (distI (endR n x).place q.place)=GA at *
 generalize eirpN n x (bearI (endR n x).place q.place) (pathE t (endR n x) q)=EP at *
 generalize pathE t (endR n x) q=EL at *
 generalize bearI (endR n x).place q.place=BE at *
 generalize distI (endR n x).place q.place=DI at *
 generalize levI t n x f q=LV at *
 go_enter Tryz.func60,Tryz.ntmps60
 go_upto_region 1 with (fail)
 rw[HW0.out]
 go_cut [11] (fun s11 wx=>∃ (g:Nat) (cl:Bool),s11=.pointer (some ⟨g,0,none⟩)∧wx.heap[g]? = some (.cells #[.int .i64 DI,.int .i64 BE,.int .i64 EL,.int .i64 FR,.int .i64 GA,.int .i64 DE,.int .i64 KC,.int .i64 PT,.bool cl] 142 (0,0))∧Below W0.heap.size W0 wx∧W0.heap.size≤g∧g<wx.heap.size)
 case first =>
  refine wp_region_tree 9 (.read 0 (.read 1 (.read 2 (.read 4 (.read 5 (.two 3 7 (.two 6 7 (.one 7 (.one 8 .nil)) (.one 6 (.one 8 .nil))) (.one 3 (.one 6 (.one 8 .nil))))))))) (fun W=>Below W0.heap.size W0 W) (by kernel_rfl) (by kernel_rfl) (HB.out.drew) ?_
  have YB:=Lib.hid (HB.out.drew)
  have Yz:W0.heap.size≤W0.drew.heap.size:=Nat.le_refl _
  generalize W0.drew=Y at *
  iterate 5
   refine wpTree_read (v:=?_) rfl (fun _ _ _ h=>h) ?_ ?_
   rotate_left
   ·(intro W hSW;(try dsimp only at hSW);obtain⟨t0,t1,t2,t3,t4,t5,t6,t7,t8,t9,t10,t11,t12,t13,t14,t15,t16,t17,t18,t19,t20⟩:=HD.out W hSW;(go_simp<;>with_reducible rfl))
   (try simp only[Act.put,List.setIfInBounds_toArray,List.set_cons_zero,List.set_cons_succ])
  refine wpTree_two ?_ ?_
  refine stepT_mk rfl (fun K hK=>?_)
  go_simp
  refine (CE.out _ YB.out).mono ?_
  rintro e Y1 ⟨rfl,hb1⟩
  have YB1:=btr YB hb1
  refine hK.out _ _ YB1.out ?_
  clear hK K
  have bs1:=hb1.size
  clear hb1
  refine wpTree_two ?_ ?_
  refine stepT_mk rfl (fun K hK=>?_)
  go_simp
  refine (CP.out _ YB1.out).mono ?_
  rintro e Y2 ⟨cl,rfl,hb2⟩
  have YB2:=btr YB1 hb2
  refine hK.out _ _ YB2.out ?_
  clear hK K
  have bs2:=hb2.size
  clear hb2
  refine wpTree_one ?_
  refine stepT_mk rfl (fun K hK=>?_)
  go_simp
  obtain⟨Y3,hW3,hb3,zl3,hk3⟩:=boxes1 Y2 #[.int .i64 0,.int .i64 0,.int .i64 0,.int .i64 0,.int .i64 0,.int .i64 0,.int .i64 0,.int .i64 0,.bool false] 142
  rw[hW3]
  have Ykx3:=Lib.hid hk3
  have YB3:=btr YB2 hb3
  refine hK.out _ _ YB3.out ?_
  have bs3:=hb3.size
  clear hK K hW3 hk3 hb3
  refine wpTree_one ?_
  refine stepT_mk rfl (fun K hK=>?_)
  have g0:=bkC (v:=.int .i64 0) Ykx3.out 0 rfl
  have g1:=bkC (v:=.int .i64 0) Ykx3.out 1 rfl
  have g2:=bkC (v:=.int .i64 0) Ykx3.out 2 rfl
  have g3:=bkC (v:=.int .i64 0) Ykx3.out 3 rfl
  have g4:=bkC (v:=.int .i64 0) Ykx3.out 4 rfl
  have g5:=bkC (v:=.int .i64 0) Ykx3.out 5 rfl
  have g6:=bkC (v:=.int .i64 0) Ykx3.out 6 rfl
  have g7:=bkC (v:=.int .i64 0) Ykx3.out 7 rfl
  have g8:=bkC (v:=.bool false) Ykx3.out 8 rfl
  have fz:=bkF Ykx3.out
  go_simp
  obtain⟨Y4,hW4,Ykx4,bs4,ho4,hl4⟩:=stAll Ykx3 [.int .i64 DI,.int .i64 BE,.int .i64 EL,.int .i64 FR,.int .i64 GA,.int .i64 DE,.int .i64 KC,.int .i64 PT,.bool cl] rfl
  simp only[setsC] at hW4
  rw[hW4]
  have YB4:=Lib.hid (hl4.out W0 (by have:=YB3.out.size;omega) YB3.out)
  refine hK.out _ _ YB4.out ?_
  clear hK K fz hW4 ho4 hl4 g0 g1 g2 g3 g4 g5 g6 g7 g8
  refine wpTree_nil ?_
  simp only[List.drop_succ_cons,List.drop_zero]
  go_wp2_with fail
  go_meet
  exact⟨_,cl,rfl,Ykx4.out,YB4.out,by omega,by omega⟩
  refine stepT_mk rfl (fun K hK=>?_)
  go_simp
  obtain⟨Y5,hW5,hb5,zl5,hk5⟩:=boxes1 Y1 #[.int .i64 0,.int .i64 0,.int .i64 0,.int .i64 0,.int .i64 0,.int .i64 0,.int .i64 0,.int .i64 0,.bool false] 142
  rw[hW5]
  have Ykx5:=Lib.hid hk5
  have YB5:=btr YB1 hb5
  refine hK.out _ _ YB5.out ?_
  have bs5:=hb5.size
  clear hK K hW5 hk5 hb5
  refine wpTree_one ?_
  refine stepT_mk rfl (fun K hK=>?_)
  go_simp
  refine (CP.out _ YB5.out).mono ?_
  rintro e Y6 ⟨cl,rfl,hb6⟩
  have YB6:=btr YB5 hb6
  refine hK.out _ _ YB6.out ?_
  clear hK K
  have bs6:=hb6.size
  have Ykx6:=bkH Ykx5 hb6
  clear hb6
  refine wpTree_one ?_
  refine stepT_mk rfl (fun K hK=>?_)
  have g0:=bkC (v:=.int .i64 0) Ykx6.out 0 rfl
  have g1:=bkC (v:=.int .i64 0) Ykx6.out 1 rfl
  have g2:=bkC (v:=.int .i64 0) Ykx6.out 2 rfl
  have g3:=bkC (v:=.int .i64 0) Ykx6.out 3 rfl
  have g4:=bkC (v:=.int .i64 0) Ykx6.out 4 rfl
  have g5:=bkC (v:=.int .i64 0) Ykx6.out 5 rfl
  have g6:=bkC (v:=.int .i64 0) Ykx6.out 6 rfl
  have g7:=bkC (v:=.int .i64 0) Ykx6.out 7 rfl
  have g8:=bkC (v:=.bool false) Ykx6.out 8 rfl
  have fz:=bkF Ykx6.out
  go_simp
  obtain⟨Y7,hW7,Ykx7,bs7,ho7,hl7⟩:=stAll Ykx6 [.int .i64 DI,.int .i64 BE,.int .i64 EL,.int .i64 FR,.int .i64 GA,.int .i64 DE,.int .i64 KC,.int .i64 PT,.bool cl] rfl
  simp only[setsC] at hW7
  rw[hW7]
  have YB7:=Lib.hid (hl7.out W0 (by have:=YB6.out.size;omega) YB6.out)
  refine hK.out _ _ YB7.out ?_
  clear hK K fz hW7 ho7 hl7 g0 g1 g2 g3 g4 g5 g6 g7 g8
  refine wpTree_nil ?_
  simp only[List.drop_succ_cons,List.drop_zero]
  go_wp2_with fail
  go_meet
  exact⟨_,cl,rfl,Ykx7.out,YB7.out,by omega,by omega⟩
  refine stepT_mk rfl (fun K hK=>?_)
  go_simp
  obtain⟨Y8,hW8,hb8,zl8,hk8⟩:=boxes1 Y #[.int .i64 0,.int .i64 0,.int .i64 0,.int .i64 0,.int .i64 0,.int .i64 0,.int .i64 0,.int .i64 0,.bool false] 142
  rw[hW8]
  have Ykx8:=Lib.hid hk8
  have YB8:=btr YB hb8
  refine hK.out _ _ YB8.out ?_
  have bs8:=hb8.size
  clear hK K hW8 hk8 hb8
  refine wpTree_one ?_
  refine stepT_mk rfl (fun K hK=>?_)
  go_simp
  refine (CE.out _ YB8.out).mono ?_
  rintro e Y9 ⟨rfl,hb9⟩
  have YB9:=btr YB8 hb9
  refine hK.out _ _ YB9.out ?_
  clear hK K
  have bs9:=hb9.size
  have Ykx9:=bkH Ykx8 hb9
  clear hb9
  refine wpTree_one ?_
  refine stepT_mk rfl (fun K hK=>?_)
  go_simp
  refine (CP.out _ YB9.out).mono ?_
  rintro e Y10 ⟨cl,rfl,hb10⟩
  have YB10:=btr YB9 hb10
  refine hK.out _ _ YB10.out ?_
  clear hK K
  have bs10:=hb10.size
  have Ykx10:=bkH Ykx9 hb10
  clear hb10
  refine wpTree_one ?_
  refine stepT_mk rfl (fun K hK=>?_)
  have g0:=bkC (v:=.int .i64 0) Ykx10.out 0 rfl
  have g1:=bkC (v:=.int .i64 0) Ykx10.out 1 rfl
  have g2:=bkC (v:=.int .i64 0) Ykx10.out 2 rfl
  have g3:=bkC (v:=.int .i64 0) Ykx10.out 3 rfl
  have g4:=bkC (v:=.int .i64 0) Ykx10.out 4 rfl
  have g5:=bkC (v:=.int .i64 0) Ykx10.out 5 rfl
  have g6:=bkC (v:=.int .i64 0) Ykx10.out 6 rfl
  have g7:=bkC (v:=.int .i64 0) Ykx10.out 7 rfl
  have g8:=bkC (v:=.bool false) Ykx10.out 8 rfl
  have fz:=bkF Ykx10.out
  go_simp
  obtain⟨Y11,hW11,Ykx11,bs11,ho11,hl11⟩:=stAll Ykx10 [.int .i64 DI,.int .i64 BE,.int .i64 EL,.int .i64 FR,.int .i64 GA,.int .i64 DE,.int .i64 KC,.int .i64 PT,.bool cl] rfl
  simp only[setsC] at hW11
  rw[hW11]
  have YB11:=Lib.hid (hl11.out W0 (by have:=YB10.out.size;omega) YB10.out)
  refine hK.out _ _ YB11.out ?_
  clear hK K fz hW11 ho11 hl11 g0 g1 g2 g3 g4 g5 g6 g7 g8
  refine wpTree_nil ?_
  simp only[List.drop_succ_cons,List.drop_zero]
  go_wp2_with fail
  go_meet
  exact⟨_,cl,rfl,Ykx11.out,YB11.out,by omega,by omega⟩
 obtain⟨g,cl,rfl,kg_,hbW,hg1,hg2⟩:=hcut
 generalize wc=v3 at *
 replace HB:=Lib.hid hbW
 clear hbW
 obtain⟨t0,t1,t2,t3,t4,t5,t6,t7,t8,t9,t10,t11,t12,t13,t14,t15,t16,t17,t18,t19,t20⟩:=HD.out _ HB.out
 go_upto_region 2 with (fail)
 have p0:=bkC (v:=.int .i64 DI) kg_ 0 rfl
 have p1:=bkC (v:=.int .i64 BE) kg_ 1 rfl
 have p2:=bkC (v:=.int .i64 EL) kg_ 2 rfl
 have p3:=bkC (v:=.int .i64 FR) kg_ 3 rfl
 have p4:=bkC (v:=.int .i64 GA) kg_ 4 rfl
 have p5:=bkC (v:=.int .i64 DE) kg_ 5 rfl
 have p6:=bkC (v:=.int .i64 KC) kg_ 6 rfl
 have p7:=bkC (v:=.int .i64 PT) kg_ 7 rfl
 have p8:=bkC (v:=.bool cl) kg_ 8 rfl
 clear kg_
 have o0:=overC (w0:=v3) (show w.heap.size<v3.heap.size by have:=HB.out.size;omega)
 have o1:=overC (w0:=v3) (show (w.heap.size+1)<v3.heap.size by have:=HB.out.size;omega)
 have o2:=overC (w0:=v3) (show (w.heap.size+2)<v3.heap.size by have:=HB.out.size;omega)
 have o3:=overC (w0:=v3) (show (w.heap.size+3)<v3.heap.size by have:=HB.out.size;omega)
 have o4:=overC (w0:=v3) (show g<v3.heap.size by have:=HB.out.size;omega)
 refine wp_region_over v3.heap.size v3 (Below.refl _ _) (by kernel_rfl) (by kernel_rfl) ?_
 repeat (go_big_quiet_step (first|(go_at_call 110;with_reducible exact over_left (Nat.le_refl _) (CI.out _ (HB.out.trans ((over_below _ _ _).mono HB.out.size))))))
 refine wpQuiet_nil ?_
 rintro _ ⟨X,rfl⟩
 replace HB:=btr HB (over_below v3.heap.size v3 X)
 clear o0 o1 o2 o3 o4
 (try clear t0 t1 t2 t3 t4 t5 t6 t7 t8 t9 t10 t11 t12 t13 t14 t15 t16 t17 t18 t19 t20)
 clear p0 p1 p2 p3 p4 p5 p6 p7 p8
 generalize over v3.heap.size v3 X=u1 at *
 obtain⟨t0,t1,t2,t3,t4,t5,t6,t7,t8,t9,t10,t11,t12,t13,t14,t15,t16,t17,t18,t19,t20⟩:=HD.out _ HB.out
 go_wp2
 go_ret
 exact⟨by rw[HE.out];rfl,B0.out.trans (HB.out.mono B0.out.size)⟩
theorem l14Level_any (t:DTerrain) (n:DNetwork) (j:Nat) (hj:j<n.sectors.length) (q:DEnd) (T:TerrOk t) (v0 v1 v2 v3 v4 v5:Value) (pt po np:Nat) (pa:inT t (endR n (gSector n.sectors j)).place) (pb:inT t q.place) (ea:endP (endR n (gSector n.sectors j))) (eb:endP q) (hd:¬ ((endR n (gSector n.sectors j)).place.x=q.place.x∧(endR n (gSector n.sectors j)).place.y=q.place.y)) (k:Nat) (hk:k<n.sites.length) (hi:idxSite n.sites (gSector n.sectors j).site=(k:Int)) (ka kr:Nat) (hp:Parts n (gSector n.sectors j) ka kr) (l0:n.sites.length≤1099511627776) (l2:n.antennas.length≤1099511627776) (l3:n.radios.length≤1099511627776) (l1:n.sectors.length≤1099511627776) (f:Int) (f0:1≤f) (f1:f≤100000000) (w:World) (r0:Rd w.heap.size w (DSite.sT n.sites) v0) (r1:Rd w.heap.size w (DSector.sT n.sectors) v1) (r2:Rd w.heap.size w (DAntenna.sT n.antennas) v2) (r3:Rd w.heap.size w (DRadio.sT n.radios) v3) (r4:Rd w.heap.size w (intsT t.heights) v4) (r5:Rd w.heap.size w (intsT t.clutter) v5) (hnp:np<w.heap.size) (c0:w.cell? ⟨pt,po,none⟩=some (.int .i64 t.step)) (c1:w.cell? ⟨pt,po+1,none⟩=some (.int .i64 t.width)) (c2:w.cell? ⟨pt,po+2,none⟩=some (.int .i64 t.height)) (c3:w.cell? ⟨pt,po+3,none⟩=some (v4)) (c4:w.cell? ⟨pt,po+4,none⟩=some (v5)) (d0:w.cell? ⟨np,0,none⟩=some (v0)) (d1:w.cell? ⟨np,1,none⟩=some (v1)) (d2:w.cell? ⟨np,2,none⟩=some (v2)) (d3:w.cell? ⟨np,3,none⟩=some (v3)) :
  Calls Tryz.prog 46 #[.pointer (some ⟨pt,po,none⟩),.pointer (some ⟨np,0,none⟩),.int .i64 (j:Int),.int .i64 f,.agg #[.int .i64 q.place.x,.int .i64 q.place.y,.int .i64 q.above]] w fun e w'=>e=.returned (.int .i64 (levI t n (gSector n.sectors j) f q))∧Below w.heap.size w w':=by
 have HE:Hid (levI t n (gSector n.sectors j) f q=eirpN n (gSector n.sectors j) (bearI (endR n (gSector n.sectors j)).place q.place) (pathE t (endR n (gSector n.sectors j)) q)-pathT t (endR n (gSector n.sectors j)) q f):=rfl
 obtain⟨bp0,bp1⟩:=pathT_bd T pa pb ea eb f1
 obtain⟨be0,be1⟩:=eirpN_bd hp (bearI (endR n (gSector n.sectors j)).place q.place) (pathE t (endR n (gSector n.sectors j)) q)
 obtain⟨bb0,bb1⟩:=bearI_bd (endR n (gSector n.sectors j)).place q.place
 obtain⟨bl0,bl1⟩:=elevP_bd t (endR n (gSector n.sectors j)) q
 have hpt:pt<w.heap.size:=cell_lt c0
 obtain⟨W0,hW0,b0_,z0,k0⟩:=boxes1 w #[.int .i64 q.place.x,.int .i64 q.place.y,.int .i64 q.above] 50
 have e0_0:=bkC (v:=.int .i64 q.place.x) k0 0 rfl
 have e0_1:=bkC (v:=.int .i64 q.place.y) k0 1 rfl
 have e0_2:=bkC (v:=.int .i64 q.above) k0 2 rfl
 have HW0:=Lib.hid hW0
 have B0:=Lib.hid b0_
 have HD:Hid (∀ W:World,Below W0.heap.size W0 W→(W.cell? ⟨w.heap.size,0,none⟩=some (.int .i64 q.place.x)∧W.cell? ⟨w.heap.size,1,none⟩=some (.int .i64 q.place.y)∧W.cell? ⟨w.heap.size,2,none⟩=some (.int .i64 q.above))):=fun W hW=>⟨(bat hW w.heap.size _ (by omega)).trans e0_0,(bat hW w.heap.size _ (by omega)).trans e0_1,(bat hW w.heap.size _ (by omega)).trans e0_2⟩
 have HB:Hid (Below W0.heap.size W0 W0):=Below.refl _ _
 clear k0 e0_0 e0_1 e0_2 hW0 b0_
 have CE:Hid (∀ W:World,Below W0.heap.size W0 W→Calls Tryz.prog 45 #[.pointer (some ⟨np,0,none⟩),.int .i64 (j:Int)] W fun e w'=>e=.returned (.agg #[.int .i64 (endR n (gSector n.sectors j)).place.x,.int .i64 (endR n (gSector n.sectors j)).place.y,.int .i64 (endR n (gSector n.sectors j)).above])∧Below W.heap.size W w'):=fun  W hW=>l14End_any n v0 v1 np j W ((r0.below (B0.out.trans (hW.mono B0.out.size))).mono (B0.out.trans (hW.mono B0.out.size)).size) ((r1.below (B0.out.trans (hW.mono B0.out.size))).mono (B0.out.trans (hW.mono B0.out.size)).size) (Nat.lt_of_lt_of_le hnp (B0.out.trans (hW.mono B0.out.size)).size) ((bat (B0.out.trans (hW.mono B0.out.size)) np _ hnp).trans d0) ((bat (B0.out.trans (hW.mono B0.out.size)) np _ hnp).trans d1) l0 l1 hj k hk hi
 have CP:Hid (∀ W:World,Below W0.heap.size W0 W→Calls Tryz.prog 93 #[.pointer (some ⟨pt,po,none⟩),.agg #[.int .i64 (endR n (gSector n.sectors j)).place.x,.int .i64 (endR n (gSector n.sectors j)).place.y,.int .i64 (endR n (gSector n.sectors j)).above],.agg #[.int .i64 q.place.x,.int .i64 q.place.y,.int .i64 q.above],.int .i64 f] W fun e w'=>∃ cl:Bool,e=.returned (.agg #[.int .i64 (distI (endR n (gSector n.sectors j)).place q.place),.int .i64 (bearI (endR n (gSector n.sectors j)).place q.place),.int .i64 (pathE t (endR n (gSector n.sectors j)) q),.int .i64 (freeI f (distI (endR n (gSector n.sectors j)).place q.place)),.int .i64 (gasI f (distI (endR n (gSector n.sectors j)).place q.place)),.int .i64 (deyP (profO t (endR n (gSector n.sectors j)) q) f),.int .i64 (cluI (cAt t (endR n (gSector n.sectors j)).place) f (endR n (gSector n.sectors j)).above+cluI (cAt t q.place) f q.above),.int .i64 (pathT t (endR n (gSector n.sectors j)) q f),.bool cl])∧Below W.heap.size W w'):=fun  W hW=>l12Path_any t (endR n (gSector n.sectors j)) q T pa pb ea eb v4 v5 hd f f0 f1 pt po W ((r4.below (B0.out.trans (hW.mono B0.out.size))).mono (B0.out.trans (hW.mono B0.out.size)).size) ((r5.below (B0.out.trans (hW.mono B0.out.size))).mono (B0.out.trans (hW.mono B0.out.size)).size) ((bat (B0.out.trans (hW.mono B0.out.size)) pt _ hpt).trans c0) ((bat (B0.out.trans (hW.mono B0.out.size)) pt _ hpt).trans c1) ((bat (B0.out.trans (hW.mono B0.out.size)) pt _ hpt).trans c2) ((bat (B0.out.trans (hW.mono B0.out.size)) pt _ hpt).trans c3) ((bat (B0.out.trans (hW.mono B0.out.size)) pt _ hpt).trans c4)
 have CI:Hid (∀ W:World,Below W0.heap.size W0 W→Calls Tryz.prog 94 #[.pointer (some ⟨np,0,none⟩),.int .i64 (j:Int),.int .i64 (bearI (endR n (gSector n.sectors j)).place q.place),.int .i64 (pathE t (endR n (gSector n.sectors j)) q)] W fun e w'=>e=.returned (.int .i64 (eirpN n (gSector n.sectors j) (bearI (endR n (gSector n.sectors j)).place q.place) (pathE t (endR n (gSector n.sectors j)) q)))∧Below W.heap.size W w'):=fun  W hW=>l14Eirp_any n v1 v2 v3 np j _ _ W ((r1.below (B0.out.trans (hW.mono B0.out.size))).mono (B0.out.trans (hW.mono B0.out.size)).size) ((r2.below (B0.out.trans (hW.mono B0.out.size))).mono (B0.out.trans (hW.mono B0.out.size)).size) ((r3.below (B0.out.trans (hW.mono B0.out.size))).mono (B0.out.trans (hW.mono B0.out.size)).size) (Nat.lt_of_lt_of_le hnp (B0.out.trans (hW.mono B0.out.size)).size) ((bat (B0.out.trans (hW.mono B0.out.size)) np _ hnp).trans d1) ((bat (B0.out.trans (hW.mono B0.out.size)) np _ hnp).trans d2) ((bat (B0.out.trans (hW.mono B0.out.size)) np _ hnp).trans d3) l1 l2 l3 hj ka kr hp bb0 bb1 bl0 bl1
 clear r0 r1 r2 r3 r4 r5 hk hi l0 l1 l2 l3 hp T pa pb ea eb hd hj c0 c1 c2 c3 c4 d0 d1 d2 d3
 generalize cluI (cAt t (endR n (gSector n.sectors j)).place) f (endR n (gSector n.sectors j)).above+cluI (cAt t q.place) f q.above=KC at *
 generalize pathT t (endR n (gSector n.sectors j)) q f=PT at *
 generalize deyP (profO t (endR n (gSector n.sectors j)) q) f=DE at *
 generalize freeI f (distI (endR n (gSector n.sectors j)).place q.place)=FR at *
 generalize gasI f (distI (endR n (gSector n.sectors j)).place q.place)=GA at *
 generalize eirpN n (gSector n.sectors j) (bearI (endR n (gSector n.sectors j)).place q.place) (pathE t (endR n (gSector n.sectors j)) q)=EP at *
 generalize pathE t (endR n (gSector n.sectors j)) q=EL at *
 generalize bearI (endR n (gSector n.sectors j)).place q.place=BE at *
 generalize distI (endR n (gSector n.sectors j)).place q.place=DI at *
 generalize levI t n (gSector n.sectors j) f q=LV at *
 go_enter Tryz.func46,Tryz.ntmps46
 go_upto_region 1 with (fail)
 rw[HW0.out]
 go_cut [11] (fun s11 wx=>∃ (g:Nat) (cl:Bool),s11=.pointer (some ⟨g,0,none⟩)∧wx.heap[g]? = some (.cells #[.int .i64 DI,.int .i64 BE,.int .i64 EL,.int .i64 FR,.int .i64 GA,.int .i64 DE,.int .i64 KC,.int .i64 PT,.bool cl] 142 (0,0))∧Below W0.heap.size W0 wx∧W0.heap.size≤g∧g<wx.heap.size)
 case first =>
  refine wp_region_tree 9 (.read 0 (.read 1 (.read 2 (.read 4 (.read 5 (.two 3 7 (.two 6 7 (.one 7 (.one 8 .nil)) (.one 6 (.one 8 .nil))) (.one 3 (.one 6 (.one 8 .nil))))))))) (fun W=>Below W0.heap.size W0 W) (by kernel_rfl) (by kernel_rfl) (HB.out.drew) ?_
  have YB:=Lib.hid (HB.out.drew)
  have Yz:W0.heap.size≤W0.drew.heap.size:=Nat.le_refl _
  generalize W0.drew=Y at *
  iterate 5
   refine wpTree_read (v:=?_) rfl (fun _ _ _ h=>h) ?_ ?_
   rotate_left
   ·(intro W hSW;(try dsimp only at hSW);obtain⟨t0,t1,t2⟩:=HD.out W hSW;(go_simp<;>with_reducible rfl))
   (try simp only[Act.put,List.setIfInBounds_toArray,List.set_cons_zero,List.set_cons_succ])
  refine wpTree_two ?_ ?_
  refine stepT_mk rfl (fun K hK=>?_)
  go_simp
  refine (CE.out _ YB.out).mono ?_
  rintro e Y1 ⟨rfl,hb1⟩
  have YB1:=btr YB hb1
  refine hK.out _ _ YB1.out ?_
  clear hK K
  have bs1:=hb1.size
  clear hb1
  refine wpTree_two ?_ ?_
  refine stepT_mk rfl (fun K hK=>?_)
  go_simp
  refine (CP.out _ YB1.out).mono ?_
  rintro e Y2 ⟨cl,rfl,hb2⟩
  have YB2:=btr YB1 hb2
  refine hK.out _ _ YB2.out ?_
  clear hK K
  have bs2:=hb2.size
  clear hb2
  refine wpTree_one ?_
  refine stepT_mk rfl (fun K hK=>?_)
  go_simp
  obtain⟨Y3,hW3,hb3,zl3,hk3⟩:=boxes1 Y2 #[.int .i64 0,.int .i64 0,.int .i64 0,.int .i64 0,.int .i64 0,.int .i64 0,.int .i64 0,.int .i64 0,.bool false] 142
  rw[hW3]
  have Ykx3:=Lib.hid hk3
  have YB3:=btr YB2 hb3
  refine hK.out _ _ YB3.out ?_
  have bs3:=hb3.size
  clear hK K hW3 hk3 hb3
  refine wpTree_one ?_
  refine stepT_mk rfl (fun K hK=>?_)
  have g0:=bkC (v:=.int .i64 0) Ykx3.out 0 rfl
  have g1:=bkC (v:=.int .i64 0) Ykx3.out 1 rfl
  have g2:=bkC (v:=.int .i64 0) Ykx3.out 2 rfl
  have g3:=bkC (v:=.int .i64 0) Ykx3.out 3 rfl
  have g4:=bkC (v:=.int .i64 0) Ykx3.out 4 rfl
  have g5:=bkC (v:=.int .i64 0) Ykx3.out 5 rfl
  have g6:=bkC (v:=.int .i64 0) Ykx3.out 6 rfl
  have g7:=bkC (v:=.int .i64 0) Ykx3.out 7 rfl
  have g8:=bkC (v:=.bool false) Ykx3.out 8 rfl
  have fz:=bkF Ykx3.out
  go_simp
  obtain⟨Y4,hW4,Ykx4,bs4,ho4,hl4⟩:=stAll Ykx3 [.int .i64 DI,.int .i64 BE,.int .i64 EL,.int .i64 FR,.int .i64 GA,.int .i64 DE,.int .i64 KC,.int .i64 PT,.bool cl] rfl
  simp only[setsC] at hW4
  rw[hW4]
  have YB4:=Lib.hid (hl4.out W0 (by have:=YB3.out.size;omega) YB3.out)
  refine hK.out _ _ YB4.out ?_
  clear hK K fz hW4 ho4 hl4 g0 g1 g2 g3 g4 g5 g6 g7 g8
  refine wpTree_nil ?_
  simp only[List.drop_succ_cons,List.drop_zero]
  go_wp2_with fail
  go_meet
  exact⟨_,cl,rfl,Ykx4.out,YB4.out,by omega,by omega⟩
  refine stepT_mk rfl (fun K hK=>?_)
  go_simp
  obtain⟨Y5,hW5,hb5,zl5,hk5⟩:=boxes1 Y1 #[.int .i64 0,.int .i64 0,.int .i64 0,.int .i64 0,.int .i64 0,.int .i64 0,.int .i64 0,.int .i64 0,.bool false] 142
  rw[hW5]
  have Ykx5:=Lib.hid hk5
  have YB5:=btr YB1 hb5
  refine hK.out _ _ YB5.out ?_
  have bs5:=hb5.size
  clear hK K hW5 hk5 hb5
  refine wpTree_one ?_
  refine stepT_mk rfl (fun K hK=>?_)
  go_simp
  refine (CP.out _ YB5.out).mono ?_
  rintro e Y6 ⟨cl,rfl,hb6⟩
  have YB6:=btr YB5 hb6
  refine hK.out _ _ YB6.out ?_
  clear hK K
  have bs6:=hb6.size
  have Ykx6:=bkH Ykx5 hb6
  clear hb6
  refine wpTree_one ?_
  refine stepT_mk rfl (fun K hK=>?_)
  have g0:=bkC (v:=.int .i64 0) Ykx6.out 0 rfl
  have g1:=bkC (v:=.int .i64 0) Ykx6.out 1 rfl
  have g2:=bkC (v:=.int .i64 0) Ykx6.out 2 rfl
  have g3:=bkC (v:=.int .i64 0) Ykx6.out 3 rfl
  have g4:=bkC (v:=.int .i64 0) Ykx6.out 4 rfl
  have g5:=bkC (v:=.int .i64 0) Ykx6.out 5 rfl
  have g6:=bkC (v:=.int .i64 0) Ykx6.out 6 rfl
  have g7:=bkC (v:=.int .i64 0) Ykx6.out 7 rfl
  have g8:=bkC (v:=.bool false) Ykx6.out 8 rfl
  have fz:=bkF Ykx6.out
  go_simp
  obtain⟨Y7,hW7,Ykx7,bs7,ho7,hl7⟩:=stAll Ykx6 [.int .i64 DI,.int .i64 BE,.int .i64 EL,.int .i64 FR,.int .i64 GA,.int .i64 DE,.int .i64 KC,.int .i64 PT,.bool cl] rfl
  simp only[setsC] at hW7
  rw[hW7]
  have YB7:=Lib.hid (hl7.out W0 (by have:=YB6.out.size;omega) YB6.out)
  refine hK.out _ _ YB7.out ?_
  clear hK K fz hW7 ho7 hl7 g0 g1 g2 g3 g4 g5 g6 g7 g8
  refine wpTree_nil ?_
  simp only[List.drop_succ_cons,List.drop_zero]
  go_wp2_with fail
  go_meet
  exact⟨_,cl,rfl,Ykx7.out,YB7.out,by omega,by omega⟩
  refine stepT_mk rfl (fun K hK=>?_)
  go_simp
  obtain⟨Y8,hW8,hb8,zl8,hk8⟩:=boxes1 Y #[.int .i64 0,.int .i64 0,.int .i64 0,.int .i64 0,.int .i64 0,.int .i64 0,.int .i64 0,.int .i64 0,.bool false] 142
  rw[hW8]
  have Ykx8:=Lib.hid hk8
  have YB8:=btr YB hb8
  refine hK.out _ _ YB8.out ?_
  have bs8:=hb8.size
  clear hK K hW8 hk8 hb8
  refine wpTree_one ?_
  refine stepT_mk rfl (fun K hK=>?_)
  go_simp
  refine (CE.out _ YB8.out).mono ?_
  rintro e Y9 ⟨rfl,hb9⟩
  have YB9:=btr YB8 hb9
  refine hK.out _ _ YB9.out ?_
  clear hK K
  have bs9:=hb9.size
  have Ykx9:=bkH Ykx8 hb9
  clear hb9
  refine wpTree_one ?_
  refine stepT_mk rfl (fun K hK=>?_)
  go_simp
  refine (CP.out _ YB9.out).mono ?_
  rintro e Y10 ⟨cl,rfl,hb10⟩
  have YB10:=btr YB9 hb10
  refine hK.out _ _ YB10.out ?_
  clear hK K
  have bs10:=hb10.size
  have Ykx10:=bkH Ykx9 hb10
  clear hb10
  refine wpTree_one ?_
  refine stepT_mk rfl (fun K hK=>?_)
  have g0:=bkC (v:=.int .i64 0) Ykx10.out 0 rfl
  have g1:=bkC (v:=.int .i64 0) Ykx10.out 1 rfl
  have g2:=bkC (v:=.int .i64 0) Ykx10.out 2 rfl
  have g3:=bkC (v:=.int .i64 0) Ykx10.out 3 rfl
  have g4:=bkC (v:=.int .i64 0) Ykx10.out 4 rfl
  have g5:=bkC (v:=.int .i64 0) Ykx10.out 5 rfl
  have g6:=bkC (v:=.int .i64 0) Ykx10.out 6 rfl
  have g7:=bkC (v:=.int .i64 0) Ykx10.out 7 rfl
  have g8:=bkC (v:=.bool false) Ykx10.out 8 rfl
  have fz:=bkF Ykx10.out
  go_simp
  obtain⟨Y11,hW11,Ykx11,bs11,ho11,hl11⟩:=stAll Ykx10 [.int .i64 DI,.int .i64 BE,.int .i64 EL,.int .i64 FR,.int .i64 GA,.int .i64 DE,.int .i64 KC,.int .i64 PT,.bool cl] rfl
  simp only[setsC] at hW11
  rw[hW11]
  have YB11:=Lib.hid (hl11.out W0 (by have:=YB10.out.size;omega) YB10.out)
  refine hK.out _ _ YB11.out ?_
  clear hK K fz hW11 ho11 hl11 g0 g1 g2 g3 g4 g5 g6 g7 g8
  refine wpTree_nil ?_
  simp only[List.drop_succ_cons,List.drop_zero]
  go_wp2_with fail
  go_meet
  exact⟨_,cl,rfl,Ykx11.out,YB11.out,by omega,by omega⟩
 obtain⟨g,cl,rfl,kg_,hbW,hg1,hg2⟩:=hcut
 generalize wc=v3 at *
 replace HB:=Lib.hid hbW
 clear hbW
 obtain⟨t0,t1,t2⟩:=HD.out _ HB.out
 go_upto_region 2 with (fail)
 have p0:=bkC (v:=.int .i64 DI) kg_ 0 rfl
 have p1:=bkC (v:=.int .i64 BE) kg_ 1 rfl
 have p2:=bkC (v:=.int .i64 EL) kg_ 2 rfl
 have p3:=bkC (v:=.int .i64 FR) kg_ 3 rfl
 have p4:=bkC (v:=.int .i64 GA) kg_ 4 rfl
 have p5:=bkC (v:=.int .i64 DE) kg_ 5 rfl
 have p6:=bkC (v:=.int .i64 KC) kg_ 6 rfl
 have p7:=bkC (v:=.int .i64 PT) kg_ 7 rfl
 have p8:=bkC (v:=.bool cl) kg_ 8 rfl
 clear kg_
 have o0:=overC (w0:=v3) (show w.heap.size<v3.heap.size by have:=HB.out.size;omega)
 have o1:=overC (w0:=v3) (show g<v3.heap.size by have:=HB.out.size;omega)
 refine wp_region_over v3.heap.size v3 (Below.refl _ _) (by kernel_rfl) (by kernel_rfl) ?_
 repeat (go_big_quiet_step (first|(go_at_call 94;with_reducible exact over_left (Nat.le_refl _) (CI.out _ (HB.out.trans ((over_below _ _ _).mono HB.out.size))))))
 refine wpQuiet_nil ?_
 rintro _ ⟨X,rfl⟩
 replace HB:=btr HB (over_below v3.heap.size v3 X)
 clear o0 o1
 (try clear t0 t1 t2)
 clear p0 p1 p2 p3 p4 p5 p6 p7 p8
 generalize over v3.heap.size v3 X=u1 at *
 obtain⟨t0,t1,t2⟩:=HD.out _ HB.out
 go_wp2
 go_ret
 exact⟨by rw[HE.out];rfl,B0.out.trans (HB.out.mono B0.out.size)⟩
end Go.Proofs.YtdgmgchdjlfchaaGreatDoor
