/- Contracts: places of a profile, heights over it, for the program and for the reference. Conditions: valid profiles. -/
import Derived.Test.YtdgmgchdjlfchaaGreatDoorLvM
import Derived.Test.YtdgmgchdjlfchaaGreatDoorLvK
import Derived.Test.YtdgmgchdjlfchaaGreatDoorPl1
import Derived.Test.YtdgmgchdjlfchaaGreatDoorEirp3
import Derived.Lib.MinMax
namespace Go.Proofs.YtdgmgchdjlfchaaGreatDoor
set_option maxHeartbeats 4000000
set_option maxRecDepth 100000
open Go.RowKit
set_option linter.unusedVariables false
set_option linter.unusedSimpArgs false
theorem iLast_any (P:Pf) (hn:P.hs.length≤1048576) (vh:Value) (w:World) (r:Rd w.heap.size w (intsT P.hs) vh) :
  Calls Tryz.prog 208 #[.agg #[.int .i64 P.d,.int .i64 P.f,.int .i64 P.l,vh]] w fun e w'=>e=.returned (.int .i64 P.n)∧Below w.heap.size w w':=by
 have HE:Hid (P.n=(P.hs.length:Int)-1):=rfl
 generalize P.n=n at *
 have hni:(P.hs.length:Int)≤1048576:=by omega
 obtain⟨av,cv,ev,_,_,_⟩:=r.ints
 subst ev
 obtain⟨W0,hW0,b0_,z0,k0⟩:=boxes1 w #[.int .i64 P.d,.int .i64 P.f,.int .i64 P.l,.slice av P.hs.length cv] 180
 have e0_0:=bkC (v:=.int .i64 P.d) k0 0 rfl
 have e0_1:=bkC (v:=.int .i64 P.f) k0 1 rfl
 have e0_2:=bkC (v:=.int .i64 P.l) k0 2 rfl
 have e0_3:=bkC (v:=.slice av P.hs.length cv) k0 3 rfl
 have HW0:=Lib.hid hW0
 have B0:=Lib.hid b0_
 have HD:Hid (∀ W:World,Below W0.heap.size W0 W→(W.cell? ⟨w.heap.size,0,none⟩=some (.int .i64 P.d)∧W.cell? ⟨w.heap.size,1,none⟩=some (.int .i64 P.f)∧W.cell? ⟨w.heap.size,2,none⟩=some (.int .i64 P.l)∧W.cell? ⟨w.heap.size,3,none⟩=some (.slice av P.hs.length cv))):=fun W hW=>⟨(bat hW w.heap.size _ (by omega)).trans e0_0,(bat hW w.heap.size _ (by omega)).trans e0_1,(bat hW w.heap.size _ (by omega)).trans e0_2,(bat hW w.heap.size _ (by omega)).trans e0_3⟩
 have HB:Hid (Below W0.heap.size W0 W0):=Below.refl _ _
 clear k0 e0_0 e0_1 e0_2 e0_3 hW0 b0_
 go_enter Tryz.func208,Tryz.ntmps208
 go_upto_region 1 with (fail)
 rw[HW0.out]
 obtain⟨t0,t1,t2,t3⟩:=HD.out _ HB.out
 go_wp2
 go_ret
 exact⟨by rw[HE.out];rfl,B0.out.trans (HB.out.mono B0.out.size)⟩
theorem iOffset_any (P:Pf) (h:PfOk P) (vh:Value) (k:Nat) (hk:k<P.hs.length) (w:World) (r:Rd w.heap.size w (intsT P.hs) vh) :
  Calls Tryz.prog 235 #[.agg #[.int .i64 P.d,.int .i64 P.f,.int .i64 P.l,vh],.int .i64 (k:Int)] w fun e w'=>e=.returned (.int .i64 (offP P.d P.n k))∧Below w.heap.size w w':=by
 have HE0:Hid (offP P.d P.n k=if 2*(k:Int)≤P.n then rdiv (P.d*(k:Int)) P.n else P.d-rdiv (P.d*(P.n-(k:Int))) P.n):=rfl
 have CL0:Hid (∀ W,Rd W.heap.size W (intsT P.hs) vh→Calls Tryz.prog 208 #[.agg #[.int .i64 P.d,.int .i64 P.f,.int .i64 P.l,vh]] W fun e w'=>e=.returned (.int .i64 P.n)∧Below W.heap.size W w'):=fun W hr=>iLast_any P (by have:=h.n1;omega) vh W hr
 generalize offP P.d P.n k=OF at *
 have n0_:=h.n0
 have n1_:=h.n1
 have d0_:=h.d0
 have d1_:=h.d1
 have hn:(P.hs.length:Int)-1=P.n:=rfl
 have hli:(P.hs.length:Int)≤65:=by omega
 generalize P.n=n at *
 have ki:(k:Int)≤n:=by omega
 have ki0:(0:Int)≤(k:Int):=by omega
 have nb0:1≤n:=by omega
 have nb1:n≤64:=by omega
 have mm:=mulP (a:=P.d) (b:=(k:Int)) 283000 64 (by omega) (by omega) ki0 (by omega)
 have mn:=mulP (a:=P.d) (b:=n-(k:Int)) 283000 64 (by omega) (by omega) (by omega) (by omega)
 obtain⟨mm0,mm1⟩:=mm
 obtain⟨mn0,mn1⟩:=mn
 have rb1:=rdiv_in (a:=P.d*(k:Int)) (b:=n) (m:=P.d) nb0 mm0 (Int.mul_le_mul_of_nonneg_left ki (by omega))
 have rb2:=rdiv_in (a:=P.d*(n-(k:Int))) (b:=n) (m:=P.d) nb0 mn0 (Int.mul_le_mul_of_nonneg_left (by omega) (by omega))
 obtain⟨rb10,rb11⟩:=rb1
 obtain⟨rb20,rb21⟩:=rb2
 obtain⟨W0,hW0,b0_,z0,k0⟩:=boxes1 w #[.int .i64 P.d,.int .i64 P.f,.int .i64 P.l,vh] 180
 have e0_0:=bkC (v:=.int .i64 P.d) k0 0 rfl
 have e0_1:=bkC (v:=.int .i64 P.f) k0 1 rfl
 have e0_2:=bkC (v:=.int .i64 P.l) k0 2 rfl
 have e0_3:=bkC (v:=vh) k0 3 rfl
 have HW0:=Lib.hid hW0
 have B0:=Lib.hid b0_
 have HD:Hid (∀ W:World,Below W0.heap.size W0 W→(W.cell? ⟨w.heap.size,0,none⟩=some (.int .i64 P.d)∧W.cell? ⟨w.heap.size,1,none⟩=some (.int .i64 P.f)∧W.cell? ⟨w.heap.size,2,none⟩=some (.int .i64 P.l)∧W.cell? ⟨w.heap.size,3,none⟩=some (vh))):=fun W hW=>⟨(bat hW w.heap.size _ (by omega)).trans e0_0,(bat hW w.heap.size _ (by omega)).trans e0_1,(bat hW w.heap.size _ (by omega)).trans e0_2,(bat hW w.heap.size _ (by omega)).trans e0_3⟩
 have HB:Hid (Below W0.heap.size W0 W0):=Below.refl _ _
 clear k0 e0_0 e0_1 e0_2 e0_3 hW0 b0_
 have CL:Hid (∀ W:World,Below W0.heap.size W0 W→Calls Tryz.prog 208 #[.agg #[.int .i64 P.d,.int .i64 P.f,.int .i64 P.l,vh]] W fun e w'=>e=.returned (.int .i64 n)∧Below W.heap.size W w'):=fun  W hW=>CL0.out W (rd_at r B0.out hW)
 have CD1:Hid (∀ W:World,Below W0.heap.size W0 W→Calls Tryz.prog 202 #[.int .i64 (P.d*(k:Int)),.int .i64 n] W fun e w'=>e=.returned (.int .i64 (rdiv (P.d*(k:Int)) n))∧Below W.heap.size W w'):=fun  W hW=>divRound_any _ _ (by omega) (by omega) (by omega) (by omega) W
 have CD2:Hid (∀ W:World,Below W0.heap.size W0 W→Calls Tryz.prog 202 #[.int .i64 (P.d*(n-(k:Int))),.int .i64 n] W fun e w'=>e=.returned (.int .i64 (rdiv (P.d*(n-(k:Int))) n))∧Below W.heap.size W w'):=fun  W hW=>divRound_any _ _ (by omega) (by omega) (by omega) (by omega) W
 generalize rdiv (P.d*(k:Int)) n=q1 at *
 generalize rdiv (P.d*(n-(k:Int))) n=q2 at *
 by_cases hc:2*(k:Int)≤n
 ·have HE:Hid (OF=q1):=by show _=_;rw[HE0.out,if_pos hc]
  go_enter Tryz.func235,Tryz.ntmps235
  go_upto_region 1 with (fail)
  rw[HW0.out]
  obtain⟨t0,t1,t2,t3⟩:=HD.out _ HB.out
  go_wp2_with ((first|(go_at_call 208;with_reducible refine (CL.out _ HB.out).mono ?_)|(go_at_call 202;with_reducible refine (CD1.out _ HB.out).mono ?_));rintro e v1 ⟨rfl,hb_⟩;(try clear t0 t1 t2 t3);replace HB:=btr HB hb_;clear hb_;obtain⟨t0,t1,t2,t3⟩:=HD.out _ HB.out)
  go_ret
  exact⟨by rw[HE.out];rfl,B0.out.trans (HB.out.mono B0.out.size)⟩
 ·have HE:Hid (OF=P.d-q2):=by show _=_;rw[HE0.out,if_neg hc]
  go_enter Tryz.func235,Tryz.ntmps235
  go_upto_region 1 with (fail)
  rw[HW0.out]
  obtain⟨t0,t1,t2,t3⟩:=HD.out _ HB.out
  go_upto_region 4 with (first|(go_at_call 208;with_reducible refine (CL.out _ HB.out).mono ?_;rintro e v1 ⟨rfl,hb_⟩;(try clear t0 t1 t2 t3);replace HB:=btr HB hb_;clear hb_;obtain⟨t0,t1,t2,t3⟩:=HD.out _ HB.out))
  have o0:=overC (w0:=v1) (show w.heap.size<v1.heap.size by have:=HB.out.size;omega)
  refine wp_region_over v1.heap.size v1 (Below.refl _ _) (by kernel_rfl) (by kernel_rfl) ?_
  repeat (go_big_quiet_step (first|(go_at_call 202;with_reducible exact over_left (Nat.le_refl _) (CD2.out _ (HB.out.trans ((over_below _ _ _).mono HB.out.size))))))
  refine wpQuiet_nil ?_
  rintro _ ⟨X,rfl⟩
  replace HB:=btr HB (over_below v1.heap.size v1 X)
  clear o0
  (try clear t0 t1 t2 t3)
  generalize over v1.heap.size v1 X=u2 at *
  obtain⟨t0,t1,t2,t3⟩:=HD.out _ HB.out
  go_wp2
  go_ret
  exact⟨by rw[HE.out];rfl,B0.out.trans (HB.out.mono B0.out.size)⟩
theorem l05Offset_any (P:Pf) (h:PfOk P) (vh:Value) (b off:Nat) (k:Nat) (hk:k<P.hs.length) (w:World) (r:Rd w.heap.size w (intsT P.hs) vh) (c0:w.cell? ⟨b,off,none⟩=some (.int .i64 P.d)) (c1:w.cell? ⟨b,off+1,none⟩=some (.int .i64 P.f)) (c2:w.cell? ⟨b,off+2,none⟩=some (.int .i64 P.l)) (c3:w.cell? ⟨b,off+3,none⟩=some (vh)) :
  Calls Tryz.prog 240 #[.pointer (some ⟨b,off,none⟩),.int .i64 (k:Int)] w fun e w'=>e=.returned (.int .i64 (offP P.d P.n k))∧Below w.heap.size w w':=by
 have hbp:b<w.heap.size:=cell_lt c0
 have HE0:Hid (offP P.d P.n k=if 2*(k:Int)≤P.n then rdiv (P.d*(k:Int)) P.n else P.d-rdiv (P.d*(P.n-(k:Int))) P.n):=rfl
 generalize offP P.d P.n k=OF at *
 have n0_:=h.n0
 have n1_:=h.n1
 have d0_:=h.d0
 have d1_:=h.d1
 have hn:(P.hs.length:Int)-1=P.n:=rfl
 have hli:(P.hs.length:Int)≤65:=by omega
 generalize P.n=n at *
 have ki:(k:Int)≤n:=by omega
 have ki0:(0:Int)≤(k:Int):=by omega
 have nb0:1≤n:=by omega
 have nb1:n≤64:=by omega
 have mm:=mulP (a:=P.d) (b:=(k:Int)) 283000 64 (by omega) (by omega) ki0 (by omega)
 have mn:=mulP (a:=P.d) (b:=n-(k:Int)) 283000 64 (by omega) (by omega) (by omega) (by omega)
 obtain⟨mm0,mm1⟩:=mm
 obtain⟨mn0,mn1⟩:=mn
 have rb1:=rdiv_in (a:=P.d*(k:Int)) (b:=n) (m:=P.d) nb0 mm0 (Int.mul_le_mul_of_nonneg_left ki (by omega))
 have rb2:=rdiv_in (a:=P.d*(n-(k:Int))) (b:=n) (m:=P.d) nb0 mn0 (Int.mul_le_mul_of_nonneg_left (by omega) (by omega))
 obtain⟨rb10,rb11⟩:=rb1
 obtain⟨rb20,rb21⟩:=rb2
 obtain⟨av,cv,ev,_,_,_⟩:=r.ints
 subst ev
 have B0:Hid (Below w.heap.size w w):=Below.refl _ _
 have HD:Hid (∀ W:World,Below w.heap.size w W→(W.cell? ⟨b,off,none⟩=some (.int .i64 P.d)∧W.cell? ⟨b,off+1,none⟩=some (.int .i64 P.f)∧W.cell? ⟨b,off+2,none⟩=some (.int .i64 P.l)∧W.cell? ⟨b,off+3,none⟩=some (.slice av P.hs.length cv))):=fun W hW=>⟨(bat hW b _ (by omega)).trans c0,(bat hW b _ (by omega)).trans c1,(bat hW b _ (by omega)).trans c2,(bat hW b _ (by omega)).trans c3⟩
 have HB:Hid (Below w.heap.size w w):=Below.refl _ _
 have CD1:Hid (∀ W:World,Below w.heap.size w W→Calls Tryz.prog 178 #[.int .i64 (P.d*(k:Int)),.int .i64 n] W fun e w'=>e=.returned (.int .i64 (rdiv (P.d*(k:Int)) n))∧Below W.heap.size W w'):=fun  W hW=>same_below (l01Div_any _ _ (by omega) (by omega) (by omega) (by omega) W)
 have CD2:Hid (∀ W:World,Below w.heap.size w W→Calls Tryz.prog 178 #[.int .i64 (P.d*(n-(k:Int))),.int .i64 n] W fun e w'=>e=.returned (.int .i64 (rdiv (P.d*(n-(k:Int))) n))∧Below W.heap.size W w'):=fun  W hW=>same_below (l01Div_any _ _ (by omega) (by omega) (by omega) (by omega) W)
 clear c0 c1 c2 c3
 generalize rdiv (P.d*(k:Int)) n=q1 at *
 generalize rdiv (P.d*(n-(k:Int))) n=q2 at *
 by_cases hc:2*(k:Int)≤n
 ·have HE:Hid (OF=q1):=by show _=_;rw[HE0.out,if_pos hc]
  go_enter Tryz.func240,Tryz.ntmps240
  obtain⟨t0,t1,t2,t3⟩:=HD.out _ HB.out
  go_wp2_with (first|(go_at_call 178;with_reducible refine (CD1.out _ HB.out).mono ?_;rintro e v1 ⟨rfl,hb_⟩;(try clear t0 t1 t2 t3);replace HB:=btr HB hb_;clear hb_;obtain⟨t0,t1,t2,t3⟩:=HD.out _ HB.out))
  go_ret
  exact⟨by rw[HE.out];rfl,B0.out.trans (HB.out.mono B0.out.size)⟩
 ·have HE:Hid (OF=P.d-q2):=by show _=_;rw[HE0.out,if_neg hc]
  go_enter Tryz.func240,Tryz.ntmps240
  obtain⟨t0,t1,t2,t3⟩:=HD.out _ HB.out
  go_upto_region 3 with (fail)
  have o0:=overC (w0:=w) (show b<w.heap.size by have:=HB.out.size;omega)
  refine wp_region_over w.heap.size w (Below.refl _ _) (by kernel_rfl) (by kernel_rfl) ?_
  repeat (go_big_quiet_step (first|(go_at_call 178;with_reducible exact over_left (Nat.le_refl _) (CD2.out _ (HB.out.trans ((over_below _ _ _).mono HB.out.size))))))
  refine wpQuiet_nil ?_
  rintro _ ⟨X,rfl⟩
  replace HB:=btr HB (over_below w.heap.size w X)
  clear o0
  (try clear t0 t1 t2 t3)
  generalize over w.heap.size w X=u2 at *
  obtain⟨t0,t1,t2,t3⟩:=HD.out _ HB.out
  go_wp2
  go_ret
  exact⟨by rw[HE.out];rfl,B0.out.trans (HB.out.mono B0.out.size)⟩
theorem iLine_any (P:Pf) (h:PfOk P) (vh:Value) (k:Nat) (hk:k<P.hs.length) (w:World) (r:Rd w.heap.size w (intsT P.hs) vh) :
  Calls Tryz.prog 256 #[.agg #[.int .i64 P.d,.int .i64 P.f,.int .i64 P.l,vh],.int .i64 (k:Int)] w fun e w'=>e=.returned (.int .i64 (lineP P.f P.l P.n k))∧Below w.heap.size w w':=by
 have HE:Hid (lineP P.f P.l P.n k=rdiv (P.f*(P.n-(k:Int))+P.l*(k:Int)) P.n):=rfl
 have CL0:Hid (∀ W,Rd W.heap.size W (intsT P.hs) vh→Calls Tryz.prog 208 #[.agg #[.int .i64 P.d,.int .i64 P.f,.int .i64 P.l,vh]] W fun e w'=>e=.returned (.int .i64 P.n)∧Below W.heap.size W w'):=fun W hr=>iLast_any P (by have:=h.n1;omega) vh W hr
 generalize lineP P.f P.l P.n k=LN at *
 have n0_:=h.n0
 have n1_:=h.n1
 have d0_:=h.d0
 have d1_:=h.d1
 have hn:(P.hs.length:Int)-1=P.n:=rfl
 have hli:(P.hs.length:Int)≤65:=by omega
 generalize P.n=n at *
 have ki:(k:Int)≤n:=by omega
 have ki0:(0:Int)≤(k:Int):=by omega
 have nb0:1≤n:=by omega
 have nb1:n≤64:=by omega
 have f0_:=h.f0
 have f1_:=h.f1
 have l0_:=h.l0
 have l1_:=h.l1
 obtain⟨ma0,ma1⟩:=mulP (a:=P.f) (b:=n-(k:Int)) 180000 64 f0_ f1_ (by omega) (by omega)
 obtain⟨mb0,mb1⟩:=mulP (a:=P.l) (b:=(k:Int)) 180000 64 l0_ l1_ (by omega) (by omega)
 obtain⟨W0,hW0,b0_,z0,k0⟩:=boxes1 w #[.int .i64 P.d,.int .i64 P.f,.int .i64 P.l,vh] 180
 have e0_0:=bkC (v:=.int .i64 P.d) k0 0 rfl
 have e0_1:=bkC (v:=.int .i64 P.f) k0 1 rfl
 have e0_2:=bkC (v:=.int .i64 P.l) k0 2 rfl
 have e0_3:=bkC (v:=vh) k0 3 rfl
 have HW0:=Lib.hid hW0
 have B0:=Lib.hid b0_
 have HD:Hid (∀ W:World,Below W0.heap.size W0 W→(W.cell? ⟨w.heap.size,0,none⟩=some (.int .i64 P.d)∧W.cell? ⟨w.heap.size,1,none⟩=some (.int .i64 P.f)∧W.cell? ⟨w.heap.size,2,none⟩=some (.int .i64 P.l)∧W.cell? ⟨w.heap.size,3,none⟩=some (vh))):=fun W hW=>⟨(bat hW w.heap.size _ (by omega)).trans e0_0,(bat hW w.heap.size _ (by omega)).trans e0_1,(bat hW w.heap.size _ (by omega)).trans e0_2,(bat hW w.heap.size _ (by omega)).trans e0_3⟩
 have HB:Hid (Below W0.heap.size W0 W0):=Below.refl _ _
 clear k0 e0_0 e0_1 e0_2 e0_3 hW0 b0_
 have CL:Hid (∀ W:World,Below W0.heap.size W0 W→Calls Tryz.prog 208 #[.agg #[.int .i64 P.d,.int .i64 P.f,.int .i64 P.l,vh]] W fun e w'=>e=.returned (.int .i64 n)∧Below W.heap.size W w'):=fun  W hW=>CL0.out W (rd_at r B0.out hW)
 have CD:Hid (∀ W:World,Below W0.heap.size W0 W→Calls Tryz.prog 202 #[.int .i64 (P.f*(n-(k:Int))+P.l*(k:Int)),.int .i64 n] W fun e w'=>e=.returned (.int .i64 (rdiv (P.f*(n-(k:Int))+P.l*(k:Int)) n))∧Below W.heap.size W w'):=fun  W hW=>divRound_any _ _ (by omega) (by omega) (by omega) (by omega) W
 go_enter Tryz.func256,Tryz.ntmps256
 go_upto_region 1 with (fail)
 rw[HW0.out]
 obtain⟨t0,t1,t2,t3⟩:=HD.out _ HB.out
 go_wp2_with ((first|(go_at_call 208;with_reducible refine (CL.out _ HB.out).mono ?_)|(go_at_call 202;with_reducible refine (CD.out _ HB.out).mono ?_));rintro e v1 ⟨rfl,hb_⟩;(try clear t0 t1 t2 t3);replace HB:=btr HB hb_;clear hb_;obtain⟨t0,t1,t2,t3⟩:=HD.out _ HB.out)
 go_ret
 exact⟨by rw[HE.out];rfl,B0.out.trans (HB.out.mono B0.out.size)⟩
theorem l05Line_any (P:Pf) (h:PfOk P) (vh:Value) (b off:Nat) (k:Nat) (hk:k<P.hs.length) (w:World) (r:Rd w.heap.size w (intsT P.hs) vh) (c0:w.cell? ⟨b,off,none⟩=some (.int .i64 P.d)) (c1:w.cell? ⟨b,off+1,none⟩=some (.int .i64 P.f)) (c2:w.cell? ⟨b,off+2,none⟩=some (.int .i64 P.l)) (c3:w.cell? ⟨b,off+3,none⟩=some (vh)) :
  Calls Tryz.prog 253 #[.pointer (some ⟨b,off,none⟩),.int .i64 (k:Int)] w fun e w'=>e=.returned (.int .i64 (lineP P.f P.l P.n k))∧Below w.heap.size w w':=by
 have hbp:b<w.heap.size:=cell_lt c0
 have HE:Hid (lineP P.f P.l P.n k=rdiv (P.f*(P.n-(k:Int))+P.l*(k:Int)) P.n):=rfl
 generalize lineP P.f P.l P.n k=LN at *
 have n0_:=h.n0
 have n1_:=h.n1
 have d0_:=h.d0
 have d1_:=h.d1
 have hn:(P.hs.length:Int)-1=P.n:=rfl
 have hli:(P.hs.length:Int)≤65:=by omega
 generalize P.n=n at *
 have ki:(k:Int)≤n:=by omega
 have ki0:(0:Int)≤(k:Int):=by omega
 have nb0:1≤n:=by omega
 have nb1:n≤64:=by omega
 have f0_:=h.f0
 have f1_:=h.f1
 have l0_:=h.l0
 have l1_:=h.l1
 obtain⟨ma0,ma1⟩:=mulP (a:=P.f) (b:=n-(k:Int)) 180000 64 f0_ f1_ (by omega) (by omega)
 obtain⟨mb0,mb1⟩:=mulP (a:=P.l) (b:=(k:Int)) 180000 64 l0_ l1_ (by omega) (by omega)
 obtain⟨av,cv,ev,_,_,_⟩:=r.ints
 subst ev
 have B0:Hid (Below w.heap.size w w):=Below.refl _ _
 have HD:Hid (∀ W:World,Below w.heap.size w W→(W.cell? ⟨b,off,none⟩=some (.int .i64 P.d)∧W.cell? ⟨b,off+1,none⟩=some (.int .i64 P.f)∧W.cell? ⟨b,off+2,none⟩=some (.int .i64 P.l)∧W.cell? ⟨b,off+3,none⟩=some (.slice av P.hs.length cv))):=fun W hW=>⟨(bat hW b _ (by omega)).trans c0,(bat hW b _ (by omega)).trans c1,(bat hW b _ (by omega)).trans c2,(bat hW b _ (by omega)).trans c3⟩
 have HB:Hid (Below w.heap.size w w):=Below.refl _ _
 have CD:Hid (∀ W:World,Below w.heap.size w W→Calls Tryz.prog 178 #[.int .i64 (P.f*(n-(k:Int))+P.l*(k:Int)),.int .i64 n] W fun e w'=>e=.returned (.int .i64 (rdiv (P.f*(n-(k:Int))+P.l*(k:Int)) n))∧Below W.heap.size W w'):=fun  W hW=>same_below (l01Div_any _ _ (by omega) (by omega) (by omega) (by omega) W)
 clear c0 c1 c2 c3
 go_enter Tryz.func253,Tryz.ntmps253
 obtain⟨t0,t1,t2,t3⟩:=HD.out _ HB.out
 go_upto_region 2 with (fail)
 have o0:=overC (w0:=w) (show b<w.heap.size by have:=HB.out.size;omega)
 refine wp_region_over w.heap.size w (Below.refl _ _) (by kernel_rfl) (by kernel_rfl) ?_
 repeat (go_big_quiet_step (first|(go_at_call 178;with_reducible exact over_left (Nat.le_refl _) (CD.out _ (HB.out.trans ((over_below _ _ _).mono HB.out.size))))))
 refine wpQuiet_nil ?_
 rintro _ ⟨X,rfl⟩
 replace HB:=btr HB (over_below w.heap.size w X)
 clear o0
 (try clear t0 t1 t2 t3)
 generalize over w.heap.size w X=u2 at *
 obtain⟨t0,t1,t2,t3⟩:=HD.out _ HB.out
 go_wp2
 go_ret
 exact⟨by rw[HE.out];rfl,B0.out.trans (HB.out.mono B0.out.size)⟩
theorem iBulge_any (x y:Int) (x0:0≤x) (x1:x≤283000) (y0:0≤y) (y1:y≤283000) (w:World) :
  Calls Tryz.prog 263 #[.int .i64 x,.int .i64 y] w fun e w'=>e=.returned (.int .i64 (bulI x y))∧Below w.heap.size w w':=by
 have HE:Hid (bulI x y=rdiv (10*x*y) 16989334):=rfl
 obtain⟨⟨m0,m1⟩,_⟩:=bulI_bd x0 x1 y0 y1
 generalize bulI x y=BV at *
 have B0:Hid (Below w.heap.size w w):=Below.refl _ _
 have HB:Hid (Below w.heap.size w w):=Below.refl _ _
 have CX:Hid (∀ W:World,Below w.heap.size w W→Calls Tryz.prog 74 #[.int .i64 x,.int .i64 0,.int .i64 283000] W fun e w'=>e=.returned (.bool true)∧Below W.heap.size W w'):=fun  W hW=>by
   have hh:=within_any x 0 283000 W
   rw[inB_true.2 ⟨x0,x1⟩] at hh
   exact same_below hh
 have CY:Hid (∀ W:World,Below w.heap.size w W→Calls Tryz.prog 74 #[.int .i64 y,.int .i64 0,.int .i64 283000] W fun e w'=>e=.returned (.bool true)∧Below W.heap.size W w'):=fun  W hW=>by
   have hh:=within_any y 0 283000 W
   rw[inB_true.2 ⟨y0,y1⟩] at hh
   exact same_below hh
 have CD:Hid (∀ W:World,Below w.heap.size w W→Calls Tryz.prog 202 #[.int .i64 (10*x*y),.int .i64 16989334] W fun e w'=>e=.returned (.int .i64 (rdiv (10*x*y) 16989334))∧Below W.heap.size W w'):=fun  W hW=>divRound_any _ _ (by omega) (by omega) (by omega) (by omega) W
 go_enter Tryz.func263,Tryz.ntmps263
 skip
 go_wp2_with ((first|(go_at_call 74;with_reducible refine (CX.out _ HB.out).mono ?_)|(go_at_call 74;with_reducible refine (CY.out _ HB.out).mono ?_)|(go_at_call 202;with_reducible refine (CD.out _ HB.out).mono ?_));rintro e v1 ⟨rfl,hb_⟩;replace HB:=btr HB hb_;clear hb_;skip)
 go_ret
 exact⟨by rw[HE.out];rfl,B0.out.trans (HB.out.mono B0.out.size)⟩
theorem l05Bulge_any (x y:Int) (x0:0≤x) (x1:x≤283000) (y0:0≤y) (y1:y≤283000) (w:World) :
  Calls Tryz.prog 254 #[.int .i64 x,.int .i64 y] w fun e w'=>e=.returned (.int .i64 (bulI x y))∧Below w.heap.size w w':=by
 have HE:Hid (bulI x y=rdiv (10*x*y) 16989334):=rfl
 obtain⟨⟨m0,m1⟩,_⟩:=bulI_bd x0 x1 y0 y1
 generalize bulI x y=BV at *
 have B0:Hid (Below w.heap.size w w):=Below.refl _ _
 have HB:Hid (Below w.heap.size w w):=Below.refl _ _
 have CD:Hid (∀ W:World,Below w.heap.size w W→Calls Tryz.prog 178 #[.int .i64 (10*x*y),.int .i64 16989334] W fun e w'=>e=.returned (.int .i64 (rdiv (10*x*y) 16989334))∧Below W.heap.size W w'):=fun  W hW=>same_below (l01Div_any _ _ (by omega) (by omega) (by omega) (by omega) W)
 go_enter Tryz.func254,Tryz.ntmps254
 skip
 go_wp2_with (first|(go_at_call 178;with_reducible refine (CD.out _ HB.out).mono ?_;rintro e v1 ⟨rfl,hb_⟩;replace HB:=btr HB hb_;clear hb_;skip))
 go_ret
 exact⟨by rw[HE.out];rfl,B0.out.trans (HB.out.mono B0.out.size)⟩
theorem iFresnel_any (f x y:Int) (f0:1≤f) (f1:f≤100000000) (x0:0≤x) (x1:x≤283000) (y0:0≤y) (y1:y≤283000) (w:World) :
  Calls Tryz.prog 258 #[.int .i64 f,.int .i64 x,.int .i64 y] w fun e w'=>e=.returned (.int .i64 (freI f x y))∧Below w.heap.size w w':=by
 obtain⟨⟨p0,p1⟩,⟨q0,q1⟩,⟨r0,r1⟩,hpos⟩:=freI_in f0 f1 x0 x1 y0 y1
 have HE0:Hid (freI f x y=if x+y=0 then 0 else isq (29979246*x*y / (f*(x+y)))):=rfl
 generalize freI f x y=FV at *
 have B0:Hid (Below w.heap.size w w):=Below.refl _ _
 have HB:Hid (Below w.heap.size w w):=Below.refl _ _
 have CX:Hid (∀ W:World,Below w.heap.size w W→Calls Tryz.prog 74 #[.int .i64 x,.int .i64 0,.int .i64 283000] W fun e w'=>e=.returned (.bool true)∧Below W.heap.size W w'):=fun  W hW=>by
   have hh:=within_any x 0 283000 W
   rw[inB_true.2 ⟨x0,x1⟩] at hh
   exact same_below hh
 have CY:Hid (∀ W:World,Below w.heap.size w W→Calls Tryz.prog 74 #[.int .i64 y,.int .i64 0,.int .i64 283000] W fun e w'=>e=.returned (.bool true)∧Below W.heap.size W w'):=fun  W hW=>by
   have hh:=within_any y 0 283000 W
   rw[inB_true.2 ⟨y0,y1⟩] at hh
   exact same_below hh
 have CF:Hid (∀ W:World,Below w.heap.size w W→Calls Tryz.prog 57 #[.int .i64 f] W fun e w'=>e=.returned (.bool true)∧Below W.heap.size W w'):=fun  W hW=>by
   have hh:=frequencyOk_any f W
   rw[inB_true.2 ⟨f0,f1⟩] at hh
   exact same_below hh
 by_cases hz:x+y=0
 ·have HE:Hid (FV=0):=by show _=_;rw[HE0.out,if_pos hz]
  go_enter Tryz.func258,Tryz.ntmps258
  skip
  go_wp2_with ((first|(go_at_call 74;with_reducible refine (CX.out _ HB.out).mono ?_)|(go_at_call 74;with_reducible refine (CY.out _ HB.out).mono ?_)|(go_at_call 57;with_reducible refine (CF.out _ HB.out).mono ?_));rintro e v1 ⟨rfl,hb_⟩;replace HB:=btr HB hb_;clear hb_;skip)
  go_ret
  exact⟨by rw[HE.out];rfl,B0.out.trans (HB.out.mono B0.out.size)⟩
 have hp:=hpos hz
 have HE:Hid (FV=isq (29979246*x*y / (f*(x+y)))):=by show _=_;rw[HE0.out,if_neg hz]
 have dv0:0≤29979246*x*y / (f*(x+y)):=Int.ediv_nonneg q0 (by omega)
 have dv1:29979246*x*y / (f*(x+y))≤29979246*x*y:=Int.ediv_le_self _ q0
 clear hpos HE0
 have CR:Hid (∀ W:World,Below w.heap.size w W→Calls Tryz.prog 225 #[.int .i64 (29979246*x*y / (f*(x+y)))] W fun e w'=>e=.returned (.int .i64 (isq (29979246*x*y / (f*(x+y)))))∧Below W.heap.size W w'):=fun  W hW=>rootOf_any _ (by omega) (by omega) W
 go_enter Tryz.func258,Tryz.ntmps258
 skip
 go_wp2_with ((first|(go_at_call 74;with_reducible refine (CX.out _ HB.out).mono ?_)|(go_at_call 74;with_reducible refine (CY.out _ HB.out).mono ?_)|(go_at_call 57;with_reducible refine (CF.out _ HB.out).mono ?_)|(go_at_call 225;with_reducible refine (CR.out _ HB.out).mono ?_));rintro e v1 ⟨rfl,hb_⟩;replace HB:=btr HB hb_;clear hb_;skip)
 go_ret
 exact⟨by rw[HE.out];rfl,B0.out.trans (HB.out.mono B0.out.size)⟩
theorem l05Fresnel_any (f x y:Int) (f0:1≤f) (f1:f≤100000000) (x0:0≤x) (x1:x≤283000) (y0:0≤y) (y1:y≤283000) (w:World) :
  Calls Tryz.prog 243 #[.int .i64 f,.int .i64 x,.int .i64 y] w fun e w'=>e=.returned (.int .i64 (freI f x y))∧Below w.heap.size w w':=by
 obtain⟨⟨p0,p1⟩,⟨q0,q1⟩,⟨r0,r1⟩,hpos⟩:=freI_in f0 f1 x0 x1 y0 y1
 have HE0:Hid (freI f x y=if x+y=0 then 0 else isq (29979246*x*y / (f*(x+y)))):=rfl
 generalize freI f x y=FV at *
 have B0:Hid (Below w.heap.size w w):=Below.refl _ _
 have HB:Hid (Below w.heap.size w w):=Below.refl _ _
 by_cases hz:x+y=0
 ·have HE:Hid (FV=0):=by show _=_;rw[HE0.out,if_pos hz]
  go_enter Tryz.func243,Tryz.ntmps243
  skip
  go_wp2
  go_ret
  exact⟨by rw[HE.out];rfl,B0.out.trans (HB.out.mono B0.out.size)⟩
 have hp:=hpos hz
 have HE:Hid (FV=isq (29979246*x*y / (f*(x+y)))):=by show _=_;rw[HE0.out,if_neg hz]
 have dv0:0≤29979246*x*y / (f*(x+y)):=Int.ediv_nonneg q0 (by omega)
 have dv1:29979246*x*y / (f*(x+y))≤29979246*x*y:=Int.ediv_le_self _ q0
 clear hpos HE0
 have CR:Hid (∀ W:World,Below w.heap.size w W→Calls Tryz.prog 214 #[.int .i64 (29979246*x*y / (f*(x+y)))] W fun e w'=>e=.returned (.int .i64 (isq (29979246*x*y / (f*(x+y)))))∧Below W.heap.size W w'):=fun  W hW=>same_below (l01Root_any _ (by omega) W)
 go_enter Tryz.func243,Tryz.ntmps243
 skip
 go_wp2_with (first|(go_at_call 214;with_reducible refine (CR.out _ HB.out).mono ?_;rintro e v1 ⟨rfl,hb_⟩;replace HB:=btr HB hb_;clear hb_;skip))
 go_ret
 exact⟨by rw[HE.out];rfl,B0.out.trans (HB.out.mono B0.out.size)⟩
theorem iGround_any (P:Pf) (h:PfOk P) (vh:Value) (k:Nat) (hk:k<P.hs.length) (w:World) (r:Rd w.heap.size w (intsT P.hs) vh) :
  Calls Tryz.prog 257 #[.agg #[.int .i64 P.d,.int .i64 P.f,.int .i64 P.l,vh],.int .i64 (k:Int)] w fun e w'=>e=.returned (.int .i64 (gi P.hs k+bulI (offP P.d P.n k) (P.d-offP P.d P.n k)))∧Below w.heap.size w w':=by
 obtain⟨of0,of1,of2⟩:=off_ok h (i:=(k:Int)) (by omega) (by have:P.n=(P.hs.length:Int)-1:=rfl;omega)
 have d1_:=h.d1
 have d0_:=h.d0
 have n1_:=h.n1
 obtain⟨av,cv,ev,_,_,_⟩:=r.ints
 subst ev
 obtain⟨bh,oh,ea,hbl,hat⟩:=r.intAt (by omega)
 subst ea
 have cl:=hat k hk
 have hsb:=h.hs k
 have i1:(0:Int)≤(k:Int):=by omega
 have i2:(k:Int)<(P.hs.length:Int):=by omega
 have hbu:=(bulI_bd (a:=offP P.d P.n k) (b:=P.d-offP P.d P.n k) of0 of2 (by omega) (by omega)).2
 obtain⟨W0,hW0,b0_,z0,k0⟩:=boxes1 w #[.int .i64 P.d,.int .i64 P.f,.int .i64 P.l,.slice (some ⟨bh,oh,none⟩) P.hs.length cv] 180
 have e0_0:=bkC (v:=.int .i64 P.d) k0 0 rfl
 have e0_1:=bkC (v:=.int .i64 P.f) k0 1 rfl
 have e0_2:=bkC (v:=.int .i64 P.l) k0 2 rfl
 have e0_3:=bkC (v:=.slice (some ⟨bh,oh,none⟩) P.hs.length cv) k0 3 rfl
 have HW0:=Lib.hid hW0
 have B0:=Lib.hid b0_
 have HD:Hid (∀ W:World,Below W0.heap.size W0 W→(W.cell? ⟨w.heap.size,0,none⟩=some (.int .i64 P.d)∧W.cell? ⟨w.heap.size,1,none⟩=some (.int .i64 P.f)∧W.cell? ⟨w.heap.size,2,none⟩=some (.int .i64 P.l)∧W.cell? ⟨w.heap.size,3,none⟩=some (.slice (some ⟨bh,oh,none⟩) P.hs.length cv)∧W.cell? ⟨bh,oh+k,none⟩=some (.int .i64 (gi P.hs k)))):=fun W hW=>⟨(bat hW w.heap.size _ (by omega)).trans e0_0,(bat hW w.heap.size _ (by omega)).trans e0_1,(bat hW w.heap.size _ (by omega)).trans e0_2,(bat hW w.heap.size _ (by omega)).trans e0_3,(bat hW bh _ (by omega)).trans ((bat b0_ bh _ (by omega)).trans cl)⟩
 have HB:Hid (Below W0.heap.size W0 W0):=Below.refl _ _
 clear k0 e0_0 e0_1 e0_2 e0_3 hW0 b0_
 have CO:Hid (∀ W:World,Below W0.heap.size W0 W→Calls Tryz.prog 235 #[.agg #[.int .i64 P.d,.int .i64 P.f,.int .i64 P.l,.slice (some ⟨bh,oh,none⟩) P.hs.length cv],.int .i64 (k:Int)] W fun e w'=>e=.returned (.int .i64 (offP P.d P.n k))∧Below W.heap.size W w'):=fun  W hW=>iOffset_any P h _ k hk W (rd_at r B0.out hW)
 have CB:Hid (∀ W:World,Below W0.heap.size W0 W→Calls Tryz.prog 263 #[.int .i64 (offP P.d P.n k),.int .i64 (P.d-offP P.d P.n k)] W fun e w'=>e=.returned (.int .i64 (bulI (offP P.d P.n k) (P.d-offP P.d P.n k)))∧Below W.heap.size W w'):=fun  W hW=>iBulge_any _ _ of0 of2 (by omega) (by omega) W
 clear hat r cl
 generalize bulI (offP P.d P.n k) (P.d-offP P.d P.n k)=BU at *
 generalize offP P.d P.n k=OF at *
 generalize gi P.hs k=HK at *
 obtain⟨hb0,hb1⟩:=hbu
 obtain⟨hs0,hs1⟩:=hsb
 go_enter Tryz.func257,Tryz.ntmps257
 go_upto_region 1 with (fail)
 rw[HW0.out]
 obtain⟨t0,t1,t2,t3,t4⟩:=HD.out _ HB.out
 go_upto_region 2 with (first|(go_at_call 235;with_reducible refine (CO.out _ HB.out).mono ?_;rintro e v1 ⟨rfl,hb_⟩;(try clear t0 t1 t2 t3 t4);replace HB:=btr HB hb_;clear hb_;obtain⟨t0,t1,t2,t3,t4⟩:=HD.out _ HB.out))
 have o0:=overC (w0:=v1) (show w.heap.size<v1.heap.size by have:=HB.out.size;omega)
 have o1:=overC (w0:=v1) (show bh<v1.heap.size by have:=HB.out.size;omega)
 refine wp_region_over v1.heap.size v1 (Below.refl _ _) (by kernel_rfl) (by kernel_rfl) ?_
 repeat (go_big_quiet_step (first|(go_at_call 263;with_reducible exact over_left (Nat.le_refl _) (CB.out _ (HB.out.trans ((over_below _ _ _).mono HB.out.size))))))
 refine wpQuiet_nil ?_
 rintro _ ⟨X,rfl⟩
 replace HB:=btr HB (over_below v1.heap.size v1 X)
 clear o0 o1
 (try clear t0 t1 t2 t3 t4)
 generalize over v1.heap.size v1 X=u2 at *
 obtain⟨t0,t1,t2,t3,t4⟩:=HD.out _ HB.out
 go_wp2
 go_ret
 exact⟨rfl,B0.out.trans (HB.out.mono B0.out.size)⟩
theorem iClear_any (P:Pf) (h:PfOk P) (vh:Value) (k:Nat) (hk:k<P.hs.length) (w:World) (r:Rd w.heap.size w (intsT P.hs) vh) :
  Calls Tryz.prog 249 #[.agg #[.int .i64 P.d,.int .i64 P.f,.int .i64 P.l,vh],.int .i64 (k:Int)] w fun e w'=>e=.returned (.int .i64 (clrP P k))∧Below w.heap.size w w':=by
 have HE:Hid (clrP P k=lineP P.f P.l P.n k-(gi P.hs k+bulI (offP P.d P.n k) (P.d-offP P.d P.n k))):=rfl
 obtain⟨ln0,ln1⟩:=lineP_bd (f:=P.f) (l:=P.l) (n:=P.n) (i:=(k:Int)) h.f0 h.f1 h.l0 h.l1 (by have:=h.n0;have:P.n=(P.hs.length:Int)-1:=rfl;omega) (by omega) (by have:P.n=(P.hs.length:Int)-1:=rfl;omega)
 obtain⟨of0,of1,of2⟩:=off_ok h (i:=(k:Int)) (by omega) (by have:P.n=(P.hs.length:Int)-1:=rfl;omega)
 have d1_:=h.d1
 have d0_:=h.d0
 have n1_:=h.n1
 obtain⟨bu0,bu1⟩:=(bulI_bd (a:=offP P.d P.n k) (b:=P.d-offP P.d P.n k) of0 of2 (by omega) (by omega)).2
 obtain⟨hs0,hs1⟩:=h.hs k
 obtain⟨W0,hW0,b0_,z0,k0⟩:=boxes1 w #[.int .i64 P.d,.int .i64 P.f,.int .i64 P.l,vh] 180
 have e0_0:=bkC (v:=.int .i64 P.d) k0 0 rfl
 have e0_1:=bkC (v:=.int .i64 P.f) k0 1 rfl
 have e0_2:=bkC (v:=.int .i64 P.l) k0 2 rfl
 have e0_3:=bkC (v:=vh) k0 3 rfl
 have HW0:=Lib.hid hW0
 have B0:=Lib.hid b0_
 have HD:Hid (∀ W:World,Below W0.heap.size W0 W→(W.cell? ⟨w.heap.size,0,none⟩=some (.int .i64 P.d)∧W.cell? ⟨w.heap.size,1,none⟩=some (.int .i64 P.f)∧W.cell? ⟨w.heap.size,2,none⟩=some (.int .i64 P.l)∧W.cell? ⟨w.heap.size,3,none⟩=some (vh))):=fun W hW=>⟨(bat hW w.heap.size _ (by omega)).trans e0_0,(bat hW w.heap.size _ (by omega)).trans e0_1,(bat hW w.heap.size _ (by omega)).trans e0_2,(bat hW w.heap.size _ (by omega)).trans e0_3⟩
 have HB:Hid (Below W0.heap.size W0 W0):=Below.refl _ _
 clear k0 e0_0 e0_1 e0_2 e0_3 hW0 b0_
 have CN:Hid (∀ W:World,Below W0.heap.size W0 W→Calls Tryz.prog 256 #[.agg #[.int .i64 P.d,.int .i64 P.f,.int .i64 P.l,vh],.int .i64 (k:Int)] W fun e w'=>e=.returned (.int .i64 (lineP P.f P.l P.n k))∧Below W.heap.size W w'):=fun  W hW=>iLine_any P h vh k hk W (rd_at r B0.out hW)
 have CG:Hid (∀ W:World,Below W0.heap.size W0 W→Calls Tryz.prog 257 #[.agg #[.int .i64 P.d,.int .i64 P.f,.int .i64 P.l,vh],.int .i64 (k:Int)] W fun e w'=>e=.returned (.int .i64 (gi P.hs k+bulI (offP P.d P.n k) (P.d-offP P.d P.n k)))∧Below W.heap.size W w'):=fun  W hW=>iGround_any P h vh k hk W (rd_at r B0.out hW)
 generalize lineP P.f P.l P.n k=LN at *
 generalize bulI (offP P.d P.n k) (P.d-offP P.d P.n k)=BU at *
 generalize gi P.hs k=HK at *
 generalize clrP P k=CR at *
 go_enter Tryz.func249,Tryz.ntmps249
 go_upto_region 1 with (fail)
 rw[HW0.out]
 obtain⟨t0,t1,t2,t3⟩:=HD.out _ HB.out
 go_upto_region 1 with (fail)
 have o0:=overC (w0:=W0) (show w.heap.size<W0.heap.size by have:=HB.out.size;omega)
 refine wp_region_over W0.heap.size W0 (Below.refl _ _) (by kernel_rfl) (by kernel_rfl) ?_
 repeat (go_big_quiet_step (first|(go_at_call 256;with_reducible exact over_left (Nat.le_refl _) (CN.out _ (HB.out.trans ((over_below _ _ _).mono HB.out.size))))|(go_at_call 257;with_reducible exact over_left (Nat.le_refl _) (CG.out _ (HB.out.trans ((over_below _ _ _).mono HB.out.size))))))
 refine wpQuiet_nil ?_
 rintro _ ⟨X,rfl⟩
 replace HB:=btr HB (over_below W0.heap.size W0 X)
 clear o0
 (try clear t0 t1 t2 t3)
 generalize over W0.heap.size W0 X=u2 at *
 obtain⟨t0,t1,t2,t3⟩:=HD.out _ HB.out
 go_wp2
 go_ret
 exact⟨by rw[HE.out];rfl,B0.out.trans (HB.out.mono B0.out.size)⟩
theorem iRadius_any (P:Pf) (h:PfOk P) (vh:Value) (f:Int) (f0:1≤f) (f1:f≤100000000) (k:Nat) (hk:k<P.hs.length) (w:World) (r:Rd w.heap.size w (intsT P.hs) vh) :
  Calls Tryz.prog 250 #[.agg #[.int .i64 P.d,.int .i64 P.f,.int .i64 P.l,vh],.int .i64 f,.int .i64 (k:Int)] w fun e w'=>e=.returned (.int .i64 (radP P f k))∧Below w.heap.size w w':=by
 have HE:Hid (radP P f k=freI f (offP P.d P.n k) (P.d-offP P.d P.n k)):=rfl
 obtain⟨of0,of1,of2⟩:=off_ok h (i:=(k:Int)) (by omega) (by have:P.n=(P.hs.length:Int)-1:=rfl;omega)
 have d1_:=h.d1
 have d0_:=h.d0
 have n1_:=h.n1
 obtain⟨W0,hW0,b0_,z0,k0⟩:=boxes1 w #[.int .i64 P.d,.int .i64 P.f,.int .i64 P.l,vh] 180
 have e0_0:=bkC (v:=.int .i64 P.d) k0 0 rfl
 have e0_1:=bkC (v:=.int .i64 P.f) k0 1 rfl
 have e0_2:=bkC (v:=.int .i64 P.l) k0 2 rfl
 have e0_3:=bkC (v:=vh) k0 3 rfl
 have HW0:=Lib.hid hW0
 have B0:=Lib.hid b0_
 have HD:Hid (∀ W:World,Below W0.heap.size W0 W→(W.cell? ⟨w.heap.size,0,none⟩=some (.int .i64 P.d)∧W.cell? ⟨w.heap.size,1,none⟩=some (.int .i64 P.f)∧W.cell? ⟨w.heap.size,2,none⟩=some (.int .i64 P.l)∧W.cell? ⟨w.heap.size,3,none⟩=some (vh))):=fun W hW=>⟨(bat hW w.heap.size _ (by omega)).trans e0_0,(bat hW w.heap.size _ (by omega)).trans e0_1,(bat hW w.heap.size _ (by omega)).trans e0_2,(bat hW w.heap.size _ (by omega)).trans e0_3⟩
 have HB:Hid (Below W0.heap.size W0 W0):=Below.refl _ _
 clear k0 e0_0 e0_1 e0_2 e0_3 hW0 b0_
 have CO:Hid (∀ W:World,Below W0.heap.size W0 W→Calls Tryz.prog 235 #[.agg #[.int .i64 P.d,.int .i64 P.f,.int .i64 P.l,vh],.int .i64 (k:Int)] W fun e w'=>e=.returned (.int .i64 (offP P.d P.n k))∧Below W.heap.size W w'):=fun  W hW=>iOffset_any P h vh k hk W (rd_at r B0.out hW)
 have CF:Hid (∀ W:World,Below W0.heap.size W0 W→Calls Tryz.prog 258 #[.int .i64 f,.int .i64 (offP P.d P.n k),.int .i64 (P.d-offP P.d P.n k)] W fun e w'=>e=.returned (.int .i64 (freI f (offP P.d P.n k) (P.d-offP P.d P.n k)))∧Below W.heap.size W w'):=fun  W hW=>iFresnel_any _ _ _ f0 f1 of0 of2 (by omega) (by omega) W
 generalize freI f (offP P.d P.n k) (P.d-offP P.d P.n k)=FR at *
 generalize offP P.d P.n k=OF at *
 go_enter Tryz.func250,Tryz.ntmps250
 go_upto_region 1 with (fail)
 rw[HW0.out]
 obtain⟨t0,t1,t2,t3⟩:=HD.out _ HB.out
 go_wp2_with ((first|(go_at_call 235;with_reducible refine (CO.out _ HB.out).mono ?_)|(go_at_call 258;with_reducible refine (CF.out _ HB.out).mono ?_));rintro e v1 ⟨rfl,hb_⟩;(try clear t0 t1 t2 t3);replace HB:=btr HB hb_;clear hb_;obtain⟨t0,t1,t2,t3⟩:=HD.out _ HB.out)
 go_ret
 exact⟨by rw[HE.out];rfl,B0.out.trans (HB.out.mono B0.out.size)⟩
theorem l05Clear_any (P:Pf) (h:PfOk P) (vh:Value) (b off:Nat) (k:Nat) (hk:k<P.hs.length) (w:World) (r:Rd w.heap.size w (intsT P.hs) vh) (c0:w.cell? ⟨b,off,none⟩=some (.int .i64 P.d)) (c1:w.cell? ⟨b,off+1,none⟩=some (.int .i64 P.f)) (c2:w.cell? ⟨b,off+2,none⟩=some (.int .i64 P.l)) (c3:w.cell? ⟨b,off+3,none⟩=some (vh)) :
  Calls Tryz.prog 242 #[.pointer (some ⟨b,off,none⟩),.int .i64 (k:Int)] w fun e w'=>e=.returned (.int .i64 (clrP P k))∧Below w.heap.size w w':=by
 have hbp:b<w.heap.size:=cell_lt c0
 have HE:Hid (clrP P k=lineP P.f P.l P.n k-gi P.hs k-bulI (offP P.d P.n k) (P.d-offP P.d P.n k)):=by show lineP P.f P.l P.n k-(gi P.hs k+bulI (offP P.d P.n k) (P.d-offP P.d P.n k))=_;omega
 obtain⟨ln0,ln1⟩:=lineP_bd (f:=P.f) (l:=P.l) (n:=P.n) (i:=(k:Int)) h.f0 h.f1 h.l0 h.l1 (by have:=h.n0;have:P.n=(P.hs.length:Int)-1:=rfl;omega) (by omega) (by have:P.n=(P.hs.length:Int)-1:=rfl;omega)
 obtain⟨of0,of1,of2⟩:=off_ok h (i:=(k:Int)) (by omega) (by have:P.n=(P.hs.length:Int)-1:=rfl;omega)
 have d1_:=h.d1
 have d0_:=h.d0
 have n1_:=h.n1
 obtain⟨bu0,bu1⟩:=(bulI_bd (a:=offP P.d P.n k) (b:=P.d-offP P.d P.n k) of0 of2 (by omega) (by omega)).2
 obtain⟨hs0,hs1⟩:=h.hs k
 obtain⟨av,cv,ev,_,_,_⟩:=r.ints
 subst ev
 obtain⟨bh,oh,ea,hbl,hat⟩:=r.intAt (by omega)
 subst ea
 have cl:=hat k hk
 have i1:(0:Int)≤(k:Int):=by omega
 have i2:(k:Int)<(P.hs.length:Int):=by omega
 have B0:Hid (Below w.heap.size w w):=Below.refl _ _
 have HD:Hid (∀ W:World,Below w.heap.size w W→(W.cell? ⟨b,off,none⟩=some (.int .i64 P.d)∧W.cell? ⟨b,off+1,none⟩=some (.int .i64 P.f)∧W.cell? ⟨b,off+2,none⟩=some (.int .i64 P.l)∧W.cell? ⟨b,off+3,none⟩=some (.slice (some ⟨bh,oh,none⟩) P.hs.length cv)∧W.cell? ⟨bh,oh+k,none⟩=some (.int .i64 (gi P.hs k)))):=fun W hW=>⟨(bat hW b _ (by omega)).trans c0,(bat hW b _ (by omega)).trans c1,(bat hW b _ (by omega)).trans c2,(bat hW b _ (by omega)).trans c3,(bat hW bh _ (by omega)).trans cl⟩
 have HB:Hid (Below w.heap.size w w):=Below.refl _ _
 have CO:Hid (∀ W:World,Below w.heap.size w W→Calls Tryz.prog 240 #[.pointer (some ⟨b,off,none⟩),.int .i64 (k:Int)] W fun e w'=>e=.returned (.int .i64 (offP P.d P.n k))∧Below W.heap.size W w'):=fun  W hW=>by
   obtain⟨t0,t1,t2,t3,t4⟩:=HD.out W hW
   exact l05Offset_any P h _ b off k hk W (rd_at r B0.out hW) t0 t1 t2 t3
 have CN:Hid (∀ W:World,Below w.heap.size w W→Calls Tryz.prog 253 #[.pointer (some ⟨b,off,none⟩),.int .i64 (k:Int)] W fun e w'=>e=.returned (.int .i64 (lineP P.f P.l P.n k))∧Below W.heap.size W w'):=fun  W hW=>by
   obtain⟨t0,t1,t2,t3,t4⟩:=HD.out W hW
   exact l05Line_any P h _ b off k hk W (rd_at r B0.out hW) t0 t1 t2 t3
 have CB:Hid (∀ W:World,Below w.heap.size w W→Calls Tryz.prog 254 #[.int .i64 (offP P.d P.n k),.int .i64 (P.d-offP P.d P.n k)] W fun e w'=>e=.returned (.int .i64 (bulI (offP P.d P.n k) (P.d-offP P.d P.n k)))∧Below W.heap.size W w'):=fun  W hW=>l05Bulge_any _ _ of0 of2 (by omega) (by omega) W
 clear hat r cl c0 c1 c2 c3
 generalize lineP P.f P.l P.n k=LN at *
 generalize bulI (offP P.d P.n k) (P.d-offP P.d P.n k)=BU at *
 generalize offP P.d P.n k=OF at *
 generalize gi P.hs k=HK at *
 generalize clrP P k=CR at *
 go_enter Tryz.func242,Tryz.ntmps242
 obtain⟨t0,t1,t2,t3,t4⟩:=HD.out _ HB.out
 go_upto_region 2 with (first|(go_at_call 240;with_reducible refine (CO.out _ HB.out).mono ?_;rintro e v1 ⟨rfl,hb_⟩;(try clear t0 t1 t2 t3 t4);replace HB:=btr HB hb_;clear hb_;obtain⟨t0,t1,t2,t3,t4⟩:=HD.out _ HB.out))
 have o0:=overC (w0:=v1) (show b<v1.heap.size by have:=HB.out.size;omega)
 have o1:=overC (w0:=v1) (show bh<v1.heap.size by have:=HB.out.size;omega)
 refine wp_region_over v1.heap.size v1 (Below.refl _ _) (by kernel_rfl) (by kernel_rfl) ?_
 repeat (go_big_quiet_step (first|(go_at_call 253;with_reducible exact over_left (Nat.le_refl _) (CN.out _ (HB.out.trans ((over_below _ _ _).mono HB.out.size))))|(go_at_call 254;with_reducible exact over_left (Nat.le_refl _) (CB.out _ (HB.out.trans ((over_below _ _ _).mono HB.out.size))))))
 refine wpQuiet_nil ?_
 rintro _ ⟨X,rfl⟩
 replace HB:=btr HB (over_below v1.heap.size v1 X)
 clear o0 o1
 (try clear t0 t1 t2 t3 t4)
 generalize over v1.heap.size v1 X=u2 at *
 obtain⟨t0,t1,t2,t3,t4⟩:=HD.out _ HB.out
 go_wp2
 go_ret
 exact⟨by rw[HE.out];rfl,B0.out.trans (HB.out.mono B0.out.size)⟩
end Go.Proofs.YtdgmgchdjlfchaaGreatDoor
