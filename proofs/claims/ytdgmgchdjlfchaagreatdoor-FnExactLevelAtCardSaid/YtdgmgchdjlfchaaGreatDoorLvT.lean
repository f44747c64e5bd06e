/- Contracts: the direction up between two ends, for the program. Conditions: ends in the terrain. -/
import Derived.Test.YtdgmgchdjlfchaaGreatDoorLvS
import Derived.Test.YtdgmgchdjlfchaaGreatDoorLv3
import Derived.IntWalk
namespace Go.Proofs.YtdgmgchdjlfchaaGreatDoor
set_option maxHeartbeats 16000000
set_option maxRecDepth 100000
open Go.RowKit
set_option linter.unusedVariables false
set_option linter.unusedSimpArgs false
theorem iElev_any (t:DTerrain) (a b:DEnd) (T:TerrOk t) (pa:inT t a.place) (pb:inT t b.place) (ea:endP a) (eb:endP b) (v3 v4:Value) (w:World) (r3:Rd w.heap.size w (intsT t.heights) v3) (L:TabW w) :
  Calls Tryz.prog 152 #[.agg #[.int .i64 t.step,.int .i64 t.width,.int .i64 t.height,v3,v4],.agg #[.int .i64 a.place.x,.int .i64 a.place.y,.int .i64 a.above],.agg #[.int .i64 b.place.x,.int .i64 b.place.y,.int .i64 b.above]] w fun e w'=>e=.returned (.int .i64 (pathE t a b))∧Below w.heap.size w w':=by
 have hptA:=inT_pt T pa
 have hptB:=inT_pt T pb
 have hdb:=distI_bd hptA hptB
 have hha:=highI_bd T pa ea
 have hhb:=highI_bd T pb eb
 have CD0:Hid (∀ W:World,Calls Tryz.prog 193 #[.agg #[.int .i64 a.place.x,.int .i64 a.place.y],.agg #[.int .i64 b.place.x,.int .i64 b.place.y]] W fun e w'=>e=.returned (.int .i64 (distI a.place b.place))∧Below W.heap.size W w'):=fun W=>iDist_any a.place b.place hptA hptB W
 have CA:Hid (∀ W:World,Below w.heap.size w W→Calls Tryz.prog 194 #[.agg #[.int .i64 t.step,.int .i64 t.width,.int .i64 t.height,v3,v4],.agg #[.int .i64 a.place.x,.int .i64 a.place.y,.int .i64 a.above]] W fun e w'=>e=.returned (.int .i64 (highI t a))∧Below W.heap.size W w'):=fun W hW=>iEndHigh_any t a T pa ea v3 v4 W ((r3.below hW).mono hW.size)
 have CB0:Hid (∀ W:World,Below w.heap.size w W→Calls Tryz.prog 194 #[.agg #[.int .i64 t.step,.int .i64 t.width,.int .i64 t.height,v3,v4],.agg #[.int .i64 b.place.x,.int .i64 b.place.y,.int .i64 b.above]] W fun e w'=>e=.returned (.int .i64 (highI t b))∧Below W.heap.size W w'):=fun W hW=>iEndHigh_any t b T pb eb v3 v4 W ((r3.below hW).mono hW.size)
 have CC:Hid (∀ (dd:Int) (pd ph:Nat) (W:World),Below w.heap.size w W→W.cell? ⟨pd,0,none⟩=some (.int .i64 (distI a.place b.place))→W.cell? ⟨ph,0,none⟩=some (.int .i64 (highI t b-highI t a))→Calls Tryz.prog 200 #[.int .i64 dd,.pointer (some ⟨pd,0,none⟩),.pointer (some ⟨ph,0,none⟩)] W fun e w'=>e=.returned (.int .i64 (dotE (distI a.place b.place) (highI t b-highI t a) dd))∧Below W.heap.size W w'):=fun dd pd ph W hW h0 h1=>elevationC_any _ _ hdb.1 hdb.2 (by omega) (by omega) dd pd ph W (L.mono hW) h0 h1
 have HE:Hid (pathE t a b=bestF (dotE (distI a.place b.place) (highI t b-highI t a)) (-90) 180):=rfl
 obtain⟨a3,c3_,e3,_,_,_⟩:=r3.ints
 subst e3
 have hwd:IntKind.i64.wrap (highI t b-highI t a)=highI t b-highI t a:=IntWalk.i64_in _ (by omega)
 clear hptA hptB r3 T pa pb ea eb L hdb hha hhb
 generalize pathE t a b=PE at *
 generalize dotE (distI a.place b.place) (highI t b-highI t a)=g at *
 generalize distI a.place b.place=dv at *
 generalize highI t a=ha at *
 generalize highI t b=hb at *
 obtain⟨W0,hW0,b0_,z0,k0,k1,k2⟩:=boxes3 w #[.int .i64 t.step,.int .i64 t.width,.int .i64 t.height,.slice a3 t.heights.length c3_,v4] 39 #[.int .i64 a.place.x,.int .i64 a.place.y,.int .i64 a.above] 50 #[.int .i64 b.place.x,.int .i64 b.place.y,.int .i64 b.above] 50
 have e0_0:=bkC (v:=.int .i64 t.step) k0 0 rfl
 have e0_1:=bkC (v:=.int .i64 t.width) k0 1 rfl
 have e0_2:=bkC (v:=.int .i64 t.height) k0 2 rfl
 have e0_3:=bkC (v:=.slice a3 t.heights.length c3_) k0 3 rfl
 have e0_4:=bkC (v:=v4) k0 4 rfl
 have e1_0:=bkC (v:=.int .i64 a.place.x) k1 0 rfl
 have e1_1:=bkC (v:=.int .i64 a.place.y) k1 1 rfl
 have e1_2:=bkC (v:=.int .i64 a.above) k1 2 rfl
 have e2_0:=bkC (v:=.int .i64 b.place.x) k2 0 rfl
 have e2_1:=bkC (v:=.int .i64 b.place.y) k2 1 rfl
 have e2_2:=bkC (v:=.int .i64 b.above) k2 2 rfl
 have HW0:=Lib.hid hW0
 have B0:=Lib.hid b0_
 have HD:Hid (∀ W:World,Below W0.heap.size W0 W→(W.cell? ⟨w.heap.size,0,none⟩=some (.int .i64 t.step)∧W.cell? ⟨w.heap.size,1,none⟩=some (.int .i64 t.width)∧W.cell? ⟨w.heap.size,2,none⟩=some (.int .i64 t.height)∧W.cell? ⟨w.heap.size,3,none⟩=some (.slice a3 t.heights.length c3_)∧W.cell? ⟨w.heap.size,4,none⟩=some (v4)∧W.cell? ⟨w.heap.size+1,0,none⟩=some (.int .i64 a.place.x)∧W.cell? ⟨w.heap.size+1,1,none⟩=some (.int .i64 a.place.y)∧W.cell? ⟨w.heap.size+1,2,none⟩=some (.int .i64 a.above)∧W.cell? ⟨w.heap.size+2,0,none⟩=some (.int .i64 b.place.x)∧W.cell? ⟨w.heap.size+2,1,none⟩=some (.int .i64 b.place.y)∧W.cell? ⟨w.heap.size+2,2,none⟩=some (.int .i64 b.above))):=fun W hW=>⟨(bat hW w.heap.size _ (by omega)).trans e0_0,(bat hW w.heap.size _ (by omega)).trans e0_1,(bat hW w.heap.size _ (by omega)).trans e0_2,(bat hW w.heap.size _ (by omega)).trans e0_3,(bat hW w.heap.size _ (by omega)).trans e0_4,(bat hW (w.heap.size+1) _ (by omega)).trans e1_0,(bat hW (w.heap.size+1) _ (by omega)).trans e1_1,(bat hW (w.heap.size+1) _ (by omega)).trans e1_2,(bat hW (w.heap.size+2) _ (by omega)).trans e2_0,(bat hW (w.heap.size+2) _ (by omega)).trans e2_1,(bat hW (w.heap.size+2) _ (by omega)).trans e2_2⟩
 have HB:Hid (Below W0.heap.size W0 W0):=Below.refl _ _
 clear k0 k1 k2 e0_0 e0_1 e0_2 e0_3 e0_4 e1_0 e1_1 e1_2 e2_0 e2_1 e2_2 hW0 b0_
 go_enter Tryz.func152,Tryz.ntmps152
 go_upto_region 1 with (fail)
 rw[HW0.out]
 go_cut [7,8] (fun s7 s8 wx=>∃ gd gh:Nat,s7=.pointer (some ⟨gd,0,none⟩)∧s8=.pointer (some ⟨gh,0,none⟩)∧wx.heap[gd]? = some (.cells #[.int .i64 dv] 2 (0,0))∧wx.heap[gh]? = some (.cells #[.int .i64 (hb-ha)] 2 (0,0))∧Below W0.heap.size W0 wx∧gd<wx.heap.size∧gh<wx.heap.size)
 case first =>
  refine wp_region_tree 16 (.read 0 (.read 1 (.read 2 (.read 3 (.read 5 (.read 6 (.read 8 (.read 9 (.three 4 12 13 (.three 7 12 13 (.three 10 12 13 (.read 11 (.two 12 13 (.one 13 (.one 14 (.one 15 .nil))) (.one 12 (.one 14 (.one 15 .nil))))) (.two 10 13 (.read 11 (.one 13 (.one 14 (.one 15 .nil)))) (.one 10 (.read 11 (.one 14 (.one 15 .nil))))) (.two 10 12 (.read 11 (.one 12 (.one 14 (.one 15 .nil)))) (.one 10 (.read 11 (.one 14 (.one 15 .nil)))))) (.two 7 13 (.two 10 13 (.read 11 (.one 13 (.one 14 (.one 15 .nil)))) (.one 10 (.read 11 (.one 14 (.one 15 .nil))))) (.one 7 (.one 10 (.read 11 (.one 14 (.one 15 .nil)))))) (.two 7 12 (.two 10 12 (.read 11 (.one 12 (.one 14 (.one 15 .nil)))) (.one 10 (.read 11 (.one 14 (.one 15 .nil))))) (.one 7 (.one 10 (.read 11 (.one 14 (.one 15 .nil))))))) (.two 4 13 (.two 7 13 (.two 10 13 (.read 11 (.one 13 (.one 14 (.one 15 .nil)))) (.one 10 (.read 11 (.one 14 (.one 15 .nil))))) (.one 7 (.one 10 (.read 11 (.one 14 (.one 15 .nil)))))) (.one 4 (.one 7 (.one 10 (.read 11 (.one 14 (.one 15 .nil))))))) (.two 4 12 (.two 7 12 (.two 10 12 (.read 11 (.one 12 (.one 14 (.one 15 .nil)))) (.one 10 (.read 11 (.one 14 (.one 15 .nil))))) (.one 7 (.one 10 (.read 11 (.one 14 (.one 15 .nil)))))) (.one 4 (.one 7 (.one 10 (.read 11 (.one 14 (.one 15 .nil)))))))))))))))) (fun W=>Below W0.heap.size W0 W) (by kernel_rfl) (by kernel_rfl) (HB.out.drew) ?_
  have YB:=Lib.hid (HB.out.drew)
  have Yz:W0.heap.size≤W0.drew.heap.size:=Nat.le_refl _
  generalize W0.drew=Y at *
  iterate 8
   refine wpTree_read (v:=?_) rfl (fun _ _ _ h=>h) ?_ ?_
   rotate_left
   ·(intro W hSW;(try dsimp only at hSW);obtain⟨t0,t1,t2,t3,t4,t5,t6,t7,t8,t9,t10⟩:=HD.out W hSW;(go_simp<;>with_reducible rfl))
   (try simp only[Act.put,List.setIfInBounds_toArray,List.set_cons_zero,List.set_cons_succ])
  refine wpTree_three ?_ ?_ ?_
  refine stepT_mk rfl (fun K hK=>?_)
  go_simp
  refine ((fun W (_:Below W0.heap.size W0 W)=>CD0.out W) _ YB.out).mono ?_
  rintro e Y1 ⟨rfl,hb1⟩
  have YB1:=btr YB hb1
  refine hK.out _ _ YB1.out ?_
  clear hK K
  have bs1:=hb1.size
  clear hb1
  refine wpTree_three ?_ ?_ ?_
  refine stepT_mk rfl (fun K hK=>?_)
  go_simp
  refine ((fun W (hW:Below W0.heap.size W0 W)=>CB0.out W (B0.out.trans (hW.mono B0.out.size))) _ YB1.out).mono ?_
  rintro e Y2 ⟨rfl,hb2⟩
  have YB2:=btr YB1 hb2
  refine hK.out _ _ YB2.out ?_
  clear hK K
  have bs2:=hb2.size
  clear hb2
  refine wpTree_three ?_ ?_ ?_
  refine stepT_mk rfl (fun K hK=>?_)
  go_simp
  refine ((fun W (hW:Below W0.heap.size W0 W)=>CA.out W (B0.out.trans (hW.mono B0.out.size))) _ YB2.out).mono ?_
  rintro e Y3 ⟨rfl,hb3⟩
  have YB3:=btr YB2 hb3
  refine hK.out _ _ YB3.out ?_
  clear hK K
  have bs3:=hb3.size
  clear hb3
  refine wpTree_read (v:=?_) rfl (fun _ _ _ h=>h) ?_ ?_
  rotate_left
  ·(intro W hSW;(try dsimp only at hSW);obtain⟨t0,t1,t2,t3,t4,t5,t6,t7,t8,t9,t10⟩:=HD.out W hSW;(go_simp<;>with_reducible rfl))
  (try simp only[Act.put,List.setIfInBounds_toArray,List.set_cons_zero,List.set_cons_succ])
  refine wpTree_two ?_ ?_
  refine stepT_mk rfl (fun K hK=>?_)
  go_simp
  obtain⟨Y4,hW4,hb4,zl4,hk4⟩:=boxes1 Y3 #[.int .i64 0] 2
  rw[hW4]
  have Ykd4:=Lib.hid hk4
  have YB4:=btr YB3 hb4
  refine hK.out _ _ YB4.out ?_
  have bs4:=hb4.size
  clear hK K hW4 hk4 hb4
  refine wpTree_one ?_
  refine stepT_mk rfl (fun K hK=>?_)
  go_simp
  obtain⟨Y5,hW5,hb5,zl5,hk5⟩:=boxes1 Y4 #[.int .i64 0] 2
  rw[hW5]
  have Ykh5:=Lib.hid hk5
  have YB5:=btr YB4 hb5
  have Ykd5:=bkH Ykd4 hb5
  refine hK.out _ _ YB5.out ?_
  have bs5:=hb5.size
  clear hK K hW5 hk5 hb5
  refine wpTree_one ?_
  refine stepT_mk rfl (fun K hK=>?_)
  have g0:=bkC (v:=.int .i64 0) Ykd5.out 0 rfl
  have fz:=bkF Ykd5.out
  go_simp
  obtain⟨Y6,hW6,Ykd6,bs6,ho6,hl6⟩:=stAll Ykd5 [.int .i64 dv] rfl
  simp only[setsC] at hW6
  rw[hW6]
  have YB6:=Lib.hid (hl6.out W0 (by have:=YB5.out.size;omega) YB5.out)
  have Ykh6:=Lib.hid ((ho6.out _ (by omega)).trans Ykh5.out)
  refine hK.out _ _ YB6.out ?_
  clear hK K fz hW6 ho6 hl6 g0
  refine wpTree_one ?_
  refine stepT_mk rfl (fun K hK=>?_)
  have g0:=bkC (v:=.int .i64 0) Ykh6.out 0 rfl
  have fz:=bkF Ykh6.out
  go_simp
  obtain⟨Y7,hW7,Ykh7,bs7,ho7,hl7⟩:=stAll Ykh6 [.int .i64 (hb-ha)] rfl
  simp only[setsC] at hW7
  rw[hW7]
  have YB7:=Lib.hid (hl7.out W0 (by have:=YB6.out.size;omega) YB6.out)
  have Ykd7:=Lib.hid ((ho7.out _ (by omega)).trans Ykd6.out)
  refine hK.out _ _ YB7.out ?_
  clear hK K fz hW7 ho7 hl7 g0
  refine wpTree_nil ?_
  simp only[List.drop_succ_cons,List.drop_zero]
  go_wp2_with fail
  go_meet
  exact⟨_,_,rfl,rfl,Ykd7.out,Ykh7.out,YB7.out,by omega,by omega⟩
  refine stepT_mk rfl (fun K hK=>?_)
  go_simp
  obtain⟨Y8,hW8,hb8,zl8,hk8⟩:=boxes1 Y3 #[.int .i64 0] 2
  rw[hW8]
  have Ykh8:=Lib.hid hk8
  have YB8:=btr YB3 hb8
  refine hK.out _ _ YB8.out ?_
  have bs8:=hb8.size
  clear hK K hW8 hk8 hb8
  refine wpTree_one ?_
  refine stepT_mk rfl (fun K hK=>?_)
  go_simp
  obtain⟨Y9,hW9,hb9,zl9,hk9⟩:=boxes1 Y8 #[.int .i64 0] 2
  rw[hW9]
  have Ykd9:=Lib.hid hk9
  have YB9:=btr YB8 hb9
  have Ykh9:=bkH Ykh8 hb9
  refine hK.out _ _ YB9.out ?_
  have bs9:=hb9.size
  clear hK K hW9 hk9 hb9
  refine wpTree_one ?_
  refine stepT_mk rfl (fun K hK=>?_)
  have g0:=bkC (v:=.int .i64 0) Ykd9.out 0 rfl
  have fz:=bkF Ykd9.out
  go_simp
  obtain⟨Y10,hW10,Ykd10,bs10,ho10,hl10⟩:=stAll Ykd9 [.int .i64 dv] rfl
  simp only[setsC] at hW10
  rw[hW10]
  have YB10:=Lib.hid (hl10.out W0 (by have:=YB9.out.size;omega) YB9.out)
  have Ykh10:=Lib.hid ((ho10.out _ (by omega)).trans Ykh9.out)
  refine hK.out _ _ YB10.out ?_
  clear hK K fz hW10 ho10 hl10 g0
  refine wpTree_one ?_
  refine stepT_mk rfl (fun K hK=>?_)
  have g0:=bkC (v:=.int .i64 0) Ykh10.out 0 rfl
  have fz:=bkF Ykh10.out
  go_simp
  obtain⟨Y11,hW11,Ykh11,bs11,ho11,hl11⟩:=stAll Ykh10 [.int .i64 (hb-ha)] rfl
  simp only[setsC] at hW11
  rw[hW11]
  have YB11:=Lib.hid (hl11.out W0 (by have:=YB10.out.size;omega) YB10.out)
  have Ykd11:=Lib.hid ((ho11.out _ (by omega)).trans Ykd10.out)
  refine hK.out _ _ YB11.out ?_
  clear hK K fz hW11 ho11 hl11 g0
  refine wpTree_nil ?_
  simp only[List.drop_succ_cons,List.drop_zero]
  go_wp2_with fail
  go_meet
  exact⟨_,_,rfl,rfl,Ykd11.out,Ykh11.out,YB11.out,by omega,by omega⟩
  refine stepT_mk rfl (fun K hK=>?_)
  go_simp
  obtain⟨Y12,hW12,hb12,zl12,hk12⟩:=boxes1 Y2 #[.int .i64 0] 2
  rw[hW12]
  have Ykd12:=Lib.hid hk12
  have YB12:=btr YB2 hb12
  refine hK.out _ _ YB12.out ?_
  have bs12:=hb12.size
  clear hK K hW12 hk12 hb12
  refine wpTree_two ?_ ?_
  refine stepT_mk rfl (fun K hK=>?_)
  go_simp
  refine ((fun W (hW:Below W0.heap.size W0 W)=>CA.out W (B0.out.trans (hW.mono B0.out.size))) _ YB12.out).mono ?_
  rintro e Y13 ⟨rfl,hb13⟩
  have YB13:=btr YB12 hb13
  refine hK.out _ _ YB13.out ?_
  clear hK K
  have bs13:=hb13.size
  have Ykd13:=bkH Ykd12 hb13
  clear hb13
  refine wpTree_read (v:=?_) rfl (fun _ _ _ h=>h) ?_ ?_
  rotate_left
  ·(intro W hSW;(try dsimp only at hSW);obtain⟨t0,t1,t2,t3,t4,t5,t6,t7,t8,t9,t10⟩:=HD.out W hSW;(go_simp<;>with_reducible rfl))
  (try simp only[Act.put,List.setIfInBounds_toArray,List.set_cons_zero,List.set_cons_succ])
  refine wpTree_one ?_
  refine stepT_mk rfl (fun K hK=>?_)
  go_simp
  obtain⟨Y14,hW14,hb14,zl14,hk14⟩:=boxes1 Y13 #[.int .i64 0] 2
  rw[hW14]
  have Ykh14:=Lib.hid hk14
  have YB14:=btr YB13 hb14
  have Ykd14:=bkH Ykd13 hb14
  refine hK.out _ _ YB14.out ?_
  have bs14:=hb14.size
  clear hK K hW14 hk14 hb14
  refine wpTree_one ?_
  refine stepT_mk rfl (fun K hK=>?_)
  have g0:=bkC (v:=.int .i64 0) Ykd14.out 0 rfl
  have fz:=bkF Ykd14.out
  go_simp
  obtain⟨Y15,hW15,Ykd15,bs15,ho15,hl15⟩:=stAll Ykd14 [.int .i64 dv] rfl
  simp only[setsC] at hW15
  rw[hW15]
  have YB15:=Lib.hid (hl15.out W0 (by have:=YB14.out.size;omega) YB14.out)
  have Ykh15:=Lib.hid ((ho15.out _ (by omega)).trans Ykh14.out)
  refine hK.out _ _ YB15.out ?_
  clear hK K fz hW15 ho15 hl15 g0
  refine wpTree_one ?_
  refine stepT_mk rfl (fun K hK=>?_)
  have g0:=bkC (v:=.int .i64 0) Ykh15.out 0 rfl
  have fz:=bkF Ykh15.out
  go_simp
  obtain⟨Y16,hW16,Ykh16,bs16,ho16,hl16⟩:=stAll Ykh15 [.int .i64 (hb-ha)] rfl
  simp only[setsC] at hW16
  rw[hW16]
  have YB16:=Lib.hid (hl16.out W0 (by have:=YB15.out.size;omega) YB15.out)
  have Ykd16:=Lib.hid ((ho16.out _ (by omega)).trans Ykd15.out)
  refine hK.out _ _ YB16.out ?_
  clear hK K fz hW16 ho16 hl16 g0
  refine wpTree_nil ?_
  simp only[List.drop_succ_cons,List.drop_zero]
  go_wp2_with fail
  go_meet
  exact⟨_,_,rfl,rfl,Ykd16.out,Ykh16.out,YB16.out,by omega,by omega⟩
  refine stepT_mk rfl (fun K hK=>?_)
  go_simp
  obtain⟨Y17,hW17,hb17,zl17,hk17⟩:=boxes1 Y12 #[.int .i64 0] 2
  rw[hW17]
  have Ykh17:=Lib.hid hk17
  have YB17:=btr YB12 hb17
  have Ykd17:=bkH Ykd12 hb17
  refine hK.out _ _ YB17.out ?_
  have bs17:=hb17.size
  clear hK K hW17 hk17 hb17
  refine wpTree_one ?_
  refine stepT_mk rfl (fun K hK=>?_)
  go_simp
  refine ((fun W (hW:Below W0.heap.size W0 W)=>CA.out W (B0.out.trans (hW.mono B0.out.size))) _ YB17.out).mono ?_
  rintro e Y18 ⟨rfl,hb18⟩
  have YB18:=btr YB17 hb18
  refine hK.out _ _ YB18.out ?_
  clear hK K
  have bs18:=hb18.size
  have Ykd18:=bkH Ykd17 hb18
  have Ykh18:=bkH Ykh17 hb18
  clear hb18
  refine wpTree_read (v:=?_) rfl (fun _ _ _ h=>h) ?_ ?_
  rotate_left
  ·(intro W hSW;(try dsimp only at hSW);obtain⟨t0,t1,t2,t3,t4,t5,t6,t7,t8,t9,t10⟩:=HD.out W hSW;(go_simp<;>with_reducible rfl))
  (try simp only[Act.put,List.setIfInBounds_toArray,List.set_cons_zero,List.set_cons_succ])
  refine wpTree_one ?_
  refine stepT_mk rfl (fun K hK=>?_)
  have g0:=bkC (v:=.int .i64 0) Ykd18.out 0 rfl
  have fz:=bkF Ykd18.out
  go_simp
  obtain⟨Y19,hW19,Ykd19,bs19,ho19,hl19⟩:=stAll Ykd18 [.int .i64 dv] rfl
  simp only[setsC] at hW19
  rw[hW19]
  have YB19:=Lib.hid (hl19.out W0 (by have:=YB18.out.size;omega) YB18.out)
  have Ykh19:=Lib.hid ((ho19.out _ (by omega)).trans Ykh18.out)
  refine hK.out _ _ YB19.out ?_
  clear hK K fz hW19 ho19 hl19 g0
  refine wpTree_one ?_
  refine stepT_mk rfl (fun K hK=>?_)
  have g0:=bkC (v:=.int .i64 0) Ykh19.out 0 rfl
  have fz:=bkF Ykh19.out
  go_simp
  obtain⟨Y20,hW20,Ykh20,bs20,ho20,hl20⟩:=stAll Ykh19 [.int .i64 (hb-ha)] rfl
  simp only[setsC] at hW20
  rw[hW20]
  have YB20:=Lib.hid (hl20.out W0 (by have:=YB19.out.size;omega) YB19.out)
  have Ykd20:=Lib.hid ((ho20.out _ (by omega)).trans Ykd19.out)
  refine hK.out _ _ YB20.out ?_
  clear hK K fz hW20 ho20 hl20 g0
  refine wpTree_nil ?_
  simp only[List.drop_succ_cons,List.drop_zero]
  go_wp2_with fail
  go_meet
  exact⟨_,_,rfl,rfl,Ykd20.out,Ykh20.out,YB20.out,by omega,by omega⟩
  refine stepT_mk rfl (fun K hK=>?_)
  go_simp
  obtain⟨Y21,hW21,hb21,zl21,hk21⟩:=boxes1 Y2 #[.int .i64 0] 2
  rw[hW21]
  have Ykh21:=Lib.hid hk21
  have YB21:=btr YB2 hb21
  refine hK.out _ _ YB21.out ?_
  have bs21:=hb21.size
  clear hK K hW21 hk21 hb21
  refine wpTree_two ?_ ?_
  refine stepT_mk rfl (fun K hK=>?_)
  go_simp
  refine ((fun W (hW:Below W0.heap.size W0 W)=>CA.out W (B0.out.trans (hW.mono B0.out.size))) _ YB21.out).mono ?_
  rintro e Y22 ⟨rfl,hb22⟩
  have YB22:=btr YB21 hb22
  refine hK.out _ _ YB22.out ?_
  clear hK K
  have bs22:=hb22.size
  have Ykh22:=bkH Ykh21 hb22
  clear hb22
  refine wpTree_read (v:=?_) rfl (fun _ _ _ h=>h) ?_ ?_
  rotate_left
  ·(intro W hSW;(try dsimp only at hSW);obtain⟨t0,t1,t2,t3,t4,t5,t6,t7,t8,t9,t10⟩:=HD.out W hSW;(go_simp<;>with_reducible rfl))
  (try simp only[Act.put,List.setIfInBounds_toArray,List.set_cons_zero,List.set_cons_succ])
  refine wpTree_one ?_
  refine stepT_mk rfl (fun K hK=>?_)
  go_simp
  obtain⟨Y23,hW23,hb23,zl23,hk23⟩:=boxes1 Y22 #[.int .i64 0] 2
  rw[hW23]
  have Ykd23:=Lib.hid hk23
  have YB23:=btr YB22 hb23
  have Ykh23:=bkH Ykh22 hb23
  refine hK.out _ _ YB23.out ?_
  have bs23:=hb23.size
  clear hK K hW23 hk23 hb23
  refine wpTree_one ?_
  refine stepT_mk rfl (fun K hK=>?_)
  have g0:=bkC (v:=.int .i64 0) Ykd23.out 0 rfl
  have fz:=bkF Ykd23.out
  go_simp
  obtain⟨Y24,hW24,Ykd24,bs24,ho24,hl24⟩:=stAll Ykd23 [.int .i64 dv] rfl
  simp only[setsC] at hW24
  rw[hW24]
  have YB24:=Lib.hid (hl24.out W0 (by have:=YB23.out.size;omega) YB23.out)
  have Ykh24:=Lib.hid ((ho24.out _ (by omega)).trans Ykh23.out)
  refine hK.out _ _ YB24.out ?_
  clear hK K fz hW24 ho24 hl24 g0
  refine wpTree_one ?_
  refine stepT_mk rfl (fun K hK=>?_)
  have g0:=bkC (v:=.int .i64 0) Ykh24.out 0 rfl
  have fz:=bkF Ykh24.out
  go_simp
  obtain⟨Y25,hW25,Ykh25,bs25,ho25,hl25⟩:=stAll Ykh24 [.int .i64 (hb-ha)] rfl
  simp only[setsC] at hW25
  rw[hW25]
  have YB25:=Lib.hid (hl25.out W0 (by have:=YB24.out.size;omega) YB24.out)
  have Ykd25:=Lib.hid ((ho25.out _ (by omega)).trans Ykd24.out)
  refine hK.out _ _ YB25.out ?_
  clear hK K fz hW25 ho25 hl25 g0
  refine wpTree_nil ?_
  simp only[List.drop_succ_cons,List.drop_zero]
  go_wp2_with fail
  go_meet
  exact⟨_,_,rfl,rfl,Ykd25.out,Ykh25.out,YB25.out,by omega,by omega⟩
  refine stepT_mk rfl (fun K hK=>?_)
  go_simp
  obtain⟨Y26,hW26,hb26,zl26,hk26⟩:=boxes1 Y21 #[.int .i64 0] 2
  rw[hW26]
  have Ykd26:=Lib.hid hk26
  have YB26:=btr YB21 hb26
  have Ykh26:=bkH Ykh21 hb26
  refine hK.out _ _ YB26.out ?_
  have bs26:=hb26.size
  clear hK K hW26 hk26 hb26
  refine wpTree_one ?_
  refine stepT_mk rfl (fun K hK=>?_)
  go_simp
  refine ((fun W (hW:Below W0.heap.size W0 W)=>CA.out W (B0.out.trans (hW.mono B0.out.size))) _ YB26.out).mono ?_
  rintro e Y27 ⟨rfl,hb27⟩
  have YB27:=btr YB26 hb27
  refine hK.out _ _ YB27.out ?_
  clear hK K
  have bs27:=hb27.size
  have Ykh27:=bkH Ykh26 hb27
  have Ykd27:=bkH Ykd26 hb27
  clear hb27
  refine wpTree_read (v:=?_) rfl (fun _ _ _ h=>h) ?_ ?_
  rotate_left
  ·(intro W hSW;(try dsimp only at hSW);obtain⟨t0,t1,t2,t3,t4,t5,t6,t7,t8,t9,t10⟩:=HD.out W hSW;(go_simp<;>with_reducible rfl))
  (try simp only[Act.put,List.setIfInBounds_toArray,List.set_cons_zero,List.set_cons_succ])
  refine wpTree_one ?_
  refine stepT_mk rfl (fun K hK=>?_)
  have g0:=bkC (v:=.int .i64 0) Ykd27.out 0 rfl
  have fz:=bkF Ykd27.out
  go_simp
  obtain⟨Y28,hW28,Ykd28,bs28,ho28,hl28⟩:=stAll Ykd27 [.int .i64 dv] rfl
  simp only[setsC] at hW28
  rw[hW28]
  have YB28:=Lib.hid (hl28.out W0 (by have:=YB27.out.size;omega) YB27.out)
  have Ykh28:=Lib.hid ((ho28.out _ (by omega)).trans Ykh27.out)
  refine hK.out _ _ YB28.out ?_
  clear hK K fz hW28 ho28 hl28 g0
  refine wpTree_one ?_
  refine stepT_mk rfl (fun K hK=>?_)
  have g0:=bkC (v:=.int .i64 0) Ykh28.out 0 rfl
  have fz:=bkF Ykh28.out
  go_simp
  obtain⟨Y29,hW29,Ykh29,bs29,ho29,hl29⟩:=stAll Ykh28 [.int .i64 (hb-ha)] rfl
  simp only[setsC] at hW29
  rw[hW29]
  have YB29:=Lib.hid (hl29.out W0 (by have:=YB28.out.size;omega) YB28.out)
  have Ykd29:=Lib.hid ((ho29.out _ (by omega)).trans Ykd28.out)
  refine hK.out _ _ YB29.out ?_
  clear hK K fz hW29 ho29 hl29 g0
  refine wpTree_nil ?_
  simp only[List.drop_succ_cons,List.drop_zero]
  go_wp2_with fail
  go_meet
  exact⟨_,_,rfl,rfl,Ykd29.out,Ykh29.out,YB29.out,by omega,by omega⟩
  refine stepT_mk rfl (fun K hK=>?_)
  go_simp
  obtain⟨Y30,hW30,hb30,zl30,hk30⟩:=boxes1 Y1 #[.int .i64 0] 2
  rw[hW30]
  have Ykd30:=Lib.hid hk30
  have YB30:=btr YB1 hb30
  refine hK.out _ _ YB30.out ?_
  have bs30:=hb30.size
  clear hK K hW30 hk30 hb30
  refine wpTree_two ?_ ?_
  refine stepT_mk rfl (fun K hK=>?_)
  go_simp
  refine ((fun W (hW:Below W0.heap.size W0 W)=>CB0.out W (B0.out.trans (hW.mono B0.out.size))) _ YB30.out).mono ?_
  rintro e Y31 ⟨rfl,hb31⟩
  have YB31:=btr YB30 hb31
  refine hK.out _ _ YB31.out ?_
  clear hK K
  have bs31:=hb31.size
  have Ykd31:=bkH Ykd30 hb31
  clear hb31
  refine wpTree_two ?_ ?_
  refine stepT_mk rfl (fun K hK=>?_)
  go_simp
  refine ((fun W (hW:Below W0.heap.size W0 W)=>CA.out W (B0.out.trans (hW.mono B0.out.size))) _ YB31.out).mono ?_
  rintro e Y32 ⟨rfl,hb32⟩
  have YB32:=btr YB31 hb32
  refine hK.out _ _ YB32.out ?_
  clear hK K
  have bs32:=hb32.size
  have Ykd32:=bkH Ykd31 hb32
  clear hb32
  refine wpTree_read (v:=?_) rfl (fun _ _ _ h=>h) ?_ ?_
  rotate_left
  ·(intro W hSW;(try dsimp only at hSW);obtain⟨t0,t1,t2,t3,t4,t5,t6,t7,t8,t9,t10⟩:=HD.out W hSW;(go_simp<;>with_reducible rfl))
  (try simp only[Act.put,List.setIfInBounds_toArray,List.set_cons_zero,List.set_cons_succ])
  refine wpTree_one ?_
  refine stepT_mk rfl (fun K hK=>?_)
  go_simp
  obtain⟨Y33,hW33,hb33,zl33,hk33⟩:=boxes1 Y32 #[.int .i64 0] 2
  rw[hW33]
  have Ykh33:=Lib.hid hk33
  have YB33:=btr YB32 hb33
  have Ykd33:=bkH Ykd32 hb33
  refine hK.out _ _ YB33.out ?_
  have bs33:=hb33.size
  clear hK K hW33 hk33 hb33
  refine wpTree_one ?_
  refine stepT_mk rfl (fun K hK=>?_)
  have g0:=bkC (v:=.int .i64 0) Ykd33.out 0 rfl
  have fz:=bkF Ykd33.out
  go_simp
  obtain⟨Y34,hW34,Ykd34,bs34,ho34,hl34⟩:=stAll Ykd33 [.int .i64 dv] rfl
  simp only[setsC] at hW34
  rw[hW34]
  have YB34:=Lib.hid (hl34.out W0 (by have:=YB33.out.size;omega) YB33.out)
  have Ykh34:=Lib.hid ((ho34.out _ (by omega)).trans Ykh33.out)
  refine hK.out _ _ YB34.out ?_
  clear hK K fz hW34 ho34 hl34 g0
  refine wpTree_one ?_
  refine stepT_mk rfl (fun K hK=>?_)
  have g0:=bkC (v:=.int .i64 0) Ykh34.out 0 rfl
  have fz:=bkF Ykh34.out
  go_simp
  obtain⟨Y35,hW35,Ykh35,bs35,ho35,hl35⟩:=stAll Ykh34 [.int .i64 (hb-ha)] rfl
  simp only[setsC] at hW35
  rw[hW35]
  have YB35:=Lib.hid (hl35.out W0 (by have:=YB34.out.size;omega) YB34.out)
  have Ykd35:=Lib.hid ((ho35.out _ (by omega)).trans Ykd34.out)
  refine hK.out _ _ YB35.out ?_
  clear hK K fz hW35 ho35 hl35 g0
  refine wpTree_nil ?_
  simp only[List.drop_succ_cons,List.drop_zero]
  go_wp2_with fail
  go_meet
  exact⟨_,_,rfl,rfl,Ykd35.out,Ykh35.out,YB35.out,by omega,by omega⟩
  refine stepT_mk rfl (fun K hK=>?_)
  go_simp
  obtain⟨Y36,hW36,hb36,zl36,hk36⟩:=boxes1 Y31 #[.int .i64 0] 2
  rw[hW36]
  have Ykh36:=Lib.hid hk36
  have YB36:=btr YB31 hb36
  have Ykd36:=bkH Ykd31 hb36
  refine hK.out _ _ YB36.out ?_
  have bs36:=hb36.size
  clear hK K hW36 hk36 hb36
  refine wpTree_one ?_
  refine stepT_mk rfl (fun K hK=>?_)
  go_simp
  refine ((fun W (hW:Below W0.heap.size W0 W)=>CA.out W (B0.out.trans (hW.mono B0.out.size))) _ YB36.out).mono ?_
  rintro e Y37 ⟨rfl,hb37⟩
  have YB37:=btr YB36 hb37
  refine hK.out _ _ YB37.out ?_
  clear hK K
  have bs37:=hb37.size
  have Ykd37:=bkH Ykd36 hb37
  have Ykh37:=bkH Ykh36 hb37
  clear hb37
  refine wpTree_read (v:=?_) rfl (fun _ _ _ h=>h) ?_ ?_
  rotate_left
  ·(intro W hSW;(try dsimp only at hSW);obtain⟨t0,t1,t2,t3,t4,t5,t6,t7,t8,t9,t10⟩:=HD.out W hSW;(go_simp<;>with_reducible rfl))
  (try simp only[Act.put,List.setIfInBounds_toArray,List.set_cons_zero,List.set_cons_succ])
  refine wpTree_one ?_
  refine stepT_mk rfl (fun K hK=>?_)
  have g0:=bkC (v:=.int .i64 0) Ykd37.out 0 rfl
  have fz:=bkF Ykd37.out
  go_simp
  obtain⟨Y38,hW38,Ykd38,bs38,ho38,hl38⟩:=stAll Ykd37 [.int .i64 dv] rfl
  simp only[setsC] at hW38
  rw[hW38]
  have YB38:=Lib.hid (hl38.out W0 (by have:=YB37.out.size;omega) YB37.out)
  have Ykh38:=Lib.hid ((ho38.out _ (by omega)).trans Ykh37.out)
  refine hK.out _ _ YB38.out ?_
  clear hK K fz hW38 ho38 hl38 g0
  refine wpTree_one ?_
  refine stepT_mk rfl (fun K hK=>?_)
  have g0:=bkC (v:=.int .i64 0) Ykh38.out 0 rfl
  have fz:=bkF Ykh38.out
  go_simp
  obtain⟨Y39,hW39,Ykh39,bs39,ho39,hl39⟩:=stAll Ykh38 [.int .i64 (hb-ha)] rfl
  simp only[setsC] at hW39
  rw[hW39]
  have YB39:=Lib.hid (hl39.out W0 (by have:=YB38.out.size;omega) YB38.out)
  have Ykd39:=Lib.hid ((ho39.out _ (by omega)).trans Ykd38.out)
  refine hK.out _ _ YB39.out ?_
  clear hK K fz hW39 ho39 hl39 g0
  refine wpTree_nil ?_
  simp only[List.drop_succ_cons,List.drop_zero]
  go_wp2_with fail
  go_meet
  exact⟨_,_,rfl,rfl,Ykd39.out,Ykh39.out,YB39.out,by omega,by omega⟩
  refine stepT_mk rfl (fun K hK=>?_)
  go_simp
  obtain⟨Y40,hW40,hb40,zl40,hk40⟩:=boxes1 Y30 #[.int .i64 0] 2
  rw[hW40]
  have Ykh40:=Lib.hid hk40
  have YB40:=btr YB30 hb40
  have Ykd40:=bkH Ykd30 hb40
  refine hK.out _ _ YB40.out ?_
  have bs40:=hb40.size
  clear hK K hW40 hk40 hb40
  refine wpTree_one ?_
  refine stepT_mk rfl (fun K hK=>?_)
  go_simp
  refine ((fun W (hW:Below W0.heap.size W0 W)=>CB0.out W (B0.out.trans (hW.mono B0.out.size))) _ YB40.out).mono ?_
  rintro e Y41 ⟨rfl,hb41⟩
  have YB41:=btr YB40 hb41
  refine hK.out _ _ YB41.out ?_
  clear hK K
  have bs41:=hb41.size
  have Ykd41:=bkH Ykd40 hb41
  have Ykh41:=bkH Ykh40 hb41
  clear hb41
  refine wpTree_one ?_
  refine stepT_mk rfl (fun K hK=>?_)
  go_simp
  refine ((fun W (hW:Below W0.heap.size W0 W)=>CA.out W (B0.out.trans (hW.mono B0.out.size))) _ YB41.out).mono ?_
  rintro e Y42 ⟨rfl,hb42⟩
  have YB42:=btr YB41 hb42
  refine hK.out _ _ YB42.out ?_
  clear hK K
  have bs42:=hb42.size
  have Ykd42:=bkH Ykd41 hb42
  have Ykh42:=bkH Ykh41 hb42
  clear hb42
  refine wpTree_read (v:=?_) rfl (fun _ _ _ h=>h) ?_ ?_
  rotate_left
  ·(intro W hSW;(try dsimp only at hSW);obtain⟨t0,t1,t2,t3,t4,t5,t6,t7,t8,t9,t10⟩:=HD.out W hSW;(go_simp<;>with_reducible rfl))
  (try simp only[Act.put,List.setIfInBounds_toArray,List.set_cons_zero,List.set_cons_succ])
  refine wpTree_one ?_
  refine stepT_mk rfl (fun K hK=>?_)
  have g0:=bkC (v:=.int .i64 0) Ykd42.out 0 rfl
  have fz:=bkF Ykd42.out
  go_simp
  obtain⟨Y43,hW43,Ykd43,bs43,ho43,hl43⟩:=stAll Ykd42 [.int .i64 dv] rfl
  simp only[setsC] at hW43
  rw[hW43]
  have YB43:=Lib.hid (hl43.out W0 (by have:=YB42.out.size;omega) YB42.out)
  have Ykh43:=Lib.hid ((ho43.out _ (by omega)).trans Ykh42.out)
  refine hK.out _ _ YB43.out ?_
  clear hK K fz hW43 ho43 hl43 g0
  refine wpTree_one ?_
  refine stepT_mk rfl (fun K hK=>?_)
  have g0:=bkC (v:=.int .i64 0) Ykh43.out 0 rfl
  have fz:=bkF Ykh43.out
  go_simp
  obtain⟨Y44,hW44,Ykh44,bs44,ho44,hl44⟩:=stAll Ykh43 [.int .i64 (hb-ha)] rfl
  simp only[setsC] at hW44
  rw[hW44]
  have YB44:=Lib.hid (hl44.out W0 (by have:=YB43.out.size;omega) YB43.out)
  have Ykd44:=Lib.hid ((ho44.out _ (by omega)).trans Ykd43.out)
  refine hK.out _ _ YB44.out ?_
  clear hK K fz hW44 ho44 hl44 g0
  refine wpTree_nil ?_
  simp only[List.drop_succ_cons,List.drop_zero]
  go_wp2_with fail
  go_meet
  exact⟨_,_,rfl,rfl,Ykd44.out,Ykh44.out,YB44.out,by omega,by omega⟩
  refine stepT_mk rfl (fun K hK=>?_)
  go_simp
  obtain⟨Y45,hW45,hb45,zl45,hk45⟩:=boxes1 Y1 #[.int .i64 0] 2
  rw[hW45]
  have Ykh45:=Lib.hid hk45
  have YB45:=btr YB1 hb45
  refine hK.out _ _ YB45.out ?_
  have bs45:=hb45.size
  clear hK K hW45 hk45 hb45
  refine wpTree_two ?_ ?_
  refine stepT_mk rfl (fun K hK=>?_)
  go_simp
  refine ((fun W (hW:Below W0.heap.size W0 W)=>CB0.out W (B0.out.trans (hW.mono B0.out.size))) _ YB45.out).mono ?_
  rintro e Y46 ⟨rfl,hb46⟩
  have YB46:=btr YB45 hb46
  refine hK.out _ _ YB46.out ?_
  clear hK K
  have bs46:=hb46.size
  have Ykh46:=bkH Ykh45 hb46
  clear hb46
  refine wpTree_two ?_ ?_
  refine stepT_mk rfl (fun K hK=>?_)
  go_simp
  refine ((fun W (hW:Below W0.heap.size W0 W)=>CA.out W (B0.out.trans (hW.mono B0.out.size))) _ YB46.out).mono ?_
  rintro e Y47 ⟨rfl,hb47⟩
  have YB47:=btr YB46 hb47
  refine hK.out _ _ YB47.out ?_
  clear hK K
  have bs47:=hb47.size
  have Ykh47:=bkH Ykh46 hb47
  clear hb47
  refine wpTree_read (v:=?_) rfl (fun _ _ _ h=>h) ?_ ?_
  rotate_left
  ·(intro W hSW;(try dsimp only at hSW);obtain⟨t0,t1,t2,t3,t4,t5,t6,t7,t8,t9,t10⟩:=HD.out W hSW;(go_simp<;>with_reducible rfl))
  (try simp only[Act.put,List.setIfInBounds_toArray,List.set_cons_zero,List.set_cons_succ])
  refine wpTree_one ?_
  refine stepT_mk rfl (fun K hK=>?_)
  go_simp
  obtain⟨Y48,hW48,hb48,zl48,hk48⟩:=boxes1 Y47 #[.int .i64 0] 2
  rw[hW48]
  have Ykd48:=Lib.hid hk48
  have YB48:=btr YB47 hb48
  have Ykh48:=bkH Ykh47 hb48
  refine hK.out _ _ YB48.out ?_
  have bs48:=hb48.size
  clear hK K hW48 hk48 hb48
  refine wpTree_one ?_
  refine stepT_mk rfl (fun K hK=>?_)
  have g0:=bkC (v:=.int .i64 0) Ykd48.out 0 rfl
  have fz:=bkF Ykd48.out
  go_simp
  obtain⟨Y49,hW49,Ykd49,bs49,ho49,hl49⟩:=stAll Ykd48 [.int .i64 dv] rfl
  simp only[setsC] at hW49
  rw[hW49]
  have YB49:=Lib.hid (hl49.out W0 (by have:=YB48.out.size;omega) YB48.out)
  have Ykh49:=Lib.hid ((ho49.out _ (by omega)).trans Ykh48.out)
  refine hK.out _ _ YB49.out ?_
  clear hK K fz hW49 ho49 hl49 g0
  refine wpTree_one ?_
  refine stepT_mk rfl (fun K hK=>?_)
  have g0:=bkC (v:=.int .i64 0) Ykh49.out 0 rfl
  have fz:=bkF Ykh49.out
  go_simp
  obtain⟨Y50,hW50,Ykh50,bs50,ho50,hl50⟩:=stAll Ykh49 [.int .i64 (hb-ha)] rfl
  simp only[setsC] at hW50
  rw[hW50]
  have YB50:=Lib.hid (hl50.out W0 (by have:=YB49.out.size;omega) YB49.out)
  have Ykd50:=Lib.hid ((ho50.out _ (by omega)).trans Ykd49.out)
  refine hK.out _ _ YB50.out ?_
  clear hK K fz hW50 ho50 hl50 g0
  refine wpTree_nil ?_
  simp only[List.drop_succ_cons,List.drop_zero]
  go_wp2_with fail
  go_meet
  exact⟨_,_,rfl,rfl,Ykd50.out,Ykh50.out,YB50.out,by omega,by omega⟩
  refine stepT_mk rfl (fun K hK=>?_)
  go_simp
  obtain⟨Y51,hW51,hb51,zl51,hk51⟩:=boxes1 Y46 #[.int .i64 0] 2
  rw[hW51]
  have Ykd51:=Lib.hid hk51
  have YB51:=btr YB46 hb51
  have Ykh51:=bkH Ykh46 hb51
  refine hK.out _ _ YB51.out ?_
  have bs51:=hb51.size
  clear hK K hW51 hk51 hb51
  refine wpTree_one ?_
  refine stepT_mk rfl (fun K hK=>?_)
  go_simp
  refine ((fun W (hW:Below W0.heap.size W0 W)=>CA.out W (B0.out.trans (hW.mono B0.out.size))) _ YB51.out).mono ?_
  rintro e Y52 ⟨rfl,hb52⟩
  have YB52:=btr YB51 hb52
  refine hK.out _ _ YB52.out ?_
  clear hK K
  have bs52:=hb52.size
  have Ykh52:=bkH Ykh51 hb52
  have Ykd52:=bkH Ykd51 hb52
  clear hb52
  refine wpTree_read (v:=?_) rfl (fun _ _ _ h=>h) ?_ ?_
  rotate_left
  ·(intro W hSW;(try dsimp only at hSW);obtain⟨t0,t1,t2,t3,t4,t5,t6,t7,t8,t9,t10⟩:=HD.out W hSW;(go_simp<;>with_reducible rfl))
  (try simp only[Act.put,List.setIfInBounds_toArray,List.set_cons_zero,List.set_cons_succ])
  refine wpTree_one ?_
  refine stepT_mk rfl (fun K hK=>?_)
  have g0:=bkC (v:=.int .i64 0) Ykd52.out 0 rfl
  have fz:=bkF Ykd52.out
  go_simp
  obtain⟨Y53,hW53,Ykd53,bs53,ho53,hl53⟩:=stAll Ykd52 [.int .i64 dv] rfl
  simp only[setsC] at hW53
  rw[hW53]
  have YB53:=Lib.hid (hl53.out W0 (by have:=YB52.out.size;omega) YB52.out)
  have Ykh53:=Lib.hid ((ho53.out _ (by omega)).trans Ykh52.out)
  refine hK.out _ _ YB53.out ?_
  clear hK K fz hW53 ho53 hl53 g0
  refine wpTree_one ?_
  refine stepT_mk rfl (fun K hK=>?_)
  have g0:=bkC (v:=.int .i64 0) Ykh53.out 0 rfl
  have fz:=bkF Ykh53.out
  go_simp
  obtain⟨Y54,hW54,Ykh54,bs54,ho54,hl54⟩:=stAll Ykh53 [.int .i64 (hb-ha)] rfl
  simp only[setsC] at hW54
  rw[hW54]
  have YB54:=Lib.hid (hl54.out W0 (by have:=YB53.out.size;omega) YB53.out)
  have Ykd54:=Lib.hid ((ho54.out _ (by omega)).trans Ykd53.out)
  refine hK.out _ _ YB54.out ?_
  clear hK K fz hW54 ho54 hl54 g0
  refine wpTree_nil ?_
  simp only[List.drop_succ_cons,List.drop_zero]
  go_wp2_with fail
  go_meet
  exact⟨_,_,rfl,rfl,Ykd54.out,Ykh54.out,YB54.out,by omega,by omega⟩
  refine stepT_mk rfl (fun K hK=>?_)
  go_simp
  obtain⟨Y55,hW55,hb55,zl55,hk55⟩:=boxes1 Y45 #[.int .i64 0] 2
  rw[hW55]
  have Ykd55:=Lib.hid hk55
  have YB55:=btr YB45 hb55
  have Ykh55:=bkH Ykh45 hb55
  refine hK.out _ _ YB55.out ?_
  have bs55:=hb55.size
  clear hK K hW55 hk55 hb55
  refine wpTree_one ?_
  refine stepT_mk rfl (fun K hK=>?_)
  go_simp
  refine ((fun W (hW:Below W0.heap.size W0 W)=>CB0.out W (B0.out.trans (hW.mono B0.out.size))) _ YB55.out).mono ?_
  rintro e Y56 ⟨rfl,hb56⟩
  have YB56:=btr YB55 hb56
  refine hK.out _ _ YB56.out ?_
  clear hK K
  have bs56:=hb56.size
  have Ykh56:=bkH Ykh55 hb56
  have Ykd56:=bkH Ykd55 hb56
  clear hb56
  refine wpTree_one ?_
  refine stepT_mk rfl (fun K hK=>?_)
  go_simp
  refine ((fun W (hW:Below W0.heap.size W0 W)=>CA.out W (B0.out.trans (hW.mono B0.out.size))) _ YB56.out).mono ?_
  rintro e Y57 ⟨rfl,hb57⟩
  have YB57:=btr YB56 hb57
  refine hK.out _ _ YB57.out ?_
  clear hK K
  have bs57:=hb57.size
  have Ykh57:=bkH Ykh56 hb57
  have Ykd57:=bkH Ykd56 hb57
  clear hb57
  refine wpTree_read (v:=?_) rfl (fun _ _ _ h=>h) ?_ ?_
  rotate_left
  ·(intro W hSW;(try dsimp only at hSW);obtain⟨t0,t1,t2,t3,t4,t5,t6,t7,t8,t9,t10⟩:=HD.out W hSW;(go_simp<;>with_reducible rfl))
  (try simp only[Act.put,List.setIfInBounds_toArray,List.set_cons_zero,List.set_cons_succ])
  refine wpTree_one ?_
  refine stepT_mk rfl (fun K hK=>?_)
  have g0:=bkC (v:=.int .i64 0) Ykd57.out 0 rfl
  have fz:=bkF Ykd57.out
  go_simp
  obtain⟨Y58,hW58,Ykd58,bs58,ho58,hl58⟩:=stAll Ykd57 [.int .i64 dv] rfl
  simp only[setsC] at hW58
  rw[hW58]
  have YB58:=Lib.hid (hl58.out W0 (by have:=YB57.out.size;omega) YB57.out)
  have Ykh58:=Lib.hid ((ho58.out _ (by omega)).trans Ykh57.out)
  refine hK.out _ _ YB58.out ?_
  clear hK K fz hW58 ho58 hl58 g0
  refine wpTree_one ?_
  refine stepT_mk rfl (fun K hK=>?_)
  have g0:=bkC (v:=.int .i64 0) Ykh58.out 0 rfl
  have fz:=bkF Ykh58.out
  go_simp
  obtain⟨Y59,hW59,Ykh59,bs59,ho59,hl59⟩:=stAll Ykh58 [.int .i64 (hb-ha)] rfl
  simp only[setsC] at hW59
  rw[hW59]
  have YB59:=Lib.hid (hl59.out W0 (by have:=YB58.out.size;omega) YB58.out)
  have Ykd59:=Lib.hid ((ho59.out _ (by omega)).trans Ykd58.out)
  refine hK.out _ _ YB59.out ?_
  clear hK K fz hW59 ho59 hl59 g0
  refine wpTree_nil ?_
  simp only[List.drop_succ_cons,List.drop_zero]
  go_wp2_with fail
  go_meet
  exact⟨_,_,rfl,rfl,Ykd59.out,Ykh59.out,YB59.out,by omega,by omega⟩
  refine stepT_mk rfl (fun K hK=>?_)
  go_simp
  obtain⟨Y60,hW60,hb60,zl60,hk60⟩:=boxes1 Y #[.int .i64 0] 2
  rw[hW60]
  have Ykd60:=Lib.hid hk60
  have YB60:=btr YB hb60
  refine hK.out _ _ YB60.out ?_
  have bs60:=hb60.size
  clear hK K hW60 hk60 hb60
  refine wpTree_two ?_ ?_
  refine stepT_mk rfl (fun K hK=>?_)
  go_simp
  refine ((fun W (_:Below W0.heap.size W0 W)=>CD0.out W) _ YB60.out).mono ?_
  rintro e Y61 ⟨rfl,hb61⟩
  have YB61:=btr YB60 hb61
  refine hK.out _ _ YB61.out ?_
  clear hK K
  have bs61:=hb61.size
  have Ykd61:=bkH Ykd60 hb61
  clear hb61
  refine wpTree_two ?_ ?_
  refine stepT_mk rfl (fun K hK=>?_)
  go_simp
  refine ((fun W (hW:Below W0.heap.size W0 W)=>CB0.out W (B0.out.trans (hW.mono B0.out.size))) _ YB61.out).mono ?_
  rintro e Y62 ⟨rfl,hb62⟩
  have YB62:=btr YB61 hb62
  refine hK.out _ _ YB62.out ?_
  clear hK K
  have bs62:=hb62.size
  have Ykd62:=bkH Ykd61 hb62
  clear hb62
  refine wpTree_two ?_ ?_
  refine stepT_mk rfl (fun K hK=>?_)
  go_simp
  refine ((fun W (hW:Below W0.heap.size W0 W)=>CA.out W (B0.out.trans (hW.mono B0.out.size))) _ YB62.out).mono ?_
  rintro e Y63 ⟨rfl,hb63⟩
  have YB63:=btr YB62 hb63
  refine hK.out _ _ YB63.out ?_
  clear hK K
  have bs63:=hb63.size
  have Ykd63:=bkH Ykd62 hb63
  clear hb63
  refine wpTree_read (v:=?_) rfl (fun _ _ _ h=>h) ?_ ?_
  rotate_left
  ·(intro W hSW;(try dsimp only at hSW);obtain⟨t0,t1,t2,t3,t4,t5,t6,t7,t8,t9,t10⟩:=HD.out W hSW;(go_simp<;>with_reducible rfl))
  (try simp only[Act.put,List.setIfInBounds_toArray,List.set_cons_zero,List.set_cons_succ])
  refine wpTree_one ?_
  refine stepT_mk rfl (fun K hK=>?_)
  go_simp
  obtain⟨Y64,hW64,hb64,zl64,hk64⟩:=boxes1 Y63 #[.int .i64 0] 2
  rw[hW64]
  have Ykh64:=Lib.hid hk64
  have YB64:=btr YB63 hb64
  have Ykd64:=bkH Ykd63 hb64
  refine hK.out _ _ YB64.out ?_
  have bs64:=hb64.size
  clear hK K hW64 hk64 hb64
  refine wpTree_one ?_
  refine stepT_mk rfl (fun K hK=>?_)
  have g0:=bkC (v:=.int .i64 0) Ykd64.out 0 rfl
  have fz:=bkF Ykd64.out
  go_simp
  obtain⟨Y65,hW65,Ykd65,bs65,ho65,hl65⟩:=stAll Ykd64 [.int .i64 dv] rfl
  simp only[setsC] at hW65
  rw[hW65]
  have YB65:=Lib.hid (hl65.out W0 (by have:=YB64.out.size;omega) YB64.out)
  have Ykh65:=Lib.hid ((ho65.out _ (by omega)).trans Ykh64.out)
  refine hK.out _ _ YB65.out ?_
  clear hK K fz hW65 ho65 hl65 g0
  refine wpTree_one ?_
  refine stepT_mk rfl (fun K hK=>?_)
  have g0:=bkC (v:=.int .i64 0) Ykh65.out 0 rfl
  have fz:=bkF Ykh65.out
  go_simp
  obtain⟨Y66,hW66,Ykh66,bs66,ho66,hl66⟩:=stAll Ykh65 [.int .i64 (hb-ha)] rfl
  simp only[setsC] at hW66
  rw[hW66]
  have YB66:=Lib.hid (hl66.out W0 (by have:=YB65.out.size;omega) YB65.out)
  have Ykd66:=Lib.hid ((ho66.out _ (by omega)).trans Ykd65.out)
  refine hK.out _ _ YB66.out ?_
  clear hK K fz hW66 ho66 hl66 g0
  refine wpTree_nil ?_
  simp only[List.drop_succ_cons,List.drop_zero]
  go_wp2_with fail
  go_meet
  exact⟨_,_,rfl,rfl,Ykd66.out,Ykh66.out,YB66.out,by omega,by omega⟩
  refine stepT_mk rfl (fun K hK=>?_)
  go_simp
  obtain⟨Y67,hW67,hb67,zl67,hk67⟩:=boxes1 Y62 #[.int .i64 0] 2
  rw[hW67]
  have Ykh67:=Lib.hid hk67
  have YB67:=btr YB62 hb67
  have Ykd67:=bkH Ykd62 hb67
  refine hK.out _ _ YB67.out ?_
  have bs67:=hb67.size
  clear hK K hW67 hk67 hb67
  refine wpTree_one ?_
  refine stepT_mk rfl (fun K hK=>?_)
  go_simp
  refine ((fun W (hW:Below W0.heap.size W0 W)=>CA.out W (B0.out.trans (hW.mono B0.out.size))) _ YB67.out).mono ?_
  rintro e Y68 ⟨rfl,hb68⟩
  have YB68:=btr YB67 hb68
  refine hK.out _ _ YB68.out ?_
  clear hK K
  have bs68:=hb68.size
  have Ykd68:=bkH Ykd67 hb68
  have Ykh68:=bkH Ykh67 hb68
  clear hb68
  refine wpTree_read (v:=?_) rfl (fun _ _ _ h=>h) ?_ ?_
  rotate_left
  ·(intro W hSW;(try dsimp only at hSW);obtain⟨t0,t1,t2,t3,t4,t5,t6,t7,t8,t9,t10⟩:=HD.out W hSW;(go_simp<;>with_reducible rfl))
  (try simp only[Act.put,List.setIfInBounds_toArray,List.set_cons_zero,List.set_cons_succ])
  refine wpTree_one ?_
  refine stepT_mk rfl (fun K hK=>?_)
  have g0:=bkC (v:=.int .i64 0) Ykd68.out 0 rfl
  have fz:=bkF Ykd68.out
  go_simp
  obtain⟨Y69,hW69,Ykd69,bs69,ho69,hl69⟩:=stAll Ykd68 [.int .i64 dv] rfl
  simp only[setsC] at hW69
  rw[hW69]
  have YB69:=Lib.hid (hl69.out W0 (by have:=YB68.out.size;omega) YB68.out)
  have Ykh69:=Lib.hid ((ho69.out _ (by omega)).trans Ykh68.out)
  refine hK.out _ _ YB69.out ?_
  clear hK K fz hW69 ho69 hl69 g0
  refine wpTree_one ?_
  refine stepT_mk rfl (fun K hK=>?_)
  have g0:=bkC (v:=.int .i64 0) Ykh69.out 0 rfl
  have fz:=bkF Ykh69.out
  go_simp
  obtain⟨Y70,hW70,Ykh70,bs70,ho70,hl70⟩:=stAll Ykh69 [.int .i64 (hb-ha)] rfl
  simp only[setsC] at hW70
  rw[hW70]
  have YB70:=Lib.hid (hl70.out W0 (by have:=YB69.out.size;omega) YB69.out)
  have Ykd70:=Lib.hid ((ho70.out _ (by omega)).trans Ykd69.out)
  refine hK.out _ _ YB70.out ?_
  clear hK K fz hW70 ho70 hl70 g0
  refine wpTree_nil ?_
  simp only[List.drop_succ_cons,List.drop_zero]
  go_wp2_with fail
  go_meet
  exact⟨_,_,rfl,rfl,Ykd70.out,Ykh70.out,YB70.out,by omega,by omega⟩
  refine stepT_mk rfl (fun K hK=>?_)
  go_simp
  obtain⟨Y71,hW71,hb71,zl71,hk71⟩:=boxes1 Y61 #[.int .i64 0] 2
  rw[hW71]
  have Ykh71:=Lib.hid hk71
  have YB71:=btr YB61 hb71
  have Ykd71:=bkH Ykd61 hb71
  refine hK.out _ _ YB71.out ?_
  have bs71:=hb71.size
  clear hK K hW71 hk71 hb71
  refine wpTree_one ?_
  refine stepT_mk rfl (fun K hK=>?_)
  go_simp
  refine ((fun W (hW:Below W0.heap.size W0 W)=>CB0.out W (B0.out.trans (hW.mono B0.out.size))) _ YB71.out).mono ?_
  rintro e Y72 ⟨rfl,hb72⟩
  have YB72:=btr YB71 hb72
  refine hK.out _ _ YB72.out ?_
  clear hK K
  have bs72:=hb72.size
  have Ykd72:=bkH Ykd71 hb72
  have Ykh72:=bkH Ykh71 hb72
  clear hb72
  refine wpTree_one ?_
  refine stepT_mk rfl (fun K hK=>?_)
  go_simp
  refine ((fun W (hW:Below W0.heap.size W0 W)=>CA.out W (B0.out.trans (hW.mono B0.out.size))) _ YB72.out).mono ?_
  rintro e Y73 ⟨rfl,hb73⟩
  have YB73:=btr YB72 hb73
  refine hK.out _ _ YB73.out ?_
  clear hK K
  have bs73:=hb73.size
  have Ykd73:=bkH Ykd72 hb73
  have Ykh73:=bkH Ykh72 hb73
  clear hb73
  refine wpTree_read (v:=?_) rfl (fun _ _ _ h=>h) ?_ ?_
  rotate_left
  ·(intro W hSW;(try dsimp only at hSW);obtain⟨t0,t1,t2,t3,t4,t5,t6,t7,t8,t9,t10⟩:=HD.out W hSW;(go_simp<;>with_reducible rfl))
  (try simp only[Act.put,List.setIfInBounds_toArray,List.set_cons_zero,List.set_cons_succ])
  refine wpTree_one ?_
  refine stepT_mk rfl (fun K hK=>?_)
  have g0:=bkC (v:=.int .i64 0) Ykd73.out 0 rfl
  have fz:=bkF Ykd73.out
  go_simp
  obtain⟨Y74,hW74,Ykd74,bs74,ho74,hl74⟩:=stAll Ykd73 [.int .i64 dv] rfl
  simp only[setsC] at hW74
  rw[hW74]
  have YB74:=Lib.hid (hl74.out W0 (by have:=YB73.out.size;omega) YB73.out)
  have Ykh74:=Lib.hid ((ho74.out _ (by omega)).trans Ykh73.out)
  refine hK.out _ _ YB74.out ?_
  clear hK K fz hW74 ho74 hl74 g0
  refine wpTree_one ?_
  refine stepT_mk rfl (fun K hK=>?_)
  have g0:=bkC (v:=.int .i64 0) Ykh74.out 0 rfl
  have fz:=bkF Ykh74.out
  go_simp
  obtain⟨Y75,hW75,Ykh75,bs75,ho75,hl75⟩:=stAll Ykh74 [.int .i64 (hb-ha)] rfl
  simp only[setsC] at hW75
  rw[hW75]
  have YB75:=Lib.hid (hl75.out W0 (by have:=YB74.out.size;omega) YB74.out)
  have Ykd75:=Lib.hid ((ho75.out _ (by omega)).trans Ykd74.out)
  refine hK.out _ _ YB75.out ?_
  clear hK K fz hW75 ho75 hl75 g0
  refine wpTree_nil ?_
  simp only[List.drop_succ_cons,List.drop_zero]
  go_wp2_with fail
  go_meet
  exact⟨_,_,rfl,rfl,Ykd75.out,Ykh75.out,YB75.out,by omega,by omega⟩
  refine stepT_mk rfl (fun K hK=>?_)
  go_simp
  obtain⟨Y76,hW76,hb76,zl76,hk76⟩:=boxes1 Y60 #[.int .i64 0] 2
  rw[hW76]
  have Ykh76:=Lib.hid hk76
  have YB76:=btr YB60 hb76
  have Ykd76:=bkH Ykd60 hb76
  refine hK.out _ _ YB76.out ?_
  have bs76:=hb76.size
  clear hK K hW76 hk76 hb76
  refine wpTree_one ?_
  refine stepT_mk rfl (fun K hK=>?_)
  go_simp
  refine ((fun W (_:Below W0.heap.size W0 W)=>CD0.out W) _ YB76.out).mono ?_
  rintro e Y77 ⟨rfl,hb77⟩
  have YB77:=btr YB76 hb77
  refine hK.out _ _ YB77.out ?_
  clear hK K
  have bs77:=hb77.size
  have Ykd77:=bkH Ykd76 hb77
  have Ykh77:=bkH Ykh76 hb77
  clear hb77
  refine wpTree_one ?_
  refine stepT_mk rfl (fun K hK=>?_)
  go_simp
  refine ((fun W (hW:Below W0.heap.size W0 W)=>CB0.out W (B0.out.trans (hW.mono B0.out.size))) _ YB77.out).mono ?_
  rintro e Y78 ⟨rfl,hb78⟩
  have YB78:=btr YB77 hb78
  refine hK.out _ _ YB78.out ?_
  clear hK K
  have bs78:=hb78.size
  have Ykd78:=bkH Ykd77 hb78
  have Ykh78:=bkH Ykh77 hb78
  clear hb78
  refine wpTree_one ?_
  refine stepT_mk rfl (fun K hK=>?_)
  go_simp
  refine ((fun W (hW:Below W0.heap.size W0 W)=>CA.out W (B0.out.trans (hW.mono B0.out.size))) _ YB78.out).mono ?_
  rintro e Y79 ⟨rfl,hb79⟩
  have YB79:=btr YB78 hb79
  refine hK.out _ _ YB79.out ?_
  clear hK K
  have bs79:=hb79.size
  have Ykd79:=bkH Ykd78 hb79
  have Ykh79:=bkH Ykh78 hb79
  clear hb79
  refine wpTree_read (v:=?_) rfl (fun _ _ _ h=>h) ?_ ?_
  rotate_left
  ·(intro W hSW;(try dsimp only at hSW);obtain⟨t0,t1,t2,t3,t4,t5,t6,t7,t8,t9,t10⟩:=HD.out W hSW;(go_simp<;>with_reducible rfl))
  (try simp only[Act.put,List.setIfInBounds_toArray,List.set_cons_zero,List.set_cons_succ])
  refine wpTree_one ?_
  refine stepT_mk rfl (fun K hK=>?_)
  have g0:=bkC (v:=.int .i64 0) Ykd79.out 0 rfl
  have fz:=bkF Ykd79.out
  go_simp
  obtain⟨Y80,hW80,Ykd80,bs80,ho80,hl80⟩:=stAll Ykd79 [.int .i64 dv] rfl
  simp only[setsC] at hW80
  rw[hW80]
  have YB80:=Lib.hid (hl80.out W0 (by have:=YB79.out.size;omega) YB79.out)
  have Ykh80:=Lib.hid ((ho80.out _ (by omega)).trans Ykh79.out)
  refine hK.out _ _ YB80.out ?_
  clear hK K fz hW80 ho80 hl80 g0
  refine wpTree_one ?_
  refine stepT_mk rfl (fun K hK=>?_)
  have g0:=bkC (v:=.int .i64 0) Ykh80.out 0 rfl
  have fz:=bkF Ykh80.out
  go_simp
  obtain⟨Y81,hW81,Ykh81,bs81,ho81,hl81⟩:=stAll Ykh80 [.int .i64 (hb-ha)] rfl
  simp only[setsC] at hW81
  rw[hW81]
  have YB81:=Lib.hid (hl81.out W0 (by have:=YB80.out.size;omega) YB80.out)
  have Ykd81:=Lib.hid ((ho81.out _ (by omega)).trans Ykd80.out)
  refine hK.out _ _ YB81.out ?_
  clear hK K fz hW81 ho81 hl81 g0
  refine wpTree_nil ?_
  simp only[List.drop_succ_cons,List.drop_zero]
  go_wp2_with fail
  go_meet
  exact⟨_,_,rfl,rfl,Ykd81.out,Ykh81.out,YB81.out,by omega,by omega⟩
  refine stepT_mk rfl (fun K hK=>?_)
  go_simp
  obtain⟨Y82,hW82,hb82,zl82,hk82⟩:=boxes1 Y #[.int .i64 0] 2
  rw[hW82]
  have Ykh82:=Lib.hid hk82
  have YB82:=btr YB hb82
  refine hK.out _ _ YB82.out ?_
  have bs82:=hb82.size
  clear hK K hW82 hk82 hb82
  refine wpTree_two ?_ ?_
  refine stepT_mk rfl (fun K hK=>?_)
  go_simp
  refine ((fun W (_:Below W0.heap.size W0 W)=>CD0.out W) _ YB82.out).mono ?_
  rintro e Y83 ⟨rfl,hb83⟩
  have YB83:=btr YB82 hb83
  refine hK.out _ _ YB83.out ?_
  clear hK K
  have bs83:=hb83.size
  have Ykh83:=bkH Ykh82 hb83
  clear hb83
  refine wpTree_two ?_ ?_
  refine stepT_mk rfl (fun K hK=>?_)
  go_simp
  refine ((fun W (hW:Below W0.heap.size W0 W)=>CB0.out W (B0.out.trans (hW.mono B0.out.size))) _ YB83.out).mono ?_
  rintro e Y84 ⟨rfl,hb84⟩
  have YB84:=btr YB83 hb84
  refine hK.out _ _ YB84.out ?_
  clear hK K
  have bs84:=hb84.size
  have Ykh84:=bkH Ykh83 hb84
  clear hb84
  refine wpTree_two ?_ ?_
  refine stepT_mk rfl (fun K hK=>?_)
  go_simp
  refine ((fun W (hW:Below W0.heap.size W0 W)=>CA.out W (B0.out.trans (hW.mono B0.out.size))) _ YB84.out).mono ?_
  rintro e Y85 ⟨rfl,hb85⟩
  have YB85:=btr YB84 hb85
  refine hK.out _ _ YB85.out ?_
  clear hK K
  have bs85:=hb85.size
  have Ykh85:=bkH Ykh84 hb85
  clear hb85
  refine wpTree_read (v:=?_) rfl (fun _ _ _ h=>h) ?_ ?_
  rotate_left
  ·(intro W hSW;(try dsimp only at hSW);obtain⟨t0,t1,t2,t3,t4,t5,t6,t7,t8,t9,t10⟩:=HD.out W hSW;(go_simp<;>with_reducible rfl))
  (try simp only[Act.put,List.setIfInBounds_toArray,List.set_cons_zero,List.set_cons_succ])
  refine wpTree_one ?_
  refine stepT_mk rfl (fun K hK=>?_)
  go_simp
  obtain⟨Y86,hW86,hb86,zl86,hk86⟩:=boxes1 Y85 #[.int .i64 0] 2
  rw[hW86]
  have Ykd86:=Lib.hid hk86
  have YB86:=btr YB85 hb86
  have Ykh86:=bkH Ykh85 hb86
  refine hK.out _ _ YB86.out ?_
  have bs86:=hb86.size
  clear hK K hW86 hk86 hb86
  refine wpTree_one ?_
  refine stepT_mk rfl (fun K hK=>?_)
  have g0:=bkC (v:=.int .i64 0) Ykd86.out 0 rfl
  have fz:=bkF Ykd86.out
  go_simp
  obtain⟨Y87,hW87,Ykd87,bs87,ho87,hl87⟩:=stAll Ykd86 [.int .i64 dv] rfl
  simp only[setsC] at hW87
  rw[hW87]
  have YB87:=Lib.hid (hl87.out W0 (by have:=YB86.out.size;omega) YB86.out)
  have Ykh87:=Lib.hid ((ho87.out _ (by omega)).trans Ykh86.out)
  refine hK.out _ _ YB87.out ?_
  clear hK K fz hW87 ho87 hl87 g0
  refine wpTree_one ?_
  refine stepT_mk rfl (fun K hK=>?_)
  have g0:=bkC (v:=.int .i64 0) Ykh87.out 0 rfl
  have fz:=bkF Ykh87.out
  go_simp
  obtain⟨Y88,hW88,Ykh88,bs88,ho88,hl88⟩:=stAll Ykh87 [.int .i64 (hb-ha)] rfl
  simp only[setsC] at hW88
  rw[hW88]
  have YB88:=Lib.hid (hl88.out W0 (by have:=YB87.out.size;omega) YB87.out)
  have Ykd88:=Lib.hid ((ho88.out _ (by omega)).trans Ykd87.out)
  refine hK.out _ _ YB88.out ?_
  clear hK K fz hW88 ho88 hl88 g0
  refine wpTree_nil ?_
  simp only[List.drop_succ_cons,List.drop_zero]
  go_wp2_with fail
  go_meet
  exact⟨_,_,rfl,rfl,Ykd88.out,Ykh88.out,YB88.out,by omega,by omega⟩
  refine stepT_mk rfl (fun K hK=>?_)
  go_simp
  obtain⟨Y89,hW89,hb89,zl89,hk89⟩:=boxes1 Y84 #[.int .i64 0] 2
  rw[hW89]
  have Ykd89:=Lib.hid hk89
  have YB89:=btr YB84 hb89
  have Ykh89:=bkH Ykh84 hb89
  refine hK.out _ _ YB89.out ?_
  have bs89:=hb89.size
  clear hK K hW89 hk89 hb89
  refine wpTree_one ?_
  refine stepT_mk rfl (fun K hK=>?_)
  go_simp
  refine ((fun W (hW:Below W0.heap.size W0 W)=>CA.out W (B0.out.trans (hW.mono B0.out.size))) _ YB89.out).mono ?_
  rintro e Y90 ⟨rfl,hb90⟩
  have YB90:=btr YB89 hb90
  refine hK.out _ _ YB90.out ?_
  clear hK K
  have bs90:=hb90.size
  have Ykh90:=bkH Ykh89 hb90
  have Ykd90:=bkH Ykd89 hb90
  clear hb90
  refine wpTree_read (v:=?_) rfl (fun _ _ _ h=>h) ?_ ?_
  rotate_left
  ·(intro W hSW;(try dsimp only at hSW);obtain⟨t0,t1,t2,t3,t4,t5,t6,t7,t8,t9,t10⟩:=HD.out W hSW;(go_simp<;>with_reducible rfl))
  (try simp only[Act.put,List.setIfInBounds_toArray,List.set_cons_zero,List.set_cons_succ])
  refine wpTree_one ?_
  refine stepT_mk rfl (fun K hK=>?_)
  have g0:=bkC (v:=.int .i64 0) Ykd90.out 0 rfl
  have fz:=bkF Ykd90.out
  go_simp
  obtain⟨Y91,hW91,Ykd91,bs91,ho91,hl91⟩:=stAll Ykd90 [.int .i64 dv] rfl
  simp only[setsC] at hW91
  rw[hW91]
  have YB91:=Lib.hid (hl91.out W0 (by have:=YB90.out.size;omega) YB90.out)
  have Ykh91:=Lib.hid ((ho91.out _ (by omega)).trans Ykh90.out)
  refine hK.out _ _ YB91.out ?_
  clear hK K fz hW91 ho91 hl91 g0
  refine wpTree_one ?_
  refine stepT_mk rfl (fun K hK=>?_)
  have g0:=bkC (v:=.int .i64 0) Ykh91.out 0 rfl
  have fz:=bkF Ykh91.out
  go_simp
  obtain⟨Y92,hW92,Ykh92,bs92,ho92,hl92⟩:=stAll Ykh91 [.int .i64 (hb-ha)] rfl
  simp only[setsC] at hW92
  rw[hW92]
  have YB92:=Lib.hid (hl92.out W0 (by have:=YB91.out.size;omega) YB91.out)
  have Ykd92:=Lib.hid ((ho92.out _ (by omega)).trans Ykd91.out)
  refine hK.out _ _ YB92.out ?_
  clear hK K fz hW92 ho92 hl92 g0
  refine wpTree_nil ?_
  simp only[List.drop_succ_cons,List.drop_zero]
  go_wp2_with fail
  go_meet
  exact⟨_,_,rfl,rfl,Ykd92.out,Ykh92.out,YB92.out,by omega,by omega⟩
  refine stepT_mk rfl (fun K hK=>?_)
  go_simp
  obtain⟨Y93,hW93,hb93,zl93,hk93⟩:=boxes1 Y83 #[.int .i64 0] 2
  rw[hW93]
  have Ykd93:=Lib.hid hk93
  have YB93:=btr YB83 hb93
  have Ykh93:=bkH Ykh83 hb93
  refine hK.out _ _ YB93.out ?_
  have bs93:=hb93.size
  clear hK K hW93 hk93 hb93
  refine wpTree_one ?_
  refine stepT_mk rfl (fun K hK=>?_)
  go_simp
  refine ((fun W (hW:Below W0.heap.size W0 W)=>CB0.out W (B0.out.trans (hW.mono B0.out.size))) _ YB93.out).mono ?_
  rintro e Y94 ⟨rfl,hb94⟩
  have YB94:=btr YB93 hb94
  refine hK.out _ _ YB94.out ?_
  clear hK K
  have bs94:=hb94.size
  have Ykh94:=bkH Ykh93 hb94
  have Ykd94:=bkH Ykd93 hb94
  clear hb94
  refine wpTree_one ?_
  refine stepT_mk rfl (fun K hK=>?_)
  go_simp
  refine ((fun W (hW:Below W0.heap.size W0 W)=>CA.out W (B0.out.trans (hW.mono B0.out.size))) _ YB94.out).mono ?_
  rintro e Y95 ⟨rfl,hb95⟩
  have YB95:=btr YB94 hb95
  refine hK.out _ _ YB95.out ?_
  clear hK K
  have bs95:=hb95.size
  have Ykh95:=bkH Ykh94 hb95
  have Ykd95:=bkH Ykd94 hb95
  clear hb95
  refine wpTree_read (v:=?_) rfl (fun _ _ _ h=>h) ?_ ?_
  rotate_left
  ·(intro W hSW;(try dsimp only at hSW);obtain⟨t0,t1,t2,t3,t4,t5,t6,t7,t8,t9,t10⟩:=HD.out W hSW;(go_simp<;>with_reducible rfl))
  (try simp only[Act.put,List.setIfInBounds_toArray,List.set_cons_zero,List.set_cons_succ])
  refine wpTree_one ?_
  refine stepT_mk rfl (fun K hK=>?_)
  have g0:=bkC (v:=.int .i64 0) Ykd95.out 0 rfl
  have fz:=bkF Ykd95.out
  go_simp
  obtain⟨Y96,hW96,Ykd96,bs96,ho96,hl96⟩:=stAll Ykd95 [.int .i64 dv] rfl
  simp only[setsC] at hW96
  rw[hW96]
  have YB96:=Lib.hid (hl96.out W0 (by have:=YB95.out.size;omega) YB95.out)
  have Ykh96:=Lib.hid ((ho96.out _ (by omega)).trans Ykh95.out)
  refine hK.out _ _ YB96.out ?_
  clear hK K fz hW96 ho96 hl96 g0
  refine wpTree_one ?_
  refine stepT_mk rfl (fun K hK=>?_)
  have g0:=bkC (v:=.int .i64 0) Ykh96.out 0 rfl
  have fz:=bkF Ykh96.out
  go_simp
  obtain⟨Y97,hW97,Ykh97,bs97,ho97,hl97⟩:=stAll Ykh96 [.int .i64 (hb-ha)] rfl
  simp only[setsC] at hW97
  rw[hW97]
  have YB97:=Lib.hid (hl97.out W0 (by have:=YB96.out.size;omega) YB96.out)
  have Ykd97:=Lib.hid ((ho97.out _ (by omega)).trans Ykd96.out)
  refine hK.out _ _ YB97.out ?_
  clear hK K fz hW97 ho97 hl97 g0
  refine wpTree_nil ?_
  simp only[List.drop_succ_cons,List.drop_zero]
  go_wp2_with fail
  go_meet
  exact⟨_,_,rfl,rfl,Ykd97.out,Ykh97.out,YB97.out,by omega,by omega⟩
  refine stepT_mk rfl (fun K hK=>?_)
  go_simp
  obtain⟨Y98,hW98,hb98,zl98,hk98⟩:=boxes1 Y82 #[.int .i64 0] 2
  rw[hW98]
  have Ykd98:=Lib.hid hk98
  have YB98:=btr YB82 hb98
  have Ykh98:=bkH Ykh82 hb98
  refine hK.out _ _ YB98.out ?_
  have bs98:=hb98.size
  clear hK K hW98 hk98 hb98
  refine wpTree_one ?_
  refine stepT_mk rfl (fun K hK=>?_)
  go_simp
  refine ((fun W (_:Below W0.heap.size W0 W)=>CD0.out W) _ YB98.out).mono ?_
  rintro e Y99 ⟨rfl,hb99⟩
  have YB99:=btr YB98 hb99
  refine hK.out _ _ YB99.out ?_
  clear hK K
  have bs99:=hb99.size
  have Ykh99:=bkH Ykh98 hb99
  have Ykd99:=bkH Ykd98 hb99
  clear hb99
  refine wpTree_one ?_
  refine stepT_mk rfl (fun K hK=>?_)
  go_simp
  refine ((fun W (hW:Below W0.heap.size W0 W)=>CB0.out W (B0.out.trans (hW.mono B0.out.size))) _ YB99.out).mono ?_
  rintro e Y100 ⟨rfl,hb100⟩
  have YB100:=btr YB99 hb100
  refine hK.out _ _ YB100.out ?_
  clear hK K
  have bs100:=hb100.size
  have Ykh100:=bkH Ykh99 hb100
  have Ykd100:=bkH Ykd99 hb100
  clear hb100
  refine wpTree_one ?_
  refine stepT_mk rfl (fun K hK=>?_)
  go_simp
  refine ((fun W (hW:Below W0.heap.size W0 W)=>CA.out W (B0.out.trans (hW.mono B0.out.size))) _ YB100.out).mono ?_
  rintro e Y101 ⟨rfl,hb101⟩
  have YB101:=btr YB100 hb101
  refine hK.out _ _ YB101.out ?_
  clear hK K
  have bs101:=hb101.size
  have Ykh101:=bkH Ykh100 hb101
  have Ykd101:=bkH Ykd100 hb101
  clear hb101
  refine wpTree_read (v:=?_) rfl (fun _ _ _ h=>h) ?_ ?_
  rotate_left
  ·(intro W hSW;(try dsimp only at hSW);obtain⟨t0,t1,t2,t3,t4,t5,t6,t7,t8,t9,t10⟩:=HD.out W hSW;(go_simp<;>with_reducible rfl))
  (try simp only[Act.put,List.setIfInBounds_toArray,List.set_cons_zero,List.set_cons_succ])
  refine wpTree_one ?_
  refine stepT_mk rfl (fun K hK=>?_)
  have g0:=bkC (v:=.int .i64 0) Ykd101.out 0 rfl
  have fz:=bkF Ykd101.out
  go_simp
  obtain⟨Y102,hW102,Ykd102,bs102,ho102,hl102⟩:=stAll Ykd101 [.int .i64 dv] rfl
  simp only[setsC] at hW102
  rw[hW102]
  have YB102:=Lib.hid (hl102.out W0 (by have:=YB101.out.size;omega) YB101.out)
  have Ykh102:=Lib.hid ((ho102.out _ (by omega)).trans Ykh101.out)
  refine hK.out _ _ YB102.out ?_
  clear hK K fz hW102 ho102 hl102 g0
  refine wpTree_one ?_
  refine stepT_mk rfl (fun K hK=>?_)
  have g0:=bkC (v:=.int .i64 0) Ykh102.out 0 rfl
  have fz:=bkF Ykh102.out
  go_simp
  obtain⟨Y103,hW103,Ykh103,bs103,ho103,hl103⟩:=stAll Ykh102 [.int .i64 (hb-ha)] rfl
  simp only[setsC] at hW103
  rw[hW103]
  have YB103:=Lib.hid (hl103.out W0 (by have:=YB102.out.size;omega) YB102.out)
  have Ykd103:=Lib.hid ((ho103.out _ (by omega)).trans Ykd102.out)
  refine hK.out _ _ YB103.out ?_
  clear hK K fz hW103 ho103 hl103 g0
  refine wpTree_nil ?_
  simp only[List.drop_succ_cons,List.drop_zero]
  go_wp2_with fail
  go_meet
  exact⟨_,_,rfl,rfl,Ykd103.out,Ykh103.out,YB103.out,by omega,by omega⟩
 obtain⟨gd,gh,rfl,rfl,kd_,kh_,hbW,hg1,hg2⟩:=hcut
 generalize wc=w3 at *
 have KD:=Lib.hid kd_
 have KH:=Lib.hid kh_
 have B3:=Lib.hid (B0.out.trans (hbW.mono B0.out.size))
 clear kd_ kh_ hbW CA CB0 CD0 HD HB hwd
 have CB:Hid (∀ (dd:Int) (W:World),Below w3.heap.size w3 W→Calls Tryz.prog 200 #[.int .i64 dd,.pointer (some ⟨gd,0,none⟩),.pointer (some ⟨gh,0,none⟩)] W fun e w'=>e=.returned (.int .i64 (g dd))∧Below W.heap.size W w'):=fun dd W hW=>CC.out dd gd gh W (B3.out.trans (hW.mono B3.out.size)) ((bat hW gd _ hg1).trans (bkC KD.out 0 rfl)) ((bat hW gh _ hg2).trans (bkC KH.out 0 rfl))
 clear CC KD KH
 go_wp2
 go_loopw [10,11] (fun bs dd wr=>∃ j:Nat,j≤180∧bs=.int .i64 (bestF g (-90) j)∧dd=.int .i64 ((-89)+(j:Int))∧Below w3.heap.size w3 wr) (fun bs dd wr=>(91-(intOf dd)).toNat)
 case atStart=>exact⟨0,Nat.zero_le _,rfl,by simp,Below.refl _ _⟩
 case round =>
  obtain⟨j,hj,rfl,rfl,hbw⟩:=hrel
  have HB:=Lib.hid hbw
  clear hbw
  have bb:=bestF_bd g (-90) j
  have es:((-90):Int)+((j+1:Nat):Int)=(-89)+(j:Int):=by omega
  have hji:(j:Int)≤180:=by omega
  by_cases hlt:j<180
  ·have hp:=best_pos (g:=g) (s:=(-90)) (k:=j)
   have hn:=best_neg (g:=g) (s:=(-90)) (k:=j)
   rw[es] at hp hn
   have HP:=Lib.hid hp
   have HN:=Lib.hid hn
   clear hp hn es
   generalize bestF g (-90) j=ob at *
   obtain⟨bb0,bb1⟩:=bb
   by_cases hc:g ob<g ((-89)+(j:Int))
   ·have HE2:=Lib.hid (HP.out (by omega))
    go_wp2_with (go_at_call 200;with_reducible refine (CB.out _ _ HB.out).mono ?_;rintro e v ⟨rfl,hb_⟩;replace HB:=Lib.hid (HB.out.trans (hb_.mono HB.out.size));clear hb_)
    go_roundw
    case rel=>exact⟨j+1,by omega,by rw[HE2.out],by go_num,HB.out⟩
    case measure=>simp[intOf];omega
   ·have HE2:=Lib.hid (HN.out (by omega))
    go_wp2_with (go_at_call 200;with_reducible refine (CB.out _ _ HB.out).mono ?_;rintro e v ⟨rfl,hb_⟩;replace HB:=Lib.hid (HB.out.trans (hb_.mono HB.out.size));clear hb_)
    go_roundw
    case rel=>exact⟨j+1,by omega,by rw[HE2.out],by go_num,HB.out⟩
    case measure=>simp[intOf];omega
  ·obtain rfl:j=180:=by omega
   go_wp2
   go_ret
   exact⟨by rw[HE.out];rfl,B3.out.trans (HB.out.mono B3.out.size)⟩
end Go.Proofs.YtdgmgchdjlfchaaGreatDoor
