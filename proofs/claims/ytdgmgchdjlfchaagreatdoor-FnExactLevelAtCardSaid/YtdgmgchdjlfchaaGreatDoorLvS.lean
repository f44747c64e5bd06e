/- Contracts: the profile between two ends, for the program and for the reference. Conditions: ends in the terrain. -/
import Derived.Test.YtdgmgchdjlfchaaGreatDoorLv5
import Derived.Test.YtdgmgchdjlfchaaGreatDoorLv4
import Derived.Test.YtdgmgchdjlfchaaGreatDoorLvQ
import Derived.IntWalk
namespace Go.Proofs.YtdgmgchdjlfchaaGreatDoor
set_option maxHeartbeats 16000000
set_option maxRecDepth 100000
open Go.RowKit
set_option linter.unusedVariables false
set_option linter.unusedSimpArgs false
theorem boxes4 (w:World) (c0:Array Value) (t0:Nat) (c1:Array Value) (t1:Nat) (c2:Array Value) (t2:Nat) (c3:Array Value) (t3:Nat):∃ W0,(((w.alloc (.cells c0 t0)).alloc (.cells c1 t1)).alloc (.cells c2 t2)).alloc (.cells c3 t3)=W0∧Below w.heap.size w W0∧w.heap.size+4≤W0.heap.size∧W0.heap[w.heap.size]? = some (.cells c0 t0 (0,0))∧W0.heap[w.heap.size+1]? = some (.cells c1 t1 (0,0))∧W0.heap[w.heap.size+2]? = some (.cells c2 t2 (0,0))∧W0.heap[w.heap.size+3]? = some (.cells c3 t3 (0,0)):=by
 obtain⟨W,e,h1,h2,h3,h4,h5⟩:=boxes3 w c0 t0 c1 t1 c2 t2
 have hs:W.heap.size=w.heap.size+3:=by subst e;simp
 rw[e]
 refine⟨_,rfl,h1.alloc (by omega) _,by simp<;>omega,bkA h3 (by omega) _,bkA h4 (by omega) _,bkA h5 (by omega) _,?_⟩
 have h:=bkN W c3 t3
 rwa [hs] at h
theorem chg_below {fp:List Nat} {a b c:World} (h:Chg fp a b) (k:Below a.heap.size b c):Chg fp a c :=
 ⟨k.os.trans h.os,k.tape.trans h.tape,k.output.trans h.output,Nat.le_trans h.size k.size,fun x hx hn=>(k.block x hx).trans (h.block x hx hn)⟩
theorem chgC {fp:List Nat} {w w':World} (h:Chg fp w w') (b o:Nat) (hb:b<w.heap.size) (hn:b ∉ fp):w'.cell? ⟨b,o,none⟩=w.cell? ⟨b,o,none⟩:=World.cell?_of_block (w:=w) (h.block b hb hn)
theorem profI_at (t:DTerrain) (a b:DEnd) (k:Nat) (h:k<(profI t a b).hs.length):(profI t a b).hs[k]=hAt t (plK a.place b.place k):=by
 have hk:k<(placesB a.place b.place).length:=by rw[placesB_len];rw[profI_len] at h;exact h
 rw[← plK_at _ _ _ hk]
 simp[profI]
theorem plK_in {t:DTerrain} {a b:DPoint} (ha:inT t a) (hb:inT t b) {k:Nat} (hk:k<17):inT t (plK a b k):=by
 rw[← plK_at a b k (by rw[placesB_len];exact hk)]
 exact placesB_in ha hb _ (List.getElem_mem _)
theorem hs_take (t:DTerrain) (a b:DEnd) (k:Nat) (hk:k<17):((profI t a b).hs.take (k+1)).map intT=((profI t a b).hs.take k).map intT++[intT (hAt t (plK a.place b.place k))]:=by
 have h:k<(profI t a b).hs.length:=by rw[profI_len];exact hk
 rw[List.take_succ_eq_append_getElem h,List.map_append,profI_at];rfl
theorem iProf_any (t:DTerrain) (a b:DEnd) (T:TerrOk t) (pa:inT t a.place) (pb:inT t b.place) (ea:endP a) (eb:endP b) (v3 v4:Value) (w:World) (r3:Rd w.heap.size w (intsT t.heights) v3) :
  Calls Tryz.prog 150 #[.agg #[.int .i64 t.step,.int .i64 t.width,.int .i64 t.height,v3,v4],.agg #[.int .i64 a.place.x,.int .i64 a.place.y,.int .i64 a.above],.agg #[.int .i64 b.place.x,.int .i64 b.place.y,.int .i64 b.above]] w fun e w'=>∃ (a':Option Addr) (c':Nat),e=.returned (.agg #[.int .i64 (profI t a b).d,.int .i64 (profI t a b).f,.int .i64 (profI t a b).l,.slice a' 17 c'])∧Below w.heap.size w w'∧Rd w'.heap.size w' (intsT (profI t a b).hs) (.slice a' 17 c'):=by
 obtain⟨i0,hi0,hz0,hz1,hz2⟩:=info_parts infoI
 have hptA:=inT_pt T pa
 have hptB:=inT_pt T pb
 have CD0:Hid (∀ W:World,Calls Tryz.prog 193 #[.agg #[.int .i64 a.place.x,.int .i64 a.place.y],.agg #[.int .i64 b.place.x,.int .i64 b.place.y]] W fun e w'=>e=.returned (.int .i64 (profI t a b).d)∧Below W.heap.size W w'):=fun W=>iDist_any a.place b.place hptA hptB W
 have CA:Hid (∀ W:World,Below w.heap.size w W→Calls Tryz.prog 194 #[.agg #[.int .i64 t.step,.int .i64 t.width,.int .i64 t.height,v3,v4],.agg #[.int .i64 a.place.x,.int .i64 a.place.y,.int .i64 a.above]] W fun e w'=>e=.returned (.int .i64 (profI t a b).f)∧Below W.heap.size W w'):=fun W hW=>iEndHigh_any t a T pa ea v3 v4 W ((r3.below hW).mono hW.size)
 have CB:Hid (∀ W:World,Below w.heap.size w W→Calls Tryz.prog 194 #[.agg #[.int .i64 t.step,.int .i64 t.width,.int .i64 t.height,v3,v4],.agg #[.int .i64 b.place.x,.int .i64 b.place.y,.int .i64 b.above]] W fun e w'=>e=.returned (.int .i64 (profI t a b).l)∧Below W.heap.size W w'):=fun W hW=>iEndHigh_any t b T pb eb v3 v4 W ((r3.below hW).mono hW.size)
 have CH:Hid (∀ (k:Nat) (hk:k<17) (W:World),Below w.heap.size w W→Calls Tryz.prog 196 #[.agg #[.int .i64 t.step,.int .i64 t.width,.int .i64 t.height,v3,v4],.agg #[.int .i64 (plK a.place b.place k).x,.int .i64 (plK a.place b.place k).y]] W fun e w'=>e=.returned (.int .i64 (hAt t (plK a.place b.place k)))∧Below W.heap.size W w'):=fun k hk W hW=>iHeight_any t _ T (plK_in pa pb hk) v3 v4 W ((r3.below hW).mono hW.size)
 have CP:Hid (∀ W:World,Calls Tryz.prog 195 #[.agg #[.int .i64 a.place.x,.int .i64 a.place.y],.agg #[.int .i64 b.place.x,.int .i64 b.place.y],.int .i64 17] W fun e w'=>∃ b' o' c':Nat,e=.returned (.slice (some ⟨b',o',none⟩) 17 c')∧Below W.heap.size W w'∧17≤c'∧c'≤maxLen∧W.heap.size≤b'∧b' < w'.heap.size∧∀ j:Nat,j<17→w'.cell? ⟨b',o' + j*2,none⟩=some (.int .i64 (plK a.place b.place j).x)∧w'.cell? ⟨b',o' + j*2+1,none⟩=some (.int .i64 (plK a.place b.place j).y)):=fun W=>iPlaces_any a.place b.place hptA hptB W
 have HTK:Hid (∀ k,k<17→((profI t a b).hs.take (k+1)).map intT=((profI t a b).hs.take k).map intT++[intT (hAt t (plK a.place b.place k))]):=fun k hk=>hs_take t a b k hk
 have HLN:Hid ((profI t a b).hs.length=17):=profI_len t a b
 obtain⟨a3,c3_,e3,_,_,_⟩:=r3.ints
 subst e3
 clear hptA hptB r3 T pa pb ea eb
 generalize profI t a b=Q at *
 obtain⟨W0,hW0,b0_,z0,k0,k1,k2,k3⟩:=boxes4 w #[.int .i64 t.step,.int .i64 t.width,.int .i64 t.height,.slice a3 t.heights.length c3_,v4] 39 #[.int .i64 a.place.x,.int .i64 a.place.y,.int .i64 a.above] 50 #[.int .i64 b.place.x,.int .i64 b.place.y,.int .i64 b.above] 50 #[.int .i64 0,.int .i64 0,.int .i64 0,.slice none 0 0] 180
 have e0_0:=bkC (v:=.int .i64 t.step) k0 0 rfl
 have e0_1:=bkC (v:=.int .i64 t.width) k0 1 rfl
 have e0_2:=bkC (v:=.int .i64 t.height) k0 2 rfl
 have e0_3:=bkC (v:=.slice a3 t.heights.length c3_) k0 3 rfl
 have e0_4:=bkC (v:=v4) k0 4 rfl
 have e1_0:=bkC (v:=.int .i64 a.place.x) k1 0 rfl
 have e1_1:=bkC (v:=.int .i64 a.place.y) k1 1 rfl
 have e1_2:=bkC (v:=.int .i64 a.above) k1 2 rfl
 have e2_0:=bkC (v:=.int .i64 b.place.x) k2 0 rfl
 have e2_1:=bkC (v:=.int .i64 b.place.y) k2 1 rfl
 have e2_2:=bkC (v:=.int .i64 b.above) k2 2 rfl
 have e3_0:=bkC (v:=.int .i64 0) k3 0 rfl
 have e3_1:=bkC (v:=.int .i64 0) k3 1 rfl
 have e3_2:=bkC (v:=.int .i64 0) k3 2 rfl
 have e3_3:=bkC (v:=.slice none 0 0) k3 3 rfl
 have HW0:=Lib.hid hW0
 have B0:=Lib.hid b0_
 have HD:Hid (∀ W:World,Below W0.heap.size W0 W→(W.cell? ⟨w.heap.size,0,none⟩=some (.int .i64 t.step)∧W.cell? ⟨w.heap.size,1,none⟩=some (.int .i64 t.width)∧W.cell? ⟨w.heap.size,2,none⟩=some (.int .i64 t.height)∧W.cell? ⟨w.heap.size,3,none⟩=some (.slice a3 t.heights.length c3_)∧W.cell? ⟨w.heap.size,4,none⟩=some (v4)∧W.cell? ⟨w.heap.size+1,0,none⟩=some (.int .i64 a.place.x)∧W.cell? ⟨w.heap.size+1,1,none⟩=some (.int .i64 a.place.y)∧W.cell? ⟨w.heap.size+1,2,none⟩=some (.int .i64 a.above)∧W.cell? ⟨w.heap.size+2,0,none⟩=some (.int .i64 b.place.x)∧W.cell? ⟨w.heap.size+2,1,none⟩=some (.int .i64 b.place.y)∧W.cell? ⟨w.heap.size+2,2,none⟩=some (.int .i64 b.above)∧W.cell? ⟨w.heap.size+3,0,none⟩=some (.int .i64 0)∧W.cell? ⟨w.heap.size+3,1,none⟩=some (.int .i64 0)∧W.cell? ⟨w.heap.size+3,2,none⟩=some (.int .i64 0)∧W.cell? ⟨w.heap.size+3,3,none⟩=some (.slice none 0 0))):=fun W hW=>⟨(bat hW w.heap.size _ (by omega)).trans e0_0,(bat hW w.heap.size _ (by omega)).trans e0_1,(bat hW w.heap.size _ (by omega)).trans e0_2,(bat hW w.heap.size _ (by omega)).trans e0_3,(bat hW w.heap.size _ (by omega)).trans e0_4,(bat hW (w.heap.size+1) _ (by omega)).trans e1_0,(bat hW (w.heap.size+1) _ (by omega)).trans e1_1,(bat hW (w.heap.size+1) _ (by omega)).trans e1_2,(bat hW (w.heap.size+2) _ (by omega)).trans e2_0,(bat hW (w.heap.size+2) _ (by omega)).trans e2_1,(bat hW (w.heap.size+2) _ (by omega)).trans e2_2,(bat hW (w.heap.size+3) _ (by omega)).trans e3_0,(bat hW (w.heap.size+3) _ (by omega)).trans e3_1,(bat hW (w.heap.size+3) _ (by omega)).trans e3_2,(bat hW (w.heap.size+3) _ (by omega)).trans e3_3⟩
 have HB:Hid (Below W0.heap.size W0 W0):=Below.refl _ _
 have K3:=Lib.hid k3
 clear k0 k1 k2 k3 e0_0 e0_1 e0_2 e0_3 e0_4 e1_0 e1_1 e1_2 e2_0 e2_1 e2_2 e3_0 e3_1 e3_2 e3_3 hW0 b0_
 go_enter Tryz.func150,Tryz.ntmps150
 go_upto_region 1 with (fail)
 rw[HW0.out]
 go_cut [7] (fun s7 wx=>∃ g:Nat,s7=.pointer (some ⟨g,0,none⟩)∧wx.heap[g]? = some (.cells #[.int .i64 Q.d,.int .i64 Q.f,.int .i64 Q.l,.slice none 0 0] 180 (0,0))∧Below W0.heap.size W0 wx∧W0.heap.size≤g∧g<wx.heap.size)
 case first =>
  refine wp_region_tree 14 (.read 0 (.read 1 (.read 2 (.read 3 (.read 5 (.read 6 (.read 8 (.read 9 (.two 4 12 (.two 7 12 (.two 10 12 (.read 11 (.one 12 (.one 13 .nil))) (.one 10 (.read 11 (.one 13 .nil)))) (.one 7 (.one 10 (.read 11 (.one 13 .nil))))) (.one 4 (.one 7 (.one 10 (.read 11 (.one 13 .nil)))))))))))))) (fun W=>Below W0.heap.size W0 W) (by kernel_rfl) (by kernel_rfl) (HB.out.drew) ?_
  have YB:=Lib.hid (HB.out.drew)
  have Yz:W0.heap.size≤W0.drew.heap.size:=Nat.le_refl _
  generalize W0.drew=Y at *
  iterate 8
   refine wpTree_read (v:=?_) rfl (fun _ _ _ h=>h) ?_ ?_
   rotate_left
   ·(intro W hSW;(try dsimp only at hSW);obtain⟨t0,t1,t2,t3,t4,t5,t6,t7,t8,t9,t10,t11,t12,t13,t14⟩:=HD.out W hSW;(go_simp<;>with_reducible rfl))
   (try simp only[Act.put,List.setIfInBounds_toArray,List.set_cons_zero,List.set_cons_succ])
  refine wpTree_two ?_ ?_
  refine stepT_mk rfl (fun K hK=>?_)
  go_simp
  refine ((fun W (_:Below W0.heap.size W0 W)=>CD0.out W) _ YB.out).mono ?_
  rintro e Y1 ⟨rfl,hb1⟩
  have YB1:=btr YB hb1
  refine hK.out _ _ YB1.out ?_
  clear hK K
  have bs1:=hb1.size
  clear hb1
  refine wpTree_two ?_ ?_
  refine stepT_mk rfl (fun K hK=>?_)
  go_simp
  refine ((fun W (hW:Below W0.heap.size W0 W)=>CA.out W (B0.out.trans (hW.mono B0.out.size))) _ YB1.out).mono ?_
  rintro e Y2 ⟨rfl,hb2⟩
  have YB2:=btr YB1 hb2
  refine hK.out _ _ YB2.out ?_
  clear hK K
  have bs2:=hb2.size
  clear hb2
  refine wpTree_two ?_ ?_
  refine stepT_mk rfl (fun K hK=>?_)
  go_simp
  refine ((fun W (hW:Below W0.heap.size W0 W)=>CB.out W (B0.out.trans (hW.mono B0.out.size))) _ YB2.out).mono ?_
  rintro e Y3 ⟨rfl,hb3⟩
  have YB3:=btr YB2 hb3
  refine hK.out _ _ YB3.out ?_
  clear hK K
  have bs3:=hb3.size
  clear hb3
  refine wpTree_read (v:=?_) rfl (fun _ _ _ h=>h) ?_ ?_
  rotate_left
  ·(intro W hSW;(try dsimp only at hSW);obtain⟨t0,t1,t2,t3,t4,t5,t6,t7,t8,t9,t10,t11,t12,t13,t14⟩:=HD.out W hSW;(go_simp<;>with_reducible rfl))
  (try simp only[Act.put,List.setIfInBounds_toArray,List.set_cons_zero,List.set_cons_succ])
  refine wpTree_one ?_
  refine stepT_mk rfl (fun K hK=>?_)
  go_simp
  obtain⟨Y4,hW4,hb4,zl4,hk4⟩:=boxes1 Y3 #[.int .i64 0,.int .i64 0,.int .i64 0,.slice none 0 0] 180
  rw[hW4]
  have Ykg4:=Lib.hid hk4
  have YB4:=btr YB3 hb4
  refine hK.out _ _ YB4.out ?_
  have bs4:=hb4.size
  clear hK K hW4 hk4 hb4
  refine wpTree_one ?_
  refine stepT_mk rfl (fun K hK=>?_)
  have g0:=bkC (v:=.int .i64 0) Ykg4.out 0 rfl
  have g1:=bkC (v:=.int .i64 0) Ykg4.out 1 rfl
  have g2:=bkC (v:=.int .i64 0) Ykg4.out 2 rfl
  have g3:=bkC (v:=.slice none 0 0) Ykg4.out 3 rfl
  have fz:=bkF Ykg4.out
  go_simp
  obtain⟨Y5,hW5,Ykg5,bs5,ho5,hl5⟩:=stAll Ykg4 [.int .i64 Q.d,.int .i64 Q.f,.int .i64 Q.l,.slice none 0 0] rfl
  simp only[setsC] at hW5
  rw[hW5]
  have YB5:=Lib.hid (hl5.out W0 (by have:=YB4.out.size;omega) YB4.out)
  refine hK.out _ _ YB5.out ?_
  clear hK K fz hW5 ho5 hl5 g0 g1 g2 g3
  refine wpTree_nil ?_
  simp only[List.drop_succ_cons,List.drop_zero]
  go_wp2_with fail
  go_meet
  exact⟨_,rfl,Ykg5.out,YB5.out,by omega,by omega⟩
  refine stepT_mk rfl (fun K hK=>?_)
  go_simp
  obtain⟨Y6,hW6,hb6,zl6,hk6⟩:=boxes1 Y2 #[.int .i64 0,.int .i64 0,.int .i64 0,.slice none 0 0] 180
  rw[hW6]
  have Ykg6:=Lib.hid hk6
  have YB6:=btr YB2 hb6
  refine hK.out _ _ YB6.out ?_
  have bs6:=hb6.size
  clear hK K hW6 hk6 hb6
  refine wpTree_one ?_
  refine stepT_mk rfl (fun K hK=>?_)
  go_simp
  refine ((fun W (hW:Below W0.heap.size W0 W)=>CB.out W (B0.out.trans (hW.mono B0.out.size))) _ YB6.out).mono ?_
  rintro e Y7 ⟨rfl,hb7⟩
  have YB7:=btr YB6 hb7
  refine hK.out _ _ YB7.out ?_
  clear hK K
  have bs7:=hb7.size
  have Ykg7:=bkH Ykg6 hb7
  clear hb7
  refine wpTree_read (v:=?_) rfl (fun _ _ _ h=>h) ?_ ?_
  rotate_left
  ·(intro W hSW;(try dsimp only at hSW);obtain⟨t0,t1,t2,t3,t4,t5,t6,t7,t8,t9,t10,t11,t12,t13,t14⟩:=HD.out W hSW;(go_simp<;>with_reducible rfl))
  (try simp only[Act.put,List.setIfInBounds_toArray,List.set_cons_zero,List.set_cons_succ])
  refine wpTree_one ?_
  refine stepT_mk rfl (fun K hK=>?_)
  have g0:=bkC (v:=.int .i64 0) Ykg7.out 0 rfl
  have g1:=bkC (v:=.int .i64 0) Ykg7.out 1 rfl
  have g2:=bkC (v:=.int .i64 0) Ykg7.out 2 rfl
  have g3:=bkC (v:=.slice none 0 0) Ykg7.out 3 rfl
  have fz:=bkF Ykg7.out
  go_simp
  obtain⟨Y8,hW8,Ykg8,bs8,ho8,hl8⟩:=stAll Ykg7 [.int .i64 Q.d,.int .i64 Q.f,.int .i64 Q.l,.slice none 0 0] rfl
  simp only[setsC] at hW8
  rw[hW8]
  have YB8:=Lib.hid (hl8.out W0 (by have:=YB7.out.size;omega) YB7.out)
  refine hK.out _ _ YB8.out ?_
  clear hK K fz hW8 ho8 hl8 g0 g1 g2 g3
  refine wpTree_nil ?_
  simp only[List.drop_succ_cons,List.drop_zero]
  go_wp2_with fail
  go_meet
  exact⟨_,rfl,Ykg8.out,YB8.out,by omega,by omega⟩
  refine stepT_mk rfl (fun K hK=>?_)
  go_simp
  obtain⟨Y9,hW9,hb9,zl9,hk9⟩:=boxes1 Y1 #[.int .i64 0,.int .i64 0,.int .i64 0,.slice none 0 0] 180
  rw[hW9]
  have Ykg9:=Lib.hid hk9
  have YB9:=btr YB1 hb9
  refine hK.out _ _ YB9.out ?_
  have bs9:=hb9.size
  clear hK K hW9 hk9 hb9
  refine wpTree_one ?_
  refine stepT_mk rfl (fun K hK=>?_)
  go_simp
  refine ((fun W (hW:Below W0.heap.size W0 W)=>CA.out W (B0.out.trans (hW.mono B0.out.size))) _ YB9.out).mono ?_
  rintro e Y10 ⟨rfl,hb10⟩
  have YB10:=btr YB9 hb10
  refine hK.out _ _ YB10.out ?_
  clear hK K
  have bs10:=hb10.size
  have Ykg10:=bkH Ykg9 hb10
  clear hb10
  refine wpTree_one ?_
  refine stepT_mk rfl (fun K hK=>?_)
  go_simp
  refine ((fun W (hW:Below W0.heap.size W0 W)=>CB.out W (B0.out.trans (hW.mono B0.out.size))) _ YB10.out).mono ?_
  rintro e Y11 ⟨rfl,hb11⟩
  have YB11:=btr YB10 hb11
  refine hK.out _ _ YB11.out ?_
  clear hK K
  have bs11:=hb11.size
  have Ykg11:=bkH Ykg10 hb11
  clear hb11
  refine wpTree_read (v:=?_) rfl (fun _ _ _ h=>h) ?_ ?_
  rotate_left
  ·(intro W hSW;(try dsimp only at hSW);obtain⟨t0,t1,t2,t3,t4,t5,t6,t7,t8,t9,t10,t11,t12,t13,t14⟩:=HD.out W hSW;(go_simp<;>with_reducible rfl))
  (try simp only[Act.put,List.setIfInBounds_toArray,List.set_cons_zero,List.set_cons_succ])
  refine wpTree_one ?_
  refine stepT_mk rfl (fun K hK=>?_)
  have g0:=bkC (v:=.int .i64 0) Ykg11.out 0 rfl
  have g1:=bkC (v:=.int .i64 0) Ykg11.out 1 rfl
  have g2:=bkC (v:=.int .i64 0) Ykg11.out 2 rfl
  have g3:=bkC (v:=.slice none 0 0) Ykg11.out 3 rfl
  have fz:=bkF Ykg11.out
  go_simp
  obtain⟨Y12,hW12,Ykg12,bs12,ho12,hl12⟩:=stAll Ykg11 [.int .i64 Q.d,.int .i64 Q.f,.int .i64 Q.l,.slice none 0 0] rfl
  simp only[setsC] at hW12
  rw[hW12]
  have YB12:=Lib.hid (hl12.out W0 (by have:=YB11.out.size;omega) YB11.out)
  refine hK.out _ _ YB12.out ?_
  clear hK K fz hW12 ho12 hl12 g0 g1 g2 g3
  refine wpTree_nil ?_
  simp only[List.drop_succ_cons,List.drop_zero]
  go_wp2_with fail
  go_meet
  exact⟨_,rfl,Ykg12.out,YB12.out,by omega,by omega⟩
  refine stepT_mk rfl (fun K hK=>?_)
  go_simp
  obtain⟨Y13,hW13,hb13,zl13,hk13⟩:=boxes1 Y #[.int .i64 0,.int .i64 0,.int .i64 0,.slice none 0 0] 180
  rw[hW13]
  have Ykg13:=Lib.hid hk13
  have YB13:=btr YB hb13
  refine hK.out _ _ YB13.out ?_
  have bs13:=hb13.size
  clear hK K hW13 hk13 hb13
  refine wpTree_one ?_
  refine stepT_mk rfl (fun K hK=>?_)
  go_simp
  refine ((fun W (_:Below W0.heap.size W0 W)=>CD0.out W) _ YB13.out).mono ?_
  rintro e Y14 ⟨rfl,hb14⟩
  have YB14:=btr YB13 hb14
  refine hK.out _ _ YB14.out ?_
  clear hK K
  have bs14:=hb14.size
  have Ykg14:=bkH Ykg13 hb14
  clear hb14
  refine wpTree_one ?_
  refine stepT_mk rfl (fun K hK=>?_)
  go_simp
  refine ((fun W (hW:Below W0.heap.size W0 W)=>CA.out W (B0.out.trans (hW.mono B0.out.size))) _ YB14.out).mono ?_
  rintro e Y15 ⟨rfl,hb15⟩
  have YB15:=btr YB14 hb15
  refine hK.out _ _ YB15.out ?_
  clear hK K
  have bs15:=hb15.size
  have Ykg15:=bkH Ykg14 hb15
  clear hb15
  refine wpTree_one ?_
  refine stepT_mk rfl (fun K hK=>?_)
  go_simp
  refine ((fun W (hW:Below W0.heap.size W0 W)=>CB.out W (B0.out.trans (hW.mono B0.out.size))) _ YB15.out).mono ?_
  rintro e Y16 ⟨rfl,hb16⟩
  have YB16:=btr YB15 hb16
  refine hK.out _ _ YB16.out ?_
  clear hK K
  have bs16:=hb16.size
  have Ykg16:=bkH Ykg15 hb16
  clear hb16
  refine wpTree_read (v:=?_) rfl (fun _ _ _ h=>h) ?_ ?_
  rotate_left
  ·(intro W hSW;(try dsimp only at hSW);obtain⟨t0,t1,t2,t3,t4,t5,t6,t7,t8,t9,t10,t11,t12,t13,t14⟩:=HD.out W hSW;(go_simp<;>with_reducible rfl))
  (try simp only[Act.put,List.setIfInBounds_toArray,List.set_cons_zero,List.set_cons_succ])
  refine wpTree_one ?_
  refine stepT_mk rfl (fun K hK=>?_)
  have g0:=bkC (v:=.int .i64 0) Ykg16.out 0 rfl
  have g1:=bkC (v:=.int .i64 0) Ykg16.out 1 rfl
  have g2:=bkC (v:=.int .i64 0) Ykg16.out 2 rfl
  have g3:=bkC (v:=.slice none 0 0) Ykg16.out 3 rfl
  have fz:=bkF Ykg16.out
  go_simp
  obtain⟨Y17,hW17,Ykg17,bs17,ho17,hl17⟩:=stAll Ykg16 [.int .i64 Q.d,.int .i64 Q.f,.int .i64 Q.l,.slice none 0 0] rfl
  simp only[setsC] at hW17
  rw[hW17]
  have YB17:=Lib.hid (hl17.out W0 (by have:=YB16.out.size;omega) YB16.out)
  refine hK.out _ _ YB17.out ?_
  clear hK K fz hW17 ho17 hl17 g0 g1 g2 g3
  refine wpTree_nil ?_
  simp only[List.drop_succ_cons,List.drop_zero]
  go_wp2_with fail
  go_meet
  exact⟨_,rfl,Ykg17.out,YB17.out,by omega,by omega⟩
 obtain⟨g,rfl,kg_,hbW,hg1,hg2⟩:=hcut
 generalize wc=w3 at *
 have KG:=Lib.hid kg_
 replace HB:=Lib.hid hbW
 clear kg_ hbW CA CB CD0
 obtain⟨t0,t1,t2,t3,t4,t5,t6,t7,t8,t9,t10,t11,t12,t13,t14⟩:=HD.out _ HB.out
 go_wp2_with (go_at_call 195;with_reducible refine (CP.out _).mono ?_;rintro e w4 ⟨bq,oq,cq,rfl,hb4,hnc,hcm,hq1,hq2,hpc⟩)
 clear t0 t1 t2 t3 t4 t5 t6 t7 t8 t9 t10 t11 t12 t13 t14
 have HPC:=Lib.hid hpc
 have KG4:=Lib.hid (bkB KG.out hb4 hg2)
 have B4:=Lib.hid (HB.out.trans (hb4.mono HB.out.size))
 have z4:w3.heap.size≤w4.heap.size:=hb4.size
 have KR:=Lib.hid (bkB K3.out B4.out (by omega))
 have HD4:Hid (_):=HD.out w4 B4.out
 clear hpc hb4 KG HB HD CP K3
 go_loopw [28] (fun ki wr=>∃ (k:Nat) (v:Value),k≤17∧ki=.int .i64 (k:Int)∧Chg [g] w4 wr∧wr.heap[g]? = some (.cells #[.int .i64 Q.d,.int .i64 Q.f,.int .i64 Q.l,v] 180 (0,0))∧(∃ ad c,v=.slice ad k c)∧Grow wr w4.heap.size 2 1 v k ((Q.hs.take k).map intT) []) (fun ki wr=>17-(intOf ki).toNat)
 case atStart=>exact⟨0,_,by omega,rfl,Chg.refl _ _,KG4.out,⟨_,_,rfl⟩,Grow.nil⟩
 case round =>
  obtain⟨k,v,hk,rfl,hch,hkg,⟨ad,cd,rfl⟩,hgr⟩:=hrel
  have HCH:=Lib.hid hch
  have HKG:=Lib.hid hkg
  have HG:=Lib.hid hgr
  have hzr:w4.heap.size≤wr.heap.size:=hch.size
  clear hch hkg hgr KG4
  have k0:(0:Int)≤(k:Int):=by omega
  by_cases hlt:k<17
  ·have k1:(k:Int)<17:=by omega
   obtain⟨x0,x1⟩:=HPC.out k hlt
   have y0:=(chgC HCH.out bq (oq+k*2) hq2 (by simp<;>omega)).trans x0
   have y1:=(chgC HCH.out bq (oq+k*2+1) hq2 (by simp<;>omega)).trans x1
   have CK:Hid (∀ W:World,Below w.heap.size w W→Calls Tryz.prog 196 #[.agg #[.int .i64 t.step,.int .i64 t.width,.int .i64 t.height,.slice a3 t.heights.length c3_,v4],.agg #[.int .i64 (plK a.place b.place k).x,.int .i64 (plK a.place b.place k).y]] W fun e w'=>e=.returned (.int .i64 (hAt t (plK a.place b.place k)))∧Below W.heap.size W w'):=fun W hW=>CH.out k hlt W hW
   have HT:=Lib.hid (HTK.out k hlt)
   clear x0 x1
   generalize hAt t (plK a.place b.place k)=hv at *
   generalize plK a.place b.place k=pk at *
   go_upto_region 5 with (fail)
   clear y0 y1
   obtain⟨w5,hW5,b5_,z5,k5⟩:=boxes1 wr #[.int .i64 pk.x,.int .i64 pk.y] 48
   rw[hW5]
   have K5:=Lib.hid k5
   have HG5:=Lib.hid (HG.out.below (lo:=0) In.nil b5_)
   have HCH5:=Lib.hid (HCH.out.trans (Chg.of_below b5_))
   have KG5:=Lib.hid (bkB HKG.out b5_ (by omega))
   clear hW5 b5_ k5 HG HCH HKG
   have HBW:Hid (Below w.heap.size w w5):=B0.out.trans ((B4.out.mono B0.out.size).trans (HCH5.out.below (by omega) (fun x hx=>by simp at hx;omega)))
   have g3:=bkC (v:=.slice ad k cd) KG5.out 3 rfl
   have p0:=bkC (v:=.int .i64 pk.x) K5.out 0 rfl
   have p1:=bkC (v:=.int .i64 pk.y) K5.out 1 rfl
   have hd4:=HD4.out
   obtain⟨ut0,ut1,ut2,ut3,ut4,ut5,ut6,ut7,ut8,ut9,ut10,ut11,ut12,ut13,ut14⟩:=hd4
   have t0:=(chgC HCH5.out w.heap.size 0 (by omega) (by simp<;>omega)).trans ut0
   have t1:=(chgC HCH5.out w.heap.size 1 (by omega) (by simp<;>omega)).trans ut1
   have t2:=(chgC HCH5.out w.heap.size 2 (by omega) (by simp<;>omega)).trans ut2
   have t3:=(chgC HCH5.out w.heap.size 3 (by omega) (by simp<;>omega)).trans ut3
   have t4:=(chgC HCH5.out w.heap.size 4 (by omega) (by simp<;>omega)).trans ut4
   clear ut0 ut1 ut2 ut3 ut4 ut5 ut6 ut7 ut8 ut9 ut10 ut11 ut12 ut13 ut14
   have HB5:Hid (Below w5.heap.size w5 w5):=Below.refl _ _
   have HD5:Hid (∀ W:World,Below w5.heap.size w5 W→(W.cell? ⟨g,3,none⟩=some (.slice ad k cd)∧W.cell? ⟨w.heap.size,0,none⟩=some (.int .i64 t.step)∧W.cell? ⟨w.heap.size,1,none⟩=some (.int .i64 t.width)∧W.cell? ⟨w.heap.size,2,none⟩=some (.int .i64 t.height)∧W.cell? ⟨w.heap.size,3,none⟩=some (.slice a3 t.heights.length c3_)∧W.cell? ⟨w.heap.size,4,none⟩=some (v4)∧W.cell? ⟨wr.heap.size,0,none⟩=some (.int .i64 pk.x)∧W.cell? ⟨wr.heap.size,1,none⟩=some (.int .i64 pk.y))):=fun W hW=>⟨(bat hW (g) _ (by omega)).trans g3,(bat hW (w.heap.size) _ (by omega)).trans t0,(bat hW (w.heap.size) _ (by omega)).trans t1,(bat hW (w.heap.size) _ (by omega)).trans t2,(bat hW (w.heap.size) _ (by omega)).trans t3,(bat hW (w.heap.size) _ (by omega)).trans t4,(bat hW (wr.heap.size) _ (by omega)).trans p0,(bat hW (wr.heap.size) _ (by omega)).trans p1⟩
   clear g3 t0 t1 t2 t3 t4 p0 p1
   refine wp_region_tree 6 (.read 0 (.read 1 (.read 2 (.read 3 (.one 4 (.one 5 .nil)))))) (fun W=>Below w5.heap.size w5 W) (by kernel_rfl) (by kernel_rfl) (HB5.out.drew) ?_
   have XB:=Lib.hid (HB5.out.drew)
   have Xz:w5.heap.size≤w5.drew.heap.size:=Nat.le_refl _
   generalize w5.drew=X at *
   iterate 4
    refine wpTree_read (v:=?_) rfl (fun _ _ _ h=>h) ?_ ?_
    rotate_left
    ·(intro W hSW;(try dsimp only at hSW);obtain⟨g3,t0,t1,t2,t3,t4,p0,p1⟩:=HD5.out W hSW;(go_simp<;>with_reducible rfl))
    (try simp only[Act.put,List.setIfInBounds_toArray,List.set_cons_zero,List.set_cons_succ])
   refine wpTree_one ?_
   refine stepT_mk rfl (fun K hK=>?_)
   go_simp
   refine ((fun W (hW:Below w5.heap.size w5 W)=>CK.out W (HBW.out.trans (hW.mono HBW.out.size))) _ XB.out).mono ?_
   rintro e X1 ⟨rfl,hb1⟩
   have XB1:=btr XB hb1
   refine hK.out _ _ XB1.out ?_
   clear hK K
   have bs1:=hb1.size
   clear hb1
   refine wpTree_one ?_
   refine stepT_mk rfl (fun K hK=>?_)
   go_simp
   refine hK.out _ _ (XB1.out.trans ((below_alloc X1 _).mono XB1.out.size)) ?_
   clear hK K
   (try simp only[Act.put,List.setIfInBounds_toArray,List.set_cons_zero,List.set_cons_succ])
   refine wpTree_nil ?_
   simp only[List.drop_succ_cons,List.drop_zero]
   have hX:=XB1.out
   have HG6:=Lib.hid (HG5.out.below (lo:=0) In.nil hX)
   have HCH6:=Lib.hid (HCH5.out.trans (Chg.of_below hX))
   have KG6:=Lib.hid (bkB KG5.out hX (by omega))
   have z6:w5.heap.size≤X1.heap.size:=hX.size
   clear hX HG5 HCH5 KG5 CK HBW K5 HD5
   refine wpList_append1 rfl (.tmp 33) (.tmp 37) _ rfl w4.heap.size 2 i0 _ 1 8 Tryz.underlying22 hi0 hz0 hz1 hz2 rfl (by omega) _ _ _ [] rfl HG6.out [.int .i64 hv] [intT hv] [] rfl 1 rfl (fun u hu=>by simp at hu;subst hu;rfl) (RepV.lits [.int .i64 hv]) List.nodup_nil (fun b h=>by simp at h) 0 In.nil In.nil (by simp) (by simp) (by unfold maxLen;omega) (by omega) (by omega) ?_
   intro v2 w7 hgn
   have HGN:=Lib.hid hgn
   clear hgn
   obtain⟨xs_,hown_,_⟩:=HGN.out.grow.own
   obtain⟨a5,c5,rfl,-⟩:=ownsRow_slice hown_
   clear hown_
   have KG7:=Lib.hid ((HGN.out.below.block g (by omega)).trans KG6.out)
   have g3:=bkC (v:=.slice ad k cd) KG7.out 3 rfl
   have gf:=bkF KG7.out
   go_wp2
   go_roundw
   case rel =>
    have hgg:=HGN.out.grow
    have kk:=bkS KG7.out 3 (.slice a5 (k+1) c5)
    refine⟨k+1,.slice a5 (k+1) c5,by omega,by go_num,(chg_below HCH6.out HGN.out.below).setCell (p:=⟨g,3,none⟩) (by simp) _,by simpa using kk,⟨_,_,rfl⟩,?_⟩
    rw[HT.out]
    exact Grow.frame (by simpa using hgg) (fun x hx=>Below.heap_setCell _ _ _ x (by have:=(hgg.block hx).1;show x≠g;omega)) (fun x hx=>by simp at hx)
   case measure=>simp[intOf];omega
  ·obtain rfl:k=17:=by omega
   rw[List.take_of_length_le (by rw[HLN.out];omega)] at HG
   obtain⟨av,cv,fv,ev,ov,iv⟩:=HG.out.toOwn (lo:=w4.heap.size) (by omega) In.nil (by omega)
   injection ev with ev1 ev2 ev3
   subst ev1 ev3
   have OV:=Lib.hid ov
   have IV:=Lib.hid iv
   clear ov iv HG
   have g0:=bkC (v:=.int .i64 Q.d) HKG.out 0 rfl
   have g1:=bkC (v:=.int .i64 Q.f) HKG.out 1 rfl
   have g2:=bkC (v:=.int .i64 Q.l) HKG.out 2 rfl
   have g3:=bkC (v:=.slice ad 17 cd) HKG.out 3 rfl
   have KR7:=Lib.hid ((HCH.out.block (w.heap.size+3) (by omega) (by simp<;>omega)).trans KR.out)
   have r0:=bkC (v:=.int .i64 0) KR7.out 0 rfl
   have r1:=bkC (v:=.int .i64 0) KR7.out 1 rfl
   have r2:=bkC (v:=.int .i64 0) KR7.out 2 rfl
   have r3:=bkC (v:=.slice none 0 0) KR7.out 3 rfl
   have rf:=bkF KR7.out
   have HBW:Hid (Below w.heap.size w wr):=B0.out.trans ((B4.out.mono B0.out.size).trans (HCH.out.below (by omega) (fun x hx=>by simp at hx;omega)))
   go_wp2
   refine bodyPost_ret (v:=.agg #[.int .i64 Q.d,.int .i64 Q.f,.int .i64 Q.l,.slice ad 17 cd]) (by simp[results,Tryz.results150,go_sem, *]) rfl ⟨_,_,rfl,((((HBW.out.setCell (p:=⟨w.heap.size+3,0,none⟩) (by show w.heap.size≤w.heap.size+3;omega) (.int .i64 Q.d)).setCell (p:=⟨w.heap.size+3,1,none⟩) (by show w.heap.size≤w.heap.size+3;omega) (.int .i64 Q.f)).setCell (p:=⟨w.heap.size+3,2,none⟩) (by show w.heap.size≤w.heap.size+3;omega) (.int .i64 Q.l)).setCell (p:=⟨w.heap.size+3,3,none⟩) (by show w.heap.size≤w.heap.size+3;omega) (.slice ad 17 cd)),?_⟩
   have h_:=((((OV.out.setFar (p:=⟨w.heap.size+3,0,none⟩) (fun e=>by have:=IV.out _ e;simp only at this;omega) (.int .i64 Q.d)).setFar (p:=⟨w.heap.size+3,1,none⟩) (fun e=>by have:=IV.out _ e;simp only at this;omega) (.int .i64 Q.f)).setFar (p:=⟨w.heap.size+3,2,none⟩) (fun e=>by have:=IV.out _ e;simp only at this;omega) (.int .i64 Q.l)).setFar (p:=⟨w.heap.size+3,3,none⟩) (fun e=>by have:=IV.out _ e;simp only at this;omega) (.slice ad 17 cd)).rd IV.out
   simp only[size_setCell]
   exact h_
theorem l04Prof_any (t:DTerrain) (a b:DEnd) (T:TerrOk t) (pa:inT t a.place) (pb:inT t b.place) (ea:endP a) (eb:endP b) (v3 v4:Value) (pt po:Nat) (w:World) (r3:Rd w.heap.size w (intsT t.heights) v3) (c0:w.cell? ⟨pt,po,none⟩=some (.int .i64 t.step)) (c1:w.cell? ⟨pt,po+1,none⟩=some (.int .i64 t.width)) (c2:w.cell? ⟨pt,po+2,none⟩=some (.int .i64 t.height)) (c3:w.cell? ⟨pt,po+3,none⟩=some (v3)) (c4:w.cell? ⟨pt,po+4,none⟩=some (v4)) :
  Calls Tryz.prog 171 #[.pointer (some ⟨pt,po,none⟩),.agg #[.int .i64 a.place.x,.int .i64 a.place.y],.agg #[.int .i64 b.place.x,.int .i64 b.place.y],.int .i64 17] w fun e w'=>∃ (a':Option Addr) (c':Nat) (fp:List Nat),e=.returned (.slice a' 17 c')∧Below w.heap.size w w'∧Own w' (intsT (profI t a b).hs) (.slice a' 17 c') fp∧In w.heap.size w'.heap.size fp:=by
 obtain⟨i0,hi0,hz0,hz1,hz2⟩:=info_parts infoI
 have hptA:=inT_pt T pa
 have hptB:=inT_pt T pb
 have hpt:pt<w.heap.size:=cell_lt c0
 have CH:Hid (∀ (k:Nat) (hk:k<17) (W:World),Below w.heap.size w W→Calls Tryz.prog 176 #[.pointer (some ⟨pt,po,none⟩),.agg #[.int .i64 (plK a.place b.place k).x,.int .i64 (plK a.place b.place k).y]] W fun e w'=>e=.returned (.int .i64 (hAt t (plK a.place b.place k)))∧Below W.heap.size W w'):=fun k hk W hW=>l04High_any t _ T (plK_in pa pb hk) v3 v4 pt po W ((r3.below hW).mono hW.size) ((bat hW pt _ hpt).trans c0) ((bat hW pt _ hpt).trans c1) ((bat hW pt _ hpt).trans c2) ((bat hW pt _ hpt).trans c3) ((bat hW pt _ hpt).trans c4)
 have CP:Hid (∀ W:World,Calls Tryz.prog 215 #[.agg #[.int .i64 a.place.x,.int .i64 a.place.y],.agg #[.int .i64 b.place.x,.int .i64 b.place.y],.int .i64 17] W fun e w'=>∃ b' o' c':Nat,e=.returned (.slice (some ⟨b',o',none⟩) 17 c')∧Below W.heap.size W w'∧17≤c'∧c'≤maxLen∧W.heap.size≤b'∧b' < w'.heap.size∧∀ j:Nat,j<17→w'.cell? ⟨b',o' + j*2,none⟩=some (.int .i64 (plK a.place b.place j).x)∧w'.cell? ⟨b',o' + j*2+1,none⟩=some (.int .i64 (plK a.place b.place j).y)):=fun W=>l04Places_any a.place b.place hptA hptB W
 have HTK:Hid (∀ k,k<17→((profI t a b).hs.take (k+1)).map intT=((profI t a b).hs.take k).map intT++[intT (hAt t (plK a.place b.place k))]):=fun k hk=>hs_take t a b k hk
 have HLN:Hid ((profI t a b).hs.length=17):=profI_len t a b
 clear hptA hptB r3 T pa pb ea eb c0 c1 c2 c3 c4
 generalize profI t a b=Q at *
 obtain⟨W0,hW0,b0_,z0,k0,k1⟩:=boxes2 w #[.int .i64 a.place.x,.int .i64 a.place.y] 48 #[.int .i64 b.place.x,.int .i64 b.place.y] 48
 have e0_0:=bkC (v:=.int .i64 a.place.x) k0 0 rfl
 have e0_1:=bkC (v:=.int .i64 a.place.y) k0 1 rfl
 have e1_0:=bkC (v:=.int .i64 b.place.x) k1 0 rfl
 have e1_1:=bkC (v:=.int .i64 b.place.y) k1 1 rfl
 have HW0:=Lib.hid hW0
 have B0:=Lib.hid b0_
 have HD:Hid (∀ W:World,Below W0.heap.size W0 W→(W.cell? ⟨w.heap.size,0,none⟩=some (.int .i64 a.place.x)∧W.cell? ⟨w.heap.size,1,none⟩=some (.int .i64 a.place.y)∧W.cell? ⟨w.heap.size+1,0,none⟩=some (.int .i64 b.place.x)∧W.cell? ⟨w.heap.size+1,1,none⟩=some (.int .i64 b.place.y))):=fun W hW=>⟨(bat hW w.heap.size _ (by omega)).trans e0_0,(bat hW w.heap.size _ (by omega)).trans e0_1,(bat hW (w.heap.size+1) _ (by omega)).trans e1_0,(bat hW (w.heap.size+1) _ (by omega)).trans e1_1⟩
 have HB:Hid (Below W0.heap.size W0 W0):=Below.refl _ _
 clear k0 k1 e0_0 e0_1 e1_0 e1_1 hW0 b0_
 go_enter Tryz.func171,Tryz.ntmps171
 go_upto_region 1 with (fail)
 rw[HW0.out]
 obtain⟨t0,t1,t2,t3⟩:=HD.out _ HB.out
 go_upto_region 2 with (go_at_call 215;with_reducible refine (CP.out _).mono ?_;rintro e w3 ⟨bq,oq,cq,rfl,hb4,hnc,hcm,hq1,hq2,hpc⟩)
 clear t0 t1 t2 t3
 have HPC:=Lib.hid hpc
 have B3:=Lib.hid (B0.out.trans (hb4.mono B0.out.size))
 have z3:W0.heap.size≤w3.heap.size:=hb4.size
 clear hpc hb4 CP HD HB
 go_wp2
 go_loopw [10,11] (fun os ki wr=>∃ k:Nat,k≤17∧ki=.int .i64 (k:Int)∧Below w3.heap.size w3 wr∧Grow wr w3.heap.size 2 1 os k ((Q.hs.take k).map intT) []) (fun os ki wr=>17-(intOf ki).toNat)
 case atStart=>exact⟨0,by omega,rfl,below_alloc _ _,grow_empty _ _⟩
 case round =>
  obtain⟨k,hk,rfl,hbw,hgr⟩:=hrel
  have HB:=Lib.hid hbw
  have HG:=Lib.hid hgr
  have hzr:w3.heap.size≤wr.heap.size:=hbw.size
  clear hbw hgr
  have k0:(0:Int)≤(k:Int):=by omega
  by_cases hlt:k<17
  ·have k1:(k:Int)<17:=by omega
   obtain⟨x0,x1⟩:=HPC.out k hlt
   have y0:=(bat HB.out bq (oq+k*2) hq2).trans x0
   have y1:=(bat HB.out bq (oq+k*2+1) hq2).trans x1
   have CK:Hid (∀ W:World,Below w.heap.size w W→Calls Tryz.prog 176 #[.pointer (some ⟨pt,po,none⟩),.agg #[.int .i64 (plK a.place b.place k).x,.int .i64 (plK a.place b.place k).y]] W fun e w'=>e=.returned (.int .i64 (hAt t (plK a.place b.place k)))∧Below W.heap.size W w'):=fun W hW=>CH.out k hlt W hW
   have HT:=Lib.hid (HTK.out k hlt)
   clear x0 x1
   generalize hAt t (plK a.place b.place k)=hv at *
   generalize plK a.place b.place k=pk at *
   have HBW:Hid (Below w.heap.size w wr):=B3.out.trans (HB.out.mono B3.out.size)
   go_wp2_with (first|(go_at_call 176;with_reducible refine (CK.out _ HBW.out).mono ?_;rintro e w5 ⟨rfl,hb_⟩;clear y0 y1;(have HG5:=Lib.hid (HG.out.below (lo:=0) In.nil hb_));(have HB5:=Lib.hid (HB.out.trans (hb_.mono HB.out.size)));(have z5:wr.heap.size≤w5.heap.size:=hb_.size);clear hb_ HG HB)|(at_builtin;refine wpList_append1 rfl (.tmp 23) (.tmp 30) _ rfl w3.heap.size 2 i0 _ 1 8 Tryz.underlying22 hi0 hz0 hz1 hz2 rfl (by omega) _ _ _ [] rfl HG5.out [.int .i64 hv] [intT hv] [] rfl 1 rfl (fun u hu=>by simp at hu;subst hu;rfl) (RepV.lits [.int .i64 hv]) List.nodup_nil (fun b h=>by simp at h) 0 In.nil In.nil (by simp) (by simp) (by unfold maxLen;omega) (by omega) (by omega) ?_;intro v2 w7 hgn;(have HGN:=Lib.hid hgn);clear hgn))
   go_roundw
   case rel =>
    refine⟨k+1,by omega,by go_num,HB5.out.trans HGN.out.below,?_⟩
    rw[HT.out]
    simpa using HGN.out.grow
   case measure=>simp[intOf];omega
  ·obtain rfl:k=17:=by omega
   rw[List.take_of_length_le (by rw[HLN.out];omega)] at HG
   obtain⟨av,cv,fv,ev,ov,iv⟩:=HG.out.toOwn (lo:=w3.heap.size) (by omega) In.nil (by omega)
   subst ev
   clear HG
   go_wp2
   go_ret
   exact⟨av,cv,fv,rfl,B3.out.trans (HB.out.mono B3.out.size),ov,iv.mono B3.out.size (Nat.le_refl _)⟩
theorem l12Prof_any (t:DTerrain) (a b:DEnd) (T:TerrOk t) (pa:inT t a.place) (pb:inT t b.place) (ea:endP a) (eb:endP b) (v3 v4:Value) (pt po:Nat) (w:World) (r3:Rd w.heap.size w (intsT t.heights) v3) (c0:w.cell? ⟨pt,po,none⟩=some (.int .i64 t.step)) (c1:w.cell? ⟨pt,po+1,none⟩=some (.int .i64 t.width)) (c2:w.cell? ⟨pt,po+2,none⟩=some (.int .i64 t.height)) (c3:w.cell? ⟨pt,po+3,none⟩=some (v3)) (c4:w.cell? ⟨pt,po+4,none⟩=some (v4)) :
  Calls Tryz.prog 133 #[.pointer (some ⟨pt,po,none⟩),.agg #[.int .i64 a.place.x,.int .i64 a.place.y,.int .i64 a.above],.agg #[.int .i64 b.place.x,.int .i64 b.place.y,.int .i64 b.above]] w fun e w'=>∃ (a':Option Addr) (c':Nat),e=.returned (.agg #[.int .i64 (profI t a b).d,.int .i64 (profI t a b).f,.int .i64 (profI t a b).l,.slice a' 17 c'])∧Below w.heap.size w w'∧Rd w'.heap.size w' (intsT (profI t a b).hs) (.slice a' 17 c'):=by
 have hptA:=inT_pt T pa
 have hptB:=inT_pt T pb
 have hpt:pt<w.heap.size:=cell_lt c0
 have CD0:Hid (∀ W:World,Below w.heap.size w W→Calls Tryz.prog 170 #[.agg #[.int .i64 a.place.x,.int .i64 a.place.y],.agg #[.int .i64 b.place.x,.int .i64 b.place.y]] W fun e w'=>e=.returned (.int .i64 (profI t a b).d)∧Below W.heap.size W w'):=fun W _=>l03Apart_any a.place b.place hptA hptB W
 have CA:Hid (∀ W:World,Below w.heap.size w W→Calls Tryz.prog 137 #[.pointer (some ⟨pt,po,none⟩),.agg #[.int .i64 a.place.x,.int .i64 a.place.y,.int .i64 a.above]] W fun e w'=>e=.returned (.int .i64 (profI t a b).f)∧Below W.heap.size W w'):=fun W hW=>l12High_any t a T pa ea v3 v4 pt po W ((r3.below hW).mono hW.size) ((bat hW pt _ hpt).trans c0) ((bat hW pt _ hpt).trans c1) ((bat hW pt _ hpt).trans c2) ((bat hW pt _ hpt).trans c3) ((bat hW pt _ hpt).trans c4)
 have CB:Hid (∀ W:World,Below w.heap.size w W→Calls Tryz.prog 137 #[.pointer (some ⟨pt,po,none⟩),.agg #[.int .i64 b.place.x,.int .i64 b.place.y,.int .i64 b.above]] W fun e w'=>e=.returned (.int .i64 (profI t a b).l)∧Below W.heap.size W w'):=fun W hW=>l12High_any t b T pb eb v3 v4 pt po W ((r3.below hW).mono hW.size) ((bat hW pt _ hpt).trans c0) ((bat hW pt _ hpt).trans c1) ((bat hW pt _ hpt).trans c2) ((bat hW pt _ hpt).trans c3) ((bat hW pt _ hpt).trans c4)
 have CP:Hid (∀ W:World,Below w.heap.size w W→Calls Tryz.prog 171 #[.pointer (some ⟨pt,po,none⟩),.agg #[.int .i64 a.place.x,.int .i64 a.place.y],.agg #[.int .i64 b.place.x,.int .i64 b.place.y],.int .i64 17] W fun e w'=>∃ (a':Option Addr) (c':Nat) (fp:List Nat),e=.returned (.slice a' 17 c')∧Below W.heap.size W w'∧Own w' (intsT (profI t a b).hs) (.slice a' 17 c') fp∧In W.heap.size w'.heap.size fp):=fun W hW=>l04Prof_any t a b T pa pb ea eb v3 v4 pt po W ((r3.below hW).mono hW.size) ((bat hW pt _ hpt).trans c0) ((bat hW pt _ hpt).trans c1) ((bat hW pt _ hpt).trans c2) ((bat hW pt _ hpt).trans c3) ((bat hW pt _ hpt).trans c4)
 clear hptA hptB r3 T pa pb ea eb c0 c1 c2 c3 c4
 generalize profI t a b=Q at *
 obtain⟨W0,hW0,b0_,z0,k0,k1,k2⟩:=boxes3 w #[.int .i64 a.place.x,.int .i64 a.place.y,.int .i64 a.above] 50 #[.int .i64 b.place.x,.int .i64 b.place.y,.int .i64 b.above] 50 #[.int .i64 0,.int .i64 0,.int .i64 0,.slice none 0 0] 180
 have e0_0:=bkC (v:=.int .i64 a.place.x) k0 0 rfl
 have e0_1:=bkC (v:=.int .i64 a.place.y) k0 1 rfl
 have e0_2:=bkC (v:=.int .i64 a.above) k0 2 rfl
 have e1_0:=bkC (v:=.int .i64 b.place.x) k1 0 rfl
 have e1_1:=bkC (v:=.int .i64 b.place.y) k1 1 rfl
 have e1_2:=bkC (v:=.int .i64 b.above) k1 2 rfl
 have e2_0:=bkC (v:=.int .i64 0) k2 0 rfl
 have e2_1:=bkC (v:=.int .i64 0) k2 1 rfl
 have e2_2:=bkC (v:=.int .i64 0) k2 2 rfl
 have e2_3:=bkC (v:=.slice none 0 0) k2 3 rfl
 have HW0:=Lib.hid hW0
 have B0:=Lib.hid b0_
 have HD:Hid (∀ W:World,Below W0.heap.size W0 W→(W.cell? ⟨w.heap.size,0,none⟩=some (.int .i64 a.place.x)∧W.cell? ⟨w.heap.size,1,none⟩=some (.int .i64 a.place.y)∧W.cell? ⟨w.heap.size,2,none⟩=some (.int .i64 a.above)∧W.cell? ⟨w.heap.size+1,0,none⟩=some (.int .i64 b.place.x)∧W.cell? ⟨w.heap.size+1,1,none⟩=some (.int .i64 b.place.y)∧W.cell? ⟨w.heap.size+1,2,none⟩=some (.int .i64 b.above)∧W.cell? ⟨w.heap.size+2,0,none⟩=some (.int .i64 0)∧W.cell? ⟨w.heap.size+2,1,none⟩=some (.int .i64 0)∧W.cell? ⟨w.heap.size+2,2,none⟩=some (.int .i64 0)∧W.cell? ⟨w.heap.size+2,3,none⟩=some (.slice none 0 0))):=fun W hW=>⟨(bat hW w.heap.size _ (by omega)).trans e0_0,(bat hW w.heap.size _ (by omega)).trans e0_1,(bat hW w.heap.size _ (by omega)).trans e0_2,(bat hW (w.heap.size+1) _ (by omega)).trans e1_0,(bat hW (w.heap.size+1) _ (by omega)).trans e1_1,(bat hW (w.heap.size+1) _ (by omega)).trans e1_2,(bat hW (w.heap.size+2) _ (by omega)).trans e2_0,(bat hW (w.heap.size+2) _ (by omega)).trans e2_1,(bat hW (w.heap.size+2) _ (by omega)).trans e2_2,(bat hW (w.heap.size+2) _ (by omega)).trans e2_3⟩
 have HB:Hid (Below W0.heap.size W0 W0):=Below.refl _ _
 have K2:=Lib.hid k2
 clear k0 k1 k2 e0_0 e0_1 e0_2 e1_0 e1_1 e1_2 e2_0 e2_1 e2_2 e2_3 hW0 b0_
 clear HB
 go_enter Tryz.func133,Tryz.ntmps133
 go_upto_region 1 with (fail)
 rw[HW0.out]
 have HB:Hid (Below W0.heap.size W0 W0):=Below.refl _ _
 refine wp_region_tree 18 (.read 0 (.read 1 (.read 2 (.read 3 (.read 5 (.read 6 (.read 8 (.read 9 (.read 11 (.read 12 (.read 13 (.read 14 (.read 15 (.one 4 (.one 7 (.one 10 (.one 16 (.read 17 .nil)))))))))))))))))) (fun W=>Below W0.heap.size W0 W) (by kernel_rfl) (by kernel_rfl) (HB.out.drew) ?_
 have YB:=Lib.hid (HB.out.drew)
 have Yz:W0.heap.size≤W0.drew.heap.size:=Nat.le_refl _
 generalize W0.drew=Y at *
 iterate 13
  refine wpTree_read (v:=?_) rfl (fun _ _ _ h=>h) ?_ ?_
  rotate_left
  ·(intro W hSW;(try dsimp only at hSW);obtain⟨t0,t1,t2,t3,t4,t5,t6,t7,t8,t9⟩:=HD.out W hSW;(go_simp<;>with_reducible rfl))
  (try simp only[Act.put,List.setIfInBounds_toArray,List.set_cons_zero,List.set_cons_succ])
 refine wpTree_one ?_
 refine stepT_mk rfl (fun K hK=>?_)
 go_simp
 refine ((fun W (hW:Below W0.heap.size W0 W)=>CD0.out W (B0.out.trans (hW.mono B0.out.size))) _ YB.out).mono ?_
 rintro e Y1 ⟨rfl,hb1⟩
 have YB1:=btr YB hb1
 refine hK.out _ _ YB1.out ?_
 clear hK K
 have bs1:=hb1.size
 clear hb1
 refine wpTree_one ?_
 refine stepT_mk rfl (fun K hK=>?_)
 go_simp
 refine ((fun W (hW:Below W0.heap.size W0 W)=>CA.out W (B0.out.trans (hW.mono B0.out.size))) _ YB1.out).mono ?_
 rintro e Y2 ⟨rfl,hb2⟩
 have YB2:=btr YB1 hb2
 refine hK.out _ _ YB2.out ?_
 clear hK K
 have bs2:=hb2.size
 clear hb2
 refine wpTree_one ?_
 refine stepT_mk rfl (fun K hK=>?_)
 go_simp
 refine ((fun W (hW:Below W0.heap.size W0 W)=>CB.out W (B0.out.trans (hW.mono B0.out.size))) _ YB2.out).mono ?_
 rintro e Y3 ⟨rfl,hb3⟩
 have YB3:=btr YB2 hb3
 refine hK.out _ _ YB3.out ?_
 clear hK K
 have bs3:=hb3.size
 clear hb3
 refine wpTree_one ?_
 refine stepT_mk rfl (fun K hK=>?_)
 go_simp
 refine ((fun W (hW:Below W0.heap.size W0 W)=>CP.out W (B0.out.trans (hW.mono B0.out.size))) _ YB3.out).mono ?_
 rintro e Y4 ⟨a_,c_,p_,rfl,hb4,ho4,hi4⟩
 have YB4:=btr YB3 hb4
 refine hK.out _ _ YB4.out ?_
 clear hK K
 have bs4:=hb4.size
 have Yoq4:=Lib.hid ho4
 have Yiq4:=Lib.hid hi4
 clear ho4 hi4
 clear hb4
 refine wpTree_read (v:=?_) rfl (fun _ _ _ h=>h) ?_ ?_
 rotate_left
 ·(intro W hSW;(try dsimp only at hSW);obtain⟨t0,t1,t2,t3,t4,t5,t6,t7,t8,t9⟩:=HD.out W hSW;(go_simp<;>with_reducible rfl))
 (try simp only[Act.put,List.setIfInBounds_toArray,List.set_cons_zero,List.set_cons_succ])
 refine wpTree_nil ?_
 simp only[List.drop_succ_cons,List.drop_zero]
 skip
 have BF:=Lib.hid (B0.out.trans (YB4.out.mono B0.out.size))
 have KR:=Lib.hid (bkB K2.out YB4.out (by omega))
 have zf:W0.heap.size≤Y4.heap.size:=YB4.out.size
 have r0:=bkC (v:=.int .i64 0) KR.out 0 rfl
 have r1:=bkC (v:=.int .i64 0) KR.out 1 rfl
 have r2:=bkC (v:=.int .i64 0) KR.out 2 rfl
 have r3:=bkC (v:=.slice none 0 0) KR.out 3 rfl
 have rf:=bkF KR.out
 go_wp2
 refine bodyPost_ret (v:=.agg #[.int .i64 Q.d,.int .i64 Q.f,.int .i64 Q.l,.slice a_ 17 c_]) (by simp[results,Tryz.results133,go_sem, *]) rfl ⟨_,_,rfl,((((BF.out.setCell (p:=⟨w.heap.size+2,0,none⟩) (by show w.heap.size≤w.heap.size+2;omega) (.int .i64 Q.d)).setCell (p:=⟨w.heap.size+2,1,none⟩) (by show w.heap.size≤w.heap.size+2;omega) (.int .i64 Q.f)).setCell (p:=⟨w.heap.size+2,2,none⟩) (by show w.heap.size≤w.heap.size+2;omega) (.int .i64 Q.l)).setCell (p:=⟨w.heap.size+2,3,none⟩) (by show w.heap.size≤w.heap.size+2;omega) (.slice a_ 17 c_)),?_⟩
 have h_:=((((Yoq4.out.setFar (p:=⟨w.heap.size+2,0,none⟩) (fun e=>by have:=Yiq4.out _ e;simp only at this;omega) (.int .i64 Q.d)).setFar (p:=⟨w.heap.size+2,1,none⟩) (fun e=>by have:=Yiq4.out _ e;simp only at this;omega) (.int .i64 Q.f)).setFar (p:=⟨w.heap.size+2,2,none⟩) (fun e=>by have:=Yiq4.out _ e;simp only at this;omega) (.int .i64 Q.l)).setFar (p:=⟨w.heap.size+2,3,none⟩) (fun e=>by have:=Yiq4.out _ e;simp only at this;omega) (.slice a_ 17 c_)).rd Yiq4.out
 simp only[size_setCell]
 exact h_
end Go.Proofs.YtdgmgchdjlfchaaGreatDoor
