/- Contracts: the path between two ends, for the program. Conditions: ends in the terrain. -/
import Derived.Test.YtdgmgchdjlfchaaGreatDoorLvT
import Derived.Test.YtdgmgchdjlfchaaGreatDoorLvQ
import Derived.Test.YtdgmgchdjlfchaaGreatDoorLv9
import Derived.IntWalk
namespace Go.Proofs.YtdgmgchdjlfchaaGreatDoor
set_option maxHeartbeats 16000000
set_option maxRecDepth 100000
open Go.RowKit
set_option linter.unusedVariables false
set_option linter.unusedSimpArgs false
theorem rd_ints_at {B:Nat} {W:World} {b off c:Nat} {l:List Int} (h0:0<l.length) (hc:l.length≤c) (hm:c≤maxLen) (h:∀ (i:Nat) (hi:i<l.length),W.cell? ⟨b,off+i,none⟩=some (.int .i64 l[i])) (hB:b<B):Rd B W (intsT l) (.slice (some ⟨b,off,none⟩) l.length c):=by
 refine⟨[b],Rep_sl.2 ⟨_,l.length,c,rfl,by simp,hc,hm,Or.inr ⟨b,off,[],?_,rfl,rfl,?_⟩⟩,fun x hx=>by simp at hx;omega⟩
 ·intro e
  have:=congrArg List.length e
  simp at this
  subst this
  simp at h0
 ·have e2:l.map intT=(l.map (Value.int .i64)).map .lit:=by rw[List.map_map];rfl
  rw[e2]
  refine Reps.lits _ _ _ (fun j hj=>?_)
  rw[List.length_map] at hj
  simp only[List.getElem_map]
  exact h j hj
theorem cell_in {w:World} {q i:Nat} {cs:Array Value} {T:Nat} {v:Value} (k:w.heap[q]? = some (.cells cs T (0,0))) (h:w.cell? ⟨q,i,none⟩=some v):i<cs.size:=by
 rcases Nat.lt_or_ge i cs.size with hlt|hge
 ·exact hlt
 ·rw[cell_of_row' k i,Array.getElem?_eq_none hge] at h
  cases h
theorem rd_apart {B:Nat} {w w':World} {l:List Int} {v:Value} (r:Rd B w (intsT l) v) {q:Nat} {cs:Array Value} {T:Nat} (k:w.heap[q]? = some (.cells cs T (0,0))) (hl:cs.size<l.length) (hf:∀ x,x≠q→w'.heap[x]? = w.heap[x]?):Rd B w' (intsT l) v:=by
 obtain⟨a,c,rfl,h1,h2,h3⟩:=r.ints
 obtain⟨b,off,rfl,hb,hat⟩:=h3 (by omega)
 have hne:b≠q:=by
  rintro rfl
  have:=cell_in k (hat (l.length-1) (by omega))
  omega
 exact rd_ints_at (by omega) h1 h2 (fun i hi=>(World.cell?_of_block (w:=w) (hf b hne)).trans (hat i hi)) hb
theorem iPath_any (t:DTerrain) (a b:DEnd) (T:TerrOk t) (pa:inT t a.place) (pb:inT t b.place) (ea:endP a) (eb:endP b) (v3 v4:Value) (hd:¬ (a.place.x=b.place.x∧a.place.y=b.place.y)) (f:Int) (f0:1≤f) (f1:f≤100000000) (w:World) (r3:Rd w.heap.size w (intsT t.heights) v3) (r4:Rd w.heap.size w (intsT t.clutter) v4) (L:TabW w) :
  Calls Tryz.prog 109 #[.agg #[.int .i64 t.step,.int .i64 t.width,.int .i64 t.height,v3,v4],.agg #[.int .i64 a.place.x,.int .i64 a.place.y,.int .i64 a.above],.agg #[.int .i64 b.place.x,.int .i64 b.place.y,.int .i64 b.above],.int .i64 f] w fun e w'=>∃ cl:Bool,e=.returned (.agg #[.int .i64 (distI a.place b.place),.int .i64 (bearI a.place b.place),.int .i64 (pathE t a b),.int .i64 (freeI f (distI a.place b.place)),.int .i64 (gasI f (distI a.place b.place)),.int .i64 (deyP (profO t a b) f),.int .i64 (cluI (cAt t a.place) f a.above+cluI (cAt t b.place) f b.above),.int .i64 (pathT t a b f),.bool cl])∧Below w.heap.size w w':=by
 have hptA:=inT_pt T pa
 have hptB:=inT_pt T pb
 have hdb:=distI_bd hptA hptB
 have hd1:=distI_pos hptA hptB hd
 have hok:=profI_ok T pa pb ea eb hd
 have hoo:=profO_ok T pa pb ea eb hd
 have CPr:Hid (∀ W:World,Below w.heap.size w W→Calls Tryz.prog 150 #[.agg #[.int .i64 t.step,.int .i64 t.width,.int .i64 t.height,v3,v4],.agg #[.int .i64 a.place.x,.int .i64 a.place.y,.int .i64 a.above],.agg #[.int .i64 b.place.x,.int .i64 b.place.y,.int .i64 b.above]] W fun e w'=>∃ (a':Option Addr) (c':Nat),e=.returned (.agg #[.int .i64 (profI t a b).d,.int .i64 (profI t a b).f,.int .i64 (profI t a b).l,.slice a' 17 c'])∧Below W.heap.size W w'∧Rd w'.heap.size w' (intsT (profI t a b).hs) (.slice a' 17 c')):=fun W hW=>iProf_any t a b T pa pb ea eb v3 v4 W ((r3.below hW).mono hW.size)
 have CBe:Hid (∀ W:World,Below w.heap.size w W→Calls Tryz.prog 151 #[.agg #[.int .i64 a.place.x,.int .i64 a.place.y],.agg #[.int .i64 b.place.x,.int .i64 b.place.y]] W fun e w'=>e=.returned (.int .i64 (bearI a.place b.place))∧Below W.heap.size W w'):=fun W hW=>iBearing_any a.place b.place hptA hptB W (L.mono hW)
 have CEl:Hid (∀ W:World,Below w.heap.size w W→Calls Tryz.prog 152 #[.agg #[.int .i64 t.step,.int .i64 t.width,.int .i64 t.height,v3,v4],.agg #[.int .i64 a.place.x,.int .i64 a.place.y,.int .i64 a.above],.agg #[.int .i64 b.place.x,.int .i64 b.place.y,.int .i64 b.above]] W fun e w'=>e=.returned (.int .i64 (pathE t a b))∧Below W.heap.size W w'):=fun W hW=>iElev_any t a b T pa pb ea eb v3 v4 W ((r3.below hW).mono hW.size) (L.mono hW)
 have CFr:Hid (∀ W:World,Below w.heap.size w W→Calls Tryz.prog 153 #[.int .i64 f,.int .i64 (distI a.place b.place)] W fun e w'=>e=.returned (.int .i64 (freeI f (distI a.place b.place)))∧Below W.heap.size W w'):=fun W hW=>iFree_any f _ f0 f1 hd1 hdb.2 W (L.lib.mono hW)
 have CGa:Hid (∀ W:World,Below w.heap.size w W→Calls Tryz.prog 154 #[.int .i64 f,.int .i64 (distI a.place b.place)] W fun e w'=>e=.returned (.int .i64 (gasI f (distI a.place b.place)))∧Below W.heap.size W w'):=fun W hW=>iGas_any f _ f0 f1 hd1 hdb.2 W
 have CCl:Hid (∀ (v:Value) (W:World),Below w.heap.size w W→Rd W.heap.size W (intsT (profI t a b).hs) v→Calls Tryz.prog 155 #[.agg #[.int .i64 (profI t a b).d,.int .i64 (profI t a b).f,.int .i64 (profI t a b).l,v],.int .i64 f,.int .i64 600] W fun e w'=>e=.returned (.bool (clrB (profI t a b) f 600))∧Below W.heap.size W w'):=fun v W hW r=>iClear2_any _ hok v f f0 f1 600 W r
 have CTu:Hid (∀ (v:Value) (W:World),Rd W.heap.size W (intsT (profI t a b).hs) v→Calls Tryz.prog 156 #[.agg #[.int .i64 (profI t a b).d,.int .i64 (profI t a b).f,.int .i64 (profI t a b).l,v]] W fun e w'=>∃ (a':Option Addr) (c':Nat),e=.returned (.agg #[.int .i64 (profI t a b).d,.int .i64 (profI t a b).l,.int .i64 (profI t a b).f,.slice a' 17 c'])∧Below W.heap.size W w'∧Rd w'.heap.size w' (intsT (profI t a b).hs.reverse) (.slice a' 17 c')):=fun v W r=>by
  have hh:=iTurned_any _ hok v W r
  rw[profI_len] at hh
  exact hh
 have CDe:Hid (∀ (v:Value) (W:World),Below w.heap.size w W→Rd W.heap.size W (intsT (profO t a b).hs) v→Calls Tryz.prog 157 #[.agg #[.int .i64 (profO t a b).d,.int .i64 (profO t a b).f,.int .i64 (profO t a b).l,v],.int .i64 f] W fun e w'=>e=.returned (.tuple #[.int .i64 (deyP (profO t a b) f),.int .i64 0])∧Below W.heap.size W w'):=fun v W hW r=>iDey_any _ hoo v f f0 f1 W r (L.lib.mono hW)
 have HEnds:Hid (∀ k:Nat,k<2→(∀ W:World,Below w.heap.size w W→Calls Tryz.prog 159 #[.agg #[.int .i64 t.step,.int .i64 t.width,.int .i64 t.height,v3,v4],.agg #[.int .i64 (if k=0 then a else b).place.x,.int .i64 (if k=0 then a else b).place.y]] W fun e w'=>e=.returned (.int .i64 (cAt t (if k=0 then a else b).place))∧Below W.heap.size W w')∧(∀ W:World,Below w.heap.size w W→Calls Tryz.prog 158 #[.int .i64 (cAt t (if k=0 then a else b).place),.int .i64 f,.int .i64 (if k=0 then a else b).above] W fun e w'=>e=.returned (.int .i64 (cluI (cAt t (if k=0 then a else b).place) f (if k=0 then a else b).above))∧Below W.heap.size W w')):=by
  show ∀ k:Nat,k<2→_
  intro k hk
  have key:∀ q:DEnd,inT t q.place→endP q→(∀ W:World,Below w.heap.size w W→Calls Tryz.prog 159 #[.agg #[.int .i64 t.step,.int .i64 t.width,.int .i64 t.height,v3,v4],.agg #[.int .i64 q.place.x,.int .i64 q.place.y]] W fun e w'=>e=.returned (.int .i64 (cAt t q.place))∧Below W.heap.size W w')∧(∀ W:World,Below w.heap.size w W→Calls Tryz.prog 158 #[.int .i64 (cAt t q.place),.int .i64 f,.int .i64 q.above] W fun e w'=>e=.returned (.int .i64 (cluI (cAt t q.place) f q.above))∧Below W.heap.size W w'):=fun q hq he=>by
   have hc:=T.cs (cNear t.step q.place.y*t.width+cNear t.step q.place.x).toNat
   obtain⟨n,hn⟩:=Int.eq_ofNat_of_zero_le (show 0≤cAt t q.place from hc.1)
   have hc2:cAt t q.place≤7:=hc.2
   refine⟨fun W hW=>iClutter_any t q.place T hq v3 v4 W ((r4.below hW).mono hW.size),fun W hW=>?_⟩
   rw[hn]
   exact iClut_any n (by omega) f q.above f0 f1 (by unfold endP at he;omega) W (L.mono hW)
  by_cases h0:k=0
  ·rw[if_pos h0];exact key a pa ea
  ·rw[if_neg h0];exact key b pb eb
 have HEa:=Lib.hid (HEnds.out 0 (by omega))
 have HEb:=Lib.hid (HEnds.out 1 (by omega))
 simp only[if_pos,if_neg (show ¬ (1:Nat)=0 by omega)] at HEa HEb
 clear HEnds
 have bF:=freeI_bd (f:=f) (d:=distI a.place b.place) f1 hdb.2
 have bG:=gasI_bd (f:=f) hdb.1 hdb.2
 have bD:=deyP_bd (profO t a b) f
 have bA:=cluI_bd (c:=cAt t a.place) (f:=f) (above:=a.above) (by unfold endP at ea;omega)
 have bB:=cluI_bd (c:=cAt t b.place) (f:=f) (above:=b.above) (by unfold endP at eb;omega)
 obtain⟨bF0,bF1⟩:=bF
 obtain⟨bG0,bG1⟩:=bG
 obtain⟨bD0,bD1⟩:=bD
 obtain⟨bA0,bA1⟩:=bA
 obtain⟨bB0,bB1⟩:=bB
 have HPT:Hid (pathT t a b f=freeI f (distI a.place b.place)+gasI f (distI a.place b.place)+deyP (profO t a b) f+(cluI (cAt t a.place) f a.above+cluI (cAt t b.place) f b.above)):=rfl
 have HPD:Hid ((profI t a b).d=distI a.place b.place):=rfl
 have HPO:Hid (profO t a b=if befB a.place b.place=true then profI t a b else turnP (profI t a b)):=by
  show _=_
  unfold profO
  cases hB:befB a.place b.place with
  | true=>rfl
  | false=>rw[turnP_prof hB]
 obtain⟨a3,c3_,e3,_,_,_⟩:=r3.ints
 subst e3
 obtain⟨a4,c4_,e4,_,_,_⟩:=r4.ints
 subst e4
 clear hptA hptB hok hoo r3 r4 L T pa pb ea eb hd hdb hd1
 generalize cluI (cAt t a.place) f a.above=KA at *
 generalize cluI (cAt t b.place) f b.above=KB at *
 generalize cAt t a.place=QA_ at *
 generalize cAt t b.place=QB_ at *
 generalize pathT t a b f=PT at *
 generalize clrB (profI t a b) f 600=CL at *
 generalize deyP (profO t a b) f=DE at *
 generalize freeI f (distI a.place b.place)=FR at *
 generalize gasI f (distI a.place b.place)=GA at *
 generalize pathE t a b=EL at *
 generalize bearI a.place b.place=BE at *
 generalize distI a.place b.place=DI at *
 obtain⟨W0,hW0,b0_,z0,k0,k1,k2,k3⟩:=boxes4 w #[.int .i64 t.step,.int .i64 t.width,.int .i64 t.height,.slice a3 t.heights.length c3_,.slice a4 t.clutter.length c4_] 39 #[.int .i64 a.place.x,.int .i64 a.place.y,.int .i64 a.above] 50 #[.int .i64 b.place.x,.int .i64 b.place.y,.int .i64 b.above] 50 #[.int .i64 0,.int .i64 0,.int .i64 0,.int .i64 0,.int .i64 0,.int .i64 0,.int .i64 0,.int .i64 0,.bool false] 142
 have e0_0:=bkC (v:=.int .i64 t.step) k0 0 rfl
 have e0_1:=bkC (v:=.int .i64 t.width) k0 1 rfl
 have e0_2:=bkC (v:=.int .i64 t.height) k0 2 rfl
 have e0_3:=bkC (v:=.slice a3 t.heights.length c3_) k0 3 rfl
 have e0_4:=bkC (v:=.slice a4 t.clutter.length c4_) k0 4 rfl
 have e1_0:=bkC (v:=.int .i64 a.place.x) k1 0 rfl
 have e1_1:=bkC (v:=.int .i64 a.place.y) k1 1 rfl
 have e1_2:=bkC (v:=.int .i64 a.above) k1 2 rfl
 have e2_0:=bkC (v:=.int .i64 b.place.x) k2 0 rfl
 have e2_1:=bkC (v:=.int .i64 b.place.y) k2 1 rfl
 have e2_2:=bkC (v:=.int .i64 b.above) k2 2 rfl
 have e3_0:=bkC (v:=.int .i64 0) k3 0 rfl
 have e3_1:=bkC (v:=.int .i64 0) k3 1 rfl
 have e3_2:=bkC (v:=.int .i64 0) k3 2 rfl
 have e3_3:=bkC (v:=.int .i64 0) k3 3 rfl
 have e3_4:=bkC (v:=.int .i64 0) k3 4 rfl
 have e3_5:=bkC (v:=.int .i64 0) k3 5 rfl
 have e3_6:=bkC (v:=.int .i64 0) k3 6 rfl
 have e3_7:=bkC (v:=.int .i64 0) k3 7 rfl
 have e3_8:=bkC (v:=.bool false) k3 8 rfl
 have HW0:=Lib.hid hW0
 have B0:=Lib.hid b0_
 have HD:Hid (∀ W:World,Below W0.heap.size W0 W→(W.cell? ⟨w.heap.size,0,none⟩=some (.int .i64 t.step)∧W.cell? ⟨w.heap.size,1,none⟩=some (.int .i64 t.width)∧W.cell? ⟨w.heap.size,2,none⟩=some (.int .i64 t.height)∧W.cell? ⟨w.heap.size,3,none⟩=some (.slice a3 t.heights.length c3_)∧W.cell? ⟨w.heap.size,4,none⟩=some (.slice a4 t.clutter.length c4_)∧W.cell? ⟨w.heap.size+1,0,none⟩=some (.int .i64 a.place.x)∧W.cell? ⟨w.heap.size+1,1,none⟩=some (.int .i64 a.place.y)∧W.cell? ⟨w.heap.size+1,2,none⟩=some (.int .i64 a.above)∧W.cell? ⟨w.heap.size+2,0,none⟩=some (.int .i64 b.place.x)∧W.cell? ⟨w.heap.size+2,1,none⟩=some (.int .i64 b.place.y)∧W.cell? ⟨w.heap.size+2,2,none⟩=some (.int .i64 b.above)∧W.cell? ⟨w.heap.size+3,0,none⟩=some (.int .i64 0)∧W.cell? ⟨w.heap.size+3,1,none⟩=some (.int .i64 0)∧W.cell? ⟨w.heap.size+3,2,none⟩=some (.int .i64 0)∧W.cell? ⟨w.heap.size+3,3,none⟩=some (.int .i64 0)∧W.cell? ⟨w.heap.size+3,4,none⟩=some (.int .i64 0)∧W.cell? ⟨w.heap.size+3,5,none⟩=some (.int .i64 0)∧W.cell? ⟨w.heap.size+3,6,none⟩=some (.int .i64 0)∧W.cell? ⟨w.heap.size+3,7,none⟩=some (.int .i64 0)∧W.cell? ⟨w.heap.size+3,8,none⟩=some (.bool false))):=fun W hW=>⟨(bat hW w.heap.size _ (by omega)).trans e0_0,(bat hW w.heap.size _ (by omega)).trans e0_1,(bat hW w.heap.size _ (by omega)).trans e0_2,(bat hW w.heap.size _ (by omega)).trans e0_3,(bat hW w.heap.size _ (by omega)).trans e0_4,(bat hW (w.heap.size+1) _ (by omega)).trans e1_0,(bat hW (w.heap.size+1) _ (by omega)).trans e1_1,(bat hW (w.heap.size+1) _ (by omega)).trans e1_2,(bat hW (w.heap.size+2) _ (by omega)).trans e2_0,(bat hW (w.heap.size+2) _ (by omega)).trans e2_1,(bat hW (w.heap.size+2) _ (by omega)).trans e2_2,(bat hW (w.heap.size+3) _ (by omega)).trans e3_0,(bat hW (w.heap.size+3) _ (by omega)).trans e3_1,(bat hW (w.heap.size+3) _ (by omega)).trans e3_2,(bat hW (w.heap.size+3) _ (by omega)).trans e3_3,(bat hW (w.heap.size+3) _ (by omega)).trans e3_4,(bat hW (w.heap.size+3) _ (by omega)).trans e3_5,(bat hW (w.heap.size+3) _ (by omega)).trans e3_6,(bat hW (w.heap.size+3) _ (by omega)).trans e3_7,(bat hW (w.heap.size+3) _ (by omega)).trans e3_8⟩
 have HB:Hid (Below W0.heap.size W0 W0):=Below.refl _ _
 have K3:=Lib.hid k3
 clear k0 k1 k2 k3 e0_0 e0_1 e0_2 e0_3 e0_4 e1_0 e1_1 e1_2 e2_0 e2_1 e2_2 e3_0 e3_1 e3_2 e3_3 e3_4 e3_5 e3_6 e3_7 e3_8 hW0 b0_
 go_enter Tryz.func109,Tryz.ntmps109
 go_upto_region 1 with (fail)
 rw[HW0.out]
 obtain⟨t0,t1,t2,t3,t4,t5,t6,t7,t8,t9,t10,t11,t12,t13,t14,t15,t16,t17,t18,t19⟩:=HD.out _ HB.out
 go_upto_region 2 with (go_at_call 150;with_reducible refine (CPr.out _ B0.out).mono ?_;rintro e v1 ⟨ap,cp,rfl,hb1,hr1⟩)
 clear t0 t1 t2 t3 t4 t5 t6 t7 t8 t9 t10 t11 t12 t13 t14 t15 t16 t17 t18 t19
 have RP0:=Lib.hid hr1
 have BV:=Lib.hid (B0.out.trans (hb1.mono B0.out.size))
 have zv:W0.heap.size≤v1.heap.size:=hb1.size
 have HDV:Hid (∀ W:World,Below v1.heap.size v1 W→_):=fun W hW=>HD.out W (hb1.trans (hW.mono hb1.size))
 have KR:=Lib.hid (bkB K3.out hb1 (by omega))
 clear hr1 hb1 HD HB K3 CPr
 obtain⟨v2,hW2,hb2,z2,k2⟩:=boxes1 v1 #[.int .i64 (profI t a b).d,.int .i64 (profI t a b).f,.int .i64 (profI t a b).l,.slice ap 17 cp] 180
 rw[hW2]
 have K9:=Lib.hid k2
 have B2:Hid (Below v1.heap.size v1 v2):=hb2
 clear hW2 hb2 k2
 have HB2:Hid (Below v2.heap.size v2 v2):=Below.refl _ _
 have zv2:v1.heap.size+1≤v2.heap.size:=z2
 have HD2:Hid (∀ W:World,Below v2.heap.size v2 W→(W.cell? ⟨v1.heap.size,0,none⟩=some (.int .i64 DI)∧W.cell? ⟨v1.heap.size,1,none⟩=some (.int .i64 (profI t a b).f)∧W.cell? ⟨v1.heap.size,2,none⟩=some (.int .i64 (profI t a b).l)∧W.cell? ⟨v1.heap.size,3,none⟩=some (.slice ap 17 cp)∧W.cell? ⟨w.heap.size,0,none⟩=some (.int .i64 t.step)∧W.cell? ⟨w.heap.size,1,none⟩=some (.int .i64 t.width)∧W.cell? ⟨w.heap.size,2,none⟩=some (.int .i64 t.height)∧W.cell? ⟨w.heap.size,3,none⟩=some (.slice a3 t.heights.length c3_)∧W.cell? ⟨w.heap.size,4,none⟩=some (.slice a4 t.clutter.length c4_)∧W.cell? ⟨w.heap.size+1,0,none⟩=some (.int .i64 a.place.x)∧W.cell? ⟨w.heap.size+1,1,none⟩=some (.int .i64 a.place.y)∧W.cell? ⟨w.heap.size+1,2,none⟩=some (.int .i64 a.above)∧W.cell? ⟨w.heap.size+2,0,none⟩=some (.int .i64 b.place.x)∧W.cell? ⟨w.heap.size+2,1,none⟩=some (.int .i64 b.place.y)∧W.cell? ⟨w.heap.size+2,2,none⟩=some (.int .i64 b.above)∧W.cell? ⟨w.heap.size+3,0,none⟩=some (.int .i64 0)∧W.cell? ⟨w.heap.size+3,1,none⟩=some (.int .i64 0)∧W.cell? ⟨w.heap.size+3,2,none⟩=some (.int .i64 0)∧W.cell? ⟨w.heap.size+3,3,none⟩=some (.int .i64 0)∧W.cell? ⟨w.heap.size+3,4,none⟩=some (.int .i64 0)∧W.cell? ⟨w.heap.size+3,5,none⟩=some (.int .i64 0)∧W.cell? ⟨w.heap.size+3,6,none⟩=some (.int .i64 0)∧W.cell? ⟨w.heap.size+3,7,none⟩=some (.int .i64 0)∧W.cell? ⟨w.heap.size+3,8,none⟩=some (.bool false))):=fun W hW=>by
  obtain⟨t0,t1,t2,t3,t4,t5,t6,t7,t8,t9,t10,t11,t12,t13,t14,t15,t16,t17,t18,t19⟩:=HDV.out W (B2.out.trans (hW.mono B2.out.size))
  exact⟨(bat hW v1.heap.size _ (by omega)).trans ((bkC (v:=.int .i64 (profI t a b).d) K9.out 0 rfl).trans (by rw[HPD.out])),(bat hW v1.heap.size _ (by omega)).trans (bkC K9.out 1 rfl),(bat hW v1.heap.size _ (by omega)).trans (bkC K9.out 2 rfl),(bat hW v1.heap.size _ (by omega)).trans (bkC K9.out 3 rfl),t0,t1,t2,t3,t4,t5,t6,t7,t8,t9,t10,t11,t12,t13,t14,t15,t16,t17,t18,t19⟩
 go_cut [10] (fun s10 wx=>∃ g:Nat,s10=.pointer (some ⟨g,0,none⟩)∧wx.heap[g]? = some (.cells #[.int .i64 DI,.int .i64 BE,.int .i64 EL,.int .i64 0,.int .i64 0,.int .i64 0,.int .i64 0,.int .i64 0,.bool false] 142 (0,0))∧Below v2.heap.size v2 wx∧v2.heap.size≤g∧g<wx.heap.size)
 case first =>
  refine wp_region_tree 14 (.read 0 (.read 1 (.read 2 (.read 3 (.read 4 (.read 5 (.read 7 (.read 8 (.read 9 (.two 6 12 (.two 10 12 (.read 11 (.one 12 (.one 13 .nil))) (.one 10 (.read 11 (.one 13 .nil)))) (.one 6 (.one 10 (.read 11 (.one 13 .nil)))))))))))))) (fun W=>Below v2.heap.size v2 W) (by kernel_rfl) (by kernel_rfl) (HB2.out.drew) ?_
  have YB:=Lib.hid (HB2.out.drew)
  have Yz:v2.heap.size≤v2.drew.heap.size:=Nat.le_refl _
  generalize v2.drew=Y at *
  iterate 9
   refine wpTree_read (v:=?_) rfl (fun _ _ _ h=>h) ?_ ?_
   rotate_left
   ·(intro W hSW;(try dsimp only at hSW);obtain⟨y0,y1,y2,y3,t0,t1,t2,t3,t4,t5,t6,t7,t8,t9,t10,t11,t12,t13,t14,t15,t16,t17,t18,t19⟩:=HD2.out W hSW;(go_simp<;>with_reducible rfl))
   (try simp only[Act.put,List.setIfInBounds_toArray,List.set_cons_zero,List.set_cons_succ])
  refine wpTree_two ?_ ?_
  refine stepT_mk rfl (fun K hK=>?_)
  go_simp
  refine ((fun W (hW:Below v2.heap.size v2 W)=>CBe.out W (BV.out.trans ((B2.out.trans (hW.mono B2.out.size)).mono BV.out.size))) _ YB.out).mono ?_
  rintro e Y1 ⟨rfl,hb1⟩
  have YB1:=btr YB hb1
  refine hK.out _ _ YB1.out ?_
  clear hK K
  have bs1:=hb1.size
  clear hb1
  refine wpTree_two ?_ ?_
  refine stepT_mk rfl (fun K hK=>?_)
  go_simp
  refine ((fun W (hW:Below v2.heap.size v2 W)=>CEl.out W (BV.out.trans ((B2.out.trans (hW.mono B2.out.size)).mono BV.out.size))) _ YB1.out).mono ?_
  rintro e Y2 ⟨rfl,hb2⟩
  have YB2:=btr YB1 hb2
  refine hK.out _ _ YB2.out ?_
  clear hK K
  have bs2:=hb2.size
  clear hb2
  refine wpTree_read (v:=?_) rfl (fun _ _ _ h=>h) ?_ ?_
  rotate_left
  ·(intro W hSW;(try dsimp only at hSW);obtain⟨y0,y1,y2,y3,t0,t1,t2,t3,t4,t5,t6,t7,t8,t9,t10,t11,t12,t13,t14,t15,t16,t17,t18,t19⟩:=HD2.out W hSW;(go_simp<;>with_reducible rfl))
  (try simp only[Act.put,List.setIfInBounds_toArray,List.set_cons_zero,List.set_cons_succ])
  refine wpTree_one ?_
  refine stepT_mk rfl (fun K hK=>?_)
  go_simp
  obtain⟨Y3,hW3,hb3,zl3,hk3⟩:=boxes1 Y2 #[.int .i64 0,.int .i64 0,.int .i64 0,.int .i64 0,.int .i64 0,.int .i64 0,.int .i64 0,.int .i64 0,.bool false] 142
  rw[hW3]
  have Ykx3:=Lib.hid hk3
  have YB3:=btr YB2 hb3
  refine hK.out _ _ YB3.out ?_
  have bs3:=hb3.size
  clear hK K hW3 hk3 hb3
  refine wpTree_one ?_
  refine stepT_mk rfl (fun K hK=>?_)
  have g0:=bkC (v:=.int .i64 0) Ykx3.out 0 rfl
  have g1:=bkC (v:=.int .i64 0) Ykx3.out 1 rfl
  have g2:=bkC (v:=.int .i64 0) Ykx3.out 2 rfl
  have g3:=bkC (v:=.int .i64 0) Ykx3.out 3 rfl
  have g4:=bkC (v:=.int .i64 0) Ykx3.out 4 rfl
  have g5:=bkC (v:=.int .i64 0) Ykx3.out 5 rfl
  have g6:=bkC (v:=.int .i64 0) Ykx3.out 6 rfl
  have g7:=bkC (v:=.int .i64 0) Ykx3.out 7 rfl
  have g8:=bkC (v:=.bool false) Ykx3.out 8 rfl
  have fz:=bkF Ykx3.out
  go_simp
  obtain⟨Y4,hW4,Ykx4,bs4,ho4,hl4⟩:=stAll Ykx3 [.int .i64 DI,.int .i64 BE,.int .i64 EL,.int .i64 0,.int .i64 0,.int .i64 0,.int .i64 0,.int .i64 0,.bool false] rfl
  simp only[setsC] at hW4
  rw[hW4]
  have YB4:=Lib.hid (hl4.out v2 (by have:=YB3.out.size;omega) YB3.out)
  refine hK.out _ _ YB4.out ?_
  clear hK K fz hW4 ho4 hl4 g0 g1 g2 g3 g4 g5 g6 g7 g8
  refine wpTree_nil ?_
  simp only[List.drop_succ_cons,List.drop_zero]
  go_wp2_with fail
  go_meet
  exact⟨_,rfl,Ykx4.out,YB4.out,by omega,by omega⟩
  refine stepT_mk rfl (fun K hK=>?_)
  go_simp
  obtain⟨Y5,hW5,hb5,zl5,hk5⟩:=boxes1 Y1 #[.int .i64 0,.int .i64 0,.int .i64 0,.int .i64 0,.int .i64 0,.int .i64 0,.int .i64 0,.int .i64 0,.bool false] 142
  rw[hW5]
  have Ykx5:=Lib.hid hk5
  have YB5:=btr YB1 hb5
  refine hK.out _ _ YB5.out ?_
  have bs5:=hb5.size
  clear hK K hW5 hk5 hb5
  refine wpTree_one ?_
  refine stepT_mk rfl (fun K hK=>?_)
  go_simp
  refine ((fun W (hW:Below v2.heap.size v2 W)=>CEl.out W (BV.out.trans ((B2.out.trans (hW.mono B2.out.size)).mono BV.out.size))) _ YB5.out).mono ?_
  rintro e Y6 ⟨rfl,hb6⟩
  have YB6:=btr YB5 hb6
  refine hK.out _ _ YB6.out ?_
  clear hK K
  have bs6:=hb6.size
  have Ykx6:=bkH Ykx5 hb6
  clear hb6
  refine wpTree_read (v:=?_) rfl (fun _ _ _ h=>h) ?_ ?_
  rotate_left
  ·(intro W hSW;(try dsimp only at hSW);obtain⟨y0,y1,y2,y3,t0,t1,t2,t3,t4,t5,t6,t7,t8,t9,t10,t11,t12,t13,t14,t15,t16,t17,t18,t19⟩:=HD2.out W hSW;(go_simp<;>with_reducible rfl))
  (try simp only[Act.put,List.setIfInBounds_toArray,List.set_cons_zero,List.set_cons_succ])
  refine wpTree_one ?_
  refine stepT_mk rfl (fun K hK=>?_)
  have g0:=bkC (v:=.int .i64 0) Ykx6.out 0 rfl
  have g1:=bkC (v:=.int .i64 0) Ykx6.out 1 rfl
  have g2:=bkC (v:=.int .i64 0) Ykx6.out 2 rfl
  have g3:=bkC (v:=.int .i64 0) Ykx6.out 3 rfl
  have g4:=bkC (v:=.int .i64 0) Ykx6.out 4 rfl
  have g5:=bkC (v:=.int .i64 0) Ykx6.out 5 rfl
  have g6:=bkC (v:=.int .i64 0) Ykx6.out 6 rfl
  have g7:=bkC (v:=.int .i64 0) Ykx6.out 7 rfl
  have g8:=bkC (v:=.bool false) Ykx6.out 8 rfl
  have fz:=bkF Ykx6.out
  go_simp
  obtain⟨Y7,hW7,Ykx7,bs7,ho7,hl7⟩:=stAll Ykx6 [.int .i64 DI,.int .i64 BE,.int .i64 EL,.int .i64 0,.int .i64 0,.int .i64 0,.int .i64 0,.int .i64 0,.bool false] rfl
  simp only[setsC] at hW7
  rw[hW7]
  have YB7:=Lib.hid (hl7.out v2 (by have:=YB6.out.size;omega) YB6.out)
  refine hK.out _ _ YB7.out ?_
  clear hK K fz hW7 ho7 hl7 g0 g1 g2 g3 g4 g5 g6 g7 g8
  refine wpTree_nil ?_
  simp only[List.drop_succ_cons,List.drop_zero]
  go_wp2_with fail
  go_meet
  exact⟨_,rfl,Ykx7.out,YB7.out,by omega,by omega⟩
  refine stepT_mk rfl (fun K hK=>?_)
  go_simp
  obtain⟨Y8,hW8,hb8,zl8,hk8⟩:=boxes1 Y #[.int .i64 0,.int .i64 0,.int .i64 0,.int .i64 0,.int .i64 0,.int .i64 0,.int .i64 0,.int .i64 0,.bool false] 142
  rw[hW8]
  have Ykx8:=Lib.hid hk8
  have YB8:=btr YB hb8
  refine hK.out _ _ YB8.out ?_
  have bs8:=hb8.size
  clear hK K hW8 hk8 hb8
  refine wpTree_one ?_
  refine stepT_mk rfl (fun K hK=>?_)
  go_simp
  refine ((fun W (hW:Below v2.heap.size v2 W)=>CBe.out W (BV.out.trans ((B2.out.trans (hW.mono B2.out.size)).mono BV.out.size))) _ YB8.out).mono ?_
  rintro e Y9 ⟨rfl,hb9⟩
  have YB9:=btr YB8 hb9
  refine hK.out _ _ YB9.out ?_
  clear hK K
  have bs9:=hb9.size
  have Ykx9:=bkH Ykx8 hb9
  clear hb9
  refine wpTree_one ?_
  refine stepT_mk rfl (fun K hK=>?_)
  go_simp
  refine ((fun W (hW:Below v2.heap.size v2 W)=>CEl.out W (BV.out.trans ((B2.out.trans (hW.mono B2.out.size)).mono BV.out.size))) _ YB9.out).mono ?_
  rintro e Y10 ⟨rfl,hb10⟩
  have YB10:=btr YB9 hb10
  refine hK.out _ _ YB10.out ?_
  clear hK K
  have bs10:=hb10.size
  have Ykx10:=bkH Ykx9 hb10
  clear hb10
  refine wpTree_read (v:=?_) rfl (fun _ _ _ h=>h) ?_ ?_
  rotate_left
  ·(intro W hSW;(try dsimp only at hSW);obtain⟨y0,y1,y2,y3,t0,t1,t2,t3,t4,t5,t6,t7,t8,t9,t10,t11,t12,t13,t14,t15,t16,t17,t18,t19⟩:=HD2.out W hSW;(go_simp<;>with_reducible rfl))
  (try simp only[Act.put,List.setIfInBounds_toArray,List.set_cons_zero,List.set_cons_succ])
  refine wpTree_one ?_
  refine stepT_mk rfl (fun K hK=>?_)
  have g0:=bkC (v:=.int .i64 0) Ykx10.out 0 rfl
  have g1:=bkC (v:=.int .i64 0) Ykx10.out 1 rfl
  have g2:=bkC (v:=.int .i64 0) Ykx10.out 2 rfl
  have g3:=bkC (v:=.int .i64 0) Ykx10.out 3 rfl
  have g4:=bkC (v:=.int .i64 0) Ykx10.out 4 rfl
  have g5:=bkC (v:=.int .i64 0) Ykx10.out 5 rfl
  have g6:=bkC (v:=.int .i64 0) Ykx10.out 6 rfl
  have g7:=bkC (v:=.int .i64 0) Ykx10.out 7 rfl
  have g8:=bkC (v:=.bool false) Ykx10.out 8 rfl
  have fz:=bkF Ykx10.out
  go_simp
  obtain⟨Y11,hW11,Ykx11,bs11,ho11,hl11⟩:=stAll Ykx10 [.int .i64 DI,.int .i64 BE,.int .i64 EL,.int .i64 0,.int .i64 0,.int .i64 0,.int .i64 0,.int .i64 0,.bool false] rfl
  simp only[setsC] at hW11
  rw[hW11]
  have YB11:=Lib.hid (hl11.out v2 (by have:=YB10.out.size;omega) YB10.out)
  refine hK.out _ _ YB11.out ?_
  clear hK K fz hW11 ho11 hl11 g0 g1 g2 g3 g4 g5 g6 g7 g8
  refine wpTree_nil ?_
  simp only[List.drop_succ_cons,List.drop_zero]
  go_wp2_with fail
  go_meet
  exact⟨_,rfl,Ykx11.out,YB11.out,by omega,by omega⟩
 obtain⟨g,rfl,kg_,hbW,hg1,hg2⟩:=hcut
 generalize wc=v3 at *
 have KX:=Lib.hid kg_
 have HB3:=Lib.hid hbW
 clear kg_ hbW CBe CEl
 go_upto_region 3 with (fail)
 refine wp_region_tree 12 (.read 0 (.read 1 (.read 2 (.read 4 (.read 5 (.read 6 (.one 3 (.read 8 (.one 7 (.one 9 (.read 10 (.one 11 .nil)))))))))))) (fun W=>Below v2.heap.size v2 W) (by kernel_rfl) (by kernel_rfl) (HB3.out.drew) ?_
 have ZB:=Lib.hid (HB3.out.drew)
 have Zz:v3.heap.size≤v3.drew.heap.size:=Nat.le_refl _
 have Zkx:Hid (v3.drew.heap[g]? = some (.cells #[.int .i64 DI,.int .i64 BE,.int .i64 EL,.int .i64 0,.int .i64 0,.int .i64 0,.int .i64 0,.int .i64 0,.bool false] 142 (0,0))):=KX.out
 generalize v3.drew=Z at *
 iterate 6
  refine wpTree_read (v:=?_) rfl (fun _ _ _ h=>h) ?_ ?_
  rotate_left
  ·(intro W hSW;(try dsimp only at hSW);obtain⟨y0,y1,y2,y3,t0,t1,t2,t3,t4,t5,t6,t7,t8,t9,t10,t11,t12,t13,t14,t15,t16,t17,t18,t19⟩:=HD2.out W hSW;(go_simp<;>with_reducible rfl))
  (try simp only[Act.put,List.setIfInBounds_toArray,List.set_cons_zero,List.set_cons_succ])
 refine wpTree_one ?_
 refine stepT_mk rfl (fun K hK=>?_)
 go_simp
 refine ((fun W (hW:Below v2.heap.size v2 W)=>CFr.out W (BV.out.trans ((B2.out.trans (hW.mono B2.out.size)).mono BV.out.size))) _ ZB.out).mono ?_
 rintro e Z1 ⟨rfl,hb1⟩
 have ZB1:=btr ZB hb1
 refine hK.out _ _ ZB1.out ?_
 clear hK K
 have bs1:=hb1.size
 have Zkx1:=bkH Zkx hb1
 clear hb1
 refine wpTree_read (v:=?_) rfl (fun _ _ _ h=>h) ?_ ?_
 rotate_left
 ·(intro W hSW;(try dsimp only at hSW);obtain⟨y0,y1,y2,y3,t0,t1,t2,t3,t4,t5,t6,t7,t8,t9,t10,t11,t12,t13,t14,t15,t16,t17,t18,t19⟩:=HD2.out W hSW;(go_simp<;>with_reducible rfl))
 (try simp only[Act.put,List.setIfInBounds_toArray,List.set_cons_zero,List.set_cons_succ])
 refine wpTree_one ?_
 refine stepT_mk rfl (fun K hK=>?_)
 go_simp
 refine ((fun W (hW:Below v2.heap.size v2 W)=>CGa.out W (BV.out.trans ((B2.out.trans (hW.mono B2.out.size)).mono BV.out.size))) _ ZB1.out).mono ?_
 rintro e Z2 ⟨rfl,hb2⟩
 have ZB2:=btr ZB1 hb2
 refine hK.out _ _ ZB2.out ?_
 clear hK K
 have bs2:=hb2.size
 have Zkx2:=bkH Zkx1 hb2
 clear hb2
 refine wpTree_one ?_
 refine stepT_mk rfl (fun K hK=>?_)
 have g0:=bkC (v:=.int .i64 0) Zkx2.out 3 rfl
 have fz:=bkF Zkx2.out
 go_simp
 obtain⟨Z3,hW3,hk3,bs3,ho3,hl3⟩:=stOne Zkx2 3 (.int .i64 FR)
 rw[hW3]
 have Zkx3:Hid (Z3.heap[g]? = some (.cells #[.int .i64 DI,.int .i64 BE,.int .i64 EL,.int .i64 FR,.int .i64 0,.int .i64 0,.int .i64 0,.int .i64 0,.bool false] 142 (0,0))):=by show _=_;simpa using hk3.out
 clear hk3
 have ZB3:=Lib.hid (hl3.out v2 (by have:=ZB2.out.size;omega) ZB2.out)
 refine hK.out _ _ ZB3.out ?_
 clear hK K fz hW3 ho3 hl3 g0
 refine wpTree_read (v:=?_) rfl (fun _ _ _ h=>h) ?_ ?_
 rotate_left
 ·(intro W hSW;(try dsimp only at hSW);obtain⟨y0,y1,y2,y3,t0,t1,t2,t3,t4,t5,t6,t7,t8,t9,t10,t11,t12,t13,t14,t15,t16,t17,t18,t19⟩:=HD2.out W hSW;(go_simp<;>with_reducible rfl))
 (try simp only[Act.put,List.setIfInBounds_toArray,List.set_cons_zero,List.set_cons_succ])
 refine wpTree_one ?_
 refine stepT_mk rfl (fun K hK=>?_)
 have g0:=bkC (v:=.int .i64 0) Zkx3.out 4 rfl
 have fz:=bkF Zkx3.out
 go_simp
 obtain⟨Z4,hW4,hk4,bs4,ho4,hl4⟩:=stOne Zkx3 4 (.int .i64 GA)
 rw[hW4]
 have Zkx4:Hid (Z4.heap[g]? = some (.cells #[.int .i64 DI,.int .i64 BE,.int .i64 EL,.int .i64 FR,.int .i64 GA,.int .i64 0,.int .i64 0,.int .i64 0,.bool false] 142 (0,0))):=by show _=_;simpa using hk4.out
 clear hk4
 have ZB4:=Lib.hid (hl4.out v2 (by have:=ZB3.out.size;omega) ZB3.out)
 refine hK.out _ _ ZB4.out ?_
 clear hK K fz hW4 ho4 hl4 g0
 refine wpTree_nil ?_
 simp only[List.drop_succ_cons,List.drop_zero]
 skip
 have BB1:=Lib.hid (B2.out.trans (ZB4.out.mono B2.out.size))
 have K9b:=Lib.hid (bkB K9.out ZB4.out (by omega))
 have zc:v2.heap.size≤(Z4).heap.size:=ZB4.out.size
 generalize Z4=v4 at *
 obtain⟨t0,t1,t2,t3,t4,t5,t6,t7,t8,t9,t10,t11,t12,t13,t14,t15,t16,t17,t18,t19⟩:=HDV.out _ BB1.out
 have q0:=bkC (v:=.int .i64 (profI t a b).d) K9b.out 0 rfl
 have q1:=bkC (v:=.int .i64 (profI t a b).f) K9b.out 1 rfl
 have q2:=bkC (v:=.int .i64 (profI t a b).l) K9b.out 2 rfl
 have q3:=bkC (v:=.slice ap 17 cp) K9b.out 3 rfl
 have qf:=bkF K9b.out
 go_upto_region 5 with (go_at_call 155;with_reducible refine (CCl.out _ _ (BV.out.trans (BB1.out.mono BV.out.size)) ((RP0.out.below BB1.out).mono BB1.out.size)).mono ?_;rintro e v5 ⟨rfl,hb_⟩;(have bbU1:=btr BB1 hb_);(have bsU1:=hb_.size);(have kxU1:=bkH Zkx4 hb_);(have k9U1:=bkH K9b hb_);(clear hb_);have x8:=bkC (v:=.bool false) kxU1.out 8 rfl;have xf:=bkF kxU1.out)
 clear t0 t1 t2 t3 t4 t5 t6 t7 t8 t9 t10 t11 t12 t13 t14 t15 t16 t17 t18 t19
 obtain⟨v6,hWU2,hkU2,bsU2,hoU2,hlU2⟩:=stOne kxU1 8 (.bool CL)
 rw[hWU2]
 have kxU2:Hid (v6.heap[g]? = some (.cells #[.int .i64 DI,.int .i64 BE,.int .i64 EL,.int .i64 FR,.int .i64 GA,.int .i64 0,.int .i64 0,.int .i64 0,.bool CL] 142 (0,0))):=by show _=_;simpa using hkU2.out
 clear hkU2
 have bbU2:=Lib.hid (hlU2.out v1 (by have:=bbU1.out.size;omega) bbU1.out)
 have k9U2:=Lib.hid ((hoU2.out _ (by omega)).trans k9U1.out)
 clear hWU2 hoU2 hlU2
 obtain⟨t0,t1,t2,t3,t4,t5,t6,t7,t8,t9,t10,t11,t12,t13,t14,t15,t16,t17,t18,t19⟩:=HDV.out _ bbU2.out
 go_cut [67] (fun s67 wx=>s67=.bool (!befB a.place b.place)∧v6=wx)
 case first =>
  by_cases c1:b.place.x<a.place.x
  ·have C1:=Lib.hid c1
   have e1:decide (b.place.x<a.place.x)=true:=decide_eq_true c1
   clear c1
   go_wp2_with fail
   go_meet
   exact⟨by rw[← befB_back,decide_eq_true C1.out,Bool.true_or],rfl⟩
  have C1:=Lib.hid c1
  have e1:decide (b.place.x<a.place.x)=false:=decide_eq_false c1
  clear c1
  by_cases c2:a.place.x=b.place.x
  ·have e2:(b.place.x == a.place.x)=true:=beq_iff_eq.2 c2.symm
   have C2:=Lib.hid c2
   clear c2
   go_wp2_with fail
   go_meet
   exact⟨by rw[← befB_back,decide_eq_false (p:=b.place.x<a.place.x) (by have:=C1.out;omega),decide_eq_true C2.out,Bool.true_and,Bool.false_or],rfl⟩
  ·have e2:(b.place.x == a.place.x)=false:=beq_eq_false_iff_ne.2 (fun e=>c2 e.symm)
   have C2:=Lib.hid c2
   clear c2
   go_wp2_with fail
   go_meet
   exact⟨by rw[← befB_back,decide_eq_false (p:=b.place.x<a.place.x) (by have:=C1.out;omega),decide_eq_false C2.out,Bool.false_and,Bool.false_or],rfl⟩
 obtain⟨rfl,rfl⟩:=hcut
 generalize hNB:(!befB a.place b.place)=nb at *
 have HNB:=Lib.hid hNB
 clear hNB
 obtain⟨t0,t1,t2,t3,t4,t5,t6,t7,t8,t9,t10,t11,t12,t13,t14,t15,t16,t17,t18,t19⟩:=HDV.out _ bbU2.out
 go_upto_if 67 with (fail)
 have HZ6:v1.heap.size<v6.heap.size:=by omega
 go_cut [] (fun wx=>∃ v9:Value,wx.heap[v1.heap.size]? = some (.cells #[.int .i64 (profO t a b).d,.int .i64 (profO t a b).f,.int .i64 (profO t a b).l,v9] 180 (0,0))∧Rd wx.heap.size wx (intsT (profO t a b).hs) v9∧wx.heap[g]? = some (.cells #[.int .i64 DI,.int .i64 BE,.int .i64 EL,.int .i64 FR,.int .i64 GA,.int .i64 0,.int .i64 0,.int .i64 0,.bool CL] 142 (0,0))∧Below v1.heap.size v1 wx∧v6.heap.size≤wx.heap.size)
 case first =>
  cases nb with
  | false =>
   have hpo:profO t a b=profI t a b:=HPO.out.trans (if_pos (by have h:=HNB.out;rwa [Bool.not_eq_false'] at h))
   have HPO1:=Lib.hid hpo
   clear hpo
   go_wp2_with fail
   go_meet
   rw[HPO1.out]
   exact⟨.slice ap 17 cp,k9U2.out,((RP0.out.below bbU2.out).mono bbU2.out.size),kxU2.out,bbU2.out,Nat.le_refl _⟩
  | true =>
   have hpo:profO t a b=turnP (profI t a b):=HPO.out.trans (if_neg (by have h:=HNB.out;rw[Bool.not_eq_true'] at h;rw[h];decide))
   have HPO1:=Lib.hid hpo
   clear hpo t0 t1 t2 t3 t4 t5 t6 t7 t8 t9 t10 t11 t12 t13 t14 t15 t16 t17 t18 t19
   have q0:=bkC (v:=.int .i64 (profI t a b).d) k9U2.out 0 rfl
   have q1:=bkC (v:=.int .i64 (profI t a b).f) k9U2.out 1 rfl
   have q2:=bkC (v:=.int .i64 (profI t a b).l) k9U2.out 2 rfl
   have q3:=bkC (v:=.slice ap 17 cp) k9U2.out 3 rfl
   have qf:=bkF k9U2.out
   go_wp2_with (go_at_call 156;with_reducible refine (CTu.out _ _ ((RP0.out.below bbU2.out).mono bbU2.out.size)).mono ?_;rintro e v7 ⟨aq,cq,rfl,hb_,hr_⟩;(have bbU3:=btr bbU2 hb_);(have bsU3:=hb_.size);(have kxU3:=bkH kxU2 hb_);(have k9U3:=bkH k9U2 hb_);(clear hb_);(have RQ:=Lib.hid hr_);clear hr_ q0 q1 q2 q3 qf;(have q0:=bkC (v:=.int .i64 (profI t a b).d) k9U3.out 0 rfl);(have q1:=bkC (v:=.int .i64 (profI t a b).f) k9U3.out 1 rfl);(have q2:=bkC (v:=.int .i64 (profI t a b).l) k9U3.out 2 rfl);(have q3:=bkC (v:=.slice ap 17 cp) k9U3.out 3 rfl);(have qf:=bkF k9U3.out))
   go_meet
   have kf_:(((((v7.setCell ⟨v1.heap.size,0,none⟩ (.int .i64 (profI t a b).d)).setCell ⟨v1.heap.size,1,none⟩ (.int .i64 (profI t a b).l)).setCell ⟨v1.heap.size,2,none⟩ (.int .i64 (profI t a b).f)).setCell ⟨v1.heap.size,3,none⟩ (.slice aq 17 cq))).heap[v1.heap.size]? = some (.cells #[.int .i64 (profI t a b).d,.int .i64 (profI t a b).l,.int .i64 (profI t a b).f,.slice aq 17 cq] 180 (0,0)):=by
    have h_:=(bkS (bkS (bkS (bkS k9U3.out 0 (.int .i64 (profI t a b).d)) 1 (.int .i64 (profI t a b).l)) 2 (.int .i64 (profI t a b).f)) 3 (.slice aq 17 cq))
    simpa using h_
   have k9U4:=Lib.hid kf_
   clear kf_
   have bbU4:=Lib.hid ((((bbU3.out.setCell (p:=⟨v1.heap.size,0,none⟩) (by show v1.heap.size≤v1.heap.size;have:=bbU3.out.size;omega) (.int .i64 (profI t a b).d)).setCell (p:=⟨v1.heap.size,1,none⟩) (by show v1.heap.size≤v1.heap.size;have:=bbU3.out.size;omega) (.int .i64 (profI t a b).l)).setCell (p:=⟨v1.heap.size,2,none⟩) (by show v1.heap.size≤v1.heap.size;have:=bbU3.out.size;omega) (.int .i64 (profI t a b).f)).setCell (p:=⟨v1.heap.size,3,none⟩) (by show v1.heap.size≤v1.heap.size;have:=bbU3.out.size;omega) (.slice aq 17 cq))
   have bsU4:v7.heap.size≤(((((v7.setCell ⟨v1.heap.size,0,none⟩ (.int .i64 (profI t a b).d)).setCell ⟨v1.heap.size,1,none⟩ (.int .i64 (profI t a b).l)).setCell ⟨v1.heap.size,2,none⟩ (.int .i64 (profI t a b).f)).setCell ⟨v1.heap.size,3,none⟩ (.slice aq 17 cq))).heap.size:=by simp only[size_setCell];exact Nat.le_refl _
   have kxU4:=Lib.hid (bkO (bkO (bkO (bkO kxU3.out (p:=⟨v1.heap.size,0,none⟩) (by show g≠v1.heap.size;omega) (.int .i64 (profI t a b).d)) (p:=⟨v1.heap.size,1,none⟩) (by show g≠v1.heap.size;omega) (.int .i64 (profI t a b).l)) (p:=⟨v1.heap.size,2,none⟩) (by show g≠v1.heap.size;omega) (.int .i64 (profI t a b).f)) (p:=⟨v1.heap.size,3,none⟩) (by show g≠v1.heap.size;omega) (.slice aq 17 cq))
   rw[HPO1.out]
   refine⟨.slice aq 17 cq,k9U4.out,?_,kxU4.out,bbU4.out,by simp only[size_setCell];omega⟩
   have hlen:(turnP (profI t a b)).hs.length=17:=by show (profI t a b).hs.reverse.length=17;rw[List.length_reverse,profI_len]
   have ra:=rd_apart (w':=((((v7.setCell ⟨v1.heap.size,0,none⟩ (.int .i64 (profI t a b).d)).setCell ⟨v1.heap.size,1,none⟩ (.int .i64 (profI t a b).l)).setCell ⟨v1.heap.size,2,none⟩ (.int .i64 (profI t a b).f)).setCell ⟨v1.heap.size,3,none⟩ (.slice aq 17 cq))) RQ.out k9U3.out (by show 4<(turnP (profI t a b)).hs.length;omega) (fun x hx=>by
    simp only[Below.heap_setCell _ _ _ _ (show x≠(⟨v1.heap.size,0,none⟩:Addr).block from hx),Below.heap_setCell _ _ _ _ (show x≠(⟨v1.heap.size,1,none⟩:Addr).block from hx),Below.heap_setCell _ _ _ _ (show x≠(⟨v1.heap.size,2,none⟩:Addr).block from hx),Below.heap_setCell _ _ _ _ (show x≠(⟨v1.heap.size,3,none⟩:Addr).block from hx)])
   exact ra.mono (by simp only[size_setCell];omega)
 obtain⟨v9,k9_,r9_,kx_,hbW,z8⟩:=hcut
 generalize wc=v8 at *
 have K9c:=Lib.hid k9_
 have R9:=Lib.hid r9_
 have KXc:=Lib.hid kx_
 have BB8:=Lib.hid hbW
 clear k9_ r9_ kx_ hbW CTu t0 t1 t2 t3 t4 t5 t6 t7 t8 t9 t10 t11 t12 t13 t14 t15 t16 t17 t18 t19
 have q0:=bkC (v:=.int .i64 (profO t a b).d) K9c.out 0 rfl
 have q1:=bkC (v:=.int .i64 (profO t a b).f) K9c.out 1 rfl
 have q2:=bkC (v:=.int .i64 (profO t a b).l) K9c.out 2 rfl
 have q3:=bkC (v:=v9) K9c.out 3 rfl
 have qf:=bkF K9c.out
 go_upto_region 8 with (go_at_call 157;with_reducible refine (CDe.out _ _ (BV.out.trans (BB8.out.mono BV.out.size)) R9.out).mono ?_;rintro e v10 ⟨rfl,hb_⟩;(have bbT1:=btr BB8 hb_);(have bsT1:=hb_.size);(have kxT1:=bkH KXc hb_);(have k9T1:=bkH K9c hb_);(clear hb_);(have x5:=bkC (v:=.int .i64 0) kxT1.out 5 rfl);(have xf:=bkF kxT1.out))
 clear CDe R9 q0 q1 q2 q3 qf
 obtain⟨v11,hWT2,hkT2,bsT2,hoT2,hlT2⟩:=stOne kxT1 5 (.int .i64 DE)
 rw[hWT2]
 have kxT2:Hid (v11.heap[g]? = some (.cells #[.int .i64 DI,.int .i64 BE,.int .i64 EL,.int .i64 FR,.int .i64 GA,.int .i64 DE,.int .i64 0,.int .i64 0,.bool CL] 142 (0,0))):=by show _=_;simpa using hkT2.out
 clear hkT2
 have bbT2:=Lib.hid (hlT2.out v1 (by have:=bbT1.out.size;omega) bbT1.out)
 have k9T2:=Lib.hid ((hoT2.out _ (by omega)).trans k9T1.out)
 clear hWT2 hoT2 hlT2
 obtain⟨t0,t1,t2,t3,t4,t5,t6,t7,t8,t9,t10,t11,t12,t13,t14,t15,t16,t17,t18,t19⟩:=HDV.out _ bbT2.out
 have zv11:v1.heap.size≤v11.heap.size:=bbT2.out.size
 go_wp2
 clear t0 t1 t2 t3 t4 t5 t6 t7 t8 t9 t10 t11 t12 t13 t14 t15 t16 t17 t18 t19
 go_loopw [80] (fun ki wr=>∃ (k cl:Int),(k=0∧0=cl∨k=1∧KA=cl∨k=2∧KA+KB=cl)∧ki=.int .i64 k∧wr.heap[g]? = some (.cells #[.int .i64 DI,.int .i64 BE,.int .i64 EL,.int .i64 FR,.int .i64 GA,.int .i64 DE,.int .i64 cl,.int .i64 0,.bool CL] 142 (0,0))∧Below v1.heap.size v1 wr∧v11.heap.size≤wr.heap.size) (fun ki wr=>2-(intOf ki).toNat)
 case atStart=>exact⟨0,0,Or.inl ⟨rfl,rfl⟩,rfl,kxT2.out,bbT2.out,Nat.le_refl _⟩
 case round =>
  obtain⟨k,cl,hor,rfl,kx_,bw_,zw⟩:=hrel
  have KXr:=Lib.hid kx_
  have BR:=Lib.hid bw_
  clear kx_ bw_
  rcases hor with ⟨rfl,rfl⟩|⟨rfl,rfl⟩|⟨rfl,rfl⟩
  ·have hix:∀ w:World,(Instr.index 199 (.agg #[.int .i64 a.place.x,.int .i64 a.place.y,.int .i64 a.above,.int .i64 b.place.x,.int .i64 b.place.y,.int .i64 b.above]) (.int .i64 0)).run Tryz.prog w=.ok (.agg #[.int .i64 a.place.x,.int .i64 a.place.y,.int .i64 a.above]) w:=fun _=>by kernel_rfl
   go_upto_region 11 with (fail)
   clear hix
   have hwa:IntKind.i64.wrap KA=KA:=IntWalk.i64_in _ (by omega)
   obtain⟨r1,hWL1,hbL1,zL1,hkL1⟩:=boxes1 wr #[.int .i64 a.place.x,.int .i64 a.place.y,.int .i64 a.above] 50
   rw[hWL1]
   have bbL1:=btr BR hbL1
   have kdL1:=Lib.hid hkL1
   have bsL1:=hbL1.size
   have kxL1:=bkH KXr hbL1
   clear hWL1 hbL1 hkL1
   have HDR:Hid (∀ W:World,Below r1.heap.size r1 W→(W.cell? ⟨wr.heap.size,0,none⟩=some (.int .i64 a.place.x)∧W.cell? ⟨wr.heap.size,1,none⟩=some (.int .i64 a.place.y)∧W.cell? ⟨wr.heap.size,2,none⟩=some (.int .i64 a.above)∧W.cell? ⟨g,6,none⟩=some (.int .i64 0)∧W.cell? ⟨w.heap.size,0,none⟩=some (.int .i64 t.step)∧W.cell? ⟨w.heap.size,1,none⟩=some (.int .i64 t.width)∧W.cell? ⟨w.heap.size,2,none⟩=some (.int .i64 t.height)∧W.cell? ⟨w.heap.size,3,none⟩=some (.slice a3 t.heights.length c3_)∧W.cell? ⟨w.heap.size,4,none⟩=some (.slice a4 t.clutter.length c4_)∧W.cell? ⟨w.heap.size+1,0,none⟩=some (.int .i64 a.place.x)∧W.cell? ⟨w.heap.size+1,1,none⟩=some (.int .i64 a.place.y)∧W.cell? ⟨w.heap.size+1,2,none⟩=some (.int .i64 a.above)∧W.cell? ⟨w.heap.size+2,0,none⟩=some (.int .i64 b.place.x)∧W.cell? ⟨w.heap.size+2,1,none⟩=some (.int .i64 b.place.y)∧W.cell? ⟨w.heap.size+2,2,none⟩=some (.int .i64 b.above)∧W.cell? ⟨w.heap.size+3,0,none⟩=some (.int .i64 0)∧W.cell? ⟨w.heap.size+3,1,none⟩=some (.int .i64 0)∧W.cell? ⟨w.heap.size+3,2,none⟩=some (.int .i64 0)∧W.cell? ⟨w.heap.size+3,3,none⟩=some (.int .i64 0)∧W.cell? ⟨w.heap.size+3,4,none⟩=some (.int .i64 0)∧W.cell? ⟨w.heap.size+3,5,none⟩=some (.int .i64 0)∧W.cell? ⟨w.heap.size+3,6,none⟩=some (.int .i64 0)∧W.cell? ⟨w.heap.size+3,7,none⟩=some (.int .i64 0)∧W.cell? ⟨w.heap.size+3,8,none⟩=some (.bool false))):=fun W hW=>by
    obtain⟨t0,t1,t2,t3,t4,t5,t6,t7,t8,t9,t10,t11,t12,t13,t14,t15,t16,t17,t18,t19⟩:=HDV.out W (bbL1.out.trans (hW.mono bbL1.out.size))
    exact⟨(bat hW wr.heap.size _ (by omega)).trans (bkC kdL1.out 0 rfl),(bat hW wr.heap.size _ (by omega)).trans (bkC kdL1.out 1 rfl),(bat hW wr.heap.size _ (by omega)).trans (bkC kdL1.out 2 rfl),(bat hW g _ (by omega)).trans (bkC kxL1.out 6 rfl),t0,t1,t2,t3,t4,t5,t6,t7,t8,t9,t10,t11,t12,t13,t14,t15,t16,t17,t18,t19⟩
   refine wp_region_tree2 13 12 (.pure 0 (.read 1 (.read 2 (.pure 3 (.read 4 (.pure 6 (.pure 7 (.read 8 (.one 5 (.one 9 (.pure 10 (.pure 11 (.one 12 .nil))))))))))))) (fun W=>Below r1.heap.size r1 W) (fun W=>Below v1.heap.size v1 W) (by kernel_rfl) (by kernel_rfl) (below_drew1 r1) (bbL1.out.drew) ?_
   have YC:=Lib.hid (below_drew1 r1)
   have YB:=Lib.hid (bbL1.out.drew)
   have Yz:r1.heap.size≤r1.drew.heap.size:=Nat.le_refl _
   have Ykx:Hid (r1.drew.heap[g]? = some (.cells #[.int .i64 DI,.int .i64 BE,.int .i64 EL,.int .i64 FR,.int .i64 GA,.int .i64 DE,.int .i64 0,.int .i64 0,.bool CL] 142 (0,0))):=kxL1.out
   have Ykd:Hid (r1.drew.heap[wr.heap.size]? = some (.cells #[.int .i64 a.place.x,.int .i64 a.place.y,.int .i64 a.above] 50 (0,0))):=kdL1.out
   generalize r1.drew=Y at *
   refine wpT2_pure (v:=?_) rfl (fun _ _ _ h=>h) ?_ ?_
   rotate_left
   ·(intro W hSW2;(go_simp<;>with_reducible rfl))
   (try simp only[Act.put,List.setIfInBounds_toArray,List.set_cons_zero,List.set_cons_succ])
   iterate 2
    refine wpT2_read (v:=?_) rfl (fun _ _ _ h=>h) ?_ ?_
    rotate_left
    ·(intro W hSW2 hSW;(try dsimp only at hSW);obtain⟨d0,d1,d2,dg,t0,t1,t2,t3,t4,t5,t6,t7,t8,t9,t10,t11,t12,t13,t14,t15,t16,t17,t18,t19⟩:=HDR.out W hSW;(go_simp<;>with_reducible rfl))
    (try simp only[Act.put,List.setIfInBounds_toArray,List.set_cons_zero,List.set_cons_succ])
   refine wpT2_pure (v:=?_) rfl (fun _ _ _ h=>h) ?_ ?_
   rotate_left
   ·(intro W hSW2;(go_simp<;>with_reducible rfl))
   (try simp only[Act.put,List.setIfInBounds_toArray,List.set_cons_zero,List.set_cons_succ])
   refine wpT2_read (v:=?_) rfl (fun _ _ _ h=>h) ?_ ?_
   rotate_left
   ·(intro W hSW2 hSW;(try dsimp only at hSW);obtain⟨d0,d1,d2,dg,t0,t1,t2,t3,t4,t5,t6,t7,t8,t9,t10,t11,t12,t13,t14,t15,t16,t17,t18,t19⟩:=HDR.out W hSW;(go_simp<;>with_reducible rfl))
   (try simp only[Act.put,List.setIfInBounds_toArray,List.set_cons_zero,List.set_cons_succ])
   iterate 2
    refine wpT2_pure (v:=?_) rfl (fun _ _ _ h=>h) ?_ ?_
    rotate_left
    ·(intro W hSW2;(go_simp<;>with_reducible rfl))
    (try simp only[Act.put,List.setIfInBounds_toArray,List.set_cons_zero,List.set_cons_succ])
   refine wpT2_read (v:=?_) rfl (fun _ _ _ h=>h) ?_ ?_
   rotate_left
   ·(intro W hSW2 hSW;(try dsimp only at hSW);obtain⟨d0,d1,d2,dg,t0,t1,t2,t3,t4,t5,t6,t7,t8,t9,t10,t11,t12,t13,t14,t15,t16,t17,t18,t19⟩:=HDR.out W hSW;(go_simp<;>with_reducible rfl))
   (try simp only[Act.put,List.setIfInBounds_toArray,List.set_cons_zero,List.set_cons_succ])
   refine wpT2_one false rfl ?_
   refine stepT2_mk rfl (fun K hK=>?_)
   go_simp
   refine ((fun W (hW:Below v1.heap.size v1 W)=>HEa.out.1 W (BV.out.trans (hW.mono BV.out.size))) _ YB.out).mono ?_
   rintro e Y1 ⟨rfl,hb1⟩
   have YB1:=btr YB hb1
   have YC1:=btr YC hb1
   refine hK.out _ _ ⟨YB1.out,fun _=>YC1.out⟩ ?_
   clear hK K
   have bs1:=hb1.size
   have Ykx1:=bkH Ykx hb1
   have Ykd1:=bkH Ykd hb1
   clear hb1
   refine wpT2_one false rfl ?_
   refine stepT2_mk rfl (fun K hK=>?_)
   go_simp
   refine ((fun W (hW:Below v1.heap.size v1 W)=>HEa.out.2 W (BV.out.trans (hW.mono BV.out.size))) _ YB1.out).mono ?_
   rintro e Y2 ⟨rfl,hb2⟩
   have YB2:=btr YB1 hb2
   have YC2:=btr YC1 hb2
   refine hK.out _ _ ⟨YB2.out,fun _=>YC2.out⟩ ?_
   clear hK K
   have bs2:=hb2.size
   have Ykx2:=bkH Ykx1 hb2
   have Ykd2:=bkH Ykd1 hb2
   clear hb2
   iterate 2
    refine wpT2_pure (v:=?_) rfl (fun _ _ _ h=>h) ?_ ?_
    rotate_left
    ·(intro W hSW2;(go_simp<;>with_reducible rfl))
    (try simp only[Act.put,List.setIfInBounds_toArray,List.set_cons_zero,List.set_cons_succ])
   refine wpT2_one true rfl ?_
   refine stepT2_mk rfl (fun K hK=>?_)
   have g0:=bkC (v:=.int .i64 0) Ykx2.out 6 rfl
   have fz:=bkF Ykx2.out
   go_simp
   obtain⟨Y3,hW3,hk3,bs3,ho3,hl3⟩:=stOne Ykx2 6 (.int .i64 KA)
   rw[hW3]
   have Ykx3:Hid (Y3.heap[g]? = some (.cells #[.int .i64 DI,.int .i64 BE,.int .i64 EL,.int .i64 FR,.int .i64 GA,.int .i64 DE,.int .i64 KA,.int .i64 0,.bool CL] 142 (0,0))):=by show _=_;simpa using hk3.out
   clear hk3
   have YB3:=Lib.hid (hl3.out v1 (by have:=YB2.out.size;omega) YB2.out)
   have Ykd3:=Lib.hid ((ho3.out _ (by omega)).trans Ykd2.out)
   refine hK.out _ _ ⟨YB3.out,fun h=>by cases h⟩ ?_
   clear hK K fz hW3 ho3 hl3 g0
   refine wpT2_nil ?_
   simp only[List.drop_succ_cons,List.drop_zero]
   go_wp2
   go_roundw
   case rel=>exact⟨1,KA,Or.inr (Or.inl ⟨rfl,rfl⟩),rfl,Ykx3.out,YB3.out,by omega⟩
   case measure=>simp[intOf]
  ·have hix:∀ w:World,(Instr.index 199 (.agg #[.int .i64 a.place.x,.int .i64 a.place.y,.int .i64 a.above,.int .i64 b.place.x,.int .i64 b.place.y,.int .i64 b.above]) (.int .i64 1)).run Tryz.prog w=.ok (.agg #[.int .i64 b.place.x,.int .i64 b.place.y,.int .i64 b.above]) w:=fun _=>by kernel_rfl
   go_upto_region 11 with (fail)
   clear hix
   have hwa:IntKind.i64.wrap (KA+KB)=(KA+KB):=IntWalk.i64_in _ (by omega)
   obtain⟨r1,hWM1,hbM1,zM1,hkM1⟩:=boxes1 wr #[.int .i64 b.place.x,.int .i64 b.place.y,.int .i64 b.above] 50
   rw[hWM1]
   have bbM1:=btr BR hbM1
   have kdM1:=Lib.hid hkM1
   have bsM1:=hbM1.size
   have kxM1:=bkH KXr hbM1
   clear hWM1 hbM1 hkM1
   have HDR:Hid (∀ W:World,Below r1.heap.size r1 W→(W.cell? ⟨wr.heap.size,0,none⟩=some (.int .i64 b.place.x)∧W.cell? ⟨wr.heap.size,1,none⟩=some (.int .i64 b.place.y)∧W.cell? ⟨wr.heap.size,2,none⟩=some (.int .i64 b.above)∧W.cell? ⟨g,6,none⟩=some (.int .i64 KA)∧W.cell? ⟨w.heap.size,0,none⟩=some (.int .i64 t.step)∧W.cell? ⟨w.heap.size,1,none⟩=some (.int .i64 t.width)∧W.cell? ⟨w.heap.size,2,none⟩=some (.int .i64 t.height)∧W.cell? ⟨w.heap.size,3,none⟩=some (.slice a3 t.heights.length c3_)∧W.cell? ⟨w.heap.size,4,none⟩=some (.slice a4 t.clutter.length c4_)∧W.cell? ⟨w.heap.size+1,0,none⟩=some (.int .i64 a.place.x)∧W.cell? ⟨w.heap.size+1,1,none⟩=some (.int .i64 a.place.y)∧W.cell? ⟨w.heap.size+1,2,none⟩=some (.int .i64 a.above)∧W.cell? ⟨w.heap.size+2,0,none⟩=some (.int .i64 b.place.x)∧W.cell? ⟨w.heap.size+2,1,none⟩=some (.int .i64 b.place.y)∧W.cell? ⟨w.heap.size+2,2,none⟩=some (.int .i64 b.above)∧W.cell? ⟨w.heap.size+3,0,none⟩=some (.int .i64 0)∧W.cell? ⟨w.heap.size+3,1,none⟩=some (.int .i64 0)∧W.cell? ⟨w.heap.size+3,2,none⟩=some (.int .i64 0)∧W.cell? ⟨w.heap.size+3,3,none⟩=some (.int .i64 0)∧W.cell? ⟨w.heap.size+3,4,none⟩=some (.int .i64 0)∧W.cell? ⟨w.heap.size+3,5,none⟩=some (.int .i64 0)∧W.cell? ⟨w.heap.size+3,6,none⟩=some (.int .i64 0)∧W.cell? ⟨w.heap.size+3,7,none⟩=some (.int .i64 0)∧W.cell? ⟨w.heap.size+3,8,none⟩=some (.bool false))):=fun W hW=>by
    obtain⟨t0,t1,t2,t3,t4,t5,t6,t7,t8,t9,t10,t11,t12,t13,t14,t15,t16,t17,t18,t19⟩:=HDV.out W (bbM1.out.trans (hW.mono bbM1.out.size))
    exact⟨(bat hW wr.heap.size _ (by omega)).trans (bkC kdM1.out 0 rfl),(bat hW wr.heap.size _ (by omega)).trans (bkC kdM1.out 1 rfl),(bat hW wr.heap.size _ (by omega)).trans (bkC kdM1.out 2 rfl),(bat hW g _ (by omega)).trans (bkC kxM1.out 6 rfl),t0,t1,t2,t3,t4,t5,t6,t7,t8,t9,t10,t11,t12,t13,t14,t15,t16,t17,t18,t19⟩
   refine wp_region_tree2 13 12 (.pure 0 (.read 1 (.read 2 (.pure 3 (.read 4 (.pure 6 (.pure 7 (.read 8 (.one 5 (.one 9 (.pure 10 (.pure 11 (.one 12 .nil))))))))))))) (fun W=>Below r1.heap.size r1 W) (fun W=>Below v1.heap.size v1 W) (by kernel_rfl) (by kernel_rfl) (below_drew1 r1) (bbM1.out.drew) ?_
   have YC:=Lib.hid (below_drew1 r1)
   have YB:=Lib.hid (bbM1.out.drew)
   have Yz:r1.heap.size≤r1.drew.heap.size:=Nat.le_refl _
   have Ykx:Hid (r1.drew.heap[g]? = some (.cells #[.int .i64 DI,.int .i64 BE,.int .i64 EL,.int .i64 FR,.int .i64 GA,.int .i64 DE,.int .i64 KA,.int .i64 0,.bool CL] 142 (0,0))):=kxM1.out
   have Ykd:Hid (r1.drew.heap[wr.heap.size]? = some (.cells #[.int .i64 b.place.x,.int .i64 b.place.y,.int .i64 b.above] 50 (0,0))):=kdM1.out
   generalize r1.drew=Y at *
   refine wpT2_pure (v:=?_) rfl (fun _ _ _ h=>h) ?_ ?_
   rotate_left
   ·(intro W hSW2;(go_simp<;>with_reducible rfl))
   (try simp only[Act.put,List.setIfInBounds_toArray,List.set_cons_zero,List.set_cons_succ])
   iterate 2
    refine wpT2_read (v:=?_) rfl (fun _ _ _ h=>h) ?_ ?_
    rotate_left
    ·(intro W hSW2 hSW;(try dsimp only at hSW);obtain⟨d0,d1,d2,dg,t0,t1,t2,t3,t4,t5,t6,t7,t8,t9,t10,t11,t12,t13,t14,t15,t16,t17,t18,t19⟩:=HDR.out W hSW;(go_simp<;>with_reducible rfl))
    (try simp only[Act.put,List.setIfInBounds_toArray,List.set_cons_zero,List.set_cons_succ])
   refine wpT2_pure (v:=?_) rfl (fun _ _ _ h=>h) ?_ ?_
   rotate_left
   ·(intro W hSW2;(go_simp<;>with_reducible rfl))
   (try simp only[Act.put,List.setIfInBounds_toArray,List.set_cons_zero,List.set_cons_succ])
   refine wpT2_read (v:=?_) rfl (fun _ _ _ h=>h) ?_ ?_
   rotate_left
   ·(intro W hSW2 hSW;(try dsimp only at hSW);obtain⟨d0,d1,d2,dg,t0,t1,t2,t3,t4,t5,t6,t7,t8,t9,t10,t11,t12,t13,t14,t15,t16,t17,t18,t19⟩:=HDR.out W hSW;(go_simp<;>with_reducible rfl))
   (try simp only[Act.put,List.setIfInBounds_toArray,List.set_cons_zero,List.set_cons_succ])
   iterate 2
    refine wpT2_pure (v:=?_) rfl (fun _ _ _ h=>h) ?_ ?_
    rotate_left
    ·(intro W hSW2;(go_simp<;>with_reducible rfl))
    (try simp only[Act.put,List.setIfInBounds_toArray,List.set_cons_zero,List.set_cons_succ])
   refine wpT2_read (v:=?_) rfl (fun _ _ _ h=>h) ?_ ?_
   rotate_left
   ·(intro W hSW2 hSW;(try dsimp only at hSW);obtain⟨d0,d1,d2,dg,t0,t1,t2,t3,t4,t5,t6,t7,t8,t9,t10,t11,t12,t13,t14,t15,t16,t17,t18,t19⟩:=HDR.out W hSW;(go_simp<;>with_reducible rfl))
   (try simp only[Act.put,List.setIfInBounds_toArray,List.set_cons_zero,List.set_cons_succ])
   refine wpT2_one false rfl ?_
   refine stepT2_mk rfl (fun K hK=>?_)
   go_simp
   refine ((fun W (hW:Below v1.heap.size v1 W)=>HEb.out.1 W (BV.out.trans (hW.mono BV.out.size))) _ YB.out).mono ?_
   rintro e Y1 ⟨rfl,hb1⟩
   have YB1:=btr YB hb1
   have YC1:=btr YC hb1
   refine hK.out _ _ ⟨YB1.out,fun _=>YC1.out⟩ ?_
   clear hK K
   have bs1:=hb1.size
   have Ykx1:=bkH Ykx hb1
   have Ykd1:=bkH Ykd hb1
   clear hb1
   refine wpT2_one false rfl ?_
   refine stepT2_mk rfl (fun K hK=>?_)
   go_simp
   refine ((fun W (hW:Below v1.heap.size v1 W)=>HEb.out.2 W (BV.out.trans (hW.mono BV.out.size))) _ YB1.out).mono ?_
   rintro e Y2 ⟨rfl,hb2⟩
   have YB2:=btr YB1 hb2
   have YC2:=btr YC1 hb2
   refine hK.out _ _ ⟨YB2.out,fun _=>YC2.out⟩ ?_
   clear hK K
   have bs2:=hb2.size
   have Ykx2:=bkH Ykx1 hb2
   have Ykd2:=bkH Ykd1 hb2
   clear hb2
   iterate 2
    refine wpT2_pure (v:=?_) rfl (fun _ _ _ h=>h) ?_ ?_
    rotate_left
    ·(intro W hSW2;(go_simp<;>with_reducible rfl))
    (try simp only[Act.put,List.setIfInBounds_toArray,List.set_cons_zero,List.set_cons_succ])
   refine wpT2_one true rfl ?_
   refine stepT2_mk rfl (fun K hK=>?_)
   have g0:=bkC (v:=.int .i64 KA) Ykx2.out 6 rfl
   have fz:=bkF Ykx2.out
   go_simp
   obtain⟨Y3,hW3,hk3,bs3,ho3,hl3⟩:=stOne Ykx2 6 (.int .i64 (KA+KB))
   rw[hW3]
   have Ykx3:Hid (Y3.heap[g]? = some (.cells #[.int .i64 DI,.int .i64 BE,.int .i64 EL,.int .i64 FR,.int .i64 GA,.int .i64 DE,.int .i64 (KA+KB),.int .i64 0,.bool CL] 142 (0,0))):=by show _=_;simpa using hk3.out
   clear hk3
   have YB3:=Lib.hid (hl3.out v1 (by have:=YB2.out.size;omega) YB2.out)
   have Ykd3:=Lib.hid ((ho3.out _ (by omega)).trans Ykd2.out)
   refine hK.out _ _ ⟨YB3.out,fun h=>by cases h⟩ ?_
   clear hK K fz hW3 ho3 hl3 g0
   refine wpT2_nil ?_
   simp only[List.drop_succ_cons,List.drop_zero]
   go_wp2
   go_roundw
   case rel=>exact⟨2,(KA+KB),Or.inr (Or.inr ⟨rfl,rfl⟩),rfl,Ykx3.out,YB3.out,by omega⟩
   case measure=>simp[intOf]
  ·have hk2:(0:Int)≤2:=by omega
   have x0:=bkC (v:=.int .i64 DI) KXr.out 0 rfl
   have x1:=bkC (v:=.int .i64 BE) KXr.out 1 rfl
   have x2:=bkC (v:=.int .i64 EL) KXr.out 2 rfl
   have x3:=bkC (v:=.int .i64 FR) KXr.out 3 rfl
   have x4:=bkC (v:=.int .i64 GA) KXr.out 4 rfl
   have x5:=bkC (v:=.int .i64 DE) KXr.out 5 rfl
   have x6:=bkC (v:=.int .i64 (KA+KB)) KXr.out 6 rfl
   have x7:=bkC (v:=.int .i64 0) KXr.out 7 rfl
   have x8:=bkC (v:=.bool CL) KXr.out 8 rfl
   have xf:=bkF KXr.out
   go_upto_region 14 with (fail)
   rw[← HPT.out]
   clear x0 x1 x2 x3 x4 x5 x6 x7 x8 xf
   obtain⟨v14,hWR1,hkR1,bsR1,hoR1,hlR1⟩:=stOne KXr 7 (.int .i64 PT)
   rw[hWR1]
   have kxR1:Hid (v14.heap[g]? = some (.cells #[.int .i64 DI,.int .i64 BE,.int .i64 EL,.int .i64 FR,.int .i64 GA,.int .i64 DE,.int .i64 (KA+KB),.int .i64 PT,.bool CL] 142 (0,0))):=by show _=_;simpa using hkR1.out
   clear hkR1
   have bbR1:=Lib.hid (hlR1.out v1 (by have:=BR.out.size;omega) BR.out)
   clear hWR1 hoR1 hlR1
   have x0:=bkC (v:=.int .i64 DI) kxR1.out 0 rfl
   have x1:=bkC (v:=.int .i64 BE) kxR1.out 1 rfl
   have x2:=bkC (v:=.int .i64 EL) kxR1.out 2 rfl
   have x3:=bkC (v:=.int .i64 FR) kxR1.out 3 rfl
   have x4:=bkC (v:=.int .i64 GA) kxR1.out 4 rfl
   have x5:=bkC (v:=.int .i64 DE) kxR1.out 5 rfl
   have x6:=bkC (v:=.int .i64 (KA+KB)) kxR1.out 6 rfl
   have x7:=bkC (v:=.int .i64 PT) kxR1.out 7 rfl
   have x8:=bkC (v:=.bool CL) kxR1.out 8 rfl
   have xf:=bkF kxR1.out
   have BF_:=Lib.hid (BV.out.trans (bbR1.out.mono BV.out.size))
   have KR2:=Lib.hid (bkB KR.out bbR1.out (by omega))
   have r0:=bkC (v:=.int .i64 0) KR2.out 0 rfl
   have r1:=bkC (v:=.int .i64 0) KR2.out 1 rfl
   have r2:=bkC (v:=.int .i64 0) KR2.out 2 rfl
   have r3:=bkC (v:=.int .i64 0) KR2.out 3 rfl
   have r4:=bkC (v:=.int .i64 0) KR2.out 4 rfl
   have r5:=bkC (v:=.int .i64 0) KR2.out 5 rfl
   have r6:=bkC (v:=.int .i64 0) KR2.out 6 rfl
   have r7:=bkC (v:=.int .i64 0) KR2.out 7 rfl
   have r8:=bkC (v:=.bool false) KR2.out 8 rfl
   have rf:=bkF KR2.out
   go_wp2
   refine bodyPost_ret (v:=.agg #[.int .i64 DI,.int .i64 BE,.int .i64 EL,.int .i64 FR,.int .i64 GA,.int .i64 DE,.int .i64 (KA+KB),.int .i64 PT,.bool CL]) (by simp[results,Tryz.results109,go_sem, *]) rfl ⟨CL,rfl,(((((((((BF_.out.setCell (p:=⟨w.heap.size+3,0,none⟩) (by show w.heap.size≤w.heap.size+3;omega) (.int .i64 DI)).setCell (p:=⟨w.heap.size+3,1,none⟩) (by show w.heap.size≤w.heap.size+3;omega) (.int .i64 BE)).setCell (p:=⟨w.heap.size+3,2,none⟩) (by show w.heap.size≤w.heap.size+3;omega) (.int .i64 EL)).setCell (p:=⟨w.heap.size+3,3,none⟩) (by show w.heap.size≤w.heap.size+3;omega) (.int .i64 FR)).setCell (p:=⟨w.heap.size+3,4,none⟩) (by show w.heap.size≤w.heap.size+3;omega) (.int .i64 GA)).setCell (p:=⟨w.heap.size+3,5,none⟩) (by show w.heap.size≤w.heap.size+3;omega) (.int .i64 DE)).setCell (p:=⟨w.heap.size+3,6,none⟩) (by show w.heap.size≤w.heap.size+3;omega) (.int .i64 (KA+KB))).setCell (p:=⟨w.heap.size+3,7,none⟩) (by show w.heap.size≤w.heap.size+3;omega) (.int .i64 PT)).setCell (p:=⟨w.heap.size+3,8,none⟩) (by show w.heap.size≤w.heap.size+3;omega) (.bool CL))⟩
end Go.Proofs.YtdgmgchdjlfchaaGreatDoor
