/- Contracts of the laws' helpers over the type Sector and slices of it. Conditions: bounded lengths. -/
import Derived.Test.YtdgmgchdjlfchaaGreatDoorProb1
import Derived.Test.YtdgmgchdjlfchaaGreatDoorTypes
import Derived.Test.YtdgmgchdjlfchaaGreatDoorText
import Derived.Test.YtdgmgchdjlfchaaGreatDoorOver
namespace Go.Proofs.YtdgmgchdjlfchaaGreatDoor
set_option maxHeartbeats 4000000
set_option maxRecDepth 100000
open Go.RowKit
set_option linter.unusedVariables false
theorem DTerrain.siz_tr (x:DTerrain):sizL x.tr=siz (intsT x.heights)+siz (intsT x.clutter):=by
 simp only[DTerrain.tr,sizL,siz,intT]
 omega
theorem sz_Terrain (x:DTerrain) (v3 v4:Value) (B:Nat) (left:Int) (w:World) (h3:Rd B w (intsT x.heights) v3) (h4:Rd B w (intsT x.clutter) v4) (hB:B≤w.heap.size) (hl:0≤left) (hl2:left≤1048576) (hok:x.ok) :
  Calls Tryz.prog 7 #[.agg #[.int .i64 x.step,.int .i64 x.width,.int .i64 x.height,v3,v4],.int .i64 left] w (SzPost (sizL x.tr) left w):=by
 have hsum:=DTerrain.siz_tr x
 have b0:Below w.heap.size w (w.alloc (.cells #[.int .i64 x.step,.int .i64 x.width,.int .i64 x.height,v3,v4] 24)):=(Below.refl _ _).alloc (Nat.le_refl _) _
 have B0:=Lib.hid b0
 have z0:w.heap.size≤(w.alloc (.cells #[.int .i64 x.step,.int .i64 x.width,.int .i64 x.height,v3,v4] 24)).heap.size:=b0.size
 have y0:w.heap.size<(w.alloc (.cells #[.int .i64 x.step,.int .i64 x.width,.int .i64 x.height,v3,v4] 24)).heap.size:=by simp
 have R0_3:=Lib.hid (h3.below (b0.mono hB))
 have R0_4:=Lib.hid (h4.below (b0.mono hB))
 clear b0 h3 h4
 go_enter Tryz.func7,Tryz.ntmps7
 go_wp2_with fail
 refine (sz_Int64S x.heights v3 B _ _ R0_3.out (by omega) (by omega) (by omega)).mono ?_
 rintro e w1 ⟨⟨c0,rfl⟩|⟨c0,rfl⟩,hb1⟩
 case inr =>
  go_wp2
  go_ret
  exact⟨Or.inr ⟨by omega,rfl⟩,B0.out.trans (hb1.mono z0)⟩
 obtain⟨q1,_,y1⟩:=bcellAt hb1 (b:=w.heap.size) y0
 have z1:w.heap.size≤w1.heap.size:=by omega
 have B1:=Lib.hid (B0.out.trans (hb1.mono z0))
 have R1_3:=Lib.hid (R0_3.out.below (hb1.mono (by omega)))
 have R1_4:=Lib.hid (R0_4.out.below (hb1.mono (by omega)))
 clear hb1
 have d0:decide (left-(siz (intsT x.heights):Int)<0)=false:=by simp<;>omega
 go_wp2_with fail
 refine (sz_Int64S x.clutter v4 B _ _ R1_4.out (by omega) (by omega) (by omega)).mono ?_
 rintro e w2 ⟨⟨c1,rfl⟩|⟨c1,rfl⟩,hb2⟩
 case inr =>
  go_wp2
  go_ret
  exact⟨Or.inr ⟨by omega,rfl⟩,B1.out.trans (hb2.mono z1)⟩
 obtain⟨q2,_,y2⟩:=bcellAt hb2 (b:=w.heap.size) y1
 have z2:w.heap.size≤w2.heap.size:=by omega
 have B2:=Lib.hid (B1.out.trans (hb2.mono z1))
 have R2_3:=Lib.hid (R1_3.out.below (hb2.mono (by omega)))
 have R2_4:=Lib.hid (R1_4.out.below (hb2.mono (by omega)))
 clear hb2
 have d1:decide (left-(siz (intsT x.heights):Int)-(siz (intsT x.clutter):Int)<0)=false:=by simp<;>omega
 go_wp2
 go_ret
 exact⟨Or.inl ⟨by omega,ret_int (by omega)⟩,B2.out⟩
theorem to_Terrain (x:DTerrain) (v3 v4:Value) (w:World) (h3:Rd w.heap.size w (intsT x.heights) v3) (h4:Rd w.heap.size w (intsT x.clutter) v4) (hn:sizL x.tr≤1048576) :
  Calls Tryz.prog 10 #[.agg #[.int .i64 x.step,.int .i64 x.width,.int .i64 x.height,v3,v4]] w fun e w'=>∃ a3 c3 a4 c4 fp,e=.returned (.agg #[.int .i64 x.step,.int .i64 x.width,.int .i64 x.height,.slice a3 x.heights.length c3,.slice a4 x.clutter.length c4])∧Below w.heap.size w w'∧OwnV w' x.tr [.int .i64 x.step,.int .i64 x.width,.int .i64 x.height,.slice a3 x.heights.length c3,.slice a4 x.clutter.length c4] fp∧In w.heap.size w'.heap.size fp:=by
 have hsum:=DTerrain.siz_tr x
 go_enter Tryz.func10,Tryz.ntmps10
 have bX0:Below w.heap.size w (((w.alloc (.cells #[.int .i64 x.step,.int .i64 x.width,.int .i64 x.height,v3,v4] 24)).alloc (.cells #[.int .i64 0,.int .i64 0,.int .i64 0,.slice none 0 0,.slice none 0 0] 39)).alloc (.cells #[.int .i64 x.step,.int .i64 x.width,.int .i64 x.height,.slice none 0 0,.slice none 0 0] 39)):=(((Below.refl _ _).alloc (Nat.le_refl _) _).alloc (by simp) _).alloc (by first|(simp;done)|(simp<;>omega)) _
 have BX0:=Lib.hid bX0
 have zX0:w.heap.size+3≤(((w.alloc (.cells #[.int .i64 x.step,.int .i64 x.width,.int .i64 x.height,v3,v4] 24)).alloc (.cells #[.int .i64 0,.int .i64 0,.int .i64 0,.slice none 0 0,.slice none 0 0] 39)).alloc (.cells #[.int .i64 x.step,.int .i64 x.width,.int .i64 x.height,.slice none 0 0,.slice none 0 0] 39)).heap.size:=by first|(simp;done)|(simp<;>omega)
 clear bX0
 go_wp2_with fail
 refine (to_Int64S x.heights v3 (((w.alloc (.cells #[.int .i64 x.step,.int .i64 x.width,.int .i64 x.height,v3,v4] 24)).alloc (.cells #[.int .i64 0,.int .i64 0,.int .i64 0,.slice none 0 0,.slice none 0 0] 39)).alloc (.cells #[.int .i64 x.step,.int .i64 x.width,.int .i64 x.height,.slice none 0 0,.slice none 0 0] 39)) ((h3.below BX0.out).mono (by omega)) (by omega)).mono ?_
 rintro e w1 ⟨a3,c3,fp1,rfl,hb1,o1,i1⟩
 obtain⟨qa1,_,ya1⟩:=bcellAt hb1 (b:=w.heap.size) (by omega)
 obtain⟨qb1,qf1,yb1⟩:=bcellAt hb1 (b:=w.heap.size+1) (by omega)
 obtain⟨qc1,qg1,yc1⟩:=bcellAt hb1 (b:=w.heap.size+1+1) (by omega)
 have z1:=hb1.size
 have B1:=Lib.hid (BX0.out.trans (hb1.mono (by omega)))
 have y1:w.heap.size+3≤w1.heap.size:=by omega
 have j1:In (w.heap.size+3) w1.heap.size fp1:=i1.mono (by omega) (Nat.le_refl _)
 have P1_1:=Lib.hid o1
 clear hb1 o1 i1
 have BX1:=Lib.hid (B1.out.setCell (p:=⟨w.heap.size+1+1,3,none⟩) (by show w.heap.size≤w.heap.size+1+1;omega) (.slice a3 x.heights.length c3))
 have zX1:w.heap.size+3≤((w1.setCell ⟨w.heap.size+1+1,3,none⟩ (.slice a3 x.heights.length c3))).heap.size:=by simp only[size_setCell];omega
 go_wp2_with fail
 refine (to_Int64S x.clutter v4 ((w1.setCell ⟨w.heap.size+1+1,3,none⟩ (.slice a3 x.heights.length c3))) ((h4.below BX1.out).mono (by omega)) (by omega)).mono ?_
 rintro e w2 ⟨a4,c4,fp2,rfl,hb2,o2,i2⟩
 obtain⟨qa2,_,ya2⟩:=bcellAt hb2 (b:=w.heap.size) (by omega)
 obtain⟨qb2,qf2,yb2⟩:=bcellAt hb2 (b:=w.heap.size+1) (by omega)
 obtain⟨qc2,qg2,yc2⟩:=bcellAt hb2 (b:=w.heap.size+1+1) (by omega)
 have z2:=hb2.size
 simp only[size_setCell] at z2
 have B2:=Lib.hid (BX1.out.trans (hb2.mono (by omega)))
 have y2:w.heap.size+3≤w2.heap.size:=by omega
 have P1_2:=Lib.hid ((P1_1.out.setFar (p:=⟨w.heap.size+1+1,3,none⟩) (fun e=>by have:=(j1 _ e).1;simp only at this;omega) (.slice a3 x.heights.length c3)).below j1 (by first|omega|(simp only[size_setCell];omega)) hb2)
 have j2:In (w1.heap.size) w2.heap.size fp2:=i2.mono (by simp only[size_setCell];omega) (Nat.le_refl _)
 have P2_2:=Lib.hid o2
 clear hb2 o2 i2
 go_wp2
 have F1:=Lib.hid ((((((P1_2.out.setFar (p:=⟨w.heap.size+1+1,4,none⟩) (fun e=>by have:=(j1 _ e).1;simp only at this;omega) (.slice a4 x.clutter.length c4)).setFar (p:=⟨w.heap.size+1,0,none⟩) (fun e=>by have:=(j1 _ e).1;simp only at this;omega) (.int .i64 x.step)).setFar (p:=⟨w.heap.size+1,1,none⟩) (fun e=>by have:=(j1 _ e).1;simp only at this;omega) (.int .i64 x.width)).setFar (p:=⟨w.heap.size+1,2,none⟩) (fun e=>by have:=(j1 _ e).1;simp only at this;omega) (.int .i64 x.height)).setFar (p:=⟨w.heap.size+1,3,none⟩) (fun e=>by have:=(j1 _ e).1;simp only at this;omega) (.slice a3 x.heights.length c3)).setFar (p:=⟨w.heap.size+1,4,none⟩) (fun e=>by have:=(j1 _ e).1;simp only at this;omega) (.slice a4 x.clutter.length c4))
 have F2:=Lib.hid ((((((P2_2.out.setFar (p:=⟨w.heap.size+1+1,4,none⟩) (fun e=>by have:=(j2 _ e).1;simp only at this;omega) (.slice a4 x.clutter.length c4)).setFar (p:=⟨w.heap.size+1,0,none⟩) (fun e=>by have:=(j2 _ e).1;simp only at this;omega) (.int .i64 x.step)).setFar (p:=⟨w.heap.size+1,1,none⟩) (fun e=>by have:=(j2 _ e).1;simp only at this;omega) (.int .i64 x.width)).setFar (p:=⟨w.heap.size+1,2,none⟩) (fun e=>by have:=(j2 _ e).1;simp only at this;omega) (.int .i64 x.height)).setFar (p:=⟨w.heap.size+1,3,none⟩) (fun e=>by have:=(j2 _ e).1;simp only at this;omega) (.slice a3 x.heights.length c3)).setFar (p:=⟨w.heap.size+1,4,none⟩) (fun e=>by have:=(j2 _ e).1;simp only at this;omega) (.slice a4 x.clutter.length c4))
 have BF:=Lib.hid ((((((B2.out.setCell (p:=⟨w.heap.size+1+1,4,none⟩) (by show w.heap.size≤w.heap.size+1+1;omega) (.slice a4 x.clutter.length c4)).setCell (p:=⟨w.heap.size+1,0,none⟩) (by show w.heap.size≤w.heap.size+1;omega) (.int .i64 x.step)).setCell (p:=⟨w.heap.size+1,1,none⟩) (by show w.heap.size≤w.heap.size+1;omega) (.int .i64 x.width)).setCell (p:=⟨w.heap.size+1,2,none⟩) (by show w.heap.size≤w.heap.size+1;omega) (.int .i64 x.height)).setCell (p:=⟨w.heap.size+1,3,none⟩) (by show w.heap.size≤w.heap.size+1;omega) (.slice a3 x.heights.length c3)).setCell (p:=⟨w.heap.size+1,4,none⟩) (by show w.heap.size≤w.heap.size+1;omega) (.slice a4 x.clutter.length c4))
 refine bodyPost_ret (v:=.agg #[.int .i64 x.step,.int .i64 x.width,.int .i64 x.height,.slice a3 x.heights.length c3,.slice a4 x.clutter.length c4]) (by simp[results,Tryz.results10,go_sem, *]) rfl ⟨a3,c3,a4,c4,fp1++(fp2++[]),rfl,BF.out,?_,?_⟩
 ·exact (OwnV.consLit (OwnV.consLit (OwnV.consLit (OwnV.cons F1.out (OwnV.cons F2.out OwnV.nil (fun x hx e=>by have h1:=j2 x hx;simp at e)) (fun x hx e=>by have h1:=j1 x hx;simp only[List.mem_append,List.not_mem_nil,or_false] at e;have h2:=j2 x e;omega)) rfl) rfl) rfl)
 ·simp only[size_setCell]
  exact ((j1.mono (by omega) (by omega)).append ((j2.mono (by omega) (by omega)).append In.nil))
theorem eq_Terrain (x:DTerrain) (v3 u3 v4 u4:Value) (B:Nat) (w:World) (h3:Rd B w (intsT x.heights) v3) (g3:Rd B w (intsT x.heights) u3) (h4:Rd B w (intsT x.clutter) v4) (g4:Rd B w (intsT x.clutter) u4) (hB:B≤w.heap.size) (hn:sizL x.tr≤1099511627776) :
  Calls Tryz.prog 14 #[.agg #[.int .i64 x.step,.int .i64 x.width,.int .i64 x.height,v3,v4],.agg #[.int .i64 x.step,.int .i64 x.width,.int .i64 x.height,u3,u4]] w fun e w'=>e=.returned (.bool true)∧Below w.heap.size w w':=by
 have hsum:=DTerrain.siz_tr x
 have b0:Below w.heap.size w ((w.alloc (.cells #[.int .i64 x.step,.int .i64 x.width,.int .i64 x.height,v3,v4] 39)).alloc (.cells #[.int .i64 x.step,.int .i64 x.width,.int .i64 x.height,u3,u4] 39)):=((Below.refl _ _).alloc (Nat.le_refl _) _).alloc (by simp) _
 have B0:=Lib.hid b0
 have y0:w.heap.size+2≤((w.alloc (.cells #[.int .i64 x.step,.int .i64 x.width,.int .i64 x.height,v3,v4] 39)).alloc (.cells #[.int .i64 x.step,.int .i64 x.width,.int .i64 x.height,u3,u4] 39)).heap.size:=by first|(simp;done)|(simp<;>omega)
 clear b0
 go_enter Tryz.func14,Tryz.ntmps14
 go_wp2_with fail
 refine (eq_Int64S x.heights v3 u3 B _ (h3.below (B0.out.mono hB)) (g3.below (B0.out.mono hB)) (by omega) (by omega)).mono ?_
 rintro e w1 ⟨rfl,hb1⟩
 obtain⟨qa1,_,ya1⟩:=bcellAt hb1 (b:=w.heap.size) (by omega)
 obtain⟨qb1,_,yb1⟩:=bcellAt hb1 (b:=w.heap.size+1) (by omega)
 have y1:w.heap.size+2≤w1.heap.size:=by have:=hb1.size;omega
 have B1:=Lib.hid (B0.out.trans (hb1.mono (by omega)))
 clear hb1
 go_wp2_with fail
 refine (eq_Int64S x.clutter v4 u4 B _ (h4.below (B1.out.mono hB)) (g4.below (B1.out.mono hB)) (by omega) (by omega)).mono ?_
 rintro e w2 ⟨rfl,hb2⟩
 obtain⟨qa2,_,ya2⟩:=bcellAt hb2 (b:=w.heap.size) (by omega)
 obtain⟨qb2,_,yb2⟩:=bcellAt hb2 (b:=w.heap.size+1) (by omega)
 have y2:w.heap.size+2≤w2.heap.size:=by have:=hb2.size;omega
 have B2:=Lib.hid (B1.out.trans (hb2.mono (by omega)))
 clear hb2
 go_wp2
 go_ret
 exact⟨rfl,B2.out⟩
end Go.Proofs.YtdgmgchdjlfchaaGreatDoor
namespace Go.Proofs.YtdgmgchdjlfchaaGreatDoor
set_option maxHeartbeats 2000000
set_option maxRecDepth 100000
open Go.RowKit
set_option linter.unusedVariables false
theorem DSector.siz_tr (x:DSector):sizL x.tr=x.name.size+x.site.size+x.antenna.size+x.radio.size+x.band.size:=by simp[DSector.tr,sizL,siz,intT,strT]<;>omega
theorem sz_Sector (x:DSector) (B:Nat) (left:Int) (w:World) (hB:B≤w.heap.size) (hl:0≤left) (hl2:left≤1048576) (hok:x.ok) :
  Calls Tryz.prog 83 #[.agg #[.string x.name,.string x.site,.string x.antenna,.string x.radio,.string x.band,.int .i64 x.azimuth,.int .i64 x.tilt,.int .i64 x.above,.int .i64 x.channel],.int .i64 left] w (SzPost (sizL x.tr) left w):=by
 rw[DSector.siz_tr]
 have hs0:=hok.name
 have hs1:=hok.site
 have hs2:=hok.antenna
 have hs3:=hok.radio
 have hs4:=hok.band
 unfold maxLen at hs0 hs1 hs2 hs3 hs4
 clear hok
 go_enter Tryz.func83,Tryz.ntmps83
 go_wp2
 all_goals go_ret
 all_goals first|exact⟨Or.inl ⟨by omega,ret_int (by omega)⟩,(Below.refl _ _).alloc (Nat.le_refl _) _⟩|exact⟨Or.inr ⟨by omega,rfl⟩,(Below.refl _ _).alloc (Nat.le_refl _) _⟩
theorem to_Sector (x:DSector) (w:World) :
  Calls Tryz.prog 96 #[.agg #[.string x.name,.string x.site,.string x.antenna,.string x.radio,.string x.band,.int .i64 x.azimuth,.int .i64 x.tilt,.int .i64 x.above,.int .i64 x.channel]] w fun e w'=>e=.returned (.agg #[.string x.name,.string x.site,.string x.antenna,.string x.radio,.string x.band,.int .i64 x.azimuth,.int .i64 x.tilt,.int .i64 x.above,.int .i64 x.channel])∧Below w.heap.size w w':=by
 go_enter Tryz.func96,Tryz.ntmps96
 go_wp2
 exact bodyPost_ret (v:=.agg #[.string x.name,.string x.site,.string x.antenna,.string x.radio,.string x.band,.int .i64 x.azimuth,.int .i64 x.tilt,.int .i64 x.above,.int .i64 x.channel]) (by simp[results,Tryz.results96,go_sem]) rfl ⟨rfl,(((Below.refl _ _).alloc (Nat.le_refl _) _).alloc (by simp) _).alloc (by simp<;>omega) _⟩
theorem eq_Sector (x:DSector) (w:World) :
  Calls Tryz.prog 112 #[.agg #[.string x.name,.string x.site,.string x.antenna,.string x.radio,.string x.band,.int .i64 x.azimuth,.int .i64 x.tilt,.int .i64 x.above,.int .i64 x.channel],.agg #[.string x.name,.string x.site,.string x.antenna,.string x.radio,.string x.band,.int .i64 x.azimuth,.int .i64 x.tilt,.int .i64 x.above,.int .i64 x.channel]] w fun e w'=>e=.returned (.bool true)∧Below w.heap.size w w':=by
 go_enter Tryz.func112,Tryz.ntmps112
 go_wp2
 go_ret
 exact⟨rfl,((Below.refl _ _).alloc (Nat.le_refl _) _).alloc (by simp) _⟩
theorem DSector.siz_s (l:List DSector):siz (DSector.sT l)=l.length+sizL (l.flatMap DSector.tr):=siz_flat DSector.tr 9 (by decide) DSector.tr_len l
theorem sz_SectorS (l:List DSector) (v:Value) (B:Nat) (left:Int) (w:World) (h:Rd B w (DSector.sT l) v) (hB:B≤w.heap.size) (hl:0≤left) (hl2:left≤1048576) (hstr:∀ x ∈ l,x.ok) :
  Calls Tryz.prog 36 #[v,.int .i64 left] w (SzPost (siz (DSector.sT l)) left w):=by
 rw[DSector.siz_s]
 obtain⟨a,c,rfl,hnc,hcm,hcells⟩:=DSector.rd h
 clear h
 unfold maxLen at hcm
 by_cases c1:(l.length:Int)≤left
 ·have c1':decide (left-(l.length:Int)<0)=false:=by simp<;>omega
  go_enter Tryz.func36,Tryz.ntmps36
  go_wp2
  go_loopw [1,5] (fun m i wr=>∃ (k:Nat),k≤l.length∧i=.int .i64 k∧(sizL ((l.take k).flatMap DSector.tr):Int)≤left-l.length∧m=.int .i64 (left-l.length-sizL ((l.take k).flatMap DSector.tr))∧Below w.heap.size w wr) (fun _ i wr=>l.length-(intOf i).toNat)
  case atStart=>exact⟨0,Nat.zero_le _,rfl,by simp[sizL];omega,by simp[sizL],Below.refl _ _⟩
  case round =>
   obtain⟨k,hk,rfl,hm,rfl,hb⟩:=hrel
   by_cases hlt:k<l.length
   ·obtain⟨b,off,rfl,hbl,hat⟩:=hcells (by omega)
    obtain⟨s0,s1,s2,s3,s4,s5,s6,s7,s8⟩:=hat k hlt
    rw[← hb.cell (p:=⟨b,_,none⟩) (show b<w.heap.size by omega)] at s0 s1 s2 s3 s4 s5 s6 s7 s8
    have hB':B≤wr.heap.size:=by have:=hb.size;omega
    have hok:=hstr l[k] (List.getElem_mem hlt)
    have hsum:=sizL_take_succ DSector.tr l k hlt
    have hle:=sizL_take_le DSector.tr l (k+1)
    have HS:=Lib.hid hsum
    have HB:=Lib.hid hb
    clear hcells hat hb hsum hstr
    go_wp2_with (go_at_call 83;refine (sz_Sector l[k]  B _ _  hB' (by omega) (by omega) hok).mono ?_;rintro e w1 ⟨⟨c2,rfl⟩|⟨c2,rfl⟩,hb1⟩)
    ·have c3:decide (left-l.length-sizL ((l.take k).flatMap DSector.tr)-sizL l[k].tr<0)=false:=by simp<;>omega
     go_wp2
     go_roundw
     case rel=>exact⟨k+1,by omega,by go_num,by rw[HS.out];omega,by rw[HS.out];go_num,HB.out.trans (hb1.mono HB.out.size)⟩
     case measure=>simp[intOf];omega
    ·go_wp2
     go_ret
     exact⟨Or.inr ⟨by have:=HS.out;omega,rfl⟩,HB.out.trans (hb1.mono HB.out.size)⟩
   ·obtain rfl:k=l.length:=by omega
    clear hcells
    rw[List.take_length] at hm
    go_wp2
    go_ret
    refine⟨Or.inl ⟨by omega,ret_int ?_⟩,hb⟩
    simp only[List.take_length]
    omega
 ·have c1':decide (left-(l.length:Int)<0)=true:=by simp<;>omega
  go_enter Tryz.func36,Tryz.ntmps36
  go_wp2
  go_ret
  exact⟨Or.inr ⟨by omega,rfl⟩,Below.refl _ _⟩
theorem infoSector:(Tryz.prog.info? 102).map (fun i=>(i.zero,i.size,i.bytes))=some (some (.agg #[.string ⟨#[]⟩,.string ⟨#[]⟩,.string ⟨#[]⟩,.string ⟨#[]⟩,.string ⟨#[]⟩,.int .i64 0,.int .i64 0,.int .i64 0,.int .i64 0]),9,112):=by kernel_rfl
theorem to_SectorS (l:List DSector) (v:Value) (w:World) (h:Rd w.heap.size w (DSector.sT l) v) (hn:siz (DSector.sT l)≤1048576) :
  Calls Tryz.prog 49 #[v] w fun e w'=>∃ a' c' fp,e=.returned (.slice a' l.length c')∧Below w.heap.size w w'∧Own w' (DSector.sT l) (.slice a' l.length c') fp∧In w.heap.size w'.heap.size fp:=by
 rw[DSector.siz_s] at hn
 obtain⟨i0,hi0,hz0,hz1,hz2⟩:=info_parts infoSector
 have hmk:=fun W=>run_make_rowN (P:=Tryz.prog) 42 102 i0 _ Tryz.underlying42 hi0 hz0 .i64 .i64 l.length l.length (Nat.le_refl _) (by rw[hz2];omega) (by omega) W
 rw[hz1] at hmk
 have hnb:(l.length:Int)≤1048576:=by omega
 obtain⟨a,c,rfl,hnc,hcm,hcells⟩:=DSector.rd h
 clear h
 go_enter Tryz.func49,Tryz.ntmps49
 go_wp2
 clear hmk hi0 hz0 hz1 hz2
 go_loopw [4] (fun i wr=>∃ (k:Nat) (f:List Nat),k≤l.length∧i=.int .i64 k∧Below w.heap.size w wr∧Fill wr w.heap.size 102 (l.length*9) ((l.take k).flatMap DSector.tr) f∧In w.heap.size wr.heap.size f) (fun i wr=>l.length-(intOf i).toNat)
 case atStart =>
  have hst:=Fill.start w (madeCells #[.string ⟨#[]⟩,.string ⟨#[]⟩,.string ⟨#[]⟩,.string ⟨#[]⟩,.string ⟨#[]⟩,.int .i64 0,.int .i64 0,.int .i64 0,.int .i64 0] (l.length*9)) 102
  rw[size_madeCells] at hst
  exact⟨0,[],Nat.zero_le _,rfl,(Below.refl _ _).alloc (Nat.le_refl _) _,by simpa using hst,In.nil⟩
 case round =>
  obtain⟨k,f,hk,rfl,hb,hfill,hin⟩:=hrel
  by_cases hlt:k<l.length
  ·obtain⟨b,off,rfl,hbl,hat⟩:=hcells (by omega)
   obtain⟨s0,s1,s2,s3,s4,s5,s6,s7,s8⟩:=hat k hlt
   rw[← hb.cell (p:=⟨b,_,none⟩) hbl] at s0 s1 s2 s3 s4 s5 s6 s7 s8
   have hz:=hfill.lt
   have hz2:b<wr.heap.size:=by omega
   obtain⟨o0,p0⟩:=hfill.room (k*9) (by omega)
   obtain⟨o1,p1⟩:=hfill.room (k*9+1) (by omega)
   obtain⟨o2,p2⟩:=hfill.room (k*9+2) (by omega)
   obtain⟨o3,p3⟩:=hfill.room (k*9+3) (by omega)
   obtain⟨o4,p4⟩:=hfill.room (k*9+4) (by omega)
   obtain⟨o5,p5⟩:=hfill.room (k*9+5) (by omega)
   obtain⟨o6,p6⟩:=hfill.room (k*9+6) (by omega)
   obtain⟨o7,p7⟩:=hfill.room (k*9+7) (by omega)
   obtain⟨o8,p8⟩:=hfill.room (k*9+8) (by omega)
   have hfz:=hfill.open_
   have hsl:=sizL_get_le DSector.tr l k hlt
   have HB:=Lib.hid hb
   clear hcells hat hb
   go_wp2_with (go_at_call 96;refine (to_Sector l[k] _).mono ?_;rintro e w1 ⟨rfl,hb1⟩;obtain⟨q1,q2⟩:=bcell hb1)
   go_roundw
   case rel =>
    have hw1:=hfill.below hin hb1
    have hst:=hw1.step (us:=l[k].tr) (vs:=[.string l[k].name,.string l[k].site,.string l[k].antenna,.string l[k].radio,.string l[k].band,.int .i64 l[k].azimuth,.int .i64 l[k].tilt,.int .i64 l[k].above,.int .i64 l[k].channel]) (g:=[]) (RepV.lits [.string l[k].name,.string l[k].site,.string l[k].antenna,.string l[k].radio,.string l[k].band,.int .i64 l[k].azimuth,.int .i64 l[k].tilt,.int .i64 l[k].above,.int .i64 l[k].channel]) (by rw[flat_length _ 9 DSector.tr_len];simp<;>omega) List.nodup_nil (by simp) (by simp) (fun b h=>by simp at h)
    rw[flat_length _ 9 DSector.tr_len,List.length_take,Nat.min_eq_left hk,List.append_nil,← flat_take_succ DSector.tr l k hlt] at hst
    exact⟨k+1,f,by omega,by go_num,below_setRow (HB.out.trans (hb1.mono (by omega))) (Nat.le_refl _) [.string l[k].name,.string l[k].site,.string l[k].antenna,.string l[k].radio,.string l[k].band,.int .i64 l[k].azimuth,.int .i64 l[k].tilt,.int .i64 l[k].above,.int .i64 l[k].channel] (k*9),hst,fun x hx=>⟨(hin x hx).1,by have:=(hin x hx).2;have:=hb1.size;simp only[size_setCell];omega⟩⟩
   case measure=>simp[intOf];omega
  ·obtain rfl:k=l.length:=by omega
   clear hcells
   go_wp2
   go_ret
   rw[List.take_length] at hfill
   obtain⟨fp,h1,h2⟩:=hfill.own (flat_length _ 9 DSector.tr_len l) (by unfold maxLen;omega)
   exact⟨_,_,fp,rfl,hb,h1,fun x hx=>by rcases h2 x hx with rfl|h;exact⟨Nat.le_refl _,hfill.lt⟩;exact hin x h⟩
theorem eq_SectorS (l:List DSector) (v v':Value) (B:Nat) (w:World) (h:Rd B w (DSector.sT l) v) (h':Rd B w (DSector.sT l) v') (hB:B≤w.heap.size) (hn:siz (DSector.sT l)≤1099511627776) :
  Calls Tryz.prog 62 #[v,v'] w fun e w'=>e=.returned (.bool true)∧Below w.heap.size w w':=by
 rw[DSector.siz_s] at hn
 have hnb:(l.length:Int)≤1099511627776:=by omega
 obtain⟨a,c,rfl,hnc,hcm,hcells⟩:=DSector.rd h
 obtain⟨a',c',rfl,hnc',hcm',hcells'⟩:=DSector.rd h'
 clear h h'
 have hne:((l.length:Int) != l.length)=false:=by simp
 go_enter Tryz.func62,Tryz.ntmps62
 go_wp2
 clear hne
 go_loopw [5] (fun i wr=>∃ (k:Nat),k≤l.length∧i=.int .i64 k∧Below w.heap.size w wr) (fun i wr=>l.length-(intOf i).toNat)
 case atStart=>exact⟨0,Nat.zero_le _,rfl,Below.refl _ _⟩
 case round =>
  obtain⟨k,hk,rfl,hb⟩:=hrel
  by_cases hlt:k<l.length
  ·obtain⟨b,off,rfl,hbl,hat⟩:=hcells (by omega)
   obtain⟨b',off',rfl,hbl',hat'⟩:=hcells' (by omega)
   obtain⟨s0,s1,s2,s3,s4,s5,s6,s7,s8⟩:=hat k hlt
   obtain⟨sb0,sb1,sb2,sb3,sb4,sb5,sb6,sb7,sb8⟩:=hat' k hlt
   rw[← hb.cell (p:=⟨b,_,none⟩) (show b<w.heap.size by omega)] at s0 s1 s2 s3 s4 s5 s6 s7 s8
   rw[← hb.cell (p:=⟨b',_,none⟩) (show b' < w.heap.size by omega)] at sb0 sb1 sb2 sb3 sb4 sb5 sb6 sb7 sb8
   have hB':B≤wr.heap.size:=by have:=hb.size;omega
   have hsl:=sizL_get_le DSector.tr l k hlt
   have i1:(0:Int)≤(k:Int):=by omega
   have i2:(k:Int)<(l.length:Int):=by omega
   have HB:=Lib.hid hb
   clear hcells hat hcells' hat' hb
   go_wp2
   go_still_tail 8,(by kernel_rfl)
   change wpList _ _ _ _ _ wr.drew
   go_wp2_with (go_at_call 112;refine (eq_Sector l[k]   _  ).mono ?_;rintro e w1 ⟨rfl,hb1⟩)
   go_roundw
   case rel=>exact⟨k+1,by omega,by go_num,HB.out.drew.trans (hb1.mono HB.out.size)⟩
   case measure=>simp[intOf];omega
  ·obtain rfl:k=l.length:=by omega
   clear hcells hcells'
   go_wp2
   go_ret
   exact⟨rfl,hb⟩
end Go.Proofs.YtdgmgchdjlfchaaGreatDoor
