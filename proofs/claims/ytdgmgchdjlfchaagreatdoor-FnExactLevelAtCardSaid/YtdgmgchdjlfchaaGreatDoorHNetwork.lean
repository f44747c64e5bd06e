/- Contracts of the laws' helpers over the type Network and slices of it. Conditions: bounded lengths. -/
import Derived.Test.YtdgmgchdjlfchaaGreatDoorProb1
import Derived.Test.YtdgmgchdjlfchaaGreatDoorTypes
import Derived.Test.YtdgmgchdjlfchaaGreatDoorText
import Derived.Test.YtdgmgchdjlfchaaGreatDoorOver
import Derived.Test.YtdgmgchdjlfchaaGreatDoorHEnd
import Derived.Test.YtdgmgchdjlfchaaGreatDoorHSector
namespace Go.Proofs.YtdgmgchdjlfchaaGreatDoor
set_option maxHeartbeats 4000000
set_option maxRecDepth 100000
open Go.RowKit
set_option linter.unusedVariables false
theorem DRadio.siz_tr (x:DRadio):sizL x.tr=x.name.size+siz (DMode.sT x.modes):=by
 simp only[DRadio.tr,sizL,siz,intT,strT]
 omega
theorem sz_Radio (x:DRadio) (v5:Value) (B:Nat) (left:Int) (w:World) (h5:Rd B w (DMode.sT x.modes) v5) (hB:B≤w.heap.size) (hl:0≤left) (hl2:left≤1048576) (hok:x.ok) :
  Calls Tryz.prog 85 #[.agg #[.string x.name,.int .i64 x.power,.int .i64 x.feeder,.int .i64 x.noise,.int .i64 x.width,v5],.int .i64 left] w (SzPost (sizL x.tr) left w):=by
 have hsum:=DRadio.siz_tr x
 have b0:Below w.heap.size w (w.alloc (.cells #[.string x.name,.int .i64 x.power,.int .i64 x.feeder,.int .i64 x.noise,.int .i64 x.width,v5] 133)):=(Below.refl _ _).alloc (Nat.le_refl _) _
 have B0:=Lib.hid b0
 have z0:w.heap.size≤(w.alloc (.cells #[.string x.name,.int .i64 x.power,.int .i64 x.feeder,.int .i64 x.noise,.int .i64 x.width,v5] 133)).heap.size:=b0.size
 have y0:w.heap.size<(w.alloc (.cells #[.string x.name,.int .i64 x.power,.int .i64 x.feeder,.int .i64 x.noise,.int .i64 x.width,v5] 133)).heap.size:=by simp
 have R0_5:=Lib.hid (h5.below (b0.mono hB))
 clear b0 h5
 go_enter Tryz.func85,Tryz.ntmps85
 have hm0:x.name.size≤9223372036854775807:=hok.name
 by_cases c0:(x.name.size:Int)≤left
 case neg =>
  go_wp2
  go_ret
  exact⟨Or.inr ⟨by omega,rfl⟩,B0.out⟩
 have d0:decide (left-(x.name.size:Int)<0)=false:=by simp<;>omega
 go_wp2_with fail
 refine (sz_ModeS x.modes v5 B _ _ R0_5.out (by omega) (by omega) (by omega)).mono ?_
 rintro e w1 ⟨⟨c1,rfl⟩|⟨c1,rfl⟩,hb1⟩
 case inr =>
  go_wp2
  go_ret
  exact⟨Or.inr ⟨by omega,rfl⟩,B0.out.trans (hb1.mono z0)⟩
 obtain⟨q1,_,y1⟩:=bcellAt hb1 (b:=w.heap.size) y0
 have z1:w.heap.size≤w1.heap.size:=by omega
 have B1:=Lib.hid (B0.out.trans (hb1.mono z0))
 have R1_5:=Lib.hid (R0_5.out.below (hb1.mono (by omega)))
 clear hb1
 have d1:decide (left-(x.name.size:Int)-(siz (DMode.sT x.modes):Int)<0)=false:=by simp<;>omega
 go_wp2
 go_ret
 exact⟨Or.inl ⟨by omega,ret_int (by omega)⟩,B1.out⟩
theorem to_Radio (x:DRadio) (v5:Value) (w:World) (h5:Rd w.heap.size w (DMode.sT x.modes) v5) (hn:sizL x.tr≤1048576) :
  Calls Tryz.prog 98 #[.agg #[.string x.name,.int .i64 x.power,.int .i64 x.feeder,.int .i64 x.noise,.int .i64 x.width,v5]] w fun e w'=>∃ a5 c5 fp,e=.returned (.agg #[.string x.name,.int .i64 x.power,.int .i64 x.feeder,.int .i64 x.noise,.int .i64 x.width,.slice a5 x.modes.length c5])∧Below w.heap.size w w'∧OwnV w' x.tr [.string x.name,.int .i64 x.power,.int .i64 x.feeder,.int .i64 x.noise,.int .i64 x.width,.slice a5 x.modes.length c5] fp∧In w.heap.size w'.heap.size fp:=by
 have hsum:=DRadio.siz_tr x
 go_enter Tryz.func98,Tryz.ntmps98
 have bX0:Below w.heap.size w (((w.alloc (.cells #[.string x.name,.int .i64 x.power,.int .i64 x.feeder,.int .i64 x.noise,.int .i64 x.width,v5] 133)).alloc (.cells #[.string ⟨#[]⟩,.int .i64 0,.int .i64 0,.int .i64 0,.int .i64 0,.slice none 0 0] 151)).alloc (.cells #[.string x.name,.int .i64 x.power,.int .i64 x.feeder,.int .i64 x.noise,.int .i64 x.width,.slice none 0 0] 151)):=(((Below.refl _ _).alloc (Nat.le_refl _) _).alloc (by simp) _).alloc (by first|(simp;done)|(simp<;>omega)) _
 have BX0:=Lib.hid bX0
 have zX0:w.heap.size+3≤(((w.alloc (.cells #[.string x.name,.int .i64 x.power,.int .i64 x.feeder,.int .i64 x.noise,.int .i64 x.width,v5] 133)).alloc (.cells #[.string ⟨#[]⟩,.int .i64 0,.int .i64 0,.int .i64 0,.int .i64 0,.slice none 0 0] 151)).alloc (.cells #[.string x.name,.int .i64 x.power,.int .i64 x.feeder,.int .i64 x.noise,.int .i64 x.width,.slice none 0 0] 151)).heap.size:=by first|(simp;done)|(simp<;>omega)
 clear bX0
 go_wp2_with fail
 refine (to_ModeS x.modes v5 (((w.alloc (.cells #[.string x.name,.int .i64 x.power,.int .i64 x.feeder,.int .i64 x.noise,.int .i64 x.width,v5] 133)).alloc (.cells #[.string ⟨#[]⟩,.int .i64 0,.int .i64 0,.int .i64 0,.int .i64 0,.slice none 0 0] 151)).alloc (.cells #[.string x.name,.int .i64 x.power,.int .i64 x.feeder,.int .i64 x.noise,.int .i64 x.width,.slice none 0 0] 151)) ((h5.below BX0.out).mono (by omega)) (by omega)).mono ?_
 rintro e w1 ⟨a5,c5,fp1,rfl,hb1,o1,i1⟩
 obtain⟨qa1,_,ya1⟩:=bcellAt hb1 (b:=w.heap.size) (by omega)
 obtain⟨qb1,qf1,yb1⟩:=bcellAt hb1 (b:=w.heap.size+1) (by omega)
 obtain⟨qc1,qg1,yc1⟩:=bcellAt hb1 (b:=w.heap.size+1+1) (by omega)
 have z1:=hb1.size
 have B1:=Lib.hid (BX0.out.trans (hb1.mono (by omega)))
 have y1:w.heap.size+3≤w1.heap.size:=by omega
 have j1:In (w.heap.size+3) w1.heap.size fp1:=i1.mono (by omega) (Nat.le_refl _)
 have P1_1:=Lib.hid o1
 clear hb1 o1 i1
 go_wp2
 have F1:=Lib.hid (((((((P1_1.out.setFar (p:=⟨w.heap.size+1+1,5,none⟩) (fun e=>by have:=(j1 _ e).1;simp only at this;omega) (.slice a5 x.modes.length c5)).setFar (p:=⟨w.heap.size+1,0,none⟩) (fun e=>by have:=(j1 _ e).1;simp only at this;omega) (.string x.name)).setFar (p:=⟨w.heap.size+1,1,none⟩) (fun e=>by have:=(j1 _ e).1;simp only at this;omega) (.int .i64 x.power)).setFar (p:=⟨w.heap.size+1,2,none⟩) (fun e=>by have:=(j1 _ e).1;simp only at this;omega) (.int .i64 x.feeder)).setFar (p:=⟨w.heap.size+1,3,none⟩) (fun e=>by have:=(j1 _ e).1;simp only at this;omega) (.int .i64 x.noise)).setFar (p:=⟨w.heap.size+1,4,none⟩) (fun e=>by have:=(j1 _ e).1;simp only at this;omega) (.int .i64 x.width)).setFar (p:=⟨w.heap.size+1,5,none⟩) (fun e=>by have:=(j1 _ e).1;simp only at this;omega) (.slice a5 x.modes.length c5))
 have BF:=Lib.hid (((((((B1.out.setCell (p:=⟨w.heap.size+1+1,5,none⟩) (by show w.heap.size≤w.heap.size+1+1;omega) (.slice a5 x.modes.length c5)).setCell (p:=⟨w.heap.size+1,0,none⟩) (by show w.heap.size≤w.heap.size+1;omega) (.string x.name)).setCell (p:=⟨w.heap.size+1,1,none⟩) (by show w.heap.size≤w.heap.size+1;omega) (.int .i64 x.power)).setCell (p:=⟨w.heap.size+1,2,none⟩) (by show w.heap.size≤w.heap.size+1;omega) (.int .i64 x.feeder)).setCell (p:=⟨w.heap.size+1,3,none⟩) (by show w.heap.size≤w.heap.size+1;omega) (.int .i64 x.noise)).setCell (p:=⟨w.heap.size+1,4,none⟩) (by show w.heap.size≤w.heap.size+1;omega) (.int .i64 x.width)).setCell (p:=⟨w.heap.size+1,5,none⟩) (by show w.heap.size≤w.heap.size+1;omega) (.slice a5 x.modes.length c5))
 refine bodyPost_ret (v:=.agg #[.string x.name,.int .i64 x.power,.int .i64 x.feeder,.int .i64 x.noise,.int .i64 x.width,.slice a5 x.modes.length c5]) (by simp[results,Tryz.results98,go_sem, *]) rfl ⟨a5,c5,fp1++[],rfl,BF.out,?_,?_⟩
 ·exact (OwnV.consLit (OwnV.consLit (OwnV.consLit (OwnV.consLit (OwnV.consLit (OwnV.cons F1.out OwnV.nil (fun x hx e=>by have h1:=j1 x hx;simp at e)) rfl) rfl) rfl) rfl) rfl)
 ·simp only[size_setCell]
  exact ((j1.mono (by omega) (by omega)).append In.nil)
theorem eq_Radio (x:DRadio) (v5 u5:Value) (B:Nat) (w:World) (h5:Rd B w (DMode.sT x.modes) v5) (g5:Rd B w (DMode.sT x.modes) u5) (hB:B≤w.heap.size) (hn:sizL x.tr≤1099511627776) :
  Calls Tryz.prog 114 #[.agg #[.string x.name,.int .i64 x.power,.int .i64 x.feeder,.int .i64 x.noise,.int .i64 x.width,v5],.agg #[.string x.name,.int .i64 x.power,.int .i64 x.feeder,.int .i64 x.noise,.int .i64 x.width,u5]] w fun e w'=>e=.returned (.bool true)∧Below w.heap.size w w':=by
 have hsum:=DRadio.siz_tr x
 have b0:Below w.heap.size w ((w.alloc (.cells #[.string x.name,.int .i64 x.power,.int .i64 x.feeder,.int .i64 x.noise,.int .i64 x.width,v5] 151)).alloc (.cells #[.string x.name,.int .i64 x.power,.int .i64 x.feeder,.int .i64 x.noise,.int .i64 x.width,u5] 151)):=((Below.refl _ _).alloc (Nat.le_refl _) _).alloc (by simp) _
 have B0:=Lib.hid b0
 have y0:w.heap.size+2≤((w.alloc (.cells #[.string x.name,.int .i64 x.power,.int .i64 x.feeder,.int .i64 x.noise,.int .i64 x.width,v5] 151)).alloc (.cells #[.string x.name,.int .i64 x.power,.int .i64 x.feeder,.int .i64 x.noise,.int .i64 x.width,u5] 151)).heap.size:=by first|(simp;done)|(simp<;>omega)
 clear b0
 go_enter Tryz.func114,Tryz.ntmps114
 go_wp2_with fail
 refine (eq_ModeS x.modes v5 u5 B _ (h5.below (B0.out.mono hB)) (g5.below (B0.out.mono hB)) (by omega) (by omega)).mono ?_
 rintro e w1 ⟨rfl,hb1⟩
 obtain⟨qa1,_,ya1⟩:=bcellAt hb1 (b:=w.heap.size) (by omega)
 obtain⟨qb1,_,yb1⟩:=bcellAt hb1 (b:=w.heap.size+1) (by omega)
 have y1:w.heap.size+2≤w1.heap.size:=by have:=hb1.size;omega
 have B1:=Lib.hid (B0.out.trans (hb1.mono (by omega)))
 clear hb1
 go_wp2
 go_ret
 exact⟨rfl,B1.out⟩
theorem DRadio.siz_s (l:List DRadio):siz (DRadio.sT l)=l.length+sizL (l.flatMap DRadio.tr):=siz_flat DRadio.tr 6 (by decide) DRadio.tr_len l
theorem sz_RadioS (l:List DRadio) (v:Value) (B:Nat) (left:Int) (w:World) (h:Rd B w (DRadio.sT l) v) (hB:B≤w.heap.size) (hl:0≤left) (hl2:left≤1048576) (hstr:∀ x ∈ l,x.ok) :
  Calls Tryz.prog 38 #[v,.int .i64 left] w (SzPost (siz (DRadio.sT l)) left w):=by
 rw[DRadio.siz_s]
 obtain⟨a,c,rfl,hnc,hcm,hcells⟩:=DRadio.rd h
 clear h
 unfold maxLen at hcm
 by_cases c1:(l.length:Int)≤left
 ·have c1':decide (left-(l.length:Int)<0)=false:=by simp<;>omega
  go_enter Tryz.func38,Tryz.ntmps38
  go_wp2
  go_loopw [1,5] (fun m i wr=>∃ (k:Nat),k≤l.length∧i=.int .i64 k∧(sizL ((l.take k).flatMap DRadio.tr):Int)≤left-l.length∧m=.int .i64 (left-l.length-sizL ((l.take k).flatMap DRadio.tr))∧Below w.heap.size w wr) (fun _ i wr=>l.length-(intOf i).toNat)
  case atStart=>exact⟨0,Nat.zero_le _,rfl,by simp[sizL];omega,by simp[sizL],Below.refl _ _⟩
  case round =>
   obtain⟨k,hk,rfl,hm,rfl,hb⟩:=hrel
   by_cases hlt:k<l.length
   ·obtain⟨b,off,rfl,hbl,hat⟩:=hcells (by omega)
    obtain⟨s0,s1,s2,s3,s4,⟨u5,s5,r5⟩⟩:=hat k hlt
    rw[← hb.cell (p:=⟨b,_,none⟩) (show b<w.heap.size by omega)] at s0 s1 s2 s3 s4 s5
    have t5:Rd B wr (DMode.sT l[k].modes) u5:=r5.below (hb.mono hB)
    have hB':B≤wr.heap.size:=by have:=hb.size;omega
    have hok:=hstr l[k] (List.getElem_mem hlt)
    have hsum:=sizL_take_succ DRadio.tr l k hlt
    have hle:=sizL_take_le DRadio.tr l (k+1)
    have HS:=Lib.hid hsum
    have HB:=Lib.hid hb
    clear hcells hat hb hsum hstr r5
    go_wp2_with (go_at_call 85;refine (sz_Radio l[k] u5 B _ _ t5 hB' (by omega) (by omega) hok).mono ?_;rintro e w1 ⟨⟨c2,rfl⟩|⟨c2,rfl⟩,hb1⟩)
    ·have c3:decide (left-l.length-sizL ((l.take k).flatMap DRadio.tr)-sizL l[k].tr<0)=false:=by simp<;>omega
     go_wp2
     go_roundw
     case rel=>exact⟨k+1,by omega,by go_num,by rw[HS.out];omega,by rw[HS.out];go_num,HB.out.trans (hb1.mono HB.out.size)⟩
     case measure=>simp[intOf];omega
    ·go_wp2
     go_ret
     exact⟨Or.inr ⟨by have:=HS.out;omega,rfl⟩,HB.out.trans (hb1.mono HB.out.size)⟩
   ·obtain rfl:k=l.length:=by omega
    clear hcells
    rw[List.take_length] at hm
    go_wp2
    go_ret
    refine⟨Or.inl ⟨by omega,ret_int ?_⟩,hb⟩
    simp only[List.take_length]
    omega
 ·have c1':decide (left-(l.length:Int)<0)=true:=by simp<;>omega
  go_enter Tryz.func38,Tryz.ntmps38
  go_wp2
  go_ret
  exact⟨Or.inr ⟨by omega,rfl⟩,Below.refl _ _⟩
theorem infoRadio:(Tryz.prog.info? 151).map (fun i=>(i.zero,i.size,i.bytes))=some (some (.agg #[.string ⟨#[]⟩,.int .i64 0,.int .i64 0,.int .i64 0,.int .i64 0,.slice none 0 0]),6,72):=by kernel_rfl
theorem to_RadioS (l:List DRadio) (v:Value) (w:World) (h:Rd w.heap.size w (DRadio.sT l) v) (hn:siz (DRadio.sT l)≤1048576) :
  Calls Tryz.prog 51 #[v] w fun e w'=>∃ a' c' fp,e=.returned (.slice a' l.length c')∧Below w.heap.size w w'∧Own w' (DRadio.sT l) (.slice a' l.length c') fp∧In w.heap.size w'.heap.size fp:=by
 rw[DRadio.siz_s] at hn
 obtain⟨i0,hi0,hz0,hz1,hz2⟩:=info_parts infoRadio
 have hmk:=fun W=>run_make_rowN (P:=Tryz.prog) 44 151 i0 _ Tryz.underlying44 hi0 hz0 .i64 .i64 l.length l.length (Nat.le_refl _) (by rw[hz2];omega) (by omega) W
 rw[hz1] at hmk
 have hnb:(l.length:Int)≤1048576:=by omega
 obtain⟨a,c,rfl,hnc,hcm,hcells⟩:=DRadio.rd h
 clear h
 go_enter Tryz.func51,Tryz.ntmps51
 go_wp2
 clear hmk hi0 hz0 hz1 hz2
 go_loopw [4] (fun i wr=>∃ (k:Nat) (f:List Nat),k≤l.length∧i=.int .i64 k∧Below w.heap.size w wr∧Fill wr w.heap.size 151 (l.length*6) ((l.take k).flatMap DRadio.tr) f∧In w.heap.size wr.heap.size f) (fun i wr=>l.length-(intOf i).toNat)
 case atStart =>
  have hst:=Fill.start w (madeCells #[.string ⟨#[]⟩,.int .i64 0,.int .i64 0,.int .i64 0,.int .i64 0,.slice none 0 0] (l.length*6)) 151
  rw[size_madeCells] at hst
  exact⟨0,[],Nat.zero_le _,rfl,(Below.refl _ _).alloc (Nat.le_refl _) _,by simpa using hst,In.nil⟩
 case round =>
  obtain⟨k,f,hk,rfl,hb,hfill,hin⟩:=hrel
  by_cases hlt:k<l.length
  ·obtain⟨b,off,rfl,hbl,hat⟩:=hcells (by omega)
   obtain⟨s0,s1,s2,s3,s4,⟨u5,s5,r5⟩⟩:=hat k hlt
   rw[← hb.cell (p:=⟨b,_,none⟩) hbl] at s0 s1 s2 s3 s4 s5
   have hz:=hfill.lt
   have hz2:b<wr.heap.size:=by omega
   have t5:Rd wr.heap.size wr (DMode.sT l[k].modes) u5:=(r5.below hb).mono hb.size
   obtain⟨o0,p0⟩:=hfill.room (k*6) (by omega)
   obtain⟨o1,p1⟩:=hfill.room (k*6+1) (by omega)
   obtain⟨o2,p2⟩:=hfill.room (k*6+2) (by omega)
   obtain⟨o3,p3⟩:=hfill.room (k*6+3) (by omega)
   obtain⟨o4,p4⟩:=hfill.room (k*6+4) (by omega)
   obtain⟨o5,p5⟩:=hfill.room (k*6+5) (by omega)
   have hfz:=hfill.open_
   have hsl:=sizL_get_le DRadio.tr l k hlt
   have HB:=Lib.hid hb
   clear hcells hat hb r5
   go_wp2_with (go_at_call 98;refine (to_Radio l[k] u5 _ t5 (by omega)).mono ?_;rintro e w1 ⟨a5,c5,fp1,rfl,hb1,hown1,hin1⟩;obtain⟨q1,q2⟩:=bcell hb1)
   go_roundw
   case rel =>
    have hw1:=hfill.below hin hb1
    have hst:=hw1.step (us:=l[k].tr) (vs:=[.string l[k].name,.int .i64 l[k].power,.int .i64 l[k].feeder,.int .i64 l[k].noise,.int .i64 l[k].width,.slice a5 l[k].modes.length c5]) (g:=fp1) hown1.rep (by rw[flat_length _ 6 DRadio.tr_len];simp<;>omega) hown1.nd (fun e=>by have:=(hin1 _ e).1;omega) (fun x hx e=>by have:=(hin1 x hx).1;have:=(hin x e).2;omega) hown1.free
    rw[flat_length _ 6 DRadio.tr_len,List.length_take,Nat.min_eq_left hk,← flat_take_succ DRadio.tr l k hlt] at hst
    refine⟨k+1,f++fp1,by omega,by go_num,below_setRow (HB.out.trans (hb1.mono (by omega))) (Nat.le_refl _) [.string l[k].name,.int .i64 l[k].power,.int .i64 l[k].feeder,.int .i64 l[k].noise,.int .i64 l[k].width,.slice a5 l[k].modes.length c5] (k*6),hst,?_⟩
    simp only[size_setCell]
    exact (hin.mono (Nat.le_refl _) hb1.size).append (hin1.mono (by omega) (Nat.le_refl _))
   case measure=>simp[intOf];omega
  ·obtain rfl:k=l.length:=by omega
   clear hcells
   go_wp2
   go_ret
   rw[List.take_length] at hfill
   obtain⟨fp,h1,h2⟩:=hfill.own (flat_length _ 6 DRadio.tr_len l) (by unfold maxLen;omega)
   exact⟨_,_,fp,rfl,hb,h1,fun x hx=>by rcases h2 x hx with rfl|h;exact⟨Nat.le_refl _,hfill.lt⟩;exact hin x h⟩
theorem eq_RadioS (l:List DRadio) (v v':Value) (B:Nat) (w:World) (h:Rd B w (DRadio.sT l) v) (h':Rd B w (DRadio.sT l) v') (hB:B≤w.heap.size) (hn:siz (DRadio.sT l)≤1099511627776) :
  Calls Tryz.prog 64 #[v,v'] w fun e w'=>e=.returned (.bool true)∧Below w.heap.size w w':=by
 rw[DRadio.siz_s] at hn
 have hnb:(l.length:Int)≤1099511627776:=by omega
 obtain⟨a,c,rfl,hnc,hcm,hcells⟩:=DRadio.rd h
 obtain⟨a',c',rfl,hnc',hcm',hcells'⟩:=DRadio.rd h'
 clear h h'
 have hne:((l.length:Int) != l.length)=false:=by simp
 go_enter Tryz.func64,Tryz.ntmps64
 go_wp2
 clear hne
 go_loopw [5] (fun i wr=>∃ (k:Nat),k≤l.length∧i=.int .i64 k∧Below w.heap.size w wr) (fun i wr=>l.length-(intOf i).toNat)
 case atStart=>exact⟨0,Nat.zero_le _,rfl,Below.refl _ _⟩
 case round =>
  obtain⟨k,hk,rfl,hb⟩:=hrel
  by_cases hlt:k<l.length
  ·obtain⟨b,off,rfl,hbl,hat⟩:=hcells (by omega)
   obtain⟨b',off',rfl,hbl',hat'⟩:=hcells' (by omega)
   obtain⟨s0,s1,s2,s3,s4,⟨u5,s5,r5⟩⟩:=hat k hlt
   obtain⟨sb0,sb1,sb2,sb3,sb4,⟨ub5,sb5,rb5⟩⟩:=hat' k hlt
   rw[← hb.cell (p:=⟨b,_,none⟩) (show b<w.heap.size by omega)] at s0 s1 s2 s3 s4 s5
   rw[← hb.cell (p:=⟨b',_,none⟩) (show b' < w.heap.size by omega)] at sb0 sb1 sb2 sb3 sb4 sb5
   have t5:Rd B wr.drew (DMode.sT l[k].modes) u5:=(r5.below (hb.mono hB)).drew
   have tb5:Rd B wr.drew (DMode.sT l[k].modes) ub5:=(rb5.below (hb.mono hB)).drew
   have hB':B≤wr.heap.size:=by have:=hb.size;omega
   have hsl:=sizL_get_le DRadio.tr l k hlt
   have i1:(0:Int)≤(k:Int):=by omega
   have i2:(k:Int)<(l.length:Int):=by omega
   have HB:=Lib.hid hb
   clear hcells hat hcells' hat' hb r5 rb5
   go_wp2
   go_still_tail 8,(by kernel_rfl)
   change wpList _ _ _ _ _ wr.drew
   go_wp2_with (go_at_call 114;refine (eq_Radio l[k] u5 ub5 B _ t5 tb5 hB' (by omega)).mono ?_;rintro e w1 ⟨rfl,hb1⟩)
   go_roundw
   case rel=>exact⟨k+1,by omega,by go_num,HB.out.drew.trans (hb1.mono HB.out.size)⟩
   case measure=>simp[intOf];omega
  ·obtain rfl:k=l.length:=by omega
   clear hcells hcells'
   go_wp2
   go_ret
   exact⟨rfl,hb⟩
end Go.Proofs.YtdgmgchdjlfchaaGreatDoor
namespace Go.Proofs.YtdgmgchdjlfchaaGreatDoor
set_option maxHeartbeats 4000000
set_option maxRecDepth 100000
open Go.RowKit
set_option linter.unusedVariables false
theorem DNetwork.siz_tr (x:DNetwork):sizL x.tr=siz (DSite.sT x.sites)+siz (DSector.sT x.sectors)+siz (DAntenna.sT x.antennas)+siz (DRadio.sT x.radios):=by
 simp only[DNetwork.tr,sizL]
 omega
theorem sz_Network (x:DNetwork) (v0 v1 v2 v3:Value) (B:Nat) (left:Int) (w:World) (h0:Rd B w (DSite.sT x.sites) v0) (h1:Rd B w (DSector.sT x.sectors) v1) (h2:Rd B w (DAntenna.sT x.antennas) v2) (h3:Rd B w (DRadio.sT x.radios) v3) (hB:B≤w.heap.size) (hl:0≤left) (hl2:left≤1048576) (hok:x.ok) :
  Calls Tryz.prog 8 #[.agg #[v0,v1,v2,v3],.int .i64 left] w (SzPost (sizL x.tr) left w):=by
 have hsum:=DNetwork.siz_tr x
 have b0:Below w.heap.size w (w.alloc (.cells #[v0,v1,v2,v3] 30)):=(Below.refl _ _).alloc (Nat.le_refl _) _
 have B0:=Lib.hid b0
 have z0:w.heap.size≤(w.alloc (.cells #[v0,v1,v2,v3] 30)).heap.size:=b0.size
 have y0:w.heap.size<(w.alloc (.cells #[v0,v1,v2,v3] 30)).heap.size:=by simp
 have R0_0:=Lib.hid (h0.below (b0.mono hB))
 have R0_1:=Lib.hid (h1.below (b0.mono hB))
 have R0_2:=Lib.hid (h2.below (b0.mono hB))
 have R0_3:=Lib.hid (h3.below (b0.mono hB))
 clear b0 h0 h1 h2 h3
 go_enter Tryz.func8,Tryz.ntmps8
 go_wp2_with fail
 refine (sz_SiteS x.sites v0 B _ _ R0_0.out (by omega) (by omega) (by omega) (hok.sites)).mono ?_
 rintro e w1 ⟨⟨c0,rfl⟩|⟨c0,rfl⟩,hb1⟩
 case inr =>
  go_wp2
  go_ret
  exact⟨Or.inr ⟨by omega,rfl⟩,B0.out.trans (hb1.mono z0)⟩
 obtain⟨q1,_,y1⟩:=bcellAt hb1 (b:=w.heap.size) y0
 have z1:w.heap.size≤w1.heap.size:=by omega
 have B1:=Lib.hid (B0.out.trans (hb1.mono z0))
 have R1_0:=Lib.hid (R0_0.out.below (hb1.mono (by omega)))
 have R1_1:=Lib.hid (R0_1.out.below (hb1.mono (by omega)))
 have R1_2:=Lib.hid (R0_2.out.below (hb1.mono (by omega)))
 have R1_3:=Lib.hid (R0_3.out.below (hb1.mono (by omega)))
 clear hb1
 have d0:decide (left-(siz (DSite.sT x.sites):Int)<0)=false:=by simp<;>omega
 go_wp2_with fail
 refine (sz_SectorS x.sectors v1 B _ _ R1_1.out (by omega) (by omega) (by omega) (hok.sectors)).mono ?_
 rintro e w2 ⟨⟨c1,rfl⟩|⟨c1,rfl⟩,hb2⟩
 case inr =>
  go_wp2
  go_ret
  exact⟨Or.inr ⟨by omega,rfl⟩,B1.out.trans (hb2.mono z1)⟩
 obtain⟨q2,_,y2⟩:=bcellAt hb2 (b:=w.heap.size) y1
 have z2:w.heap.size≤w2.heap.size:=by omega
 have B2:=Lib.hid (B1.out.trans (hb2.mono z1))
 have R2_0:=Lib.hid (R1_0.out.below (hb2.mono (by omega)))
 have R2_1:=Lib.hid (R1_1.out.below (hb2.mono (by omega)))
 have R2_2:=Lib.hid (R1_2.out.below (hb2.mono (by omega)))
 have R2_3:=Lib.hid (R1_3.out.below (hb2.mono (by omega)))
 clear hb2
 have d1:decide (left-(siz (DSite.sT x.sites):Int)-(siz (DSector.sT x.sectors):Int)<0)=false:=by simp<;>omega
 go_wp2_with fail
 refine (sz_AntennaS x.antennas v2 B _ _ R2_2.out (by omega) (by omega) (by omega) (hok.antennas)).mono ?_
 rintro e w3 ⟨⟨c2,rfl⟩|⟨c2,rfl⟩,hb3⟩
 case inr =>
  go_wp2
  go_ret
  exact⟨Or.inr ⟨by omega,rfl⟩,B2.out.trans (hb3.mono z2)⟩
 obtain⟨q3,_,y3⟩:=bcellAt hb3 (b:=w.heap.size) y2
 have z3:w.heap.size≤w3.heap.size:=by omega
 have B3:=Lib.hid (B2.out.trans (hb3.mono z2))
 have R3_0:=Lib.hid (R2_0.out.below (hb3.mono (by omega)))
 have R3_1:=Lib.hid (R2_1.out.below (hb3.mono (by omega)))
 have R3_2:=Lib.hid (R2_2.out.below (hb3.mono (by omega)))
 have R3_3:=Lib.hid (R2_3.out.below (hb3.mono (by omega)))
 clear hb3
 have d2:decide (left-(siz (DSite.sT x.sites):Int)-(siz (DSector.sT x.sectors):Int)-(siz (DAntenna.sT x.antennas):Int)<0)=false:=by simp<;>omega
 go_wp2_with fail
 refine (sz_RadioS x.radios v3 B _ _ R3_3.out (by omega) (by omega) (by omega) (hok.radios)).mono ?_
 rintro e w4 ⟨⟨c3,rfl⟩|⟨c3,rfl⟩,hb4⟩
 case inr =>
  go_wp2
  go_ret
  exact⟨Or.inr ⟨by omega,rfl⟩,B3.out.trans (hb4.mono z3)⟩
 obtain⟨q4,_,y4⟩:=bcellAt hb4 (b:=w.heap.size) y3
 have z4:w.heap.size≤w4.heap.size:=by omega
 have B4:=Lib.hid (B3.out.trans (hb4.mono z3))
 have R4_0:=Lib.hid (R3_0.out.below (hb4.mono (by omega)))
 have R4_1:=Lib.hid (R3_1.out.below (hb4.mono (by omega)))
 have R4_2:=Lib.hid (R3_2.out.below (hb4.mono (by omega)))
 have R4_3:=Lib.hid (R3_3.out.below (hb4.mono (by omega)))
 clear hb4
 have d3:decide (left-(siz (DSite.sT x.sites):Int)-(siz (DSector.sT x.sectors):Int)-(siz (DAntenna.sT x.antennas):Int)-(siz (DRadio.sT x.radios):Int)<0)=false:=by simp<;>omega
 go_wp2
 go_ret
 exact⟨Or.inl ⟨by omega,ret_int (by omega)⟩,B4.out⟩
theorem to_Network (x:DNetwork) (v0 v1 v2 v3:Value) (w:World) (h0:Rd w.heap.size w (DSite.sT x.sites) v0) (h1:Rd w.heap.size w (DSector.sT x.sectors) v1) (h2:Rd w.heap.size w (DAntenna.sT x.antennas) v2) (h3:Rd w.heap.size w (DRadio.sT x.radios) v3) (hn:sizL x.tr≤1048576) :
  Calls Tryz.prog 11 #[.agg #[v0,v1,v2,v3]] w fun e w'=>∃ a0 c0 a1 c1 a2 c2 a3 c3 fp,e=.returned (.agg #[.slice a0 x.sites.length c0,.slice a1 x.sectors.length c1,.slice a2 x.antennas.length c2,.slice a3 x.radios.length c3])∧Below w.heap.size w w'∧OwnV w' x.tr [.slice a0 x.sites.length c0,.slice a1 x.sectors.length c1,.slice a2 x.antennas.length c2,.slice a3 x.radios.length c3] fp∧In w.heap.size w'.heap.size fp:=by
 have hsum:=DNetwork.siz_tr x
 go_enter Tryz.func11,Tryz.ntmps11
 have bX0:Below w.heap.size w (((w.alloc (.cells #[v0,v1,v2,v3] 30)).alloc (.cells #[.slice none 0 0,.slice none 0 0,.slice none 0 0,.slice none 0 0] 46)).alloc (.cells #[.slice none 0 0,.slice none 0 0,.slice none 0 0,.slice none 0 0] 46)):=(((Below.refl _ _).alloc (Nat.le_refl _) _).alloc (by simp) _).alloc (by first|(simp;done)|(simp<;>omega)) _
 have BX0:=Lib.hid bX0
 have zX0:w.heap.size+3≤(((w.alloc (.cells #[v0,v1,v2,v3] 30)).alloc (.cells #[.slice none 0 0,.slice none 0 0,.slice none 0 0,.slice none 0 0] 46)).alloc (.cells #[.slice none 0 0,.slice none 0 0,.slice none 0 0,.slice none 0 0] 46)).heap.size:=by first|(simp;done)|(simp<;>omega)
 clear bX0
 go_wp2_with fail
 refine (to_SiteS x.sites v0 (((w.alloc (.cells #[v0,v1,v2,v3] 30)).alloc (.cells #[.slice none 0 0,.slice none 0 0,.slice none 0 0,.slice none 0 0] 46)).alloc (.cells #[.slice none 0 0,.slice none 0 0,.slice none 0 0,.slice none 0 0] 46)) ((h0.below BX0.out).mono (by omega)) (by omega)).mono ?_
 rintro e w1 ⟨a0,c0,fp1,rfl,hb1,o1,i1⟩
 obtain⟨qa1,_,ya1⟩:=bcellAt hb1 (b:=w.heap.size) (by omega)
 obtain⟨qb1,qf1,yb1⟩:=bcellAt hb1 (b:=w.heap.size+1) (by omega)
 obtain⟨qc1,qg1,yc1⟩:=bcellAt hb1 (b:=w.heap.size+1+1) (by omega)
 have z1:=hb1.size
 have B1:=Lib.hid (BX0.out.trans (hb1.mono (by omega)))
 have y1:w.heap.size+3≤w1.heap.size:=by omega
 have j1:In (w.heap.size+3) w1.heap.size fp1:=i1.mono (by omega) (Nat.le_refl _)
 have P1_1:=Lib.hid o1
 clear hb1 o1 i1
 have BX1:=Lib.hid (B1.out.setCell (p:=⟨w.heap.size+1+1,0,none⟩) (by show w.heap.size≤w.heap.size+1+1;omega) (.slice a0 x.sites.length c0))
 have zX1:w.heap.size+3≤((w1.setCell ⟨w.heap.size+1+1,0,none⟩ (.slice a0 x.sites.length c0))).heap.size:=by simp only[size_setCell];omega
 go_wp2_with fail
 refine (to_SectorS x.sectors v1 ((w1.setCell ⟨w.heap.size+1+1,0,none⟩ (.slice a0 x.sites.length c0))) ((h1.below BX1.out).mono (by omega)) (by omega)).mono ?_
 rintro e w2 ⟨a1,c1,fp2,rfl,hb2,o2,i2⟩
 obtain⟨qa2,_,ya2⟩:=bcellAt hb2 (b:=w.heap.size) (by omega)
 obtain⟨qb2,qf2,yb2⟩:=bcellAt hb2 (b:=w.heap.size+1) (by omega)
 obtain⟨qc2,qg2,yc2⟩:=bcellAt hb2 (b:=w.heap.size+1+1) (by omega)
 have z2:=hb2.size
 simp only[size_setCell] at z2
 have B2:=Lib.hid (BX1.out.trans (hb2.mono (by omega)))
 have y2:w.heap.size+3≤w2.heap.size:=by omega
 have P1_2:=Lib.hid ((P1_1.out.setFar (p:=⟨w.heap.size+1+1,0,none⟩) (fun e=>by have:=(j1 _ e).1;simp only at this;omega) (.slice a0 x.sites.length c0)).below j1 (by first|omega|(simp only[size_setCell];omega)) hb2)
 have j2:In (w1.heap.size) w2.heap.size fp2:=i2.mono (by simp only[size_setCell];omega) (Nat.le_refl _)
 have P2_2:=Lib.hid o2
 clear hb2 o2 i2
 have BX2:=Lib.hid (B2.out.setCell (p:=⟨w.heap.size+1+1,1,none⟩) (by show w.heap.size≤w.heap.size+1+1;omega) (.slice a1 x.sectors.length c1))
 have zX2:w.heap.size+3≤((w2.setCell ⟨w.heap.size+1+1,1,none⟩ (.slice a1 x.sectors.length c1))).heap.size:=by simp only[size_setCell];omega
 go_wp2_with fail
 refine (to_AntennaS x.antennas v2 ((w2.setCell ⟨w.heap.size+1+1,1,none⟩ (.slice a1 x.sectors.length c1))) ((h2.below BX2.out).mono (by omega)) (by omega)).mono ?_
 rintro e w3 ⟨a2,c2,fp3,rfl,hb3,o3,i3⟩
 obtain⟨qa3,_,ya3⟩:=bcellAt hb3 (b:=w.heap.size) (by omega)
 obtain⟨qb3,qf3,yb3⟩:=bcellAt hb3 (b:=w.heap.size+1) (by omega)
 obtain⟨qc3,qg3,yc3⟩:=bcellAt hb3 (b:=w.heap.size+1+1) (by omega)
 have z3:=hb3.size
 simp only[size_setCell] at z3
 have B3:=Lib.hid (BX2.out.trans (hb3.mono (by omega)))
 have y3:w.heap.size+3≤w3.heap.size:=by omega
 have P1_3:=Lib.hid ((P1_2.out.setFar (p:=⟨w.heap.size+1+1,1,none⟩) (fun e=>by have:=(j1 _ e).1;simp only at this;omega) (.slice a1 x.sectors.length c1)).below j1 (by first|omega|(simp only[size_setCell];omega)) hb3)
 have P2_3:=Lib.hid ((P2_2.out.setFar (p:=⟨w.heap.size+1+1,1,none⟩) (fun e=>by have:=(j2 _ e).1;simp only at this;omega) (.slice a1 x.sectors.length c1)).below j2 (by first|omega|(simp only[size_setCell];omega)) hb3)
 have j3:In (w2.heap.size) w3.heap.size fp3:=i3.mono (by simp only[size_setCell];omega) (Nat.le_refl _)
 have P3_3:=Lib.hid o3
 clear hb3 o3 i3
 have BX3:=Lib.hid (B3.out.setCell (p:=⟨w.heap.size+1+1,2,none⟩) (by show w.heap.size≤w.heap.size+1+1;omega) (.slice a2 x.antennas.length c2))
 have zX3:w.heap.size+3≤((w3.setCell ⟨w.heap.size+1+1,2,none⟩ (.slice a2 x.antennas.length c2))).heap.size:=by simp only[size_setCell];omega
 go_wp2_with fail
 refine (to_RadioS x.radios v3 ((w3.setCell ⟨w.heap.size+1+1,2,none⟩ (.slice a2 x.antennas.length c2))) ((h3.below BX3.out).mono (by omega)) (by omega)).mono ?_
 rintro e w4 ⟨a3,c3,fp4,rfl,hb4,o4,i4⟩
 obtain⟨qa4,_,ya4⟩:=bcellAt hb4 (b:=w.heap.size) (by omega)
 obtain⟨qb4,qf4,yb4⟩:=bcellAt hb4 (b:=w.heap.size+1) (by omega)
 obtain⟨qc4,qg4,yc4⟩:=bcellAt hb4 (b:=w.heap.size+1+1) (by omega)
 have z4:=hb4.size
 simp only[size_setCell] at z4
 have B4:=Lib.hid (BX3.out.trans (hb4.mono (by omega)))
 have y4:w.heap.size+3≤w4.heap.size:=by omega
 have P1_4:=Lib.hid ((P1_3.out.setFar (p:=⟨w.heap.size+1+1,2,none⟩) (fun e=>by have:=(j1 _ e).1;simp only at this;omega) (.slice a2 x.antennas.length c2)).below j1 (by first|omega|(simp only[size_setCell];omega)) hb4)
 have P2_4:=Lib.hid ((P2_3.out.setFar (p:=⟨w.heap.size+1+1,2,none⟩) (fun e=>by have:=(j2 _ e).1;simp only at this;omega) (.slice a2 x.antennas.length c2)).below j2 (by first|omega|(simp only[size_setCell];omega)) hb4)
 have P3_4:=Lib.hid ((P3_3.out.setFar (p:=⟨w.heap.size+1+1,2,none⟩) (fun e=>by have:=(j3 _ e).1;simp only at this;omega) (.slice a2 x.antennas.length c2)).below j3 (by first|omega|(simp only[size_setCell];omega)) hb4)
 have j4:In (w3.heap.size) w4.heap.size fp4:=i4.mono (by simp only[size_setCell];omega) (Nat.le_refl _)
 have P4_4:=Lib.hid o4
 clear hb4 o4 i4
 go_wp2
 have F1:=Lib.hid (((((P1_4.out.setFar (p:=⟨w.heap.size+1+1,3,none⟩) (fun e=>by have:=(j1 _ e).1;simp only at this;omega) (.slice a3 x.radios.length c3)).setFar (p:=⟨w.heap.size+1,0,none⟩) (fun e=>by have:=(j1 _ e).1;simp only at this;omega) (.slice a0 x.sites.length c0)).setFar (p:=⟨w.heap.size+1,1,none⟩) (fun e=>by have:=(j1 _ e).1;simp only at this;omega) (.slice a1 x.sectors.length c1)).setFar (p:=⟨w.heap.size+1,2,none⟩) (fun e=>by have:=(j1 _ e).1;simp only at this;omega) (.slice a2 x.antennas.length c2)).setFar (p:=⟨w.heap.size+1,3,none⟩) (fun e=>by have:=(j1 _ e).1;simp only at this;omega) (.slice a3 x.radios.length c3))
 have F2:=Lib.hid (((((P2_4.out.setFar (p:=⟨w.heap.size+1+1,3,none⟩) (fun e=>by have:=(j2 _ e).1;simp only at this;omega) (.slice a3 x.radios.length c3)).setFar (p:=⟨w.heap.size+1,0,none⟩) (fun e=>by have:=(j2 _ e).1;simp only at this;omega) (.slice a0 x.sites.length c0)).setFar (p:=⟨w.heap.size+1,1,none⟩) (fun e=>by have:=(j2 _ e).1;simp only at this;omega) (.slice a1 x.sectors.length c1)).setFar (p:=⟨w.heap.size+1,2,none⟩) (fun e=>by have:=(j2 _ e).1;simp only at this;omega) (.slice a2 x.antennas.length c2)).setFar (p:=⟨w.heap.size+1,3,none⟩) (fun e=>by have:=(j2 _ e).1;simp only at this;omega) (.slice a3 x.radios.length c3))
 have F3:=Lib.hid (((((P3_4.out.setFar (p:=⟨w.heap.size+1+1,3,none⟩) (fun e=>by have:=(j3 _ e).1;simp only at this;omega) (.slice a3 x.radios.length c3)).setFar (p:=⟨w.heap.size+1,0,none⟩) (fun e=>by have:=(j3 _ e).1;simp only at this;omega) (.slice a0 x.sites.length c0)).setFar (p:=⟨w.heap.size+1,1,none⟩) (fun e=>by have:=(j3 _ e).1;simp only at this;omega) (.slice a1 x.sectors.length c1)).setFar (p:=⟨w.heap.size+1,2,none⟩) (fun e=>by have:=(j3 _ e).1;simp only at this;omega) (.slice a2 x.antennas.length c2)).setFar (p:=⟨w.heap.size+1,3,none⟩) (fun e=>by have:=(j3 _ e).1;simp only at this;omega) (.slice a3 x.radios.length c3))
 have F4:=Lib.hid (((((P4_4.out.setFar (p:=⟨w.heap.size+1+1,3,none⟩) (fun e=>by have:=(j4 _ e).1;simp only at this;omega) (.slice a3 x.radios.length c3)).setFar (p:=⟨w.heap.size+1,0,none⟩) (fun e=>by have:=(j4 _ e).1;simp only at this;omega) (.slice a0 x.sites.length c0)).setFar (p:=⟨w.heap.size+1,1,none⟩) (fun e=>by have:=(j4 _ e).1;simp only at this;omega) (.slice a1 x.sectors.length c1)).setFar (p:=⟨w.heap.size+1,2,none⟩) (fun e=>by have:=(j4 _ e).1;simp only at this;omega) (.slice a2 x.antennas.length c2)).setFar (p:=⟨w.heap.size+1,3,none⟩) (fun e=>by have:=(j4 _ e).1;simp only at this;omega) (.slice a3 x.radios.length c3))
 have BF:=Lib.hid (((((B4.out.setCell (p:=⟨w.heap.size+1+1,3,none⟩) (by show w.heap.size≤w.heap.size+1+1;omega) (.slice a3 x.radios.length c3)).setCell (p:=⟨w.heap.size+1,0,none⟩) (by show w.heap.size≤w.heap.size+1;omega) (.slice a0 x.sites.length c0)).setCell (p:=⟨w.heap.size+1,1,none⟩) (by show w.heap.size≤w.heap.size+1;omega) (.slice a1 x.sectors.length c1)).setCell (p:=⟨w.heap.size+1,2,none⟩) (by show w.heap.size≤w.heap.size+1;omega) (.slice a2 x.antennas.length c2)).setCell (p:=⟨w.heap.size+1,3,none⟩) (by show w.heap.size≤w.heap.size+1;omega) (.slice a3 x.radios.length c3))
 refine bodyPost_ret (v:=.agg #[.slice a0 x.sites.length c0,.slice a1 x.sectors.length c1,.slice a2 x.antennas.length c2,.slice a3 x.radios.length c3]) (by simp[results,Tryz.results11,go_sem, *]) rfl ⟨a0,c0,a1,c1,a2,c2,a3,c3,fp1++(fp2++(fp3++(fp4++[]))),rfl,BF.out,?_,?_⟩
 ·exact (OwnV.cons F1.out (OwnV.cons F2.out (OwnV.cons F3.out (OwnV.cons F4.out OwnV.nil (fun x hx e=>by have h1:=j4 x hx;simp at e)) (fun x hx e=>by have h1:=j3 x hx;simp only[List.mem_append,List.not_mem_nil,or_false] at e;have h2:=j4 x e;omega)) (fun x hx e=>by have h1:=j2 x hx;simp only[List.mem_append,List.not_mem_nil,or_false] at e;rcases e with e|e<;>(first|(have h2:=j3 x e;omega)|(have h2:=j4 x e;omega)))) (fun x hx e=>by have h1:=j1 x hx;simp only[List.mem_append,List.not_mem_nil,or_false] at e;rcases e with e|e|e<;>(first|(have h2:=j2 x e;omega)|(have h2:=j3 x e;omega)|(have h2:=j4 x e;omega))))
 ·simp only[size_setCell]
  exact ((j1.mono (by omega) (by omega)).append ((j2.mono (by omega) (by omega)).append ((j3.mono (by omega) (by omega)).append ((j4.mono (by omega) (by omega)).append In.nil))))
theorem eq_Network (x:DNetwork) (v0 u0 v1 u1 v2 u2 v3 u3:Value) (B:Nat) (w:World) (h0:Rd B w (DSite.sT x.sites) v0) (g0:Rd B w (DSite.sT x.sites) u0) (h1:Rd B w (DSector.sT x.sectors) v1) (g1:Rd B w (DSector.sT x.sectors) u1) (h2:Rd B w (DAntenna.sT x.antennas) v2) (g2:Rd B w (DAntenna.sT x.antennas) u2) (h3:Rd B w (DRadio.sT x.radios) v3) (g3:Rd B w (DRadio.sT x.radios) u3) (hB:B≤w.heap.size) (hn:sizL x.tr≤1099511627776) :
  Calls Tryz.prog 15 #[.agg #[v0,v1,v2,v3],.agg #[u0,u1,u2,u3]] w fun e w'=>e=.returned (.bool true)∧Below w.heap.size w w':=by
 have hsum:=DNetwork.siz_tr x
 have b0:Below w.heap.size w ((w.alloc (.cells #[v0,v1,v2,v3] 46)).alloc (.cells #[u0,u1,u2,u3] 46)):=((Below.refl _ _).alloc (Nat.le_refl _) _).alloc (by simp) _
 have B0:=Lib.hid b0
 have y0:w.heap.size+2≤((w.alloc (.cells #[v0,v1,v2,v3] 46)).alloc (.cells #[u0,u1,u2,u3] 46)).heap.size:=by first|(simp;done)|(simp<;>omega)
 clear b0
 go_enter Tryz.func15,Tryz.ntmps15
 go_wp2_with fail
 refine (eq_SiteS x.sites v0 u0 B _ (h0.below (B0.out.mono hB)) (g0.below (B0.out.mono hB)) (by omega) (by omega)).mono ?_
 rintro e w1 ⟨rfl,hb1⟩
 obtain⟨qa1,_,ya1⟩:=bcellAt hb1 (b:=w.heap.size) (by omega)
 obtain⟨qb1,_,yb1⟩:=bcellAt hb1 (b:=w.heap.size+1) (by omega)
 have y1:w.heap.size+2≤w1.heap.size:=by have:=hb1.size;omega
 have B1:=Lib.hid (B0.out.trans (hb1.mono (by omega)))
 clear hb1
 go_wp2_with fail
 refine (eq_SectorS x.sectors v1 u1 B _ (h1.below (B1.out.mono hB)) (g1.below (B1.out.mono hB)) (by omega) (by omega)).mono ?_
 rintro e w2 ⟨rfl,hb2⟩
 obtain⟨qa2,_,ya2⟩:=bcellAt hb2 (b:=w.heap.size) (by omega)
 obtain⟨qb2,_,yb2⟩:=bcellAt hb2 (b:=w.heap.size+1) (by omega)
 have y2:w.heap.size+2≤w2.heap.size:=by have:=hb2.size;omega
 have B2:=Lib.hid (B1.out.trans (hb2.mono (by omega)))
 clear hb2
 go_wp2_with fail
 refine (eq_AntennaS x.antennas v2 u2 B _ (h2.below (B2.out.mono hB)) (g2.below (B2.out.mono hB)) (by omega) (by omega)).mono ?_
 rintro e w3 ⟨rfl,hb3⟩
 obtain⟨qa3,_,ya3⟩:=bcellAt hb3 (b:=w.heap.size) (by omega)
 obtain⟨qb3,_,yb3⟩:=bcellAt hb3 (b:=w.heap.size+1) (by omega)
 have y3:w.heap.size+2≤w3.heap.size:=by have:=hb3.size;omega
 have B3:=Lib.hid (B2.out.trans (hb3.mono (by omega)))
 clear hb3
 go_wp2_with fail
 refine (eq_RadioS x.radios v3 u3 B _ (h3.below (B3.out.mono hB)) (g3.below (B3.out.mono hB)) (by omega) (by omega)).mono ?_
 rintro e w4 ⟨rfl,hb4⟩
 obtain⟨qa4,_,ya4⟩:=bcellAt hb4 (b:=w.heap.size) (by omega)
 obtain⟨qb4,_,yb4⟩:=bcellAt hb4 (b:=w.heap.size+1) (by omega)
 have y4:w.heap.size+2≤w4.heap.size:=by have:=hb4.size;omega
 have B4:=Lib.hid (B3.out.trans (hb4.mono (by omega)))
 clear hb4
 go_wp2
 go_ret
 exact⟨rfl,B4.out⟩
end Go.Proofs.YtdgmgchdjlfchaaGreatDoor
