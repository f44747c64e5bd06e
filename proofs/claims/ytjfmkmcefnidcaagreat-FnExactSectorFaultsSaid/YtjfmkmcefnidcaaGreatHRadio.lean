/- Contracts of the laws' helpers over the type Radio and slices of it. Conditions: bounded lengths. -/
import Derived.Test.YtjfmkmcefnidcaaGreatSl
import Derived.Test.YtjfmkmcefnidcaaGreatTypes
import Derived.Test.YtjfmkmcefnidcaaGreatHArea
import Derived.Test.YtjfmkmcefnidcaaGreatOver
import Derived.Test.YtjfmkmcefnidcaaGreatHMode
namespace Go.Proofs.YtjfmkmcefnidcaaGreat
set_option maxHeartbeats 4000000
set_option maxRecDepth 100000
open Go.RowKit
set_option linter.unusedVariables false
theorem DRadio.siz_tr (x:DRadio):sizL x.tr=x.name.size+siz (DMode.sT x.modes):=by
 simp only[DRadio.tr,sizL,siz,intT,strT]
 omega
theorem sz_Radio (x:DRadio) (v5:Value) (B:Nat) (left:Int) (w:World) (h5:Rd B w (DMode.sT x.modes) v5) (hB:B≤w.heap.size) (hl:0≤left) (hl2:left≤1048576) (hok:x.ok) :
  Calls Tryz.prog 146 #[.agg #[.string x.name,.int .i64 x.power,.int .i64 x.feeder,.int .i64 x.noise,.int .i64 x.width,v5],.int .i64 left] w (SzPost (sizL x.tr) left w):=by
 have hsum:=DRadio.siz_tr x
 have b0:Below w.heap.size w (w.alloc (.cells #[.string x.name,.int .i64 x.power,.int .i64 x.feeder,.int .i64 x.noise,.int .i64 x.width,v5] 225)):=(Below.refl _ _).alloc (Nat.le_refl _) _
 have B0:=Lib.hid b0
 have z0:w.heap.size≤(w.alloc (.cells #[.string x.name,.int .i64 x.power,.int .i64 x.feeder,.int .i64 x.noise,.int .i64 x.width,v5] 225)).heap.size:=b0.size
 have y0:w.heap.size<(w.alloc (.cells #[.string x.name,.int .i64 x.power,.int .i64 x.feeder,.int .i64 x.noise,.int .i64 x.width,v5] 225)).heap.size:=by simp
 have R0_5:=Lib.hid (h5.below (b0.mono hB))
 clear b0 h5
 go_enter Tryz.func146,Tryz.ntmps146
 have hm0:x.name.size≤9223372036854775807:=hok.name
 by_cases c0:(x.name.size:Int)≤left
 case neg =>
  go_wp2
  go_ret
  exact⟨Or.inr ⟨by omega,rfl⟩,B0.out⟩
 have d0:decide (left-(x.name.size:Int)<0)=false:=by simp;omega
 go_wp2_with fail
 refine (sz_ModeS x.modes v5 B _ _ R0_5.out (by omega) (by omega) (by omega)).mono ?_
 rintro e w1 ⟨⟨c1,rfl⟩|⟨c1,rfl⟩,hb1⟩
 case inr =>
  go_wp2
  go_ret
  exact⟨Or.inr ⟨by omega,rfl⟩,B0.out.trans (hb1.mono z0)⟩
 obtain⟨q1,_,y1⟩:=bcellAt hb1 (b:=w.heap.size) y0
 have z1:w.heap.size≤w1.heap.size:=by omega
 have B1:=Lib.hid (B0.out.trans (hb1.mono z0))
 have R1_5:=Lib.hid (R0_5.out.below (hb1.mono (by omega)))
 clear hb1
 have d1:decide (left-(x.name.size:Int)-(siz (DMode.sT x.modes):Int)<0)=false:=by simp;omega
 go_wp2
 go_ret
 exact⟨Or.inl ⟨by omega,ret_int (by omega)⟩,B1.out⟩
theorem to_Radio (x:DRadio) (v5:Value) (w:World) (h5:Rd w.heap.size w (DMode.sT x.modes) v5) (hn:sizL x.tr≤1048576) :
  Calls Tryz.prog 160 #[.agg #[.string x.name,.int .i64 x.power,.int .i64 x.feeder,.int .i64 x.noise,.int .i64 x.width,v5]] w fun e w'=>∃ a5 c5 fp,e=.returned (.agg #[.string x.name,.int .i64 x.power,.int .i64 x.feeder,.int .i64 x.noise,.int .i64 x.width,.slice a5 x.modes.length c5])∧Below w.heap.size w w'∧OwnV w' x.tr [.string x.name,.int .i64 x.power,.int .i64 x.feeder,.int .i64 x.noise,.int .i64 x.width,.slice a5 x.modes.length c5] fp∧In w.heap.size w'.heap.size fp:=by
 have hsum:=DRadio.siz_tr x
 go_enter Tryz.func160,Tryz.ntmps160
 have bX0:Below w.heap.size w (((w.alloc (.cells #[.string x.name,.int .i64 x.power,.int .i64 x.feeder,.int .i64 x.noise,.int .i64 x.width,v5] 225)).alloc (.cells #[.string ⟨#[]⟩,.int .i64 0,.int .i64 0,.int .i64 0,.int .i64 0,.slice none 0 0] 139)).alloc (.cells #[.string x.name,.int .i64 x.power,.int .i64 x.feeder,.int .i64 x.noise,.int .i64 x.width,.slice none 0 0] 139)):=(((Below.refl _ _).alloc (Nat.le_refl _) _).alloc (by simp) _).alloc (by first|(simp;done)|(simp;omega)) _
 have BX0:=Lib.hid bX0
 have zX0:w.heap.size+3≤(((w.alloc (.cells #[.string x.name,.int .i64 x.power,.int .i64 x.feeder,.int .i64 x.noise,.int .i64 x.width,v5] 225)).alloc (.cells #[.string ⟨#[]⟩,.int .i64 0,.int .i64 0,.int .i64 0,.int .i64 0,.slice none 0 0] 139)).alloc (.cells #[.string x.name,.int .i64 x.power,.int .i64 x.feeder,.int .i64 x.noise,.int .i64 x.width,.slice none 0 0] 139)).heap.size:=by first|(simp;done)|(simp;omega)
 clear bX0
 go_wp2_with fail
 refine (to_ModeS x.modes v5 (((w.alloc (.cells #[.string x.name,.int .i64 x.power,.int .i64 x.feeder,.int .i64 x.noise,.int .i64 x.width,v5] 225)).alloc (.cells #[.string ⟨#[]⟩,.int .i64 0,.int .i64 0,.int .i64 0,.int .i64 0,.slice none 0 0] 139)).alloc (.cells #[.string x.name,.int .i64 x.power,.int .i64 x.feeder,.int .i64 x.noise,.int .i64 x.width,.slice none 0 0] 139)) ((h5.below BX0.out).mono (by omega)) (by omega)).mono ?_
 rintro e w1 ⟨a5,c5,fp1,rfl,hb1,o1,i1⟩
 obtain⟨qa1,_,ya1⟩:=bcellAt hb1 (b:=w.heap.size) (by omega)
 obtain⟨qb1,qf1,yb1⟩:=bcellAt hb1 (b:=w.heap.size+1) (by omega)
 obtain⟨qc1,qg1,yc1⟩:=bcellAt hb1 (b:=w.heap.size+1+1) (by omega)
 have z1:=hb1.size
 have B1:=Lib.hid (BX0.out.trans (hb1.mono (by omega)))
 have y1:w.heap.size+3≤w1.heap.size:=by omega
 have j1:In (w.heap.size+3) w1.heap.size fp1:=i1.mono (by omega) (Nat.le_refl _)
 have P1_1:=Lib.hid o1
 clear hb1 o1 i1
 go_wp2
 have F1:=Lib.hid (((((((P1_1.out.setFar (p:=⟨w.heap.size+1+1,5,none⟩) (fun e=>by have:=(j1 _ e).1;simp only at this;omega) (.slice a5 x.modes.length c5)).setFar (p:=⟨w.heap.size+1,0,none⟩) (fun e=>by have:=(j1 _ e).1;simp only at this;omega) (.string x.name)).setFar (p:=⟨w.heap.size+1,1,none⟩) (fun e=>by have:=(j1 _ e).1;simp only at this;omega) (.int .i64 x.power)).setFar (p:=⟨w.heap.size+1,2,none⟩) (fun e=>by have:=(j1 _ e).1;simp only at this;omega) (.int .i64 x.feeder)).setFar (p:=⟨w.heap.size+1,3,none⟩) (fun e=>by have:=(j1 _ e).1;simp only at this;omega) (.int .i64 x.noise)).setFar (p:=⟨w.heap.size+1,4,none⟩) (fun e=>by have:=(j1 _ e).1;simp only at this;omega) (.int .i64 x.width)).setFar (p:=⟨w.heap.size+1,5,none⟩) (fun e=>by have:=(j1 _ e).1;simp only at this;omega) (.slice a5 x.modes.length c5))
 have BF:=Lib.hid (((((((B1.out.setCell (p:=⟨w.heap.size+1+1,5,none⟩) (by show w.heap.size≤w.heap.size+1+1;omega) (.slice a5 x.modes.length c5)).setCell (p:=⟨w.heap.size+1,0,none⟩) (by show w.heap.size≤w.heap.size+1;omega) (.string x.name)).setCell (p:=⟨w.heap.size+1,1,none⟩) (by show w.heap.size≤w.heap.size+1;omega) (.int .i64 x.power)).setCell (p:=⟨w.heap.size+1,2,none⟩) (by show w.heap.size≤w.heap.size+1;omega) (.int .i64 x.feeder)).setCell (p:=⟨w.heap.size+1,3,none⟩) (by show w.heap.size≤w.heap.size+1;omega) (.int .i64 x.noise)).setCell (p:=⟨w.heap.size+1,4,none⟩) (by show w.heap.size≤w.heap.size+1;omega) (.int .i64 x.width)).setCell (p:=⟨w.heap.size+1,5,none⟩) (by show w.heap.size≤w.heap.size+1;omega) (.slice a5 x.modes.length c5))
 refine bodyPost_ret (v:=.agg #[.string x.name,.int .i64 x.power,.int .i64 x.feeder,.int .i64 x.noise,.int .i64 x.width,.slice a5 x.modes.length c5]) (by simp[results,Tryz.results160,go_sem, *]) rfl ⟨a5,c5,fp1++[],rfl,BF.out,?_,?_⟩
 ·exact (OwnV.consLit (OwnV.consLit (OwnV.consLit (OwnV.consLit (OwnV.consLit (OwnV.cons F1.out OwnV.nil (fun x hx e=>by have h1:=j1 x hx;simp at e)) rfl) rfl) rfl) rfl) rfl)
 ·simp only[size_setCell]
  exact ((j1.mono (by omega) (by omega)).append In.nil)
theorem eq_Radio (x:DRadio) (v5 u5:Value) (B:Nat) (w:World) (h5:Rd B w (DMode.sT x.modes) v5) (g5:Rd B w (DMode.sT x.modes) u5) (hB:B≤w.heap.size) (hn:sizL x.tr≤1099511627776) :
  Calls Tryz.prog 181 #[.agg #[.string x.name,.int .i64 x.power,.int .i64 x.feeder,.int .i64 x.noise,.int .i64 x.width,v5],.agg #[.string x.name,.int .i64 x.power,.int .i64 x.feeder,.int .i64 x.noise,.int .i64 x.width,u5]] w fun e w'=>e=.returned (.bool true)∧Below w.heap.size w w':=by
 have hsum:=DRadio.siz_tr x
 have b0:Below w.heap.size w ((w.alloc (.cells #[.string x.name,.int .i64 x.power,.int .i64 x.feeder,.int .i64 x.noise,.int .i64 x.width,v5] 139)).alloc (.cells #[.string x.name,.int .i64 x.power,.int .i64 x.feeder,.int .i64 x.noise,.int .i64 x.width,u5] 139)):=((Below.refl _ _).alloc (Nat.le_refl _) _).alloc (by simp) _
 have B0:=Lib.hid b0
 have y0:w.heap.size+2≤((w.alloc (.cells #[.string x.name,.int .i64 x.power,.int .i64 x.feeder,.int .i64 x.noise,.int .i64 x.width,v5] 139)).alloc (.cells #[.string x.name,.int .i64 x.power,.int .i64 x.feeder,.int .i64 x.noise,.int .i64 x.width,u5] 139)).heap.size:=by first|(simp;done)|(simp;omega)
 clear b0
 go_enter Tryz.func181,Tryz.ntmps181
 go_wp2_with fail
 refine (eq_ModeS x.modes v5 u5 B _ (h5.below (B0.out.mono hB)) (g5.below (B0.out.mono hB)) (by omega) (by omega)).mono ?_
 rintro e w1 ⟨rfl,hb1⟩
 obtain⟨qa1,_,ya1⟩:=bcellAt hb1 (b:=w.heap.size) (by omega)
 obtain⟨qb1,_,yb1⟩:=bcellAt hb1 (b:=w.heap.size+1) (by omega)
 have y1:w.heap.size+2≤w1.heap.size:=by have:=hb1.size;omega
 have B1:=Lib.hid (B0.out.trans (hb1.mono (by omega)))
 clear hb1
 go_wp2
 go_ret
 exact⟨rfl,B1.out⟩
theorem DRadio.cnt_eq (x:DRadio):cnt (DMode.sT x.modes)=cnt (DMode.sT x.modes):=rfl
theorem DRadio.sT_eq (l:List DRadio):DRadio.sT l=.sl 6 (l.flatMap DRadio.tr):=rfl
theorem DRadio.siz_s (l:List DRadio):siz (DRadio.sT l)=l.length+sizL (l.flatMap DRadio.tr):=siz_flat DRadio.tr 6 (by decide) DRadio.tr_len l
theorem sz_RadioS (l:List DRadio) (v:Value) (B:Nat) (left:Int) (w:World) (h:Rd B w (DRadio.sT l) v) (hB:B≤w.heap.size) (hl:0≤left) (hl2:left≤1048576) (hstr:∀ x ∈ l,x.ok) :
  Calls Tryz.prog 87 #[v,.int .i64 left] w (SzPost (siz (DRadio.sT l)) left w):=by
 rw[DRadio.siz_s]
 obtain⟨a,c,rfl,hnc,hcm,hcells⟩:=DRadio.rd h
 clear h
 unfold maxLen at hcm
 by_cases c1:(l.length:Int)≤left
 ·have c1':decide (left-(l.length:Int)<0)=false:=by simp;omega
  go_enter Tryz.func87,Tryz.ntmps87
  go_wp2
  go_loopw [1,5] (fun m i wr=>∃ (k:Nat),k≤l.length∧i=.int .i64 k∧(sizL ((l.take k).flatMap DRadio.tr):Int)≤left-l.length∧m=.int .i64 (left-l.length-sizL ((l.take k).flatMap DRadio.tr))∧Below w.heap.size w wr) (fun _ i wr=>l.length-(intOf i).toNat)
  case atStart=>exact⟨0,Nat.zero_le _,rfl,by simp[sizL];omega,by simp[sizL],Below.refl _ _⟩
  case round =>
   obtain⟨k,hk,rfl,hm,rfl,hb⟩:=hrel
   by_cases hlt:k<l.length
   ·obtain⟨b,off,rfl,hbl,hat⟩:=hcells (by omega)
    obtain⟨s0,s1,s2,s3,s4,⟨u5,s5,r5⟩⟩:=hat k hlt
    rw[← hb.cell (p:=⟨b,_,none⟩) (show b<w.heap.size by omega)] at s0 s1 s2 s3 s4 s5
    have t5:Rd B wr (DMode.sT l[k].modes) u5:=r5.below (hb.mono hB)
    have hB':B≤wr.heap.size:=by have:=hb.size;omega
    have hok:=hstr l[k] (List.getElem_mem hlt)
    have hsum:=sizL_take_succ DRadio.tr l k hlt
    have hle:=sizL_take_le DRadio.tr l (k+1)
    have HS:=Lib.hid hsum
    have HB:=Lib.hid hb
    clear hcells hat hb hsum hstr r5
    go_wp2_with (go_at_call 146;refine (sz_Radio l[k] u5 B _ _ t5 hB' (by omega) (by omega) hok).mono ?_;rintro e w1 ⟨⟨c2,rfl⟩|⟨c2,rfl⟩,hb1⟩)
    ·have c3:decide (left-l.length-sizL ((l.take k).flatMap DRadio.tr)-sizL l[k].tr<0)=false:=by simp;omega
     go_wp2
     go_roundw
     case rel=>exact⟨k+1,by omega,by go_num,by rw[HS.out];omega,by rw[HS.out];go_num,HB.out.trans (hb1.mono HB.out.size)⟩
     case measure=>simp[intOf];omega
    ·go_wp2
     go_ret
     exact⟨Or.inr ⟨by have:=HS.out;omega,rfl⟩,HB.out.trans (hb1.mono HB.out.size)⟩
   ·obtain rfl:k=l.length:=by omega
    clear hcells
    rw[List.take_length] at hm
    go_wp2
    go_ret
    refine⟨Or.inl ⟨by omega,ret_int ?_⟩,hb⟩
    simp only[List.take_length]
    omega
 ·have c1':decide (left-(l.length:Int)<0)=true:=by simp;omega
  go_enter Tryz.func87,Tryz.ntmps87
  go_wp2
  go_ret
  exact⟨Or.inr ⟨by omega,rfl⟩,Below.refl _ _⟩
theorem infoRadio:(Tryz.prog.info? 139).map (fun i=>(i.zero,i.size,i.bytes))=some (some (.agg #[.string ⟨#[]⟩,.int .i64 0,.int .i64 0,.int .i64 0,.int .i64 0,.slice none 0 0]),6,72):=by kernel_rfl
theorem to_RadioS (l:List DRadio) (v:Value) (w:World) (h:Rd w.heap.size w (DRadio.sT l) v) (hn:siz (DRadio.sT l)≤1048576) :
  Calls Tryz.prog 103 #[v] w fun e w'=>∃ a' c' fp,e=.returned (.slice a' l.length c')∧Below w.heap.size w w'∧Own w' (DRadio.sT l) (.slice a' l.length c') fp∧In w.heap.size w'.heap.size fp:=by
 rw[DRadio.siz_s] at hn
 obtain⟨i0,hi0,hz0,hz1,hz2⟩:=info_parts infoRadio
 have hmk:=fun W=>run_make_rowN (P:=Tryz.prog) 46 139 i0 _ Tryz.underlying46 hi0 hz0 .i64 .i64 l.length l.length (Nat.le_refl _) (by rw[hz2];omega) (by omega) W
 rw[hz1] at hmk
 have hnb:(l.length:Int)≤1048576:=by omega
 obtain⟨a,c,rfl,hnc,hcm,hcells⟩:=DRadio.rd h
 clear h
 go_enter Tryz.func103,Tryz.ntmps103
 go_wp2
 clear hmk hi0 hz0 hz1 hz2
 go_loopw [4] (fun i wr=>∃ (k:Nat) (f:List Nat),k≤l.length∧i=.int .i64 k∧Below w.heap.size w wr∧Fill wr w.heap.size 139 (l.length*6) ((l.take k).flatMap DRadio.tr) f∧In w.heap.size wr.heap.size f) (fun i wr=>l.length-(intOf i).toNat)
 case atStart =>
  have hst:=Fill.start w (madeCells #[.string ⟨#[]⟩,.int .i64 0,.int .i64 0,.int .i64 0,.int .i64 0,.slice none 0 0] (l.length*6)) 139
  rw[size_madeCells] at hst
  exact⟨0,[],Nat.zero_le _,rfl,(Below.refl _ _).alloc (Nat.le_refl _) _,by simpa using hst,In.nil⟩
 case round =>
  obtain⟨k,f,hk,rfl,hb,hfill,hin⟩:=hrel
  by_cases hlt:k<l.length
  ·obtain⟨b,off,rfl,hbl,hat⟩:=hcells (by omega)
   obtain⟨s0,s1,s2,s3,s4,⟨u5,s5,r5⟩⟩:=hat k hlt
   rw[← hb.cell (p:=⟨b,_,none⟩) hbl] at s0 s1 s2 s3 s4 s5
   have hz:=hfill.lt
   have hz2:b<wr.heap.size:=by omega
   have t5:Rd wr.heap.size wr (DMode.sT l[k].modes) u5:=(r5.below hb).mono hb.size
   obtain⟨o0,p0⟩:=hfill.room (k*6) (by omega)
   obtain⟨o1,p1⟩:=hfill.room (k*6+1) (by omega)
   obtain⟨o2,p2⟩:=hfill.room (k*6+2) (by omega)
   obtain⟨o3,p3⟩:=hfill.room (k*6+3) (by omega)
   obtain⟨o4,p4⟩:=hfill.room (k*6+4) (by omega)
   obtain⟨o5,p5⟩:=hfill.room (k*6+5) (by omega)
   have hfz:=hfill.open_
   have hsl:=sizL_get_le DRadio.tr l k hlt
   have HB:=Lib.hid hb
   clear hcells hat hb r5
   go_wp2_with (go_at_call 160;refine (to_Radio l[k] u5 _ t5 (by omega)).mono ?_;rintro e w1 ⟨a5,c5,fp1,rfl,hb1,hown1,hin1⟩;obtain⟨q1,q2⟩:=bcell hb1)
   go_roundw
   case rel =>
    have hw1:=hfill.below hin hb1
    have hst:=hw1.step (us:=l[k].tr) (vs:=[.string l[k].name,.int .i64 l[k].power,.int .i64 l[k].feeder,.int .i64 l[k].noise,.int .i64 l[k].width,.slice a5 l[k].modes.length c5]) (g:=fp1) hown1.rep (by rw[flat_length _ 6 DRadio.tr_len];simp;omega) hown1.nd (fun e=>by have:=(hin1 _ e).1;omega) (fun x hx e=>by have:=(hin1 x hx).1;have:=(hin x e).2;omega) hown1.free
    rw[flat_length _ 6 DRadio.tr_len,List.length_take,Nat.min_eq_left hk,← flat_take_succ DRadio.tr l k hlt] at hst
    refine⟨k+1,f++fp1,by omega,by go_num,below_setRow (HB.out.trans (hb1.mono (by omega))) (Nat.le_refl _) [.string l[k].name,.int .i64 l[k].power,.int .i64 l[k].feeder,.int .i64 l[k].noise,.int .i64 l[k].width,.slice a5 l[k].modes.length c5] (k*6),hst,?_⟩
    simp only[size_setCell]
    exact (hin.mono (Nat.le_refl _) hb1.size).append (hin1.mono (by omega) (Nat.le_refl _))
   case measure=>simp[intOf];omega
  ·obtain rfl:k=l.length:=by omega
   clear hcells
   go_wp2
   go_ret
   rw[List.take_length] at hfill
   obtain⟨fp,h1,h2⟩:=hfill.own (flat_length _ 6 DRadio.tr_len l) (by unfold maxLen;omega)
   exact⟨_,_,fp,rfl,hb,h1,fun x hx=>by rcases h2 x hx with rfl|h;exact⟨Nat.le_refl _,hfill.lt⟩;exact hin x h⟩
theorem eq_RadioS (l:List DRadio) (v v':Value) (B:Nat) (w:World) (h:Rd B w (DRadio.sT l) v) (h':Rd B w (DRadio.sT l) v') (hB:B≤w.heap.size) (hn:siz (DRadio.sT l)≤1099511627776) :
  Calls Tryz.prog 119 #[v,v'] w fun e w'=>e=.returned (.bool true)∧Below w.heap.size w w':=by
 rw[DRadio.siz_s] at hn
 have hnb:(l.length:Int)≤1099511627776:=by omega
 obtain⟨a,c,rfl,hnc,hcm,hcells⟩:=DRadio.rd h
 obtain⟨a',c',rfl,hnc',hcm',hcells'⟩:=DRadio.rd h'
 clear h h'
 have hne:((l.length:Int) != l.length)=false:=by simp
 go_enter Tryz.func119,Tryz.ntmps119
 go_wp2
 clear hne
 go_loopw [5] (fun i wr=>∃ (k:Nat),k≤l.length∧i=.int .i64 k∧Below w.heap.size w wr) (fun i wr=>l.length-(intOf i).toNat)
 case atStart=>exact⟨0,Nat.zero_le _,rfl,Below.refl _ _⟩
 case round =>
  obtain⟨k,hk,rfl,hb⟩:=hrel
  by_cases hlt:k<l.length
  ·obtain⟨b,off,rfl,hbl,hat⟩:=hcells (by omega)
   obtain⟨b',off',rfl,hbl',hat'⟩:=hcells' (by omega)
   obtain⟨s0,s1,s2,s3,s4,⟨u5,s5,r5⟩⟩:=hat k hlt
   obtain⟨sb0,sb1,sb2,sb3,sb4,⟨ub5,sb5,rb5⟩⟩:=hat' k hlt
   rw[← hb.cell (p:=⟨b,_,none⟩) (show b<w.heap.size by omega)] at s0 s1 s2 s3 s4 s5
   rw[← hb.cell (p:=⟨b',_,none⟩) (show b' < w.heap.size by omega)] at sb0 sb1 sb2 sb3 sb4 sb5
   have t5:Rd B wr.drew (DMode.sT l[k].modes) u5:=(r5.below (hb.mono hB)).drew
   have tb5:Rd B wr.drew (DMode.sT l[k].modes) ub5:=(rb5.below (hb.mono hB)).drew
   have hB':B≤wr.heap.size:=by have:=hb.size;omega
   have hsl:=sizL_get_le DRadio.tr l k hlt
   have i1:(0:Int)≤(k:Int):=by omega
   have i2:(k:Int)<(l.length:Int):=by omega
   have HB:=Lib.hid hb
   clear hcells hat hcells' hat' hb r5 rb5
   go_wp2
   go_still_tail 8,(by kernel_rfl)
   change wpList _ _ _ _ _ wr.drew
   go_wp2_with (go_at_call 181;refine (eq_Radio l[k] u5 ub5 B _ t5 tb5 hB' (by omega)).mono ?_;rintro e w1 ⟨rfl,hb1⟩)
   go_roundw
   case rel=>exact⟨k+1,by omega,by go_num,HB.out.drew.trans (hb1.mono HB.out.size)⟩
   case measure=>simp[intOf];omega
  ·obtain rfl:k=l.length:=by omega
   clear hcells hcells'
   go_wp2
   go_ret
   exact⟨rfl,hb⟩
theorem DRadio.mk_tr (x:DRadio) (K:Nat):mkL x.tr K = [.lit (.string (mtext (K))),.lit (.int .i64 ((K:Int)+1)),.lit (.int .i64 ((K:Int)+1+1)),.lit (.int .i64 ((K:Int)+1+1+1)),.lit (.int .i64 ((K:Int)+1+1+1+1)),mkT (DMode.sT x.modes) (K+1+1+1+1+1)]:=rfl
theorem DRadio.cntL_tr (x:DRadio):cntL x.tr=1+1+1+1+1+cnt (DMode.sT x.modes):=by simp only[DRadio.tr,cntL,cnt,intT,strT];omega
theorem mark_RadioS (l:List DRadio) (v:Value) (fp:List Nat) (k0 lo:Nat) (w:World) (h:Own w (DRadio.sT l) v fp) (hin:In lo w.heap.size fp) (hs:siz (DRadio.sT l)≤1099511627776) (hk0:k0+cnt (DRadio.sT l)≤1099511627776) (hk1:0<k0) :
  Calls Tryz.prog 127 #[v,.int .i64 k0] w fun e w'=>e=.returned (.int .i64 ((k0+cnt (DRadio.sT l):Nat):Int))∧Own w' (mkT (DRadio.sT l) k0) v fp∧Chg fp w w':=by
 rw[DRadio.siz_s] at hs
 obtain⟨a,c,hv,hnc,hcm⟩:=h.form (k:=6) (g:=DRadio.tr) (by decide) DRadio.tr_len
 subst hv
 rw[show cnt (DRadio.sT l)=cntL (l.flatMap DRadio.tr) from by rw[DRadio.sT,cnt]] at hk0 ⊢
 have hnb:(l.length:Int)≤1099511627776:=by omega
 go_enter Tryz.func127,Tryz.ntmps127
 go_wp2
 go_loopw [1,5] (fun kk i wr=>∃ (j K:Nat),j≤l.length∧i=.int .i64 j∧K=k0+cntL ((l.take j).flatMap DRadio.tr)∧kk=.int .i64 (K:Int)∧Own wr (mid DRadio.tr 6 l k0 j) (.slice a l.length c) fp∧Chg fp w wr) (fun _ i wr=>l.length-(intOf i).toNat)
 case atStart=>exact⟨0,k0,Nat.zero_le _,rfl,by simp[cntL],rfl,by rw[mid_zero];exact h,Chg.refl _ _⟩
 case round =>
  obtain⟨j,K,hj,rfl,hK,rfl,hown,hchg⟩:=hrel
  by_cases hlt:j<l.length
  ·rw[mid_at _ _ _ _ _ hlt] at hown
   have hts:(mkL ((l.take j).flatMap DRadio.tr) k0).length=j*6:=by rw[mkL_length,flat_length _ 6 DRadio.tr_len,List.length_take,Nat.min_eq_left hj]
   have hsum:=cntL_take_succ DRadio.tr l j hlt
   have hle:=cntL_flat_take_le DRadio.tr l (j+1)
   have hcx:=DRadio.cntL_tr l[j]
   have hkb:K+(1+1+1+1+1+cnt (DMode.sT l[j].modes))≤1099511627776:=by omega
   have hkp:0<K:=by omega
   have hszj:=sizL_get_le DRadio.tr l j hlt
   have HM:=Lib.hid (mid_succ DRadio.tr 6 l k0 j hlt)
   have HS:=Lib.hid hsum
   have HK:=Lib.hid hK
   have HC:=Lib.hid hcx
   have HT:=Lib.hid hts
   clear hsum hcx hle hK hts
   generalize mkL ((l.take j).flatMap DRadio.tr) k0=TS at *
   generalize (l.drop (j+1)).flatMap DRadio.tr=US at *
   have hin':In lo wr.heap.size fp:=hin.mono (Nat.le_refl _) hchg.size
   have o0:Own wr (.sl 6 (TS++([.lit (.string l[j].name),.lit (.int .i64 l[j].power),.lit (.int .i64 l[j].feeder),.lit (.int .i64 l[j].noise),.lit (.int .i64 l[j].width),DMode.sT l[j].modes]++US))) (.slice a l.length c) fp:=hown
   clear hown
   obtain⟨b,off,rfl,hbf⟩:=o0.someAddr
   have hbw:=(hin' b hbf).2
   have hfz:∀ i,wr.frozen? ⟨b,i,none⟩=false:=o0.free b hbf
   have z0:wr.heap.size≤wr.heap.size:=Nat.le_refl _
   obtain⟨s0,_⟩:=o0.cellChunk 0 _ rfl (off+j*6) (by rw[HT.out];omega)
   obtain⟨s1,_⟩:=o0.cellChunk 1 _ rfl (off+j*6+1) (by rw[HT.out];omega)
   obtain⟨s2,_⟩:=o0.cellChunk 2 _ rfl (off+j*6+2) (by rw[HT.out];omega)
   obtain⟨s3,_⟩:=o0.cellChunk 3 _ rfl (off+j*6+3) (by rw[HT.out];omega)
   obtain⟨s4,_⟩:=o0.cellChunk 4 _ rfl (off+j*6+4) (by rw[HT.out];omega)
   obtain⟨x5,g5,s5,_,_,_,_⟩:=o0.partChunk 5 _ rfl (off+j*6+5) (by rw[HT.out];omega)
   have O0:=Lib.hid o0
   have C0:=Lib.hid hchg
   clear o0 hchg
   go_wp2_with fail
   refine (markText_int _ _ (by omega) (by omega)).mono ?_
   rintro e w1 ⟨rfl,hb1⟩
   obtain⟨qa1,qb1,hbw1⟩:=bcellAt hb1 (b:=b) (by first|omega|(simp only[size_setCell];omega))
   have z1:wr.heap.size≤w1.heap.size:=by have:=hb1.size;(try simp only[size_setCell] at this);omega
   have O1:=Lib.hid ((O0.out.below hin' (by first|omega|(simp only[size_setCell];omega)) hb1).setChunk 0 _ rfl (off+j*6) (by rw[HT.out];omega) (.string (mtext (K))))
   have C1:=Lib.hid ((C0.out.trans (Chg.of_below hb1)).setCell (p:=⟨b,off+j*6,none⟩) hbf (.string (mtext (K))))
   have O2:=Lib.hid (O1.out.setChunk 1 _ rfl (off+j*6+1) (by rw[HT.out];omega) (.int .i64 ((K:Int)+1)))
   have C2:=Lib.hid (C1.out.setCell (p:=⟨b,off+j*6+1,none⟩) hbf (.int .i64 ((K:Int)+1)))
   have O3:=Lib.hid (O2.out.setChunk 2 _ rfl (off+j*6+2) (by rw[HT.out];omega) (.int .i64 ((K:Int)+1+1)))
   have C3:=Lib.hid (C2.out.setCell (p:=⟨b,off+j*6+2,none⟩) hbf (.int .i64 ((K:Int)+1+1)))
   have O4:=Lib.hid (O3.out.setChunk 3 _ rfl (off+j*6+3) (by rw[HT.out];omega) (.int .i64 ((K:Int)+1+1+1)))
   have C4:=Lib.hid (C3.out.setCell (p:=⟨b,off+j*6+3,none⟩) hbf (.int .i64 ((K:Int)+1+1+1)))
   have O5:=Lib.hid (O4.out.setChunk 4 _ rfl (off+j*6+4) (by rw[HT.out];omega) (.int .i64 ((K:Int)+1+1+1+1)))
   have C5:=Lib.hid (C4.out.setCell (p:=⟨b,off+j*6+4,none⟩) hbf (.int .i64 ((K:Int)+1+1+1+1)))
   obtain⟨y5,h5,sy5,hox5,hgf5,hbg5,hset5⟩:=O5.out.partChunk 5 _ rfl (off+j*6+5) (by rw[HT.out];omega)
   have HX5:=Lib.hid hox5
   have HY5:=Lib.hid hset5
   clear hox5 hset5
   have hsz5:siz (DMode.sT l[j].modes)≤1099511627776:=by
    have:siz (DMode.sT l[j].modes)≤sizL l[j].tr:=by simp only[DRadio.tr,sizL];omega
    omega
   go_wp2_with fail
   refine (markI_ModeS (l[j].modes) y5 h5 (K+1+1+1+1+1) lo _ _ HX5.out (fun y hy=>⟨(hin' y (hgf5 y hy)).1,by have:=(hin' y (hgf5 y hy)).2;(try simp only[size_setCell]);omega⟩) hsz5 (by simp only[Int.natCast_add,Int.natCast_one]) (by omega) (by omega)).mono ?_
   rintro e w2 ⟨rfl,ho2,hc2⟩
   have z2:wr.heap.size≤w2.heap.size:=by have:=hc2.size;(try simp only[size_setCell] at this);omega
   have hbk2:=hc2.block b (by first|omega|(simp only[size_setCell];omega)) hbg5
   have qa2:∀ o,w2.cell? ⟨b,o,none⟩=_:=fun o=>World.cell?_of_block (a:=⟨b,o,none⟩) hbk2
   have qb2:∀ o,w2.frozen? ⟨b,o,none⟩=_:=fun o=>World.frozen?_of_block (a:=⟨b,o,none⟩) hbk2
   clear hbk2
   have O6:=Lib.hid (HY5.out w2 _ (fun y hy hyg=>hc2.block y (by have:=(hin' y hy).2;(try simp only[size_setCell]);omega) hyg) ho2)
   have C6:=Lib.hid (C5.out.trans (hc2.mono hgf5))
   clear hc2 ho2
   go_wp2
   go_roundw
   case rel =>
    refine⟨j+1,K+(1+1+1+1+1+cnt (DMode.sT l[j].modes)),by omega,by go_num,by have:=HK.out;have:=HS.out;have:=HC.out;omega,by go_num,?_,C6.out⟩
    rw[HM.out,← HK.out,DRadio.mk_tr]
    exact O6.out
   case measure=>simp[intOf];omega
  ·obtain rfl:j=l.length:=by omega
   have HK:=Lib.hid hK
   clear hK
   go_wp2
   go_ret
   rw[mid_end] at hown
   have e:=HK.out
   rw[List.take_length] at e
   exact⟨ret_int (by omega),hown,hchg⟩
theorem markI_RadioS (l:List DRadio) (v:Value) (fp:List Nat) (k lo:Nat) (K:Int) (w:World) (h:Own w (DRadio.sT l) v fp) (hin:In lo w.heap.size fp) (hs:siz (DRadio.sT l)≤1099511627776) (hK:K=(k:Int)) (hk0:k+cnt (DRadio.sT l)≤1099511627776) (hk1:0<k) :
  Calls Tryz.prog 127 #[v,.int .i64 K] w fun e w'=>e=.returned (.int .i64 (K+(cnt (DRadio.sT l):Int)))∧Own w' (mkT (DRadio.sT l) k) v fp∧Chg fp w w':=by
 subst hK
 refine (mark_RadioS l v fp k lo w h hin hs hk0 hk1).mono fun e w' ⟨he,h1,h2⟩=>⟨?_,h1,h2⟩
 rw[he,Int.natCast_add]
end Go.Proofs.YtjfmkmcefnidcaaGreat
