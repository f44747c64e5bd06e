/- Contracts of the laws' helpers over the type End and slices of it. Conditions: bounded lengths. -/
import Derived.Test.YtdgmgchdjlfchaaGreatDoorProb1
import Derived.Test.YtdgmgchdjlfchaaGreatDoorTypes
import Derived.Test.YtdgmgchdjlfchaaGreatDoorText
import Derived.Test.YtdgmgchdjlfchaaGreatDoorOver
namespace Go.Proofs.YtdgmgchdjlfchaaGreatDoor
open Go.RowKit
set_option linter.unusedVariables false
end Go.Proofs.YtdgmgchdjlfchaaGreatDoor
namespace Go.Proofs.YtdgmgchdjlfchaaGreatDoor
open Go.RowKit
set_option linter.unusedVariables false
end Go.Proofs.YtdgmgchdjlfchaaGreatDoor
namespace Go.Proofs.YtdgmgchdjlfchaaGreatDoor
open Go.RowKit
set_option linter.unusedVariables false
theorem to_Point (x:DPoint) (w:World) :
  Calls Tryz.prog 52 #[.agg #[.int .i64 x.x,.int .i64 x.y]] w fun e w'=>e=.returned (.agg #[.int .i64 x.x,.int .i64 x.y])∧Below w.heap.size w w':=by
 go_enter Tryz.func52,Tryz.ntmps52
 go_wp2
 exact bodyPost_ret (v:=.agg #[.int .i64 x.x,.int .i64 x.y]) (by simp[results,Tryz.results52,go_sem]) rfl ⟨rfl,(((Below.refl _ _).alloc (Nat.le_refl _) _).alloc (by simp) _).alloc (by simp<;>omega) _⟩
theorem eq_Point (x:DPoint) (w:World) :
  Calls Tryz.prog 125 #[.agg #[.int .i64 x.x,.int .i64 x.y],.agg #[.int .i64 x.x,.int .i64 x.y]] w fun e w'=>e=.returned (.bool true)∧Below w.heap.size w w':=by
 go_enter Tryz.func125,Tryz.ntmps125
 go_wp2
 go_ret
 exact⟨rfl,((Below.refl _ _).alloc (Nat.le_refl _) _).alloc (by simp) _⟩
end Go.Proofs.YtdgmgchdjlfchaaGreatDoor
namespace Go.Proofs.YtdgmgchdjlfchaaGreatDoor
set_option maxHeartbeats 2000000
set_option maxRecDepth 100000
open Go.RowKit
set_option linter.unusedVariables false
theorem DSite.siz_tr (x:DSite):sizL x.tr=x.name.size+x.holder.size:=by simp[DSite.tr,sizL,siz,intT,strT]<;>omega
theorem sz_Site (x:DSite) (B:Nat) (left:Int) (w:World) (hB:B≤w.heap.size) (hl:0≤left) (hl2:left≤1048576) (hok:x.ok) :
  Calls Tryz.prog 82 #[.agg #[.string x.name,.string x.holder,.int .i64 x.place.x,.int .i64 x.place.y],.int .i64 left] w (SzPost (sizL x.tr) left w):=by
 rw[DSite.siz_tr]
 have hs0:=hok.name
 have hs1:=hok.holder
 unfold maxLen at hs0 hs1
 clear hok
 go_enter Tryz.func82,Tryz.ntmps82
 go_wp2
 all_goals go_ret
 all_goals first|exact⟨Or.inl ⟨by omega,ret_int (by omega)⟩,(Below.refl _ _).alloc (Nat.le_refl _) _⟩|exact⟨Or.inr ⟨by omega,rfl⟩,(Below.refl _ _).alloc (Nat.le_refl _) _⟩
theorem to_Site (x:DSite) (w:World) :
  Calls Tryz.prog 95 #[.agg #[.string x.name,.string x.holder,.int .i64 x.place.x,.int .i64 x.place.y]] w fun e w'=>e=.returned (.agg #[.string x.name,.string x.holder,.int .i64 x.place.x,.int .i64 x.place.y])∧Below w.heap.size w w':=by
 go_enter Tryz.func95,Tryz.ntmps95
 go_wp2_with fail
 refine (to_Point x.place _).mono ?_
 rintro e w1 ⟨rfl,hb1⟩
 obtain⟨qa1,fa1,ya1⟩:=bcellAt hb1 (b:=w.heap.size) (by first|omega|(simp;done)|(simp<;>omega))
 obtain⟨qb1,fb1,yb1⟩:=bcellAt hb1 (b:=w.heap.size+1) (by first|omega|(simp;done)|(simp<;>omega))
 obtain⟨qc1,fc1,yc1⟩:=bcellAt hb1 (b:=w.heap.size+1+1) (by first|omega|(simp;done)|(simp<;>omega))
 go_wp2
 refine bodyPost_ret (v:=.agg #[.string x.name,.string x.holder,.int .i64 x.place.x,.int .i64 x.place.y]) (by simp[results,Tryz.results95,go_sem, *]) rfl ⟨rfl,?_⟩
 repeat (first|exact Below.refl _ _|(refine Below.setCell ?_ (by first|omega|(simp;done)|(simp<;>omega)) _)|(refine Below.alloc ?_ (by first|omega|(simp;done)|(simp<;>omega)) _)|(refine Below.trans ?_ (hb1.mono (by first|omega|(simp;done)|(simp<;>omega)))))
theorem eq_Site (x:DSite) (w:World) :
  Calls Tryz.prog 111 #[.agg #[.string x.name,.string x.holder,.int .i64 x.place.x,.int .i64 x.place.y],.agg #[.string x.name,.string x.holder,.int .i64 x.place.x,.int .i64 x.place.y]] w fun e w'=>e=.returned (.bool true)∧Below w.heap.size w w':=by
 go_enter Tryz.func111,Tryz.ntmps111
 go_wp2_with fail
 refine (eq_Point x.place _).mono ?_
 rintro e w1 ⟨rfl,hb1⟩
 obtain⟨qa1,_,ya1⟩:=bcellAt hb1 (b:=w.heap.size) (by first|omega|(simp;done)|(simp<;>omega))
 obtain⟨qb1,_,yb1⟩:=bcellAt hb1 (b:=w.heap.size+1) (by first|omega|(simp;done)|(simp<;>omega))
 go_wp2
 go_ret
 refine⟨rfl,?_⟩
 repeat (first|exact Below.refl _ _|(refine Below.alloc ?_ (by first|omega|(simp;done)|(simp<;>omega)) _)|(refine Below.trans ?_ (hb1.mono (by first|omega|(simp;done)|(simp<;>omega)))))
theorem DSite.siz_s (l:List DSite):siz (DSite.sT l)=l.length+sizL (l.flatMap DSite.tr):=siz_flat DSite.tr 4 (by decide) DSite.tr_len l
theorem sz_SiteS (l:List DSite) (v:Value) (B:Nat) (left:Int) (w:World) (h:Rd B w (DSite.sT l) v) (hB:B≤w.heap.size) (hl:0≤left) (hl2:left≤1048576) (hstr:∀ x ∈ l,x.ok) :
  Calls Tryz.prog 35 #[v,.int .i64 left] w (SzPost (siz (DSite.sT l)) left w):=by
 rw[DSite.siz_s]
 obtain⟨a,c,rfl,hnc,hcm,hcells⟩:=DSite.rd h
 clear h
 unfold maxLen at hcm
 by_cases c1:(l.length:Int)≤left
 ·have c1':decide (left-(l.length:Int)<0)=false:=by simp<;>omega
  go_enter Tryz.func35,Tryz.ntmps35
  go_wp2
  go_loopw [1,5] (fun m i wr=>∃ (k:Nat),k≤l.length∧i=.int .i64 k∧(sizL ((l.take k).flatMap DSite.tr):Int)≤left-l.length∧m=.int .i64 (left-l.length-sizL ((l.take k).flatMap DSite.tr))∧Below w.heap.size w wr) (fun _ i wr=>l.length-(intOf i).toNat)
  case atStart=>exact⟨0,Nat.zero_le _,rfl,by simp[sizL];omega,by simp[sizL],Below.refl _ _⟩
  case round =>
   obtain⟨k,hk,rfl,hm,rfl,hb⟩:=hrel
   by_cases hlt:k<l.length
   ·obtain⟨b,off,rfl,hbl,hat⟩:=hcells (by omega)
    obtain⟨s0,s1,s2,s3⟩:=hat k hlt
    rw[← hb.cell (p:=⟨b,_,none⟩) (show b<w.heap.size by omega)] at s0 s1 s2 s3
    have hB':B≤wr.heap.size:=by have:=hb.size;omega
    have hok:=hstr l[k] (List.getElem_mem hlt)
    have hsum:=sizL_take_succ DSite.tr l k hlt
    have hle:=sizL_take_le DSite.tr l (k+1)
    have HS:=Lib.hid hsum
    have HB:=Lib.hid hb
    clear hcells hat hb hsum hstr
    go_wp2_with (go_at_call 82;refine (sz_Site l[k]  B _ _  hB' (by omega) (by omega) hok).mono ?_;rintro e w1 ⟨⟨c2,rfl⟩|⟨c2,rfl⟩,hb1⟩)
    ·have c3:decide (left-l.length-sizL ((l.take k).flatMap DSite.tr)-sizL l[k].tr<0)=false:=by simp<;>omega
     go_wp2
     go_roundw
     case rel=>exact⟨k+1,by omega,by go_num,by rw[HS.out];omega,by rw[HS.out];go_num,HB.out.trans (hb1.mono HB.out.size)⟩
     case measure=>simp[intOf];omega
    ·go_wp2
     go_ret
     exact⟨Or.inr ⟨by have:=HS.out;omega,rfl⟩,HB.out.trans (hb1.mono HB.out.size)⟩
   ·obtain rfl:k=l.length:=by omega
    clear hcells
    rw[List.take_length] at hm
    go_wp2
    go_ret
    refine⟨Or.inl ⟨by omega,ret_int ?_⟩,hb⟩
    simp only[List.take_length]
    omega
 ·have c1':decide (left-(l.length:Int)<0)=true:=by simp<;>omega
  go_enter Tryz.func35,Tryz.ntmps35
  go_wp2
  go_ret
  exact⟨Or.inr ⟨by omega,rfl⟩,Below.refl _ _⟩
theorem infoSite:(Tryz.prog.info? 137).map (fun i=>(i.zero,i.size,i.bytes))=some (some (.agg #[.string ⟨#[]⟩,.string ⟨#[]⟩,.int .i64 0,.int .i64 0]),4,48):=by kernel_rfl
theorem to_SiteS (l:List DSite) (v:Value) (w:World) (h:Rd w.heap.size w (DSite.sT l) v) (hn:siz (DSite.sT l)≤1048576) :
  Calls Tryz.prog 48 #[v] w fun e w'=>∃ a' c' fp,e=.returned (.slice a' l.length c')∧Below w.heap.size w w'∧Own w' (DSite.sT l) (.slice a' l.length c') fp∧In w.heap.size w'.heap.size fp:=by
 rw[DSite.siz_s] at hn
 obtain⟨i0,hi0,hz0,hz1,hz2⟩:=info_parts infoSite
 have hmk:=fun W=>run_make_rowN (P:=Tryz.prog) 41 137 i0 _ Tryz.underlying41 hi0 hz0 .i64 .i64 l.length l.length (Nat.le_refl _) (by rw[hz2];omega) (by omega) W
 rw[hz1] at hmk
 have hnb:(l.length:Int)≤1048576:=by omega
 obtain⟨a,c,rfl,hnc,hcm,hcells⟩:=DSite.rd h
 clear h
 go_enter Tryz.func48,Tryz.ntmps48
 go_wp2
 clear hmk hi0 hz0 hz1 hz2
 go_loopw [4] (fun i wr=>∃ (k:Nat) (f:List Nat),k≤l.length∧i=.int .i64 k∧Below w.heap.size w wr∧Fill wr w.heap.size 137 (l.length*4) ((l.take k).flatMap DSite.tr) f∧In w.heap.size wr.heap.size f) (fun i wr=>l.length-(intOf i).toNat)
 case atStart =>
  have hst:=Fill.start w (madeCells #[.string ⟨#[]⟩,.string ⟨#[]⟩,.int .i64 0,.int .i64 0] (l.length*4)) 137
  rw[size_madeCells] at hst
  exact⟨0,[],Nat.zero_le _,rfl,(Below.refl _ _).alloc (Nat.le_refl _) _,by simpa using hst,In.nil⟩
 case round =>
  obtain⟨k,f,hk,rfl,hb,hfill,hin⟩:=hrel
  by_cases hlt:k<l.length
  ·obtain⟨b,off,rfl,hbl,hat⟩:=hcells (by omega)
   obtain⟨s0,s1,s2,s3⟩:=hat k hlt
   rw[← hb.cell (p:=⟨b,_,none⟩) hbl] at s0 s1 s2 s3
   have hz:=hfill.lt
   have hz2:b<wr.heap.size:=by omega
   obtain⟨o0,p0⟩:=hfill.room (k*4) (by omega)
   obtain⟨o1,p1⟩:=hfill.room (k*4+1) (by omega)
   obtain⟨o2,p2⟩:=hfill.room (k*4+2) (by omega)
   obtain⟨o3,p3⟩:=hfill.room (k*4+3) (by omega)
   have hfz:=hfill.open_
   have hsl:=sizL_get_le DSite.tr l k hlt
   have HB:=Lib.hid hb
   clear hcells hat hb
   go_wp2_with (go_at_call 95;refine (to_Site l[k] _).mono ?_;rintro e w1 ⟨rfl,hb1⟩;obtain⟨q1,q2⟩:=bcell hb1)
   go_roundw
   case rel =>
    have hw1:=hfill.below hin hb1
    have hst:=hw1.step (us:=l[k].tr) (vs:=[.string l[k].name,.string l[k].holder,.int .i64 l[k].place.x,.int .i64 l[k].place.y]) (g:=[]) (RepV.lits [.string l[k].name,.string l[k].holder,.int .i64 l[k].place.x,.int .i64 l[k].place.y]) (by rw[flat_length _ 4 DSite.tr_len];simp<;>omega) List.nodup_nil (by simp) (by simp) (fun b h=>by simp at h)
    rw[flat_length _ 4 DSite.tr_len,List.length_take,Nat.min_eq_left hk,List.append_nil,← flat_take_succ DSite.tr l k hlt] at hst
    exact⟨k+1,f,by omega,by go_num,below_setRow (HB.out.trans (hb1.mono (by omega))) (Nat.le_refl _) [.string l[k].name,.string l[k].holder,.int .i64 l[k].place.x,.int .i64 l[k].place.y] (k*4),hst,fun x hx=>⟨(hin x hx).1,by have:=(hin x hx).2;have:=hb1.size;simp only[size_setCell];omega⟩⟩
   case measure=>simp[intOf];omega
  ·obtain rfl:k=l.length:=by omega
   clear hcells
   go_wp2
   go_ret
   rw[List.take_length] at hfill
   obtain⟨fp,h1,h2⟩:=hfill.own (flat_length _ 4 DSite.tr_len l) (by unfold maxLen;omega)
   exact⟨_,_,fp,rfl,hb,h1,fun x hx=>by rcases h2 x hx with rfl|h;exact⟨Nat.le_refl _,hfill.lt⟩;exact hin x h⟩
theorem eq_SiteS (l:List DSite) (v v':Value) (B:Nat) (w:World) (h:Rd B w (DSite.sT l) v) (h':Rd B w (DSite.sT l) v') (hB:B≤w.heap.size) (hn:siz (DSite.sT l)≤1099511627776) :
  Calls Tryz.prog 61 #[v,v'] w fun e w'=>e=.returned (.bool true)∧Below w.heap.size w w':=by
 rw[DSite.siz_s] at hn
 have hnb:(l.length:Int)≤1099511627776:=by omega
 obtain⟨a,c,rfl,hnc,hcm,hcells⟩:=DSite.rd h
 obtain⟨a',c',rfl,hnc',hcm',hcells'⟩:=DSite.rd h'
 clear h h'
 have hne:((l.length:Int) != l.length)=false:=by simp
 go_enter Tryz.func61,Tryz.ntmps61
 go_wp2
 clear hne
 go_loopw [5] (fun i wr=>∃ (k:Nat),k≤l.length∧i=.int .i64 k∧Below w.heap.size w wr) (fun i wr=>l.length-(intOf i).toNat)
 case atStart=>exact⟨0,Nat.zero_le _,rfl,Below.refl _ _⟩
 case round =>
  obtain⟨k,hk,rfl,hb⟩:=hrel
  by_cases hlt:k<l.length
  ·obtain⟨b,off,rfl,hbl,hat⟩:=hcells (by omega)
   obtain⟨b',off',rfl,hbl',hat'⟩:=hcells' (by omega)
   obtain⟨s0,s1,s2,s3⟩:=hat k hlt
   obtain⟨sb0,sb1,sb2,sb3⟩:=hat' k hlt
   rw[← hb.cell (p:=⟨b,_,none⟩) (show b<w.heap.size by omega)] at s0 s1 s2 s3
   rw[← hb.cell (p:=⟨b',_,none⟩) (show b' < w.heap.size by omega)] at sb0 sb1 sb2 sb3
   have hB':B≤wr.heap.size:=by have:=hb.size;omega
   have hsl:=sizL_get_le DSite.tr l k hlt
   have i1:(0:Int)≤(k:Int):=by omega
   have i2:(k:Int)<(l.length:Int):=by omega
   have HB:=Lib.hid hb
   clear hcells hat hcells' hat' hb
   go_wp2
   go_still_tail 8,(by kernel_rfl)
   change wpList _ _ _ _ _ wr.drew
   go_wp2_with (go_at_call 111;refine (eq_Site l[k]   _  ).mono ?_;rintro e w1 ⟨rfl,hb1⟩)
   go_roundw
   case rel=>exact⟨k+1,by omega,by go_num,HB.out.drew.trans (hb1.mono HB.out.size)⟩
   case measure=>simp[intOf];omega
  ·obtain rfl:k=l.length:=by omega
   clear hcells hcells'
   go_wp2
   go_ret
   exact⟨rfl,hb⟩
end Go.Proofs.YtdgmgchdjlfchaaGreatDoor
namespace Go.Proofs.YtdgmgchdjlfchaaGreatDoor
set_option maxHeartbeats 4000000
set_option maxRecDepth 100000
open Go.RowKit
set_option linter.unusedVariables false
theorem DAntenna.siz_tr (x:DAntenna):sizL x.tr=x.name.size+siz (intsT x.horizontal)+siz (intsT x.vertical):=by
 simp only[DAntenna.tr,sizL,siz,intT,strT]
 omega
theorem sz_Antenna (x:DAntenna) (v2 v3:Value) (B:Nat) (left:Int) (w:World) (h2:Rd B w (intsT x.horizontal) v2) (h3:Rd B w (intsT x.vertical) v3) (hB:B≤w.heap.size) (hl:0≤left) (hl2:left≤1048576) (hok:x.ok) :
  Calls Tryz.prog 84 #[.agg #[.string x.name,.int .i64 x.gain,v2,v3],.int .i64 left] w (SzPost (sizL x.tr) left w):=by
 have hsum:=DAntenna.siz_tr x
 have b0:Below w.heap.size w (w.alloc (.cells #[.string x.name,.int .i64 x.gain,v2,v3] 129)):=(Below.refl _ _).alloc (Nat.le_refl _) _
 have B0:=Lib.hid b0
 have z0:w.heap.size≤(w.alloc (.cells #[.string x.name,.int .i64 x.gain,v2,v3] 129)).heap.size:=b0.size
 have y0:w.heap.size<(w.alloc (.cells #[.string x.name,.int .i64 x.gain,v2,v3] 129)).heap.size:=by simp
 have R0_2:=Lib.hid (h2.below (b0.mono hB))
 have R0_3:=Lib.hid (h3.below (b0.mono hB))
 clear b0 h2 h3
 go_enter Tryz.func84,Tryz.ntmps84
 have hm0:x.name.size≤9223372036854775807:=hok.name
 by_cases c0:(x.name.size:Int)≤left
 case neg =>
  go_wp2
  go_ret
  exact⟨Or.inr ⟨by omega,rfl⟩,B0.out⟩
 have d0:decide (left-(x.name.size:Int)<0)=false:=by simp<;>omega
 go_wp2_with fail
 refine (sz_Int64S x.horizontal v2 B _ _ R0_2.out (by omega) (by omega) (by omega)).mono ?_
 rintro e w1 ⟨⟨c1,rfl⟩|⟨c1,rfl⟩,hb1⟩
 case inr =>
  go_wp2
  go_ret
  exact⟨Or.inr ⟨by omega,rfl⟩,B0.out.trans (hb1.mono z0)⟩
 obtain⟨q1,_,y1⟩:=bcellAt hb1 (b:=w.heap.size) y0
 have z1:w.heap.size≤w1.heap.size:=by omega
 have B1:=Lib.hid (B0.out.trans (hb1.mono z0))
 have R1_2:=Lib.hid (R0_2.out.below (hb1.mono (by omega)))
 have R1_3:=Lib.hid (R0_3.out.below (hb1.mono (by omega)))
 clear hb1
 have d1:decide (left-(x.name.size:Int)-(siz (intsT x.horizontal):Int)<0)=false:=by simp<;>omega
 go_wp2_with fail
 refine (sz_Int64S x.vertical v3 B _ _ R1_3.out (by omega) (by omega) (by omega)).mono ?_
 rintro e w2 ⟨⟨c2,rfl⟩|⟨c2,rfl⟩,hb2⟩
 case inr =>
  go_wp2
  go_ret
  exact⟨Or.inr ⟨by omega,rfl⟩,B1.out.trans (hb2.mono z1)⟩
 obtain⟨q2,_,y2⟩:=bcellAt hb2 (b:=w.heap.size) y1
 have z2:w.heap.size≤w2.heap.size:=by omega
 have B2:=Lib.hid (B1.out.trans (hb2.mono z1))
 have R2_2:=Lib.hid (R1_2.out.below (hb2.mono (by omega)))
 have R2_3:=Lib.hid (R1_3.out.below (hb2.mono (by omega)))
 clear hb2
 have d2:decide (left-(x.name.size:Int)-(siz (intsT x.horizontal):Int)-(siz (intsT x.vertical):Int)<0)=false:=by simp<;>omega
 go_wp2
 go_ret
 exact⟨Or.inl ⟨by omega,ret_int (by omega)⟩,B2.out⟩
theorem to_Antenna (x:DAntenna) (v2 v3:Value) (w:World) (h2:Rd w.heap.size w (intsT x.horizontal) v2) (h3:Rd w.heap.size w (intsT x.vertical) v3) (hn:sizL x.tr≤1048576) :
  Calls Tryz.prog 97 #[.agg #[.string x.name,.int .i64 x.gain,v2,v3]] w fun e w'=>∃ a2 c2 a3 c3 fp,e=.returned (.agg #[.string x.name,.int .i64 x.gain,.slice a2 x.horizontal.length c2,.slice a3 x.vertical.length c3])∧Below w.heap.size w w'∧OwnV w' x.tr [.string x.name,.int .i64 x.gain,.slice a2 x.horizontal.length c2,.slice a3 x.vertical.length c3] fp∧In w.heap.size w'.heap.size fp:=by
 have hsum:=DAntenna.siz_tr x
 go_enter Tryz.func97,Tryz.ntmps97
 have bX0:Below w.heap.size w (((w.alloc (.cells #[.string x.name,.int .i64 x.gain,v2,v3] 129)).alloc (.cells #[.string ⟨#[]⟩,.int .i64 0,.slice none 0 0,.slice none 0 0] 147)).alloc (.cells #[.string x.name,.int .i64 x.gain,.slice none 0 0,.slice none 0 0] 147)):=(((Below.refl _ _).alloc (Nat.le_refl _) _).alloc (by simp) _).alloc (by first|(simp;done)|(simp<;>omega)) _
 have BX0:=Lib.hid bX0
 have zX0:w.heap.size+3≤(((w.alloc (.cells #[.string x.name,.int .i64 x.gain,v2,v3] 129)).alloc (.cells #[.string ⟨#[]⟩,.int .i64 0,.slice none 0 0,.slice none 0 0] 147)).alloc (.cells #[.string x.name,.int .i64 x.gain,.slice none 0 0,.slice none 0 0] 147)).heap.size:=by first|(simp;done)|(simp<;>omega)
 clear bX0
 go_wp2_with fail
 refine (to_Int64S x.horizontal v2 (((w.alloc (.cells #[.string x.name,.int .i64 x.gain,v2,v3] 129)).alloc (.cells #[.string ⟨#[]⟩,.int .i64 0,.slice none 0 0,.slice none 0 0] 147)).alloc (.cells #[.string x.name,.int .i64 x.gain,.slice none 0 0,.slice none 0 0] 147)) ((h2.below BX0.out).mono (by omega)) (by omega)).mono ?_
 rintro e w1 ⟨a2,c2,fp1,rfl,hb1,o1,i1⟩
 obtain⟨qa1,_,ya1⟩:=bcellAt hb1 (b:=w.heap.size) (by omega)
 obtain⟨qb1,qf1,yb1⟩:=bcellAt hb1 (b:=w.heap.size+1) (by omega)
 obtain⟨qc1,qg1,yc1⟩:=bcellAt hb1 (b:=w.heap.size+1+1) (by omega)
 have z1:=hb1.size
 have B1:=Lib.hid (BX0.out.trans (hb1.mono (by omega)))
 have y1:w.heap.size+3≤w1.heap.size:=by omega
 have j1:In (w.heap.size+3) w1.heap.size fp1:=i1.mono (by omega) (Nat.le_refl _)
 have P1_1:=Lib.hid o1
 clear hb1 o1 i1
 have BX1:=Lib.hid (B1.out.setCell (p:=⟨w.heap.size+1+1,2,none⟩) (by show w.heap.size≤w.heap.size+1+1;omega) (.slice a2 x.horizontal.length c2))
 have zX1:w.heap.size+3≤((w1.setCell ⟨w.heap.size+1+1,2,none⟩ (.slice a2 x.horizontal.length c2))).heap.size:=by simp only[size_setCell];omega
 go_wp2_with fail
 refine (to_Int64S x.vertical v3 ((w1.setCell ⟨w.heap.size+1+1,2,none⟩ (.slice a2 x.horizontal.length c2))) ((h3.below BX1.out).mono (by omega)) (by omega)).mono ?_
 rintro e w2 ⟨a3,c3,fp2,rfl,hb2,o2,i2⟩
 obtain⟨qa2,_,ya2⟩:=bcellAt hb2 (b:=w.heap.size) (by omega)
 obtain⟨qb2,qf2,yb2⟩:=bcellAt hb2 (b:=w.heap.size+1) (by omega)
 obtain⟨qc2,qg2,yc2⟩:=bcellAt hb2 (b:=w.heap.size+1+1) (by omega)
 have z2:=hb2.size
 simp only[size_setCell] at z2
 have B2:=Lib.hid (BX1.out.trans (hb2.mono (by omega)))
 have y2:w.heap.size+3≤w2.heap.size:=by omega
 have P1_2:=Lib.hid ((P1_1.out.setFar (p:=⟨w.heap.size+1+1,2,none⟩) (fun e=>by have:=(j1 _ e).1;simp only at this;omega) (.slice a2 x.horizontal.length c2)).below j1 (by first|omega|(simp only[size_setCell];omega)) hb2)
 have j2:In (w1.heap.size) w2.heap.size fp2:=i2.mono (by simp only[size_setCell];omega) (Nat.le_refl _)
 have P2_2:=Lib.hid o2
 clear hb2 o2 i2
 go_wp2
 have F1:=Lib.hid (((((P1_2.out.setFar (p:=⟨w.heap.size+1+1,3,none⟩) (fun e=>by have:=(j1 _ e).1;simp only at this;omega) (.slice a3 x.vertical.length c3)).setFar (p:=⟨w.heap.size+1,0,none⟩) (fun e=>by have:=(j1 _ e).1;simp only at this;omega) (.string x.name)).setFar (p:=⟨w.heap.size+1,1,none⟩) (fun e=>by have:=(j1 _ e).1;simp only at this;omega) (.int .i64 x.gain)).setFar (p:=⟨w.heap.size+1,2,none⟩) (fun e=>by have:=(j1 _ e).1;simp only at this;omega) (.slice a2 x.horizontal.length c2)).setFar (p:=⟨w.heap.size+1,3,none⟩) (fun e=>by have:=(j1 _ e).1;simp only at this;omega) (.slice a3 x.vertical.length c3))
 have F2:=Lib.hid (((((P2_2.out.setFar (p:=⟨w.heap.size+1+1,3,none⟩) (fun e=>by have:=(j2 _ e).1;simp only at this;omega) (.slice a3 x.vertical.length c3)).setFar (p:=⟨w.heap.size+1,0,none⟩) (fun e=>by have:=(j2 _ e).1;simp only at this;omega) (.string x.name)).setFar (p:=⟨w.heap.size+1,1,none⟩) (fun e=>by have:=(j2 _ e).1;simp only at this;omega) (.int .i64 x.gain)).setFar (p:=⟨w.heap.size+1,2,none⟩) (fun e=>by have:=(j2 _ e).1;simp only at this;omega) (.slice a2 x.horizontal.length c2)).setFar (p:=⟨w.heap.size+1,3,none⟩) (fun e=>by have:=(j2 _ e).1;simp only at this;omega) (.slice a3 x.vertical.length c3))
 have BF:=Lib.hid (((((B2.out.setCell (p:=⟨w.heap.size+1+1,3,none⟩) (by show w.heap.size≤w.heap.size+1+1;omega) (.slice a3 x.vertical.length c3)).setCell (p:=⟨w.heap.size+1,0,none⟩) (by show w.heap.size≤w.heap.size+1;omega) (.string x.name)).setCell (p:=⟨w.heap.size+1,1,none⟩) (by show w.heap.size≤w.heap.size+1;omega) (.int .i64 x.gain)).setCell (p:=⟨w.heap.size+1,2,none⟩) (by show w.heap.size≤w.heap.size+1;omega) (.slice a2 x.horizontal.length c2)).setCell (p:=⟨w.heap.size+1,3,none⟩) (by show w.heap.size≤w.heap.size+1;omega) (.slice a3 x.vertical.length c3))
 refine bodyPost_ret (v:=.agg #[.string x.name,.int .i64 x.gain,.slice a2 x.horizontal.length c2,.slice a3 x.vertical.length c3]) (by simp[results,Tryz.results97,go_sem, *]) rfl ⟨a2,c2,a3,c3,fp1++(fp2++[]),rfl,BF.out,?_,?_⟩
 ·exact (OwnV.consLit (OwnV.consLit (OwnV.cons F1.out (OwnV.cons F2.out OwnV.nil (fun x hx e=>by have h1:=j2 x hx;simp at e)) (fun x hx e=>by have h1:=j1 x hx;simp only[List.mem_append,List.not_mem_nil,or_false] at e;have h2:=j2 x e;omega)) rfl) rfl)
 ·simp only[size_setCell]
  exact ((j1.mono (by omega) (by omega)).append ((j2.mono (by omega) (by omega)).append In.nil))
theorem eq_Antenna (x:DAntenna) (v2 u2 v3 u3:Value) (B:Nat) (w:World) (h2:Rd B w (intsT x.horizontal) v2) (g2:Rd B w (intsT x.horizontal) u2) (h3:Rd B w (intsT x.vertical) v3) (g3:Rd B w (intsT x.vertical) u3) (hB:B≤w.heap.size) (hn:sizL x.tr≤1099511627776) :
  Calls Tryz.prog 113 #[.agg #[.string x.name,.int .i64 x.gain,v2,v3],.agg #[.string x.name,.int .i64 x.gain,u2,u3]] w fun e w'=>e=.returned (.bool true)∧Below w.heap.size w w':=by
 have hsum:=DAntenna.siz_tr x
 have b0:Below w.heap.size w ((w.alloc (.cells #[.string x.name,.int .i64 x.gain,v2,v3] 147)).alloc (.cells #[.string x.name,.int .i64 x.gain,u2,u3] 147)):=((Below.refl _ _).alloc (Nat.le_refl _) _).alloc (by simp) _
 have B0:=Lib.hid b0
 have y0:w.heap.size+2≤((w.alloc (.cells #[.string x.name,.int .i64 x.gain,v2,v3] 147)).alloc (.cells #[.string x.name,.int .i64 x.gain,u2,u3] 147)).heap.size:=by first|(simp;done)|(simp<;>omega)
 clear b0
 go_enter Tryz.func113,Tryz.ntmps113
 go_wp2_with fail
 refine (eq_Int64S x.horizontal v2 u2 B _ (h2.below (B0.out.mono hB)) (g2.below (B0.out.mono hB)) (by omega) (by omega)).mono ?_
 rintro e w1 ⟨rfl,hb1⟩
 obtain⟨qa1,_,ya1⟩:=bcellAt hb1 (b:=w.heap.size) (by omega)
 obtain⟨qb1,_,yb1⟩:=bcellAt hb1 (b:=w.heap.size+1) (by omega)
 have y1:w.heap.size+2≤w1.heap.size:=by have:=hb1.size;omega
 have B1:=Lib.hid (B0.out.trans (hb1.mono (by omega)))
 clear hb1
 go_wp2_with fail
 refine (eq_Int64S x.vertical v3 u3 B _ (h3.below (B1.out.mono hB)) (g3.below (B1.out.mono hB)) (by omega) (by omega)).mono ?_
 rintro e w2 ⟨rfl,hb2⟩
 obtain⟨qa2,_,ya2⟩:=bcellAt hb2 (b:=w.heap.size) (by omega)
 obtain⟨qb2,_,yb2⟩:=bcellAt hb2 (b:=w.heap.size+1) (by omega)
 have y2:w.heap.size+2≤w2.heap.size:=by have:=hb2.size;omega
 have B2:=Lib.hid (B1.out.trans (hb2.mono (by omega)))
 clear hb2
 go_wp2
 go_ret
 exact⟨rfl,B2.out⟩
theorem DAntenna.siz_s (l:List DAntenna):siz (DAntenna.sT l)=l.length+sizL (l.flatMap DAntenna.tr):=siz_flat DAntenna.tr 4 (by decide) DAntenna.tr_len l
theorem sz_AntennaS (l:List DAntenna) (v:Value) (B:Nat) (left:Int) (w:World) (h:Rd B w (DAntenna.sT l) v) (hB:B≤w.heap.size) (hl:0≤left) (hl2:left≤1048576) (hstr:∀ x ∈ l,x.ok) :
  Calls Tryz.prog 37 #[v,.int .i64 left] w (SzPost (siz (DAntenna.sT l)) left w):=by
 rw[DAntenna.siz_s]
 obtain⟨a,c,rfl,hnc,hcm,hcells⟩:=DAntenna.rd h
 clear h
 unfold maxLen at hcm
 by_cases c1:(l.length:Int)≤left
 ·have c1':decide (left-(l.length:Int)<0)=false:=by simp<;>omega
  go_enter Tryz.func37,Tryz.ntmps37
  go_wp2
  go_loopw [1,5] (fun m i wr=>∃ (k:Nat),k≤l.length∧i=.int .i64 k∧(sizL ((l.take k).flatMap DAntenna.tr):Int)≤left-l.length∧m=.int .i64 (left-l.length-sizL ((l.take k).flatMap DAntenna.tr))∧Below w.heap.size w wr) (fun _ i wr=>l.length-(intOf i).toNat)
  case atStart=>exact⟨0,Nat.zero_le _,rfl,by simp[sizL];omega,by simp[sizL],Below.refl _ _⟩
  case round =>
   obtain⟨k,hk,rfl,hm,rfl,hb⟩:=hrel
   by_cases hlt:k<l.length
   ·obtain⟨b,off,rfl,hbl,hat⟩:=hcells (by omega)
    obtain⟨s0,s1,⟨u2,s2,r2⟩,⟨u3,s3,r3⟩⟩:=hat k hlt
    rw[← hb.cell (p:=⟨b,_,none⟩) (show b<w.heap.size by omega)] at s0 s1 s2 s3
    have t2:Rd B wr (intsT l[k].horizontal) u2:=r2.below (hb.mono hB)
    have t3:Rd B wr (intsT l[k].vertical) u3:=r3.below (hb.mono hB)
    have hB':B≤wr.heap.size:=by have:=hb.size;omega
    have hok:=hstr l[k] (List.getElem_mem hlt)
    have hsum:=sizL_take_succ DAntenna.tr l k hlt
    have hle:=sizL_take_le DAntenna.tr l (k+1)
    have HS:=Lib.hid hsum
    have HB:=Lib.hid hb
    clear hcells hat hb hsum hstr r2 r3
    go_wp2_with (go_at_call 84;refine (sz_Antenna l[k] u2 u3 B _ _ t2 t3 hB' (by omega) (by omega) hok).mono ?_;rintro e w1 ⟨⟨c2,rfl⟩|⟨c2,rfl⟩,hb1⟩)
    ·have c3:decide (left-l.length-sizL ((l.take k).flatMap DAntenna.tr)-sizL l[k].tr<0)=false:=by simp<;>omega
     go_wp2
     go_roundw
     case rel=>exact⟨k+1,by omega,by go_num,by rw[HS.out];omega,by rw[HS.out];go_num,HB.out.trans (hb1.mono HB.out.size)⟩
     case measure=>simp[intOf];omega
    ·go_wp2
     go_ret
     exact⟨Or.inr ⟨by have:=HS.out;omega,rfl⟩,HB.out.trans (hb1.mono HB.out.size)⟩
   ·obtain rfl:k=l.length:=by omega
    clear hcells
    rw[List.take_length] at hm
    go_wp2
    go_ret
    refine⟨Or.inl ⟨by omega,ret_int ?_⟩,hb⟩
    simp only[List.take_length]
    omega
 ·have c1':decide (left-(l.length:Int)<0)=true:=by simp<;>omega
  go_enter Tryz.func37,Tryz.ntmps37
  go_wp2
  go_ret
  exact⟨Or.inr ⟨by omega,rfl⟩,Below.refl _ _⟩
theorem infoAntenna:(Tryz.prog.info? 147).map (fun i=>(i.zero,i.size,i.bytes))=some (some (.agg #[.string ⟨#[]⟩,.int .i64 0,.slice none 0 0,.slice none 0 0]),4,72):=by kernel_rfl
theorem to_AntennaS (l:List DAntenna) (v:Value) (w:World) (h:Rd w.heap.size w (DAntenna.sT l) v) (hn:siz (DAntenna.sT l)≤1048576) :
  Calls Tryz.prog 50 #[v] w fun e w'=>∃ a' c' fp,e=.returned (.slice a' l.length c')∧Below w.heap.size w w'∧Own w' (DAntenna.sT l) (.slice a' l.length c') fp∧In w.heap.size w'.heap.size fp:=by
 rw[DAntenna.siz_s] at hn
 obtain⟨i0,hi0,hz0,hz1,hz2⟩:=info_parts infoAntenna
 have hmk:=fun W=>run_make_rowN (P:=Tryz.prog) 43 147 i0 _ Tryz.underlying43 hi0 hz0 .i64 .i64 l.length l.length (Nat.le_refl _) (by rw[hz2];omega) (by omega) W
 rw[hz1] at hmk
 have hnb:(l.length:Int)≤1048576:=by omega
 obtain⟨a,c,rfl,hnc,hcm,hcells⟩:=DAntenna.rd h
 clear h
 go_enter Tryz.func50,Tryz.ntmps50
 go_wp2
 clear hmk hi0 hz0 hz1 hz2
 go_loopw [4] (fun i wr=>∃ (k:Nat) (f:List Nat),k≤l.length∧i=.int .i64 k∧Below w.heap.size w wr∧Fill wr w.heap.size 147 (l.length*4) ((l.take k).flatMap DAntenna.tr) f∧In w.heap.size wr.heap.size f) (fun i wr=>l.length-(intOf i).toNat)
 case atStart =>
  have hst:=Fill.start w (madeCells #[.string ⟨#[]⟩,.int .i64 0,.slice none 0 0,.slice none 0 0] (l.length*4)) 147
  rw[size_madeCells] at hst
  exact⟨0,[],Nat.zero_le _,rfl,(Below.refl _ _).alloc (Nat.le_refl _) _,by simpa using hst,In.nil⟩
 case round =>
  obtain⟨k,f,hk,rfl,hb,hfill,hin⟩:=hrel
  by_cases hlt:k<l.length
  ·obtain⟨b,off,rfl,hbl,hat⟩:=hcells (by omega)
   obtain⟨s0,s1,⟨u2,s2,r2⟩,⟨u3,s3,r3⟩⟩:=hat k hlt
   rw[← hb.cell (p:=⟨b,_,none⟩) hbl] at s0 s1 s2 s3
   have hz:=hfill.lt
   have hz2:b<wr.heap.size:=by omega
   have t2:Rd wr.heap.size wr (intsT l[k].horizontal) u2:=(r2.below hb).mono hb.size
   have t3:Rd wr.heap.size wr (intsT l[k].vertical) u3:=(r3.below hb).mono hb.size
   obtain⟨o0,p0⟩:=hfill.room (k*4) (by omega)
   obtain⟨o1,p1⟩:=hfill.room (k*4+1) (by omega)
   obtain⟨o2,p2⟩:=hfill.room (k*4+2) (by omega)
   obtain⟨o3,p3⟩:=hfill.room (k*4+3) (by omega)
   have hfz:=hfill.open_
   have hsl:=sizL_get_le DAntenna.tr l k hlt
   have HB:=Lib.hid hb
   clear hcells hat hb r2 r3
   go_wp2_with (go_at_call 97;refine (to_Antenna l[k] u2 u3 _ t2 t3 (by omega)).mono ?_;rintro e w1 ⟨a2,c2,a3,c3,fp1,rfl,hb1,hown1,hin1⟩;obtain⟨q1,q2⟩:=bcell hb1)
   go_roundw
   case rel =>
    have hw1:=hfill.below hin hb1
    have hst:=hw1.step (us:=l[k].tr) (vs:=[.string l[k].name,.int .i64 l[k].gain,.slice a2 l[k].horizontal.length c2,.slice a3 l[k].vertical.length c3]) (g:=fp1) hown1.rep (by rw[flat_length _ 4 DAntenna.tr_len];simp<;>omega) hown1.nd (fun e=>by have:=(hin1 _ e).1;omega) (fun x hx e=>by have:=(hin1 x hx).1;have:=(hin x e).2;omega) hown1.free
    rw[flat_length _ 4 DAntenna.tr_len,List.length_take,Nat.min_eq_left hk,← flat_take_succ DAntenna.tr l k hlt] at hst
    refine⟨k+1,f++fp1,by omega,by go_num,below_setRow (HB.out.trans (hb1.mono (by omega))) (Nat.le_refl _) [.string l[k].name,.int .i64 l[k].gain,.slice a2 l[k].horizontal.length c2,.slice a3 l[k].vertical.length c3] (k*4),hst,?_⟩
    simp only[size_setCell]
    exact (hin.mono (Nat.le_refl _) hb1.size).append (hin1.mono (by omega) (Nat.le_refl _))
   case measure=>simp[intOf];omega
  ·obtain rfl:k=l.length:=by omega
   clear hcells
   go_wp2
   go_ret
   rw[List.take_length] at hfill
   obtain⟨fp,h1,h2⟩:=hfill.own (flat_length _ 4 DAntenna.tr_len l) (by unfold maxLen;omega)
   exact⟨_,_,fp,rfl,hb,h1,fun x hx=>by rcases h2 x hx with rfl|h;exact⟨Nat.le_refl _,hfill.lt⟩;exact hin x h⟩
theorem eq_AntennaS (l:List DAntenna) (v v':Value) (B:Nat) (w:World) (h:Rd B w (DAntenna.sT l) v) (h':Rd B w (DAntenna.sT l) v') (hB:B≤w.heap.size) (hn:siz (DAntenna.sT l)≤1099511627776) :
  Calls Tryz.prog 63 #[v,v'] w fun e w'=>e=.returned (.bool true)∧Below w.heap.size w w':=by
 rw[DAntenna.siz_s] at hn
 have hnb:(l.length:Int)≤1099511627776:=by omega
 obtain⟨a,c,rfl,hnc,hcm,hcells⟩:=DAntenna.rd h
 obtain⟨a',c',rfl,hnc',hcm',hcells'⟩:=DAntenna.rd h'
 clear h h'
 have hne:((l.length:Int) != l.length)=false:=by simp
 go_enter Tryz.func63,Tryz.ntmps63
 go_wp2
 clear hne
 go_loopw [5] (fun i wr=>∃ (k:Nat),k≤l.length∧i=.int .i64 k∧Below w.heap.size w wr) (fun i wr=>l.length-(intOf i).toNat)
 case atStart=>exact⟨0,Nat.zero_le _,rfl,Below.refl _ _⟩
 case round =>
  obtain⟨k,hk,rfl,hb⟩:=hrel
  by_cases hlt:k<l.length
  ·obtain⟨b,off,rfl,hbl,hat⟩:=hcells (by omega)
   obtain⟨b',off',rfl,hbl',hat'⟩:=hcells' (by omega)
   obtain⟨s0,s1,⟨u2,s2,r2⟩,⟨u3,s3,r3⟩⟩:=hat k hlt
   obtain⟨sb0,sb1,⟨ub2,sb2,rb2⟩,⟨ub3,sb3,rb3⟩⟩:=hat' k hlt
   rw[← hb.cell (p:=⟨b,_,none⟩) (show b<w.heap.size by omega)] at s0 s1 s2 s3
   rw[← hb.cell (p:=⟨b',_,none⟩) (show b' < w.heap.size by omega)] at sb0 sb1 sb2 sb3
   have t2:Rd B wr.drew (intsT l[k].horizontal) u2:=(r2.below (hb.mono hB)).drew
   have tb2:Rd B wr.drew (intsT l[k].horizontal) ub2:=(rb2.below (hb.mono hB)).drew
   have t3:Rd B wr.drew (intsT l[k].vertical) u3:=(r3.below (hb.mono hB)).drew
   have tb3:Rd B wr.drew (intsT l[k].vertical) ub3:=(rb3.below (hb.mono hB)).drew
   have hB':B≤wr.heap.size:=by have:=hb.size;omega
   have hsl:=sizL_get_le DAntenna.tr l k hlt
   have i1:(0:Int)≤(k:Int):=by omega
   have i2:(k:Int)<(l.length:Int):=by omega
   have HB:=Lib.hid hb
   clear hcells hat hcells' hat' hb r2 rb2 r3 rb3
   go_wp2
   go_still_tail 8,(by kernel_rfl)
   change wpList _ _ _ _ _ wr.drew
   go_wp2_with (go_at_call 113;refine (eq_Antenna l[k] u2 ub2 u3 ub3 B _ t2 tb2 t3 tb3 hB' (by omega)).mono ?_;rintro e w1 ⟨rfl,hb1⟩)
   go_roundw
   case rel=>exact⟨k+1,by omega,by go_num,HB.out.drew.trans (hb1.mono HB.out.size)⟩
   case measure=>simp[intOf];omega
  ·obtain rfl:k=l.length:=by omega
   clear hcells hcells'
   go_wp2
   go_ret
   exact⟨rfl,hb⟩
end Go.Proofs.YtdgmgchdjlfchaaGreatDoor
namespace Go.Proofs.YtdgmgchdjlfchaaGreatDoor
set_option maxHeartbeats 2000000
set_option maxRecDepth 100000
open Go.RowKit
set_option linter.unusedVariables false
theorem to_Mode (x:DMode) (w:World) :
  Calls Tryz.prog 188 #[.agg #[.int .i64 x.need,.int .i64 x.rate]] w fun e w'=>e=.returned (.agg #[.int .i64 x.need,.int .i64 x.rate])∧Below w.heap.size w w':=by
 go_enter Tryz.func188,Tryz.ntmps188
 go_wp2
 exact bodyPost_ret (v:=.agg #[.int .i64 x.need,.int .i64 x.rate]) (by simp[results,Tryz.results188,go_sem]) rfl ⟨rfl,(((Below.refl _ _).alloc (Nat.le_refl _) _).alloc (by simp) _).alloc (by simp<;>omega) _⟩
theorem eq_Mode (x:DMode) (w:World) :
  Calls Tryz.prog 213 #[.agg #[.int .i64 x.need,.int .i64 x.rate],.agg #[.int .i64 x.need,.int .i64 x.rate]] w fun e w'=>e=.returned (.bool true)∧Below w.heap.size w w':=by
 go_enter Tryz.func213,Tryz.ntmps213
 go_wp2
 go_ret
 exact⟨rfl,((Below.refl _ _).alloc (Nat.le_refl _) _).alloc (by simp) _⟩
theorem DMode.siz_s (l:List DMode):siz (DMode.sT l)=l.length+sizL (l.flatMap DMode.tr):=siz_flat DMode.tr 2 (by decide) DMode.tr_len l
theorem DMode.siz_tr (x:DMode):sizL x.tr=0:=by simp[DMode.tr,sizL,siz,intT]
theorem DMode.sizL_s (l:List DMode):sizL (l.flatMap DMode.tr)=0:=by
 induction l with
 | nil=>rfl
 | cons x l ih=>rw[List.flatMap_cons,sizL_append,ih,DMode.siz_tr]
theorem sz_ModeS (l:List DMode) (v:Value) (B:Nat) (left:Int) (w:World) (h:Rd B w (DMode.sT l) v) (hB:B≤w.heap.size) (hl:0≤left) (hl2:left≤1048576) :
  Calls Tryz.prog 126 #[v,.int .i64 left] w (SzPost (siz (DMode.sT l)) left w):=by
 rw[DMode.siz_s,DMode.sizL_s]
 obtain⟨a,c,rfl,hnc,hcm,_⟩:=DMode.rd h
 clear h
 unfold maxLen at hcm
 go_enter Tryz.func126,Tryz.ntmps126
 go_wp2
 all_goals go_ret
 all_goals first|exact⟨Or.inl ⟨by omega,ret_int (by omega)⟩,Below.refl _ _⟩|exact⟨Or.inr ⟨by omega,rfl⟩,Below.refl _ _⟩
theorem infoMode:(Tryz.prog.info? 194).map (fun i=>(i.zero,i.size,i.bytes))=some (some (.agg #[.int .i64 0,.int .i64 0]),2,16):=by kernel_rfl
theorem to_ModeS (l:List DMode) (v:Value) (w:World) (h:Rd w.heap.size w (DMode.sT l) v) (hn:siz (DMode.sT l)≤1048576) :
  Calls Tryz.prog 144 #[v] w fun e w'=>∃ a' c' fp,e=.returned (.slice a' l.length c')∧Below w.heap.size w w'∧Own w' (DMode.sT l) (.slice a' l.length c') fp∧In w.heap.size w'.heap.size fp:=by
 rw[DMode.siz_s] at hn
 obtain⟨i0,hi0,hz0,hz1,hz2⟩:=info_parts infoMode
 have hmk:=fun W=>run_make_rowN (P:=Tryz.prog) 149 194 i0 _ Tryz.underlying149 hi0 hz0 .i64 .i64 l.length l.length (Nat.le_refl _) (by rw[hz2];omega) (by omega) W
 rw[hz1] at hmk
 have hnb:(l.length:Int)≤1048576:=by omega
 obtain⟨a,c,rfl,hnc,hcm,hcells⟩:=DMode.rd h
 clear h
 go_enter Tryz.func144,Tryz.ntmps144
 go_wp2
 clear hmk hi0 hz0 hz1 hz2
 go_loopw [4] (fun i wr=>∃ (k:Nat) (f:List Nat),k≤l.length∧i=.int .i64 k∧Below w.heap.size w wr∧Fill wr w.heap.size 194 (l.length*2) ((l.take k).flatMap DMode.tr) f∧In w.heap.size wr.heap.size f) (fun i wr=>l.length-(intOf i).toNat)
 case atStart =>
  have hst:=Fill.start w (madeCells #[.int .i64 0,.int .i64 0] (l.length*2)) 194
  rw[size_madeCells] at hst
  exact⟨0,[],Nat.zero_le _,rfl,(Below.refl _ _).alloc (Nat.le_refl _) _,by simpa using hst,In.nil⟩
 case round =>
  obtain⟨k,f,hk,rfl,hb,hfill,hin⟩:=hrel
  by_cases hlt:k<l.length
  ·obtain⟨b,off,rfl,hbl,hat⟩:=hcells (by omega)
   obtain⟨s0,s1⟩:=hat k hlt
   rw[← hb.cell (p:=⟨b,_,none⟩) hbl] at s0 s1
   have hz:=hfill.lt
   have hz2:b<wr.heap.size:=by omega
   obtain⟨o0,p0⟩:=hfill.room (k*2) (by omega)
   obtain⟨o1,p1⟩:=hfill.room (k*2+1) (by omega)
   have hfz:=hfill.open_
   have hsl:=sizL_get_le DMode.tr l k hlt
   have HB:=Lib.hid hb
   clear hcells hat hb
   go_wp2_with (go_at_call 188;refine (to_Mode l[k] _).mono ?_;rintro e w1 ⟨rfl,hb1⟩;obtain⟨q1,q2⟩:=bcell hb1)
   go_roundw
   case rel =>
    have hw1:=hfill.below hin hb1
    have hst:=hw1.step (us:=l[k].tr) (vs:=[.int .i64 l[k].need,.int .i64 l[k].rate]) (g:=[]) (RepV.lits [.int .i64 l[k].need,.int .i64 l[k].rate]) (by rw[flat_length _ 2 DMode.tr_len];simp<;>omega) List.nodup_nil (by simp) (by simp) (fun b h=>by simp at h)
    rw[flat_length _ 2 DMode.tr_len,List.length_take,Nat.min_eq_left hk,List.append_nil,← flat_take_succ DMode.tr l k hlt] at hst
    exact⟨k+1,f,by omega,by go_num,below_setRow (HB.out.trans (hb1.mono (by omega))) (Nat.le_refl _) [.int .i64 l[k].need,.int .i64 l[k].rate] (k*2),hst,fun x hx=>⟨(hin x hx).1,by have:=(hin x hx).2;have:=hb1.size;simp only[size_setCell];omega⟩⟩
   case measure=>simp[intOf];omega
  ·obtain rfl:k=l.length:=by omega
   clear hcells
   go_wp2
   go_ret
   rw[List.take_length] at hfill
   obtain⟨fp,h1,h2⟩:=hfill.own (flat_length _ 2 DMode.tr_len l) (by unfold maxLen;omega)
   exact⟨_,_,fp,rfl,hb,h1,fun x hx=>by rcases h2 x hx with rfl|h;exact⟨Nat.le_refl _,hfill.lt⟩;exact hin x h⟩
theorem eq_ModeS (l:List DMode) (v v':Value) (B:Nat) (w:World) (h:Rd B w (DMode.sT l) v) (h':Rd B w (DMode.sT l) v') (hB:B≤w.heap.size) (hn:siz (DMode.sT l)≤1099511627776) :
  Calls Tryz.prog 161 #[v,v'] w fun e w'=>e=.returned (.bool true)∧Below w.heap.size w w':=by
 rw[DMode.siz_s] at hn
 have hnb:(l.length:Int)≤1099511627776:=by omega
 obtain⟨a,c,rfl,hnc,hcm,hcells⟩:=DMode.rd h
 obtain⟨a',c',rfl,hnc',hcm',hcells'⟩:=DMode.rd h'
 clear h h'
 have hne:((l.length:Int) != l.length)=false:=by simp
 go_enter Tryz.func161,Tryz.ntmps161
 go_wp2
 clear hne
 go_loopw [5] (fun i wr=>∃ (k:Nat),k≤l.length∧i=.int .i64 k∧Below w.heap.size w wr) (fun i wr=>l.length-(intOf i).toNat)
 case atStart=>exact⟨0,Nat.zero_le _,rfl,Below.refl _ _⟩
 case round =>
  obtain⟨k,hk,rfl,hb⟩:=hrel
  by_cases hlt:k<l.length
  ·obtain⟨b,off,rfl,hbl,hat⟩:=hcells (by omega)
   obtain⟨b',off',rfl,hbl',hat'⟩:=hcells' (by omega)
   obtain⟨s0,s1⟩:=hat k hlt
   obtain⟨sb0,sb1⟩:=hat' k hlt
   rw[← hb.cell (p:=⟨b,_,none⟩) (show b<w.heap.size by omega)] at s0 s1
   rw[← hb.cell (p:=⟨b',_,none⟩) (show b' < w.heap.size by omega)] at sb0 sb1
   have hB':B≤wr.heap.size:=by have:=hb.size;omega
   have hsl:=sizL_get_le DMode.tr l k hlt
   have i1:(0:Int)≤(k:Int):=by omega
   have i2:(k:Int)<(l.length:Int):=by omega
   have HB:=Lib.hid hb
   clear hcells hat hcells' hat' hb
   go_wp2
   go_still_tail 8,(by kernel_rfl)
   change wpList _ _ _ _ _ wr.drew
   go_wp2_with (go_at_call 213;refine (eq_Mode l[k]   _  ).mono ?_;rintro e w1 ⟨rfl,hb1⟩)
   go_roundw
   case rel=>exact⟨k+1,by omega,by go_num,HB.out.drew.trans (hb1.mono HB.out.size)⟩
   case measure=>simp[intOf];omega
  ·obtain rfl:k=l.length:=by omega
   clear hcells hcells'
   go_wp2
   go_ret
   exact⟨rfl,hb⟩
end Go.Proofs.YtdgmgchdjlfchaaGreatDoor
namespace Go.Proofs.YtdgmgchdjlfchaaGreatDoor
set_option maxHeartbeats 2000000
open Go.RowKit
set_option linter.unusedVariables false
theorem to_End (x:DEnd) (w:World) :
  Calls Tryz.prog 12 #[.agg #[.int .i64 x.place.x,.int .i64 x.place.y,.int .i64 x.above]] w fun e w'=>e=.returned (.agg #[.int .i64 x.place.x,.int .i64 x.place.y,.int .i64 x.above])∧Below w.heap.size w w':=by
 go_enter Tryz.func12,Tryz.ntmps12
 go_wp2_with fail
 refine (to_Point x.place _).mono ?_
 rintro e w1 ⟨rfl,hb1⟩
 obtain⟨qa1,fa1,ya1⟩:=bcellAt hb1 (b:=w.heap.size) (by first|omega|(simp;done)|(simp<;>omega))
 obtain⟨qb1,fb1,yb1⟩:=bcellAt hb1 (b:=w.heap.size+1) (by first|omega|(simp;done)|(simp<;>omega))
 obtain⟨qc1,fc1,yc1⟩:=bcellAt hb1 (b:=w.heap.size+1+1) (by first|omega|(simp;done)|(simp<;>omega))
 go_wp2
 refine bodyPost_ret (v:=.agg #[.int .i64 x.place.x,.int .i64 x.place.y,.int .i64 x.above]) (by simp[results,Tryz.results12,go_sem, *]) rfl ⟨rfl,?_⟩
 repeat (first|exact Below.refl _ _|(refine Below.setCell ?_ (by first|omega|(simp;done)|(simp<;>omega)) _)|(refine Below.alloc ?_ (by first|omega|(simp;done)|(simp<;>omega)) _)|(refine Below.trans ?_ (hb1.mono (by first|omega|(simp;done)|(simp<;>omega)))))
theorem DEnd.siz_tr (x:DEnd):sizL x.tr=0:=by simp[DEnd.tr,sizL,siz,intT]
end Go.Proofs.YtdgmgchdjlfchaaGreatDoor
