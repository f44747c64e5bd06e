/- Contracts of the laws' helpers over the type Licence and slices of it. Conditions: bounded lengths. -/
import Derived.Test.YtjfmkmcefnidcaaGreatSl
import Derived.Test.YtjfmkmcefnidcaaGreatTypes
import Derived.Test.YtjfmkmcefnidcaaGreatHArea
import Derived.Test.YtjfmkmcefnidcaaGreatOver
namespace Go.Proofs.YtjfmkmcefnidcaaGreat
set_option maxHeartbeats 4000000
set_option maxRecDepth 100000
open Go.RowKit
set_option linter.unusedVariables false
theorem DLicence.siz_tr (x:DLicence):sizL x.tr=x.id.size+x.holder.size:=by simp[DLicence.tr,sizL,siz,intT,strT]<;>omega
theorem sz_Licence (x:DLicence) (B:Nat) (left:Int) (w:World) (hB:B≤w.heap.size) (hl:0≤left) (hl2:left≤1048576) (hok:x.ok) :
  Calls Tryz.prog 89 #[.agg #[.string x.id,.string x.holder,.int .i64 x.low,.int .i64 x.high,.int .i64 x.area.west,.int .i64 x.area.south,.int .i64 x.area.east,.int .i64 x.area.north,.int .i64 x.from_,.int .i64 x.until_,.int .i64 x.power],.int .i64 left] w (SzPost (sizL x.tr) left w):=by
 rw[DLicence.siz_tr]
 have hs0:=hok.id
 have hs1:=hok.holder
 unfold maxLen at hs0 hs1
 clear hok
 go_enter Tryz.func89,Tryz.ntmps89
 go_wp2
 all_goals go_ret
 all_goals first|exact⟨Or.inl ⟨by omega,ret_int (by omega)⟩,(Below.refl _ _).alloc (Nat.le_refl _) _⟩|exact⟨Or.inr ⟨by omega,rfl⟩,(Below.refl _ _).alloc (Nat.le_refl _) _⟩
theorem to_Licence (x:DLicence) (w:World) :
  Calls Tryz.prog 105 #[.agg #[.string x.id,.string x.holder,.int .i64 x.low,.int .i64 x.high,.int .i64 x.area.west,.int .i64 x.area.south,.int .i64 x.area.east,.int .i64 x.area.north,.int .i64 x.from_,.int .i64 x.until_,.int .i64 x.power]] w fun e w'=>e=.returned (.agg #[.string x.id,.string x.holder,.int .i64 x.low,.int .i64 x.high,.int .i64 x.area.west,.int .i64 x.area.south,.int .i64 x.area.east,.int .i64 x.area.north,.int .i64 x.from_,.int .i64 x.until_,.int .i64 x.power])∧Below w.heap.size w w':=by
 go_enter Tryz.func105,Tryz.ntmps105
 go_wp2_with fail
 refine (to_Area x.area _).mono ?_
 rintro e w1 ⟨rfl,hb1⟩
 obtain⟨qa1,fa1,ya1⟩:=bcellAt hb1 (b:=w.heap.size) (by first|omega|(simp;done)|(simp;omega))
 obtain⟨qb1,fb1,yb1⟩:=bcellAt hb1 (b:=w.heap.size+1) (by first|omega|(simp;done)|(simp;omega))
 obtain⟨qc1,fc1,yc1⟩:=bcellAt hb1 (b:=w.heap.size+1+1) (by first|omega|(simp;done)|(simp;omega))
 go_wp2
 refine bodyPost_ret (v:=.agg #[.string x.id,.string x.holder,.int .i64 x.low,.int .i64 x.high,.int .i64 x.area.west,.int .i64 x.area.south,.int .i64 x.area.east,.int .i64 x.area.north,.int .i64 x.from_,.int .i64 x.until_,.int .i64 x.power]) (by simp[results,Tryz.results105,go_sem, *]) rfl ⟨rfl,?_⟩
 repeat (first|with_reducible exact Below.refl _ _|(with_reducible refine Below.setCell ?_ (by first|omega|(simp;done)|(simp;omega)) _)|(with_reducible refine Below.alloc ?_ (by first|omega|(simp;done)|(simp;omega)) _)|(with_reducible refine Below.trans ?_ (hb1.mono (by first|omega|(simp;done)|(simp;omega)))))
theorem eq_Licence (x:DLicence) (w:World) :
  Calls Tryz.prog 121 #[.agg #[.string x.id,.string x.holder,.int .i64 x.low,.int .i64 x.high,.int .i64 x.area.west,.int .i64 x.area.south,.int .i64 x.area.east,.int .i64 x.area.north,.int .i64 x.from_,.int .i64 x.until_,.int .i64 x.power],.agg #[.string x.id,.string x.holder,.int .i64 x.low,.int .i64 x.high,.int .i64 x.area.west,.int .i64 x.area.south,.int .i64 x.area.east,.int .i64 x.area.north,.int .i64 x.from_,.int .i64 x.until_,.int .i64 x.power]] w fun e w'=>e=.returned (.bool true)∧Below w.heap.size w w':=by
 go_enter Tryz.func121,Tryz.ntmps121
 go_wp2_with fail
 refine (eq_Area x.area _).mono ?_
 rintro e w1 ⟨rfl,hb1⟩
 obtain⟨qa1,_,ya1⟩:=bcellAt hb1 (b:=w.heap.size) (by first|omega|(simp;done)|(simp;omega))
 obtain⟨qb1,_,yb1⟩:=bcellAt hb1 (b:=w.heap.size+1) (by first|omega|(simp;done)|(simp;omega))
 go_wp2
 go_ret
 refine⟨rfl,?_⟩
 repeat (first|exact Below.refl _ _|(refine Below.alloc ?_ (by first|omega|(simp;done)|(simp;omega)) _)|(with_reducible refine Below.trans ?_ (hb1.mono (by first|omega|(simp;done)|(simp;omega)))))
theorem DLicence.sT_eq (l:List DLicence):DLicence.sT l=.sl 11 (l.flatMap DLicence.tr):=rfl
theorem DLicence.siz_s (l:List DLicence):siz (DLicence.sT l)=l.length+sizL (l.flatMap DLicence.tr):=siz_flat DLicence.tr 11 (by decide) DLicence.tr_len l
theorem DLicence.cnt_tr (x:DLicence):cntL x.tr=11:=by simp only[DLicence.tr,cntL,cnt,intT,strT]
theorem sz_LicenceS (l:List DLicence) (v:Value) (B:Nat) (left:Int) (w:World) (h:Rd B w (DLicence.sT l) v) (hB:B≤w.heap.size) (hl:0≤left) (hl2:left≤1048576) (hstr:∀ x ∈ l,x.ok) :
  Calls Tryz.prog 41 #[v,.int .i64 left] w (SzPost (siz (DLicence.sT l)) left w):=by
 rw[DLicence.siz_s]
 obtain⟨a,c,rfl,hnc,hcm,hcells⟩:=DLicence.rd h
 clear h
 unfold maxLen at hcm
 by_cases c1:(l.length:Int)≤left
 ·have c1':decide (left-(l.length:Int)<0)=false:=by simp;omega
  go_enter Tryz.func41,Tryz.ntmps41
  go_wp2
  go_loopw [1,5] (fun m i wr=>∃ (k:Nat),k≤l.length∧i=.int .i64 k∧(sizL ((l.take k).flatMap DLicence.tr):Int)≤left-l.length∧m=.int .i64 (left-l.length-sizL ((l.take k).flatMap DLicence.tr))∧Below w.heap.size w wr) (fun _ i wr=>l.length-(intOf i).toNat)
  case atStart=>exact⟨0,Nat.zero_le _,rfl,by simp[sizL];omega,by simp[sizL],Below.refl _ _⟩
  case round =>
   obtain⟨k,hk,rfl,hm,rfl,hb⟩:=hrel
   by_cases hlt:k<l.length
   ·obtain⟨b,off,rfl,hbl,hat⟩:=hcells (by omega)
    obtain⟨s0,s1,s2,s3,s4,s5,s6,s7,s8,s9,s10⟩:=hat k hlt
    rw[← hb.cell (p:=⟨b,_,none⟩) (show b<w.heap.size by omega)] at s0 s1 s2 s3 s4 s5 s6 s7 s8 s9 s10
    have hB':B≤wr.heap.size:=by have:=hb.size;omega
    have hok:=hstr l[k] (List.getElem_mem hlt)
    have hsum:=sizL_take_succ DLicence.tr l k hlt
    have hle:=sizL_take_le DLicence.tr l (k+1)
    have HS:=Lib.hid hsum
    have HB:=Lib.hid hb
    clear hcells hat hb hsum hstr
    go_wp2_with (go_at_call 89;refine (sz_Licence l[k]  B _ _  hB' (by omega) (by omega) hok).mono ?_;rintro e w1 ⟨⟨c2,rfl⟩|⟨c2,rfl⟩,hb1⟩)
    ·have c3:decide (left-l.length-sizL ((l.take k).flatMap DLicence.tr)-sizL l[k].tr<0)=false:=by simp;omega
     go_wp2
     go_roundw
     case rel=>exact⟨k+1,by omega,by go_num,by rw[HS.out];omega,by rw[HS.out];go_num,HB.out.trans (hb1.mono HB.out.size)⟩
     case measure=>simp[intOf];omega
    ·go_wp2
     go_ret
     exact⟨Or.inr ⟨by have:=HS.out;omega,rfl⟩,HB.out.trans (hb1.mono HB.out.size)⟩
   ·obtain rfl:k=l.length:=by omega
    clear hcells
    rw[List.take_length] at hm
    go_wp2
    go_ret
    refine⟨Or.inl ⟨by omega,ret_int ?_⟩,hb⟩
    simp only[List.take_length]
    omega
 ·have c1':decide (left-(l.length:Int)<0)=true:=by simp;omega
  go_enter Tryz.func41,Tryz.ntmps41
  go_wp2
  go_ret
  exact⟨Or.inr ⟨by omega,rfl⟩,Below.refl _ _⟩
theorem infoLicence:(Tryz.prog.info? 90).map (fun i=>(i.zero,i.size,i.bytes))=some (some (.agg #[.string ⟨#[]⟩,.string ⟨#[]⟩,.int .i64 0,.int .i64 0,.int .i64 0,.int .i64 0,.int .i64 0,.int .i64 0,.int .i64 0,.int .i64 0,.int .i64 0]),11,104):=by kernel_rfl
theorem to_LicenceS (l:List DLicence) (v:Value) (w:World) (h:Rd w.heap.size w (DLicence.sT l) v) (hn:siz (DLicence.sT l)≤1048576) :
  Calls Tryz.prog 49 #[v] w fun e w'=>∃ a' c' fp,e=.returned (.slice a' l.length c')∧Below w.heap.size w w'∧Own w' (DLicence.sT l) (.slice a' l.length c') fp∧In w.heap.size w'.heap.size fp:=by
 rw[DLicence.siz_s] at hn
 obtain⟨i0,hi0,hz0,hz1,hz2⟩:=info_parts infoLicence
 have hmk:=fun W=>run_make_rowN (P:=Tryz.prog) 50 90 i0 _ Tryz.underlying50 hi0 hz0 .i64 .i64 l.length l.length (Nat.le_refl _) (by rw[hz2];omega) (by omega) W
 rw[hz1] at hmk
 have hnb:(l.length:Int)≤1048576:=by omega
 obtain⟨a,c,rfl,hnc,hcm,hcells⟩:=DLicence.rd h
 clear h
 go_enter Tryz.func49,Tryz.ntmps49
 go_wp2
 clear hmk hi0 hz0 hz1 hz2
 go_loopw [4] (fun i wr=>∃ (k:Nat) (f:List Nat),k≤l.length∧i=.int .i64 k∧Below w.heap.size w wr∧Fill wr w.heap.size 90 (l.length*11) ((l.take k).flatMap DLicence.tr) f∧In w.heap.size wr.heap.size f) (fun i wr=>l.length-(intOf i).toNat)
 case atStart =>
  have hst:=Fill.start w (madeCells #[.string ⟨#[]⟩,.string ⟨#[]⟩,.int .i64 0,.int .i64 0,.int .i64 0,.int .i64 0,.int .i64 0,.int .i64 0,.int .i64 0,.int .i64 0,.int .i64 0] (l.length*11)) 90
  rw[size_madeCells] at hst
  exact⟨0,[],Nat.zero_le _,rfl,(Below.refl _ _).alloc (Nat.le_refl _) _,by simpa using hst,In.nil⟩
 case round =>
  obtain⟨k,f,hk,rfl,hb,hfill,hin⟩:=hrel
  by_cases hlt:k<l.length
  ·obtain⟨b,off,rfl,hbl,hat⟩:=hcells (by omega)
   obtain⟨s0,s1,s2,s3,s4,s5,s6,s7,s8,s9,s10⟩:=hat k hlt
   rw[← hb.cell (p:=⟨b,_,none⟩) hbl] at s0 s1 s2 s3 s4 s5 s6 s7 s8 s9 s10
   have hz:=hfill.lt
   have hz2:b<wr.heap.size:=by omega
   obtain⟨o0,p0⟩:=hfill.room (k*11) (by omega)
   obtain⟨o1,p1⟩:=hfill.room (k*11+1) (by omega)
   obtain⟨o2,p2⟩:=hfill.room (k*11+2) (by omega)
   obtain⟨o3,p3⟩:=hfill.room (k*11+3) (by omega)
   obtain⟨o4,p4⟩:=hfill.room (k*11+4) (by omega)
   obtain⟨o5,p5⟩:=hfill.room (k*11+5) (by omega)
   obtain⟨o6,p6⟩:=hfill.room (k*11+6) (by omega)
   obtain⟨o7,p7⟩:=hfill.room (k*11+7) (by omega)
   obtain⟨o8,p8⟩:=hfill.room (k*11+8) (by omega)
   obtain⟨o9,p9⟩:=hfill.room (k*11+9) (by omega)
   obtain⟨o10,p10⟩:=hfill.room (k*11+10) (by omega)
   have hfz:=hfill.open_
   have hsl:=sizL_get_le DLicence.tr l k hlt
   have HB:=Lib.hid hb
   clear hcells hat hb
   go_wp2_with (go_at_call 105;refine (to_Licence l[k] _).mono ?_;rintro e w1 ⟨rfl,hb1⟩;obtain⟨q1,q2⟩:=bcell hb1)
   go_roundw
   case rel =>
    have hw1:=hfill.below hin hb1
    have hst:=hw1.step (us:=l[k].tr) (vs:=[.string l[k].id,.string l[k].holder,.int .i64 l[k].low,.int .i64 l[k].high,.int .i64 l[k].area.west,.int .i64 l[k].area.south,.int .i64 l[k].area.east,.int .i64 l[k].area.north,.int .i64 l[k].from_,.int .i64 l[k].until_,.int .i64 l[k].power]) (g:=[]) (RepV.lits [.string l[k].id,.string l[k].holder,.int .i64 l[k].low,.int .i64 l[k].high,.int .i64 l[k].area.west,.int .i64 l[k].area.south,.int .i64 l[k].area.east,.int .i64 l[k].area.north,.int .i64 l[k].from_,.int .i64 l[k].until_,.int .i64 l[k].power]) (by rw[flat_length _ 11 DLicence.tr_len];simp;omega) List.nodup_nil (by simp) (by simp) (fun b h=>by simp at h)
    rw[flat_length _ 11 DLicence.tr_len,List.length_take,Nat.min_eq_left hk,List.append_nil,← flat_take_succ DLicence.tr l k hlt] at hst
    exact⟨k+1,f,by omega,by go_num,below_setRow (HB.out.trans (hb1.mono (by omega))) (Nat.le_refl _) [.string l[k].id,.string l[k].holder,.int .i64 l[k].low,.int .i64 l[k].high,.int .i64 l[k].area.west,.int .i64 l[k].area.south,.int .i64 l[k].area.east,.int .i64 l[k].area.north,.int .i64 l[k].from_,.int .i64 l[k].until_,.int .i64 l[k].power] (k*11),hst,fun x hx=>⟨(hin x hx).1,by have:=(hin x hx).2;have:=hb1.size;simp only[size_setCell];omega⟩⟩
   case measure=>simp[intOf];omega
  ·obtain rfl:k=l.length:=by omega
   clear hcells
   go_wp2
   go_ret
   rw[List.take_length] at hfill
   obtain⟨fp,h1,h2⟩:=hfill.own (flat_length _ 11 DLicence.tr_len l) (by unfold maxLen;omega)
   exact⟨_,_,fp,rfl,hb,h1,fun x hx=>by rcases h2 x hx with rfl|h;exact⟨Nat.le_refl _,hfill.lt⟩;exact hin x h⟩
theorem eq_LicenceS (l:List DLicence) (v v':Value) (B:Nat) (w:World) (h:Rd B w (DLicence.sT l) v) (h':Rd B w (DLicence.sT l) v') (hB:B≤w.heap.size) (hn:siz (DLicence.sT l)≤1099511627776) :
  Calls Tryz.prog 58 #[v,v'] w fun e w'=>e=.returned (.bool true)∧Below w.heap.size w w':=by
 rw[DLicence.siz_s] at hn
 have hnb:(l.length:Int)≤1099511627776:=by omega
 obtain⟨a,c,rfl,hnc,hcm,hcells⟩:=DLicence.rd h
 obtain⟨a',c',rfl,hnc',hcm',hcells'⟩:=DLicence.rd h'
 clear h h'
 have hne:((l.length:Int) != l.length)=false:=by simp
 go_enter Tryz.func58,Tryz.ntmps58
 go_wp2
 clear hne
 go_loopw [5] (fun i wr=>∃ (k:Nat),k≤l.length∧i=.int .i64 k∧Below w.heap.size w wr) (fun i wr=>l.length-(intOf i).toNat)
 case atStart=>exact⟨0,Nat.zero_le _,rfl,Below.refl _ _⟩
 case round =>
  obtain⟨k,hk,rfl,hb⟩:=hrel
  by_cases hlt:k<l.length
  ·obtain⟨b,off,rfl,hbl,hat⟩:=hcells (by omega)
   obtain⟨b',off',rfl,hbl',hat'⟩:=hcells' (by omega)
   obtain⟨s0,s1,s2,s3,s4,s5,s6,s7,s8,s9,s10⟩:=hat k hlt
   obtain⟨sb0,sb1,sb2,sb3,sb4,sb5,sb6,sb7,sb8,sb9,sb10⟩:=hat' k hlt
   rw[← hb.cell (p:=⟨b,_,none⟩) (show b<w.heap.size by omega)] at s0 s1 s2 s3 s4 s5 s6 s7 s8 s9 s10
   rw[← hb.cell (p:=⟨b',_,none⟩) (show b' < w.heap.size by omega)] at sb0 sb1 sb2 sb3 sb4 sb5 sb6 sb7 sb8 sb9 sb10
   have hB':B≤wr.heap.size:=by have:=hb.size;omega
   have hsl:=sizL_get_le DLicence.tr l k hlt
   have i1:(0:Int)≤(k:Int):=by omega
   have i2:(k:Int)<(l.length:Int):=by omega
   have HB:=Lib.hid hb
   clear hcells hat hcells' hat' hb
   go_wp2
   go_still_tail 8,(by kernel_rfl)
   change wpList _ _ _ _ _ wr.drew
   go_wp2_with (go_at_call 121;refine (eq_Licence l[k]   _  ).mono ?_;rintro e w1 ⟨rfl,hb1⟩)
   go_roundw
   case rel=>exact⟨k+1,by omega,by go_num,HB.out.drew.trans (hb1.mono HB.out.size)⟩
   case measure=>simp[intOf];omega
  ·obtain rfl:k=l.length:=by omega
   clear hcells hcells'
   go_wp2
   go_ret
   exact⟨rfl,hb⟩
theorem DLicence.mk_tr (x:DLicence) (K:Nat):mkL x.tr K = [.lit (.string (mtext (K))),.lit (.string (mtext (K+1))),.lit (.int .i64 ((K:Int)+1+1)),.lit (.int .i64 ((K:Int)+1+1+1)),.lit (.int .i64 ((K:Int)+1+1+1+1)),.lit (.int .i64 ((K:Int)+1+1+1+1+1)),.lit (.int .i64 ((K:Int)+1+1+1+1+1+1)),.lit (.int .i64 ((K:Int)+1+1+1+1+1+1+1)),.lit (.int .i64 ((K:Int)+1+1+1+1+1+1+1+1)),.lit (.int .i64 ((K:Int)+1+1+1+1+1+1+1+1+1)),.lit (.int .i64 ((K:Int)+1+1+1+1+1+1+1+1+1+1))]:=rfl
theorem DLicence.cntL_tr (x:DLicence):cntL x.tr=1+1+1+1+1+1+1+1+1+1+1:=by rfl
theorem mark_LicenceS (l:List DLicence) (v:Value) (fp:List Nat) (k0 lo:Nat) (w:World) (h:Own w (DLicence.sT l) v fp) (hin:In lo w.heap.size fp) (hs:siz (DLicence.sT l)≤1099511627776) (hk0:k0+cnt (DLicence.sT l)≤1099511627776) (hk1:0<k0) :
  Calls Tryz.prog 64 #[v,.int .i64 k0] w fun e w'=>e=.returned (.int .i64 ((k0+cnt (DLicence.sT l):Nat):Int))∧Own w' (mkT (DLicence.sT l) k0) v fp∧Chg fp w w':=by
 rw[DLicence.siz_s] at hs
 obtain⟨a,c,hv,hnc,hcm⟩:=h.form (k:=11) (g:=DLicence.tr) (by decide) DLicence.tr_len
 subst hv
 rw[show cnt (DLicence.sT l)=cntL (l.flatMap DLicence.tr) from by rw[DLicence.sT,cnt]] at hk0 ⊢
 have hnb:(l.length:Int)≤1099511627776:=by omega
 go_enter Tryz.func64,Tryz.ntmps64
 go_wp2
 go_loopw [1,5] (fun kk i wr=>∃ (j K:Nat),j≤l.length∧i=.int .i64 j∧K=k0+cntL ((l.take j).flatMap DLicence.tr)∧kk=.int .i64 (K:Int)∧Own wr (mid DLicence.tr 11 l k0 j) (.slice a l.length c) fp∧Chg fp w wr) (fun _ i wr=>l.length-(intOf i).toNat)
 case atStart=>exact⟨0,k0,Nat.zero_le _,rfl,by simp[cntL],rfl,by rw[mid_zero];exact h,Chg.refl _ _⟩
 case round =>
  obtain⟨j,K,hj,rfl,hK,rfl,hown,hchg⟩:=hrel
  by_cases hlt:j<l.length
  ·rw[mid_at _ _ _ _ _ hlt] at hown
   have hts:(mkL ((l.take j).flatMap DLicence.tr) k0).length=j*11:=by rw[mkL_length,flat_length _ 11 DLicence.tr_len,List.length_take,Nat.min_eq_left hj]
   have hsum:=cntL_take_succ DLicence.tr l j hlt
   have hle:=cntL_flat_take_le DLicence.tr l (j+1)
   have hcx:=DLicence.cntL_tr l[j]
   have hkb:K+(1+1+1+1+1+1+1+1+1+1+1)≤1099511627776:=by omega
   have hkp:0<K:=by omega
   have hszj:=sizL_get_le DLicence.tr l j hlt
   have HM:=Lib.hid (mid_succ DLicence.tr 11 l k0 j hlt)
   have HS:=Lib.hid hsum
   have HK:=Lib.hid hK
   have HC:=Lib.hid hcx
   have HT:=Lib.hid hts
   clear hsum hcx hle hK hts
   generalize mkL ((l.take j).flatMap DLicence.tr) k0=TS at *
   generalize (l.drop (j+1)).flatMap DLicence.tr=US at *
   have hin':In lo wr.heap.size fp:=hin.mono (Nat.le_refl _) hchg.size
   have o0:Own wr (.sl 11 (TS++([.lit (.string l[j].id),.lit (.string l[j].holder),.lit (.int .i64 l[j].low),.lit (.int .i64 l[j].high),.lit (.int .i64 l[j].area.west),.lit (.int .i64 l[j].area.south),.lit (.int .i64 l[j].area.east),.lit (.int .i64 l[j].area.north),.lit (.int .i64 l[j].from_),.lit (.int .i64 l[j].until_),.lit (.int .i64 l[j].power)]++US))) (.slice a l.length c) fp:=hown
   clear hown
   obtain⟨b,off,rfl,hbf⟩:=o0.someAddr
   have hbw:=(hin' b hbf).2
   have hfz:∀ i,wr.frozen? ⟨b,i,none⟩=false:=o0.free b hbf
   have z0:wr.heap.size≤wr.heap.size:=Nat.le_refl _
   obtain⟨s0,_⟩:=o0.cellChunk 0 _ rfl (off+j*11) (by rw[HT.out];omega)
   obtain⟨s1,_⟩:=o0.cellChunk 1 _ rfl (off+j*11+1) (by rw[HT.out];omega)
   obtain⟨s2,_⟩:=o0.cellChunk 2 _ rfl (off+j*11+2) (by rw[HT.out];omega)
   obtain⟨s3,_⟩:=o0.cellChunk 3 _ rfl (off+j*11+3) (by rw[HT.out];omega)
   obtain⟨s4,_⟩:=o0.cellChunk 4 _ rfl (off+j*11+4) (by rw[HT.out];omega)
   obtain⟨s5,_⟩:=o0.cellChunk 5 _ rfl (off+j*11+5) (by rw[HT.out];omega)
   obtain⟨s6,_⟩:=o0.cellChunk 6 _ rfl (off+j*11+6) (by rw[HT.out];omega)
   obtain⟨s7,_⟩:=o0.cellChunk 7 _ rfl (off+j*11+7) (by rw[HT.out];omega)
   obtain⟨s8,_⟩:=o0.cellChunk 8 _ rfl (off+j*11+8) (by rw[HT.out];omega)
   obtain⟨s9,_⟩:=o0.cellChunk 9 _ rfl (off+j*11+9) (by rw[HT.out];omega)
   obtain⟨s10,_⟩:=o0.cellChunk 10 _ rfl (off+j*11+10) (by rw[HT.out];omega)
   have O0:=Lib.hid o0
   have C0:=Lib.hid hchg
   clear o0 hchg
   go_wp2_with fail
   refine (markText_int _ _ (by omega) (by omega)).mono ?_
   rintro e w1 ⟨rfl,hb1⟩
   obtain⟨qa1,qb1,hbw1⟩:=bcellAt hb1 (b:=b) (by first|omega|(simp only[size_setCell];omega))
   have z1:wr.heap.size≤w1.heap.size:=by have:=hb1.size;(try simp only[size_setCell] at this);omega
   have O1:=Lib.hid ((O0.out.below hin' (by first|omega|(simp only[size_setCell];omega)) hb1).setChunk 0 _ rfl (off+j*11) (by rw[HT.out];omega) (.string (mtext (K))))
   have C1:=Lib.hid ((C0.out.trans (Chg.of_below hb1)).setCell (p:=⟨b,off+j*11,none⟩) hbf (.string (mtext (K))))
   go_wp2_with fail
   refine (markText_int _ _ (by omega) (by omega)).mono ?_
   rintro e w2 ⟨rfl,hb2⟩
   obtain⟨qa2,qb2,hbw2⟩:=bcellAt hb2 (b:=b) (by first|omega|(simp only[size_setCell];omega))
   have z2:wr.heap.size≤w2.heap.size:=by have:=hb2.size;(try simp only[size_setCell] at this);omega
   have O2:=Lib.hid ((O1.out.below hin' (by first|omega|(simp only[size_setCell];omega)) hb2).setChunk 1 _ rfl (off+j*11+1) (by rw[HT.out];omega) (.string (mtext (K+1))))
   have C2:=Lib.hid ((C1.out.trans (Chg.of_below hb2)).setCell (p:=⟨b,off+j*11+1,none⟩) hbf (.string (mtext (K+1))))
   have O3:=Lib.hid (O2.out.setChunk 2 _ rfl (off+j*11+2) (by rw[HT.out];omega) (.int .i64 ((K:Int)+1+1)))
   have C3:=Lib.hid (C2.out.setCell (p:=⟨b,off+j*11+2,none⟩) hbf (.int .i64 ((K:Int)+1+1)))
   have O4:=Lib.hid (O3.out.setChunk 3 _ rfl (off+j*11+3) (by rw[HT.out];omega) (.int .i64 ((K:Int)+1+1+1)))
   have C4:=Lib.hid (C3.out.setCell (p:=⟨b,off+j*11+3,none⟩) hbf (.int .i64 ((K:Int)+1+1+1)))
   have O5:=Lib.hid (O4.out.setChunk 4 _ rfl (off+j*11+4) (by rw[HT.out];omega) (.int .i64 ((K:Int)+1+1+1+1)))
   have C5:=Lib.hid (C4.out.setCell (p:=⟨b,off+j*11+4,none⟩) hbf (.int .i64 ((K:Int)+1+1+1+1)))
   have O6:=Lib.hid (O5.out.setChunk 5 _ rfl (off+j*11+5) (by rw[HT.out];omega) (.int .i64 ((K:Int)+1+1+1+1+1)))
   have C6:=Lib.hid (C5.out.setCell (p:=⟨b,off+j*11+5,none⟩) hbf (.int .i64 ((K:Int)+1+1+1+1+1)))
   have O7:=Lib.hid (O6.out.setChunk 6 _ rfl (off+j*11+6) (by rw[HT.out];omega) (.int .i64 ((K:Int)+1+1+1+1+1+1)))
   have C7:=Lib.hid (C6.out.setCell (p:=⟨b,off+j*11+6,none⟩) hbf (.int .i64 ((K:Int)+1+1+1+1+1+1)))
   have O8:=Lib.hid (O7.out.setChunk 7 _ rfl (off+j*11+7) (by rw[HT.out];omega) (.int .i64 ((K:Int)+1+1+1+1+1+1+1)))
   have C8:=Lib.hid (C7.out.setCell (p:=⟨b,off+j*11+7,none⟩) hbf (.int .i64 ((K:Int)+1+1+1+1+1+1+1)))
   have O9:=Lib.hid (O8.out.setChunk 8 _ rfl (off+j*11+8) (by rw[HT.out];omega) (.int .i64 ((K:Int)+1+1+1+1+1+1+1+1)))
   have C9:=Lib.hid (C8.out.setCell (p:=⟨b,off+j*11+8,none⟩) hbf (.int .i64 ((K:Int)+1+1+1+1+1+1+1+1)))
   have O10:=Lib.hid (O9.out.setChunk 9 _ rfl (off+j*11+9) (by rw[HT.out];omega) (.int .i64 ((K:Int)+1+1+1+1+1+1+1+1+1)))
   have C10:=Lib.hid (C9.out.setCell (p:=⟨b,off+j*11+9,none⟩) hbf (.int .i64 ((K:Int)+1+1+1+1+1+1+1+1+1)))
   have O11:=Lib.hid (O10.out.setChunk 10 _ rfl (off+j*11+10) (by rw[HT.out];omega) (.int .i64 ((K:Int)+1+1+1+1+1+1+1+1+1+1)))
   have C11:=Lib.hid (C10.out.setCell (p:=⟨b,off+j*11+10,none⟩) hbf (.int .i64 ((K:Int)+1+1+1+1+1+1+1+1+1+1)))
   go_wp2
   go_roundw
   case rel =>
    refine⟨j+1,K+(1+1+1+1+1+1+1+1+1+1+1),by omega,by go_num,by have:=HK.out;have:=HS.out;have:=HC.out;omega,by go_num,?_,C11.out⟩
    rw[HM.out,← HK.out,DLicence.mk_tr]
    exact O11.out
   case measure=>simp[intOf];omega
  ·obtain rfl:j=l.length:=by omega
   have HK:=Lib.hid hK
   clear hK
   go_wp2
   go_ret
   rw[mid_end] at hown
   have e:=HK.out
   rw[List.take_length] at e
   exact⟨ret_int (by omega),hown,hchg⟩
theorem markI_LicenceS (l:List DLicence) (v:Value) (fp:List Nat) (k lo:Nat) (K:Int) (w:World) (h:Own w (DLicence.sT l) v fp) (hin:In lo w.heap.size fp) (hs:siz (DLicence.sT l)≤1099511627776) (hK:K=(k:Int)) (hk0:k+cnt (DLicence.sT l)≤1099511627776) (hk1:0<k) :
  Calls Tryz.prog 64 #[v,.int .i64 K] w fun e w'=>e=.returned (.int .i64 (K+(cnt (DLicence.sT l):Int)))∧Own w' (mkT (DLicence.sT l) k) v fp∧Chg fp w w':=by
 subst hK
 refine (mark_LicenceS l v fp k lo w h hin hs hk0 hk1).mono fun e w' ⟨he,h1,h2⟩=>⟨?_,h1,h2⟩
 rw[he,Int.natCast_add]
end Go.Proofs.YtjfmkmcefnidcaaGreat
