/- Contracts of the laws' helpers over slices of texts; counts of marks against sizes. Conditions: bounded lengths. -/
import Derived.Test.YtdgmgchdjlfchaaGreatDoorProb1
import Derived.Test.YtdgmgchdjlfchaaGreatDoorOver
set_option linter.unusedVariables false
set_option linter.unusedSimpArgs false
namespace Go.Proofs.YtdgmgchdjlfchaaGreatDoor
open Go.RowKit
theorem to_Point (x:DPoint) (w:World) :
  Calls Tryz.prog 52 #[.agg #[.int .i64 x.x,.int .i64 x.y]] w fun e w'=>e=.returned (.agg #[.int .i64 x.x,.int .i64 x.y])∧Below w.heap.size w w':=by
 go_enter Tryz.func52,Tryz.ntmps52;go_wp2;exact bodyPost_ret (v:=.agg #[.int .i64 x.x,.int .i64 x.y]) (by simp[results,Tryz.results52,go_sem]) rfl ⟨rfl,(((Below.refl _ _).alloc (Nat.le_refl _) _).alloc (by simp) _).alloc (by simp<;>omega) _⟩
theorem eq_Point (x:DPoint) (w:World) :
  Calls Tryz.prog 125 #[.agg #[.int .i64 x.x,.int .i64 x.y],.agg #[.int .i64 x.x,.int .i64 x.y]] w fun e w'=>e=.returned (.bool true)∧Below w.heap.size w w':=by
 go_enter Tryz.func125,Tryz.ntmps125;go_wp2;go_ret;exact⟨rfl,((Below.refl _ _).alloc (Nat.le_refl _) _).alloc (by simp) _⟩
set_option maxHeartbeats 4000000
set_option maxRecDepth 100000
theorem DSite.siz_tr (x:DSite):sizL x.tr=x.name.size+x.holder.size:=by simp[DSite.tr,sizL,siz,intT,strT]<;>omega
theorem sz_Site (x:DSite) (B:Nat) (left:Int) (w:World) (hB:B≤w.heap.size) (hl:0≤left) (hl2:left≤1048576) (hok:x.ok) :
  Calls Tryz.prog 82 #[.agg #[.string x.name,.string x.holder,.int .i64 x.place.x,.int .i64 x.place.y],.int .i64 left] w (SzPost (sizL x.tr) left w):=by
 rw[DSite.siz_tr];have hs0:=hok.name;have hs1:=hok.holder;unfold maxLen at hs0 hs1;clear hok;go_enter Tryz.func82,Tryz.ntmps82;go_wp2
 all_goals go_ret
 all_goals first|exact⟨Or.inl ⟨by omega,zb2 (by omega)⟩,(Below.refl _ _).alloc (Nat.le_refl _) _⟩|exact⟨Or.inr ⟨by omega,rfl⟩,(Below.refl _ _).alloc (Nat.le_refl _) _⟩
theorem to_Site (x:DSite) (w:World) :
  Calls Tryz.prog 95 #[.agg #[.string x.name,.string x.holder,.int .i64 x.place.x,.int .i64 x.place.y]] w fun e w'=>e=.returned (.agg #[.string x.name,.string x.holder,.int .i64 x.place.x,.int .i64 x.place.y])∧Below w.heap.size w w':=by
 go_enter Tryz.func95,Tryz.ntmps95;go_wp2_with fail;refine (to_Point x.place _).mono ?_;rintro e w1 ⟨rfl,hb1⟩;obtain⟨qa1,fa1,ya1⟩:=zag hb1 (b:=w.heap.size) (by first|omega|(simp;done)|(simp<;>omega));obtain⟨qb1,fb1,yb1⟩:=zag hb1 (b:=w.heap.size+1) (by first|omega|(simp;done)|(simp<;>omega));obtain⟨qc1,fc1,yc1⟩:=zag hb1 (b:=w.heap.size+1+1) (by first|omega|(simp;done)|(simp<;>omega));go_wp2;refine bodyPost_ret (v:=.agg #[.string x.name,.string x.holder,.int .i64 x.place.x,.int .i64 x.place.y]) (by simp[results,Tryz.results95,go_sem, *]) rfl ⟨rfl,?_⟩
 repeat (first|exact Below.refl _ _|(refine Below.setCell ?_ (by first|omega|(simp;done)|(simp<;>omega)) _)|(refine Below.alloc ?_ (by first|omega|(simp;done)|(simp<;>omega)) _)|(refine Below.trans ?_ (hb1.mono (by first|omega|(simp;done)|(simp<;>omega)))))
theorem eq_Site (x:DSite) (w:World) :
  Calls Tryz.prog 111 #[.agg #[.string x.name,.string x.holder,.int .i64 x.place.x,.int .i64 x.place.y],.agg #[.string x.name,.string x.holder,.int .i64 x.place.x,.int .i64 x.place.y]] w fun e w'=>e=.returned (.bool true)∧Below w.heap.size w w':=by
 go_enter Tryz.func111,Tryz.ntmps111;go_wp2_with fail;refine (eq_Point x.place _).mono ?_;rintro e w1 ⟨rfl,hb1⟩;obtain⟨qa1,_,ya1⟩:=zag hb1 (b:=w.heap.size) (by first|omega|(simp;done)|(simp<;>omega));obtain⟨qb1,_,yb1⟩:=zag hb1 (b:=w.heap.size+1) (by first|omega|(simp;done)|(simp<;>omega));go_wp2;go_ret;refine⟨rfl,?_⟩
 repeat (first|exact Below.refl _ _|(refine Below.alloc ?_ (by first|omega|(simp;done)|(simp<;>omega)) _)|(refine Below.trans ?_ (hb1.mono (by first|omega|(simp;done)|(simp<;>omega)))))
theorem DSite.siz_s (l:List DSite):siz (DSite.sT l)=l.length+sizL (l.flatMap DSite.tr):=zfc DSite.tr 4 (by decide) DSite.tr_len l
theorem sz_SiteS (l:List DSite) (v:Value) (B:Nat) (left:Int) (w:World) (h:Rd B w (DSite.sT l) v) (hB:B≤w.heap.size) (hl:0≤left) (hl2:left≤1048576) (hstr:∀ x ∈ l,x.ok) :
  Calls Tryz.prog 35 #[v,.int .i64 left] w (SzPost (siz (DSite.sT l)) left w):=by
 rw[DSite.siz_s];obtain⟨a,c,rfl,hnc,hcm,hcells⟩:=DSite.rd h;clear h;unfold maxLen at hcm
 by_cases c1:(l.length:Int)≤left
 ·have c1':decide (left-(l.length:Int)<0)=false:=by simp<;>omega
  go_enter Tryz.func35,Tryz.ntmps35;go_wp2;go_loopw [1,5] (fun m i wr=>∃ (k:Nat),k≤l.length∧i=.int .i64 k∧(sizL ((l.take k).flatMap DSite.tr):Int)≤left-l.length∧m=.int .i64 (left-l.length-sizL ((l.take k).flatMap DSite.tr))∧Below w.heap.size w wr) (fun _ i wr=>l.length-(intOf i).toNat)
  case atStart=>exact⟨0,Nat.zero_le _,rfl,by simp[sizL];omega,by simp[sizL],Below.refl _ _⟩
  case round =>
   obtain⟨k,hk,rfl,hm,rfl,hb⟩:=hrel
   by_cases hlt:k<l.length
   ·obtain⟨b,off,rfl,hbl,hat⟩:=hcells (by omega)
    obtain⟨s0,s1,s2,s3⟩:=hat k hlt;rw[← hb.cell (p:=⟨b,_,none⟩) (show b<w.heap.size by omega)] at s0 s1 s2 s3;have hB':B≤wr.heap.size:=by have:=hb.size;omega
    have hok:=hstr l[k] (List.getElem_mem hlt);have hsum:=zda DSite.tr l k hlt;have hle:=zdy DSite.tr l (k+1);have HS:=Lib.hid hsum;have HB:=Lib.hid hb;clear hcells hat hb hsum hstr;go_wp2_with (go_at_call 82;refine (sz_Site l[k]  B _ _  hB' (by omega) (by omega) hok).mono ?_;rintro e w1 ⟨⟨c2,rfl⟩|⟨c2,rfl⟩,hb1⟩)
    ·have c3:decide (left-l.length-sizL ((l.take k).flatMap DSite.tr)-sizL l[k].tr<0)=false:=by simp<;>omega
     go_wp2;go_roundw
     case rel=>exact⟨k+1,by omega,by go_num,by rw[HS.out];omega,by rw[HS.out];go_num,HB.out.trans (hb1.mono HB.out.size)⟩
     case measure=>simp[intOf];omega
    ·go_wp2
     go_ret;exact⟨Or.inr ⟨by have:=HS.out;omega,rfl⟩,HB.out.trans (hb1.mono HB.out.size)⟩
   ·obtain rfl:k=l.length:=by omega
    clear hcells;rw[List.take_length] at hm;go_wp2;go_ret;refine⟨Or.inl ⟨by omega,zb2 ?_⟩,hb⟩;simp only[List.take_length];omega
 ·have c1':decide (left-(l.length:Int)<0)=true:=by simp<;>omega
  go_enter Tryz.func35,Tryz.ntmps35;go_wp2;go_ret;exact⟨Or.inr ⟨by omega,rfl⟩,Below.refl _ _⟩
theorem infoSite:(Tryz.prog.info? 137).map (fun i=>(i.zero,i.size,i.bytes))=some (some (.agg #[.string ⟨#[]⟩,.string ⟨#[]⟩,.int .i64 0,.int .i64 0]),4,48):=by kernel_rfl
theorem to_SiteS (l:List DSite) (v:Value) (w:World) (h:Rd w.heap.size w (DSite.sT l) v) (hn:siz (DSite.sT l)≤1048576) :
  Calls Tryz.prog 48 #[v] w fun e w'=>∃ a' c' fp,e=.returned (.slice a' l.length c')∧Below w.heap.size w w'∧Own w' (DSite.sT l) (.slice a' l.length c') fp∧In w.heap.size w'.heap.size fp:=by
 rw[DSite.siz_s] at hn;obtain⟨i0,hi0,hz0,hz1,hz2⟩:=info_parts infoSite;have hmk:=fun W=>zco (P:=Tryz.prog) 41 137 i0 _ Tryz.underlying41 hi0 hz0 .i64 .i64 l.length l.length (Nat.le_refl _) (by rw[hz2];omega) (by omega) W
 rw[hz1] at hmk;have hnb:(l.length:Int)≤1048576:=by omega
 obtain⟨a,c,rfl,hnc,hcm,hcells⟩:=DSite.rd h;clear h;go_enter Tryz.func48,Tryz.ntmps48;go_wp2;clear hmk hi0 hz0 hz1 hz2;go_loopw [4] (fun i wr=>∃ (k:Nat) (f:List Nat),k≤l.length∧i=.int .i64 k∧Below w.heap.size w wr∧Fill wr w.heap.size 137 (l.length*4) ((l.take k).flatMap DSite.tr) f∧In w.heap.size wr.heap.size f) (fun i wr=>l.length-(intOf i).toNat)
 case atStart =>
  have hst:=Fill.start w (madeCells #[.string ⟨#[]⟩,.string ⟨#[]⟩,.int .i64 0,.int .i64 0] (l.length*4)) 137;rw[size_madeCells] at hst;exact⟨0,[],Nat.zero_le _,rfl,(Below.refl _ _).alloc (Nat.le_refl _) _,by simpa using hst,In.nil⟩
 case round =>
  obtain⟨k,f,hk,rfl,hb,hfill,hin⟩:=hrel
  by_cases hlt:k<l.length
  ·obtain⟨b,off,rfl,hbl,hat⟩:=hcells (by omega)
   obtain⟨s0,s1,s2,s3⟩:=hat k hlt;rw[← hb.cell (p:=⟨b,_,none⟩) hbl] at s0 s1 s2 s3;have hz:=hfill.lt;have hz2:b<wr.heap.size:=by omega
   obtain⟨o0,p0⟩:=hfill.room (k*4) (by omega);obtain⟨o1,p1⟩:=hfill.room (k*4+1) (by omega);obtain⟨o2,p2⟩:=hfill.room (k*4+2) (by omega);obtain⟨o3,p3⟩:=hfill.room (k*4+3) (by omega);have hfz:=hfill.open_;have hsl:=zaz DSite.tr l k hlt;have HB:=Lib.hid hb;clear hcells hat hb;go_wp2_with (go_at_call 95;refine (to_Site l[k] _).mono ?_;rintro e w1 ⟨rfl,hb1⟩;obtain⟨q1,q2⟩:=bcell hb1);go_roundw
   case rel =>
    have hw1:=hfill.below hin hb1;have hst:=hw1.step (us:=l[k].tr) (vs:=[.string l[k].name,.string l[k].holder,.int .i64 l[k].place.x,.int .i64 l[k].place.y]) (g:=[]) (RepV.lits [.string l[k].name,.string l[k].holder,.int .i64 l[k].place.x,.int .i64 l[k].place.y]) (by rw[zat _ 4 DSite.tr_len];simp<;>omega) List.nodup_nil (by simp) (by simp) (fun b h=>by simp at h);rw[zat _ 4 DSite.tr_len,List.length_take,Nat.min_eq_left hk,List.append_nil,← zb5 DSite.tr l k hlt] at hst;exact⟨k+1,f,by omega,by go_num,zdg (HB.out.trans (hb1.mono (by omega))) (Nat.le_refl _) [.string l[k].name,.string l[k].holder,.int .i64 l[k].place.x,.int .i64 l[k].place.y] (k*4),hst,fun x hx=>⟨(hin x hx).1,by have:=(hin x hx).2;have:=hb1.size;simp only[zae];omega⟩⟩
   case measure=>simp[intOf];omega
  ·obtain rfl:k=l.length:=by omega
   clear hcells;go_wp2;go_ret;rw[List.take_length] at hfill;obtain⟨fp,h1,h2⟩:=hfill.own (zat _ 4 DSite.tr_len l) (by unfold maxLen;omega);exact⟨_,_,fp,rfl,hb,h1,fun x hx=>by rcases h2 x hx with rfl|h;exact⟨Nat.le_refl _,hfill.lt⟩;exact hin x h⟩
theorem eq_SiteS (l:List DSite) (v v':Value) (B:Nat) (w:World) (h:Rd B w (DSite.sT l) v) (h':Rd B w (DSite.sT l) v') (hB:B≤w.heap.size) (hn:siz (DSite.sT l)≤1099511627776) :
  Calls Tryz.prog 61 #[v,v'] w fun e w'=>e=.returned (.bool true)∧Below w.heap.size w w':=by
 rw[DSite.siz_s] at hn;have hnb:(l.length:Int)≤1099511627776:=by omega
 obtain⟨a,c,rfl,hnc,hcm,hcells⟩:=DSite.rd h;obtain⟨a',c',rfl,hnc',hcm',hcells'⟩:=DSite.rd h';clear h h';have hne:((l.length:Int) != l.length)=false:=by simp
 go_enter Tryz.func61,Tryz.ntmps61;go_wp2;clear hne;go_loopw [5] (fun i wr=>∃ (k:Nat),k≤l.length∧i=.int .i64 k∧Below w.heap.size w wr) (fun i wr=>l.length-(intOf i).toNat)
 case atStart=>exact⟨0,Nat.zero_le _,rfl,Below.refl _ _⟩
 case round =>
  obtain⟨k,hk,rfl,hb⟩:=hrel
  by_cases hlt:k<l.length
  ·obtain⟨b,off,rfl,hbl,hat⟩:=hcells (by omega)
   obtain⟨b',off',rfl,hbl',hat'⟩:=hcells' (by omega);obtain⟨s0,s1,s2,s3⟩:=hat k hlt;obtain⟨sb0,sb1,sb2,sb3⟩:=hat' k hlt;rw[← hb.cell (p:=⟨b,_,none⟩) (show b<w.heap.size by omega)] at s0 s1 s2 s3;rw[← hb.cell (p:=⟨b',_,none⟩) (show b' < w.heap.size by omega)] at sb0 sb1 sb2 sb3;have hB':B≤wr.heap.size:=by have:=hb.size;omega
   have hsl:=zaz DSite.tr l k hlt;have i1:(0:Int)≤(k:Int):=by omega
   have i2:(k:Int)<(l.length:Int):=by omega
   have HB:=Lib.hid hb;clear hcells hat hcells' hat' hb;go_wp2
   go_still_tail 8,(by kernel_rfl)
   change wpList _ _ _ _ _ wr.drew
   go_wp2_with (go_at_call 111;refine (eq_Site l[k]   _  ).mono ?_;rintro e w1 ⟨rfl,hb1⟩);go_roundw
   case rel=>exact⟨k+1,by omega,by go_num,HB.out.drew.trans (hb1.mono HB.out.size)⟩
   case measure=>simp[intOf];omega
  ·obtain rfl:k=l.length:=by omega
   clear hcells hcells';go_wp2;go_ret;exact⟨rfl,hb⟩
theorem DSite.mk_tr (x:DSite) (K:Nat):mkL x.tr K = [.lit (.string (zdb (K))),.lit (.string (zdb (K+1))),.lit (.int .i64 ((K:Int)+1+1)),.lit (.int .i64 ((K:Int)+1+1+1))]:=rfl
theorem DSite.cntL_tr (x:DSite):cntL x.tr=1+1+1+1:=by rfl
theorem mark_SiteS (l:List DSite) (v:Value) (fp:List Nat) (k0 lo:Nat) (w:World) (h:Own w (DSite.sT l) v fp) (hin:In lo w.heap.size fp) (hs:siz (DSite.sT l)≤1099511627776) (hk0:k0+cnt (DSite.sT l)≤1099511627776) (hk1:0<k0) :
  Calls Tryz.prog 67 #[v,.int .i64 k0] w fun e w'=>e=.returned (.int .i64 ((k0+cnt (DSite.sT l):Nat):Int))∧Own w' (mkT (DSite.sT l) k0) v fp∧Chg fp w w':=by
 rw[DSite.siz_s] at hs;obtain⟨a,c,hv,hnc,hcm⟩:=h.form (k:=4) (g:=DSite.tr) (by decide) DSite.tr_len;subst hv;rw[show cnt (DSite.sT l)=cntL (l.flatMap DSite.tr) from by rw[DSite.sT,cnt]] at hk0 ⊢;have hnb:(l.length:Int)≤1099511627776:=by omega
 go_enter Tryz.func67,Tryz.ntmps67;go_wp2;go_loopw [1,5] (fun kk i wr=>∃ (j K:Nat),j≤l.length∧i=.int .i64 j∧K=k0+cntL ((l.take j).flatMap DSite.tr)∧kk=.int .i64 (K:Int)∧Own wr (mid DSite.tr 4 l k0 j) (.slice a l.length c) fp∧Chg fp w wr) (fun _ i wr=>l.length-(intOf i).toNat)
 case atStart=>exact⟨0,k0,Nat.zero_le _,rfl,by simp[cntL],rfl,by rw[zev];exact h,Chg.refl _ _⟩
 case round =>
  obtain⟨j,K,hj,rfl,hK,rfl,hown,hchg⟩:=hrel
  by_cases hlt:j<l.length
  ·rw[mid_at _ _ _ _ _ hlt] at hown
   have hts:(mkL ((l.take j).flatMap DSite.tr) k0).length=j*4:=by rw[zbt,zat _ 4 DSite.tr_len,List.length_take,Nat.min_eq_left hj]
   have hsum:=zcu DSite.tr l j hlt;have hle:=zb8 DSite.tr l (j+1);have hcx:=DSite.cntL_tr l[j];have hkb:K+(1+1+1+1)≤1099511627776:=by omega
   have hkp:0<K:=by omega
   have hszj:=zaz DSite.tr l j hlt;have HM:=Lib.hid (zew DSite.tr 4 l k0 j hlt);have HS:=Lib.hid hsum;have HK:=Lib.hid hK;have HC:=Lib.hid hcx;have HT:=Lib.hid hts;clear hsum hcx hle hK hts;generalize mkL ((l.take j).flatMap DSite.tr) k0=TS at *;generalize (l.drop (j+1)).flatMap DSite.tr=US at *;have hin':In lo wr.heap.size fp:=hin.mono (Nat.le_refl _) hchg.size;have o0:Own wr (.sl 4 (TS++([.lit (.string l[j].name),.lit (.string l[j].holder),.lit (.int .i64 l[j].place.x),.lit (.int .i64 l[j].place.y)]++US))) (.slice a l.length c) fp:=hown;clear hown;obtain⟨b,off,rfl,hbf⟩:=o0.someAddr;have hbw:=(hin' b hbf).2;have hfz:∀ i,wr.frozen? ⟨b,i,none⟩=false:=o0.free b hbf;have z0:wr.heap.size≤wr.heap.size:=Nat.le_refl _;obtain⟨s0,_⟩:=o0.cellChunk 0 _ rfl (off+j*4) (by rw[HT.out];omega);obtain⟨s1,_⟩:=o0.cellChunk 1 _ rfl (off+j*4+1) (by rw[HT.out];omega);obtain⟨s2,_⟩:=o0.cellChunk 2 _ rfl (off+j*4+2) (by rw[HT.out];omega);obtain⟨s3,_⟩:=o0.cellChunk 3 _ rfl (off+j*4+3) (by rw[HT.out];omega);have O0:=Lib.hid o0;have C0:=Lib.hid hchg;clear o0 hchg;go_wp2_with fail;refine (zcb _ _ (by omega) (by omega)).mono ?_;rintro e w1 ⟨rfl,hb1⟩;obtain⟨qa1,qb1,hbw1⟩:=zag hb1 (b:=b) (by first|omega|(simp only[zae];omega));have z1:wr.heap.size≤w1.heap.size:=by have:=hb1.size;(try simp only[zae] at this);omega
   have O1:=Lib.hid ((O0.out.below hin' (by first|omega|(simp only[zae];omega)) hb1).setChunk 0 _ rfl (off+j*4) (by rw[HT.out];omega) (.string (zdb (K))));have C1:=Lib.hid ((C0.out.trans (Chg.of_below hb1)).setCell (p:=⟨b,off+j*4,none⟩) hbf (.string (zdb (K))));go_wp2_with fail;refine (zcb _ _ (by omega) (by omega)).mono ?_;rintro e w2 ⟨rfl,hb2⟩;obtain⟨qa2,qb2,hbw2⟩:=zag hb2 (b:=b) (by first|omega|(simp only[zae];omega));have z2:wr.heap.size≤w2.heap.size:=by have:=hb2.size;(try simp only[zae] at this);omega
   have O2:=Lib.hid ((O1.out.below hin' (by first|omega|(simp only[zae];omega)) hb2).setChunk 1 _ rfl (off+j*4+1) (by rw[HT.out];omega) (.string (zdb (K+1))));have C2:=Lib.hid ((C1.out.trans (Chg.of_below hb2)).setCell (p:=⟨b,off+j*4+1,none⟩) hbf (.string (zdb (K+1))));have O3:=Lib.hid (O2.out.setChunk 2 _ rfl (off+j*4+2) (by rw[HT.out];omega) (.int .i64 ((K:Int)+1+1)));have C3:=Lib.hid (C2.out.setCell (p:=⟨b,off+j*4+2,none⟩) hbf (.int .i64 ((K:Int)+1+1)));have O4:=Lib.hid (O3.out.setChunk 3 _ rfl (off+j*4+3) (by rw[HT.out];omega) (.int .i64 ((K:Int)+1+1+1)));have C4:=Lib.hid (C3.out.setCell (p:=⟨b,off+j*4+3,none⟩) hbf (.int .i64 ((K:Int)+1+1+1)));go_wp2;go_roundw
   case rel =>
    refine⟨j+1,K+(1+1+1+1),by omega,by go_num,by have:=HK.out;have:=HS.out;have:=HC.out;omega,by go_num,?_,C4.out⟩;rw[HM.out,← HK.out,DSite.mk_tr];exact O4.out
   case measure=>simp[intOf];omega
  ·obtain rfl:j=l.length:=by omega
   have HK:=Lib.hid hK;clear hK;go_wp2;go_ret;rw[mid_end] at hown;have e:=HK.out;rw[List.take_length] at e;exact⟨zb2 (by omega),hown,hchg⟩
theorem markI_SiteS (l:List DSite) (v:Value) (fp:List Nat) (k lo:Nat) (K:Int) (w:World) (h:Own w (DSite.sT l) v fp) (hin:In lo w.heap.size fp) (hs:siz (DSite.sT l)≤1099511627776) (hK:K=(k:Int)) (hk0:k+cnt (DSite.sT l)≤1099511627776) (hk1:0<k) :
  Calls Tryz.prog 67 #[v,.int .i64 K] w fun e w'=>e=.returned (.int .i64 (K+(cnt (DSite.sT l):Int)))∧Own w' (mkT (DSite.sT l) k) v fp∧Chg fp w w':=by
 subst hK;refine (mark_SiteS l v fp k lo w h hin hs hk0 hk1).mono fun e w' ⟨he,h1,h2⟩=>⟨?_,h1,h2⟩
 rw[he,Int.natCast_add]
set_option maxHeartbeats 4000000
set_option maxRecDepth 100000
theorem to_Mode (x:DMode) (w:World) :
  Calls Tryz.prog 188 #[.agg #[.int .i64 x.need,.int .i64 x.rate]] w fun e w'=>e=.returned (.agg #[.int .i64 x.need,.int .i64 x.rate])∧Below w.heap.size w w':=by
 go_enter Tryz.func188,Tryz.ntmps188;go_wp2;exact bodyPost_ret (v:=.agg #[.int .i64 x.need,.int .i64 x.rate]) (by simp[results,Tryz.results188,go_sem]) rfl ⟨rfl,(((Below.refl _ _).alloc (Nat.le_refl _) _).alloc (by simp) _).alloc (by simp<;>omega) _⟩
theorem eq_Mode (x:DMode) (w:World) :
  Calls Tryz.prog 213 #[.agg #[.int .i64 x.need,.int .i64 x.rate],.agg #[.int .i64 x.need,.int .i64 x.rate]] w fun e w'=>e=.returned (.bool true)∧Below w.heap.size w w':=by
 go_enter Tryz.func213,Tryz.ntmps213;go_wp2;go_ret;exact⟨rfl,((Below.refl _ _).alloc (Nat.le_refl _) _).alloc (by simp) _⟩
theorem DMode.siz_s (l:List DMode):siz (DMode.sT l)=l.length+sizL (l.flatMap DMode.tr):=zfc DMode.tr 2 (by decide) DMode.tr_len l
theorem DMode.siz_tr (x:DMode):sizL x.tr=0:=by simp[DMode.tr,sizL,siz,intT]
theorem DMode.sizL_s (l:List DMode):sizL (l.flatMap DMode.tr)=0:=by
 induction l with
 | nil=>rfl
 | cons x l ih=>rw[List.flatMap_cons,zeh,ih,DMode.siz_tr]
theorem sz_ModeS (l:List DMode) (v:Value) (B:Nat) (left:Int) (w:World) (h:Rd B w (DMode.sT l) v) (hB:B≤w.heap.size) (hl:0≤left) (hl2:left≤1048576) :
  Calls Tryz.prog 126 #[v,.int .i64 left] w (SzPost (siz (DMode.sT l)) left w):=by
 rw[DMode.siz_s,DMode.sizL_s];obtain⟨a,c,rfl,hnc,hcm,_⟩:=DMode.rd h;clear h;unfold maxLen at hcm;go_enter Tryz.func126,Tryz.ntmps126;go_wp2
 all_goals go_ret
 all_goals first|exact⟨Or.inl ⟨by omega,zb2 (by omega)⟩,Below.refl _ _⟩|exact⟨Or.inr ⟨by omega,rfl⟩,Below.refl _ _⟩
theorem infoMode:(Tryz.prog.info? 194).map (fun i=>(i.zero,i.size,i.bytes))=some (some (.agg #[.int .i64 0,.int .i64 0]),2,16):=by kernel_rfl
theorem to_ModeS (l:List DMode) (v:Value) (w:World) (h:Rd w.heap.size w (DMode.sT l) v) (hn:siz (DMode.sT l)≤1048576) :
  Calls Tryz.prog 144 #[v] w fun e w'=>∃ a' c' fp,e=.returned (.slice a' l.length c')∧Below w.heap.size w w'∧Own w' (DMode.sT l) (.slice a' l.length c') fp∧In w.heap.size w'.heap.size fp:=by
 rw[DMode.siz_s] at hn;obtain⟨i0,hi0,hz0,hz1,hz2⟩:=info_parts infoMode;have hmk:=fun W=>zco (P:=Tryz.prog) 149 194 i0 _ Tryz.underlying149 hi0 hz0 .i64 .i64 l.length l.length (Nat.le_refl _) (by rw[hz2];omega) (by omega) W
 rw[hz1] at hmk;have hnb:(l.length:Int)≤1048576:=by omega
 obtain⟨a,c,rfl,hnc,hcm,hcells⟩:=DMode.rd h;clear h;go_enter Tryz.func144,Tryz.ntmps144;go_wp2;clear hmk hi0 hz0 hz1 hz2;go_loopw [4] (fun i wr=>∃ (k:Nat) (f:List Nat),k≤l.length∧i=.int .i64 k∧Below w.heap.size w wr∧Fill wr w.heap.size 194 (l.length*2) ((l.take k).flatMap DMode.tr) f∧In w.heap.size wr.heap.size f) (fun i wr=>l.length-(intOf i).toNat)
 case atStart =>
  have hst:=Fill.start w (madeCells #[.int .i64 0,.int .i64 0] (l.length*2)) 194;rw[size_madeCells] at hst;exact⟨0,[],Nat.zero_le _,rfl,(Below.refl _ _).alloc (Nat.le_refl _) _,by simpa using hst,In.nil⟩
 case round =>
  obtain⟨k,f,hk,rfl,hb,hfill,hin⟩:=hrel
  by_cases hlt:k<l.length
  ·obtain⟨b,off,rfl,hbl,hat⟩:=hcells (by omega)
   obtain⟨s0,s1⟩:=hat k hlt;rw[← hb.cell (p:=⟨b,_,none⟩) hbl] at s0 s1;have hz:=hfill.lt;have hz2:b<wr.heap.size:=by omega
   obtain⟨o0,p0⟩:=hfill.room (k*2) (by omega);obtain⟨o1,p1⟩:=hfill.room (k*2+1) (by omega);have hfz:=hfill.open_;have hsl:=zaz DMode.tr l k hlt;have HB:=Lib.hid hb;clear hcells hat hb;go_wp2_with (go_at_call 188;refine (to_Mode l[k] _).mono ?_;rintro e w1 ⟨rfl,hb1⟩;obtain⟨q1,q2⟩:=bcell hb1);go_roundw
   case rel =>
    have hw1:=hfill.below hin hb1;have hst:=hw1.step (us:=l[k].tr) (vs:=[.int .i64 l[k].need,.int .i64 l[k].rate]) (g:=[]) (RepV.lits [.int .i64 l[k].need,.int .i64 l[k].rate]) (by rw[zat _ 2 DMode.tr_len];simp<;>omega) List.nodup_nil (by simp) (by simp) (fun b h=>by simp at h);rw[zat _ 2 DMode.tr_len,List.length_take,Nat.min_eq_left hk,List.append_nil,← zb5 DMode.tr l k hlt] at hst;exact⟨k+1,f,by omega,by go_num,zdg (HB.out.trans (hb1.mono (by omega))) (Nat.le_refl _) [.int .i64 l[k].need,.int .i64 l[k].rate] (k*2),hst,fun x hx=>⟨(hin x hx).1,by have:=(hin x hx).2;have:=hb1.size;simp only[zae];omega⟩⟩
   case measure=>simp[intOf];omega
  ·obtain rfl:k=l.length:=by omega
   clear hcells;go_wp2;go_ret;rw[List.take_length] at hfill;obtain⟨fp,h1,h2⟩:=hfill.own (zat _ 2 DMode.tr_len l) (by unfold maxLen;omega);exact⟨_,_,fp,rfl,hb,h1,fun x hx=>by rcases h2 x hx with rfl|h;exact⟨Nat.le_refl _,hfill.lt⟩;exact hin x h⟩
theorem eq_ModeS (l:List DMode) (v v':Value) (B:Nat) (w:World) (h:Rd B w (DMode.sT l) v) (h':Rd B w (DMode.sT l) v') (hB:B≤w.heap.size) (hn:siz (DMode.sT l)≤1099511627776) :
  Calls Tryz.prog 161 #[v,v'] w fun e w'=>e=.returned (.bool true)∧Below w.heap.size w w':=by
 rw[DMode.siz_s] at hn;have hnb:(l.length:Int)≤1099511627776:=by omega
 obtain⟨a,c,rfl,hnc,hcm,hcells⟩:=DMode.rd h;obtain⟨a',c',rfl,hnc',hcm',hcells'⟩:=DMode.rd h';clear h h';have hne:((l.length:Int) != l.length)=false:=by simp
 go_enter Tryz.func161,Tryz.ntmps161;go_wp2;clear hne;go_loopw [5] (fun i wr=>∃ (k:Nat),k≤l.length∧i=.int .i64 k∧Below w.heap.size w wr) (fun i wr=>l.length-(intOf i).toNat)
 case atStart=>exact⟨0,Nat.zero_le _,rfl,Below.refl _ _⟩
 case round =>
  obtain⟨k,hk,rfl,hb⟩:=hrel
  by_cases hlt:k<l.length
  ·obtain⟨b,off,rfl,hbl,hat⟩:=hcells (by omega)
   obtain⟨b',off',rfl,hbl',hat'⟩:=hcells' (by omega);obtain⟨s0,s1⟩:=hat k hlt;obtain⟨sb0,sb1⟩:=hat' k hlt;rw[← hb.cell (p:=⟨b,_,none⟩) (show b<w.heap.size by omega)] at s0 s1;rw[← hb.cell (p:=⟨b',_,none⟩) (show b' < w.heap.size by omega)] at sb0 sb1;have hB':B≤wr.heap.size:=by have:=hb.size;omega
   have hsl:=zaz DMode.tr l k hlt;have i1:(0:Int)≤(k:Int):=by omega
   have i2:(k:Int)<(l.length:Int):=by omega
   have HB:=Lib.hid hb;clear hcells hat hcells' hat' hb;go_wp2
   go_still_tail 8,(by kernel_rfl)
   change wpList _ _ _ _ _ wr.drew
   go_wp2_with (go_at_call 213;refine (eq_Mode l[k]   _  ).mono ?_;rintro e w1 ⟨rfl,hb1⟩);go_roundw
   case rel=>exact⟨k+1,by omega,by go_num,HB.out.drew.trans (hb1.mono HB.out.size)⟩
   case measure=>simp[intOf];omega
  ·obtain rfl:k=l.length:=by omega
   clear hcells hcells';go_wp2;go_ret;exact⟨rfl,hb⟩
theorem DMode.mk_tr (x:DMode) (K:Nat):mkL x.tr K = [.lit (.int .i64 ((K:Int))),.lit (.int .i64 ((K:Int)+1))]:=rfl
theorem DMode.cntL_tr (x:DMode):cntL x.tr=1+1:=by rfl
theorem mark_ModeS (l:List DMode) (v:Value) (fp:List Nat) (k0 lo:Nat) (w:World) (h:Own w (DMode.sT l) v fp) (hin:In lo w.heap.size fp) (hs:siz (DMode.sT l)≤1099511627776) (hk0:k0+cnt (DMode.sT l)≤1099511627776) (hk1:0<k0) :
  Calls Tryz.prog 118 #[v,.int .i64 k0] w fun e w'=>e=.returned (.int .i64 ((k0+cnt (DMode.sT l):Nat):Int))∧Own w' (mkT (DMode.sT l) k0) v fp∧Chg fp w w':=by
 rw[DMode.siz_s] at hs;obtain⟨a,c,hv,hnc,hcm⟩:=h.form (k:=2) (g:=DMode.tr) (by decide) DMode.tr_len;subst hv;rw[show cnt (DMode.sT l)=cntL (l.flatMap DMode.tr) from by rw[DMode.sT,cnt]] at hk0 ⊢;have hnb:(l.length:Int)≤1099511627776:=by omega
 go_enter Tryz.func118,Tryz.ntmps118;go_wp2;go_loopw [1,5] (fun kk i wr=>∃ (j K:Nat),j≤l.length∧i=.int .i64 j∧K=k0+cntL ((l.take j).flatMap DMode.tr)∧kk=.int .i64 (K:Int)∧Own wr (mid DMode.tr 2 l k0 j) (.slice a l.length c) fp∧Chg fp w wr) (fun _ i wr=>l.length-(intOf i).toNat)
 case atStart=>exact⟨0,k0,Nat.zero_le _,rfl,by simp[cntL],rfl,by rw[zev];exact h,Chg.refl _ _⟩
 case round =>
  obtain⟨j,K,hj,rfl,hK,rfl,hown,hchg⟩:=hrel
  by_cases hlt:j<l.length
  ·rw[mid_at _ _ _ _ _ hlt] at hown
   have hts:(mkL ((l.take j).flatMap DMode.tr) k0).length=j*2:=by rw[zbt,zat _ 2 DMode.tr_len,List.length_take,Nat.min_eq_left hj]
   have hsum:=zcu DMode.tr l j hlt;have hle:=zb8 DMode.tr l (j+1);have hcx:=DMode.cntL_tr l[j];have hkb:K+(1+1)≤1099511627776:=by omega
   have hkp:0<K:=by omega
   have hszj:=zaz DMode.tr l j hlt;have HM:=Lib.hid (zew DMode.tr 2 l k0 j hlt);have HS:=Lib.hid hsum;have HK:=Lib.hid hK;have HC:=Lib.hid hcx;have HT:=Lib.hid hts;clear hsum hcx hle hK hts;generalize mkL ((l.take j).flatMap DMode.tr) k0=TS at *;generalize (l.drop (j+1)).flatMap DMode.tr=US at *;have hin':In lo wr.heap.size fp:=hin.mono (Nat.le_refl _) hchg.size;have o0:Own wr (.sl 2 (TS++([.lit (.int .i64 l[j].need),.lit (.int .i64 l[j].rate)]++US))) (.slice a l.length c) fp:=hown;clear hown;obtain⟨b,off,rfl,hbf⟩:=o0.someAddr;have hbw:=(hin' b hbf).2;have hfz:∀ i,wr.frozen? ⟨b,i,none⟩=false:=o0.free b hbf;have z0:wr.heap.size≤wr.heap.size:=Nat.le_refl _;obtain⟨s0,_⟩:=o0.cellChunk 0 _ rfl (off+j*2) (by rw[HT.out];omega);obtain⟨s1,_⟩:=o0.cellChunk 1 _ rfl (off+j*2+1) (by rw[HT.out];omega);have O0:=Lib.hid o0;have C0:=Lib.hid hchg;clear o0 hchg;have O1:=Lib.hid (O0.out.setChunk 0 _ rfl (off+j*2) (by rw[HT.out];omega) (.int .i64 ((K:Int))));have C1:=Lib.hid (C0.out.setCell (p:=⟨b,off+j*2,none⟩) hbf (.int .i64 ((K:Int))));have O2:=Lib.hid (O1.out.setChunk 1 _ rfl (off+j*2+1) (by rw[HT.out];omega) (.int .i64 ((K:Int)+1)));have C2:=Lib.hid (C1.out.setCell (p:=⟨b,off+j*2+1,none⟩) hbf (.int .i64 ((K:Int)+1)));go_wp2;go_roundw
   case rel =>
    refine⟨j+1,K+(1+1),by omega,by go_num,by have:=HK.out;have:=HS.out;have:=HC.out;omega,by go_num,?_,C2.out⟩;rw[HM.out,← HK.out,DMode.mk_tr];exact O2.out
   case measure=>simp[intOf];omega
  ·obtain rfl:j=l.length:=by omega
   have HK:=Lib.hid hK;clear hK;go_wp2;go_ret;rw[mid_end] at hown;have e:=HK.out;rw[List.take_length] at e;exact⟨zb2 (by omega),hown,hchg⟩
theorem markI_ModeS (l:List DMode) (v:Value) (fp:List Nat) (k lo:Nat) (K:Int) (w:World) (h:Own w (DMode.sT l) v fp) (hin:In lo w.heap.size fp) (hs:siz (DMode.sT l)≤1099511627776) (hK:K=(k:Int)) (hk0:k+cnt (DMode.sT l)≤1099511627776) (hk1:0<k) :
  Calls Tryz.prog 118 #[v,.int .i64 K] w fun e w'=>e=.returned (.int .i64 (K+(cnt (DMode.sT l):Int)))∧Own w' (mkT (DMode.sT l) k) v fp∧Chg fp w w':=by
 subst hK;refine (mark_ModeS l v fp k lo w h hin hs hk0 hk1).mono fun e w' ⟨he,h1,h2⟩=>⟨?_,h1,h2⟩
 rw[he,Int.natCast_add]
theorem zds {α:Type} (g:α→List Tr) (k K:Nat) (hk:0<k) (hg:∀ x,(g x).length=k) (hc:∀ x,cntL (g x)≤K+K*sizL (g x)) (l:List α):cnt (.sl k (l.flatMap g))≤K*siz (.sl k (l.flatMap g)):=by
 rw[zfc g k hk hg,cnt]
 induction l with
 | nil=>simp[cntL]
 | cons x l ih =>
  rw[List.flatMap_cons,zer,zeh,List.length_cons];have h1:=hc x;rw[Nat.mul_add] at ih ⊢;rw[Nat.mul_add,Nat.mul_add];omega
theorem DSite.cnt_le (l:List DSite):cnt (DSite.sT l)≤16*siz (DSite.sT l):=zds DSite.tr 4 16 (by decide) DSite.tr_len (fun x=>by simp only[DSite.tr,cntL,cnt,strT,intT];omega) l
theorem DSector.cnt_le (l:List DSector):cnt (DSector.sT l)≤16*siz (DSector.sT l):=zds DSector.tr 9 16 (by decide) DSector.tr_len (fun x=>by simp only[DSector.tr,cntL,cnt,strT,intT];omega) l
theorem DMode.cnt_le (l:List DMode):cnt (DMode.sT l)≤16*siz (DMode.sT l):=zds DMode.tr 2 16 (by decide) DMode.tr_len (fun x=>by simp only[DMode.tr,cntL,cnt,intT];omega) l
theorem DAntenna.cnt_le (l:List DAntenna):cnt (DAntenna.sT l)≤16*siz (DAntenna.sT l):=zds DAntenna.tr 4 16 (by decide) DAntenna.tr_len (fun x=>by
 have h1:=cnt_ints x.horizontal
 have h2:=zch x.horizontal
 have h3:=cnt_ints x.vertical
 have h4:=zch x.vertical
 simp only[DAntenna.tr,cntL,sizL]
 have h5:cnt (strT x.name)=1:=rfl
 have h6:cnt (intT x.gain)=1:=rfl
 omega) l
theorem DRadio.cnt_le (l:List DRadio):cnt (DRadio.sT l)≤16*siz (DRadio.sT l):=zds DRadio.tr 6 16 (by decide) DRadio.tr_len (fun x=>by
 have h1:=DMode.cnt_le x.modes
 simp only[DRadio.tr,cntL,sizL]
 have h5:cnt (strT x.name)=1:=rfl
 have h6:cnt (intT x.power)=1:=rfl
 have h7:cnt (intT x.feeder)=1:=rfl
 have h8:cnt (intT x.noise)=1:=rfl
 have h9:cnt (intT x.width)=1:=rfl
 omega) l
end Go.Proofs.YtdgmgchdjlfchaaGreatDoor
