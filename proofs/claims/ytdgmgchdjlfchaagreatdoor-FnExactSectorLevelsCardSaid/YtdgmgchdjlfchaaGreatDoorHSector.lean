/- Contracts of the laws' helpers over the type Sector and slices of it. Conditions: bounded lengths. -/
import Derived.Test.YtdgmgchdjlfchaaGreatDoorStrs
set_option linter.unusedVariables false
set_option linter.unusedSimpArgs false
namespace Go.Proofs.YtdgmgchdjlfchaaGreatDoor
open Go.RowKit
set_option maxHeartbeats 4000000
set_option maxRecDepth 100000
theorem DSite.siz_tr (x:DSite):sizL x.tr=x.name.size+x.holder.size:=by simp[DSite.tr,sizL,siz,intT,strT]<;>omega
theorem sz_Site (x:DSite) (B:Nat) (left:Int) (w:World) (hB:B≤w.heap.size) (hl:0≤left) (hl2:left≤1048576) (hok:x.ok) :
  Calls Tryz.prog 82 #[.agg #[.string x.name,.string x.holder,.int .i64 x.place.x,.int .i64 x.place.y],.int .i64 left] w (SzPost (sizL x.tr) left w):=by
 rw[DSite.siz_tr];have hs0:=hok.name;have hs1:=hok.holder;unfold maxLen at hs0 hs1;clear hok;go_enter Tryz.func82,Tryz.ntmps82;go_wp2
 all_goals go_ret
 all_goals first|exact⟨Or.inl ⟨by omega,zcd (by omega)⟩,(Below.refl _ _).alloc (Nat.le_refl _) _⟩|exact⟨Or.inr ⟨by omega,rfl⟩,(Below.refl _ _).alloc (Nat.le_refl _) _⟩
theorem to_Site (x:DSite) (w:World) :
  Calls Tryz.prog 95 #[.agg #[.string x.name,.string x.holder,.int .i64 x.place.x,.int .i64 x.place.y]] w fun e w'=>e=.returned (.agg #[.string x.name,.string x.holder,.int .i64 x.place.x,.int .i64 x.place.y])∧Below w.heap.size w w':=by
 go_enter Tryz.func95,Tryz.ntmps95;go_wp2_with fail;refine (to_Point x.place _).mono ?_;rintro e w1 ⟨rfl,hb1⟩;obtain⟨qa1,fa1,ya1⟩:=zah hb1 (b:=w.heap.size) (by first|omega|(simp;done)|(simp<;>omega));obtain⟨qb1,fb1,yb1⟩:=zah hb1 (b:=w.heap.size+1) (by first|omega|(simp;done)|(simp<;>omega));obtain⟨qc1,fc1,yc1⟩:=zah hb1 (b:=w.heap.size+1+1) (by first|omega|(simp;done)|(simp<;>omega));go_wp2;refine bodyPost_ret (v:=.agg #[.string x.name,.string x.holder,.int .i64 x.place.x,.int .i64 x.place.y]) (by simp[results,Tryz.results95,go_sem, *]) rfl ⟨rfl,?_⟩
 repeat (first|exact Below.refl _ _|(refine Below.setCell ?_ (by first|omega|(simp;done)|(simp<;>omega)) _)|(refine Below.alloc ?_ (by first|omega|(simp;done)|(simp<;>omega)) _)|(refine Below.trans ?_ (hb1.mono (by first|omega|(simp;done)|(simp<;>omega)))))
theorem eq_Site (x:DSite) (w:World) :
  Calls Tryz.prog 111 #[.agg #[.string x.name,.string x.holder,.int .i64 x.place.x,.int .i64 x.place.y],.agg #[.string x.name,.string x.holder,.int .i64 x.place.x,.int .i64 x.place.y]] w fun e w'=>e=.returned (.bool true)∧Below w.heap.size w w':=by
 go_enter Tryz.func111,Tryz.ntmps111;go_wp2_with fail;refine (eq_Point x.place _).mono ?_;rintro e w1 ⟨rfl,hb1⟩;obtain⟨qa1,_,ya1⟩:=zah hb1 (b:=w.heap.size) (by first|omega|(simp;done)|(simp<;>omega));obtain⟨qb1,_,yb1⟩:=zah hb1 (b:=w.heap.size+1) (by first|omega|(simp;done)|(simp<;>omega));go_wp2;go_ret;refine⟨rfl,?_⟩
 repeat (first|exact Below.refl _ _|(refine Below.alloc ?_ (by first|omega|(simp;done)|(simp<;>omega)) _)|(refine Below.trans ?_ (hb1.mono (by first|omega|(simp;done)|(simp<;>omega)))))
theorem DSite.siz_s (l:List DSite):siz (DSite.sT l)=l.length+sizL (l.flatMap DSite.tr):=siz_flat DSite.tr 4 (by decide) DSite.tr_len l
theorem sz_SiteS (l:List DSite) (v:Value) (B:Nat) (left:Int) (w:World) (h:Rd B w (DSite.sT l) v) (hB:B≤w.heap.size) (hl:0≤left) (hl2:left≤1048576) (hstr:∀ x ∈ l,x.ok) :
  Calls Tryz.prog 35 #[v,.int .i64 left] w (SzPost (siz (DSite.sT l)) left w):=by
 rw[DSite.siz_s];obtain⟨a,c,rfl,hnc,hcm,hcells⟩:=DSite.rd h;clear h;unfold maxLen at hcm
 by_cases c1:(l.length:Int)≤left
 ·have c1':decide (left-(l.length:Int)<0)=false:=by simp<;>omega
  go_enter Tryz.func35,Tryz.ntmps35;go_wp2;go_loopw [1,5] (fun m i wr=>∃ (k:Nat),k≤l.length∧i=.int .i64 k∧(sizL ((l.take k).flatMap DSite.tr):Int)≤left-l.length∧m=.int .i64 (left-l.length-sizL ((l.take k).flatMap DSite.tr))∧Below w.heap.size w wr) (fun _ i wr=>l.length-(intOf i).toNat)
  case atStart=>exact⟨0,Nat.zero_le _,rfl,by simp[sizL];omega,by simp[sizL],Below.refl _ _⟩
  case round =>
   obtain⟨k,hk,rfl,hm,rfl,hb⟩:=hrel
   by_cases hlt:k<l.length
   ·obtain⟨b,off,rfl,hbl,hat⟩:=hcells (by omega)
    obtain⟨s0,s1,s2,s3⟩:=hat k hlt;rw[← hb.cell (p:=⟨b,_,none⟩) (show b<w.heap.size by omega)] at s0 s1 s2 s3;have hB':B≤wr.heap.size:=by have:=hb.size;omega
    have hok:=hstr l[k] (List.getElem_mem hlt);have hsum:=zc2 DSite.tr l k hlt;have hle:=zds DSite.tr l (k+1);have HS:=Lib.hid hsum;have HB:=Lib.hid hb;clear hcells hat hb hsum hstr;go_wp2_with (go_at_call 82;refine (sz_Site l[k]  B _ _  hB' (by omega) (by omega) hok).mono ?_;rintro e w1 ⟨⟨c2,rfl⟩|⟨c2,rfl⟩,hb1⟩)
    ·have c3:decide (left-l.length-sizL ((l.take k).flatMap DSite.tr)-sizL l[k].tr<0)=false:=by simp<;>omega
     go_wp2;go_roundw
     case rel=>exact⟨k+1,by omega,by go_num,by rw[HS.out];omega,by rw[HS.out];go_num,HB.out.trans (hb1.mono HB.out.size)⟩
     case measure=>simp[intOf];omega
    ·go_wp2
     go_ret;exact⟨Or.inr ⟨by have:=HS.out;omega,rfl⟩,HB.out.trans (hb1.mono HB.out.size)⟩
   ·obtain rfl:k=l.length:=by omega
    clear hcells;rw[List.take_length] at hm;go_wp2;go_ret;refine⟨Or.inl ⟨by omega,zcd ?_⟩,hb⟩;simp only[List.take_length];omega
 ·have c1':decide (left-(l.length:Int)<0)=true:=by simp<;>omega
  go_enter Tryz.func35,Tryz.ntmps35;go_wp2;go_ret;exact⟨Or.inr ⟨by omega,rfl⟩,Below.refl _ _⟩
theorem infoSite:(Tryz.prog.info? 137).map (fun i=>(i.zero,i.size,i.bytes))=some (some (.agg #[.string ⟨#[]⟩,.string ⟨#[]⟩,.int .i64 0,.int .i64 0]),4,48):=by kernel_rfl
theorem to_SiteS (l:List DSite) (v:Value) (w:World) (h:Rd w.heap.size w (DSite.sT l) v) (hn:siz (DSite.sT l)≤1048576) :
  Calls Tryz.prog 48 #[v] w fun e w'=>∃ a' c' fp,e=.returned (.slice a' l.length c')∧Below w.heap.size w w'∧Own w' (DSite.sT l) (.slice a' l.length c') fp∧In w.heap.size w'.heap.size fp:=by
 rw[DSite.siz_s] at hn;obtain⟨i0,hi0,hz0,hz1,hz2⟩:=info_parts infoSite;have hmk:=fun W=>zcv (P:=Tryz.prog) 41 137 i0 _ Tryz.underlying41 hi0 hz0 .i64 .i64 l.length l.length (Nat.le_refl _) (by rw[hz2];omega) (by omega) W
 rw[hz1] at hmk;have hnb:(l.length:Int)≤1048576:=by omega
 obtain⟨a,c,rfl,hnc,hcm,hcells⟩:=DSite.rd h;clear h;go_enter Tryz.func48,Tryz.ntmps48;go_wp2;clear hmk hi0 hz0 hz1 hz2;go_loopw [4] (fun i wr=>∃ (k:Nat) (f:List Nat),k≤l.length∧i=.int .i64 k∧Below w.heap.size w wr∧Fill wr w.heap.size 137 (l.length*4) ((l.take k).flatMap DSite.tr) f∧In w.heap.size wr.heap.size f) (fun i wr=>l.length-(intOf i).toNat)
 case atStart =>
  have hst:=Fill.start w (madeCells #[.string ⟨#[]⟩,.string ⟨#[]⟩,.int .i64 0,.int .i64 0] (l.length*4)) 137;rw[size_madeCells] at hst;exact⟨0,[],Nat.zero_le _,rfl,(Below.refl _ _).alloc (Nat.le_refl _) _,by simpa using hst,In.nil⟩
 case round =>
  obtain⟨k,f,hk,rfl,hb,hfill,hin⟩:=hrel
  by_cases hlt:k<l.length
  ·obtain⟨b,off,rfl,hbl,hat⟩:=hcells (by omega)
   obtain⟨s0,s1,s2,s3⟩:=hat k hlt;rw[← hb.cell (p:=⟨b,_,none⟩) hbl] at s0 s1 s2 s3;have hz:=hfill.lt;have hz2:b<wr.heap.size:=by omega
   obtain⟨o0,p0⟩:=hfill.room (k*4) (by omega);obtain⟨o1,p1⟩:=hfill.room (k*4+1) (by omega);obtain⟨o2,p2⟩:=hfill.room (k*4+2) (by omega);obtain⟨o3,p3⟩:=hfill.room (k*4+3) (by omega);have hfz:=hfill.open_;have hsl:=za4 DSite.tr l k hlt;have HB:=Lib.hid hb;clear hcells hat hb;go_wp2_with (go_at_call 95;refine (to_Site l[k] _).mono ?_;rintro e w1 ⟨rfl,hb1⟩;obtain⟨q1,q2⟩:=bcell hb1);go_roundw
   case rel =>
    have hw1:=hfill.below hin hb1;have hst:=hw1.step (us:=l[k].tr) (vs:=[.string l[k].name,.string l[k].holder,.int .i64 l[k].place.x,.int .i64 l[k].place.y]) (g:=[]) (RepV.lits [.string l[k].name,.string l[k].holder,.int .i64 l[k].place.x,.int .i64 l[k].place.y]) (by rw[zay _ 4 DSite.tr_len];simp<;>omega) List.nodup_nil (by simp) (by simp) (fun b h=>by simp at h);rw[zay _ 4 DSite.tr_len,List.length_take,Nat.min_eq_left hk,List.append_nil,← zcb DSite.tr l k hlt] at hst;exact⟨k+1,f,by omega,by go_num,zdy (HB.out.trans (hb1.mono (by omega))) (Nat.le_refl _) [.string l[k].name,.string l[k].holder,.int .i64 l[k].place.x,.int .i64 l[k].place.y] (k*4),hst,fun x hx=>⟨(hin x hx).1,by have:=(hin x hx).2;have:=hb1.size;simp only[zaf];omega⟩⟩
   case measure=>simp[intOf];omega
  ·obtain rfl:k=l.length:=by omega
   clear hcells;go_wp2;go_ret;rw[List.take_length] at hfill;obtain⟨fp,h1,h2⟩:=hfill.own (zay _ 4 DSite.tr_len l) (by unfold maxLen;omega);exact⟨_,_,fp,rfl,hb,h1,fun x hx=>by rcases h2 x hx with rfl|h;exact⟨Nat.le_refl _,hfill.lt⟩;exact hin x h⟩
theorem eq_SiteS (l:List DSite) (v v':Value) (B:Nat) (w:World) (h:Rd B w (DSite.sT l) v) (h':Rd B w (DSite.sT l) v') (hB:B≤w.heap.size) (hn:siz (DSite.sT l)≤1099511627776) :
  Calls Tryz.prog 61 #[v,v'] w fun e w'=>e=.returned (.bool true)∧Below w.heap.size w w':=by
 rw[DSite.siz_s] at hn;have hnb:(l.length:Int)≤1099511627776:=by omega
 obtain⟨a,c,rfl,hnc,hcm,hcells⟩:=DSite.rd h;obtain⟨a',c',rfl,hnc',hcm',hcells'⟩:=DSite.rd h';clear h h';have hne:((l.length:Int) != l.length)=false:=by simp
 go_enter Tryz.func61,Tryz.ntmps61;go_wp2;clear hne;go_loopw [5] (fun i wr=>∃ (k:Nat),k≤l.length∧i=.int .i64 k∧Below w.heap.size w wr) (fun i wr=>l.length-(intOf i).toNat)
 case atStart=>exact⟨0,Nat.zero_le _,rfl,Below.refl _ _⟩
 case round =>
  obtain⟨k,hk,rfl,hb⟩:=hrel
  by_cases hlt:k<l.length
  ·obtain⟨b,off,rfl,hbl,hat⟩:=hcells (by omega)
   obtain⟨b',off',rfl,hbl',hat'⟩:=hcells' (by omega);obtain⟨s0,s1,s2,s3⟩:=hat k hlt;obtain⟨sb0,sb1,sb2,sb3⟩:=hat' k hlt;rw[← hb.cell (p:=⟨b,_,none⟩) (show b<w.heap.size by omega)] at s0 s1 s2 s3;rw[← hb.cell (p:=⟨b',_,none⟩) (show b' < w.heap.size by omega)] at sb0 sb1 sb2 sb3;have hB':B≤wr.heap.size:=by have:=hb.size;omega
   have hsl:=za4 DSite.tr l k hlt;have i1:(0:Int)≤(k:Int):=by omega
   have i2:(k:Int)<(l.length:Int):=by omega
   have HB:=Lib.hid hb;clear hcells hat hcells' hat' hb;go_wp2
   go_still_tail 8,(by kernel_rfl)
   change wpList _ _ _ _ _ wr.drew
   go_wp2_with (go_at_call 111;refine (eq_Site l[k]   _  ).mono ?_;rintro e w1 ⟨rfl,hb1⟩);go_roundw
   case rel=>exact⟨k+1,by omega,by go_num,HB.out.drew.trans (hb1.mono HB.out.size)⟩
   case measure=>simp[intOf];omega
  ·obtain rfl:k=l.length:=by omega
   clear hcells hcells';go_wp2;go_ret;exact⟨rfl,hb⟩
theorem DSite.mk_tr (x:DSite) (K:Nat):mkL x.tr K = [.lit (.string (zc3 (K))),.lit (.string (zc3 (K+1))),.lit (.int .i64 ((K:Int)+1+1)),.lit (.int .i64 ((K:Int)+1+1+1))]:=rfl
theorem DSite.cntL_tr (x:DSite):cntL x.tr=1+1+1+1:=by rfl
theorem mark_SiteS (l:List DSite) (v:Value) (fp:List Nat) (k0 lo:Nat) (w:World) (h:Own w (DSite.sT l) v fp) (hin:In lo w.heap.size fp) (hs:siz (DSite.sT l)≤1099511627776) (hk0:k0+cnt (DSite.sT l)≤1099511627776) (hk1:0<k0) :
  Calls Tryz.prog 67 #[v,.int .i64 k0] w fun e w'=>e=.returned (.int .i64 ((k0+cnt (DSite.sT l):Nat):Int))∧Own w' (mkT (DSite.sT l) k0) v fp∧Chg fp w w':=by
 rw[DSite.siz_s] at hs;obtain⟨a,c,hv,hnc,hcm⟩:=h.form (k:=4) (g:=DSite.tr) (by decide) DSite.tr_len;subst hv;rw[show cnt (DSite.sT l)=cntL (l.flatMap DSite.tr) from by rw[DSite.sT,cnt]] at hk0 ⊢;have hnb:(l.length:Int)≤1099511627776:=by omega
 go_enter Tryz.func67,Tryz.ntmps67;go_wp2;go_loopw [1,5] (fun kk i wr=>∃ (j K:Nat),j≤l.length∧i=.int .i64 j∧K=k0+cntL ((l.take j).flatMap DSite.tr)∧kk=.int .i64 (K:Int)∧Own wr (mid DSite.tr 4 l k0 j) (.slice a l.length c) fp∧Chg fp w wr) (fun _ i wr=>l.length-(intOf i).toNat)
 case atStart=>exact⟨0,k0,Nat.zero_le _,rfl,by simp[cntL],rfl,by rw[mid_zero];exact h,Chg.refl _ _⟩
 case round =>
  obtain⟨j,K,hj,rfl,hK,rfl,hown,hchg⟩:=hrel
  by_cases hlt:j<l.length
  ·rw[mid_at _ _ _ _ _ hlt] at hown
   have hts:(mkL ((l.take j).flatMap DSite.tr) k0).length=j*4:=by rw[zb4,zay _ 4 DSite.tr_len,List.length_take,Nat.min_eq_left hj]
   have hsum:=zc4 DSite.tr l j hlt;have hle:=zcg DSite.tr l (j+1);have hcx:=DSite.cntL_tr l[j];have hkb:K+(1+1+1+1)≤1099511627776:=by omega
   have hkp:0<K:=by omega
   have hszj:=za4 DSite.tr l j hlt;have HM:=Lib.hid (mid_succ DSite.tr 4 l k0 j hlt);have HS:=Lib.hid hsum;have HK:=Lib.hid hK;have HC:=Lib.hid hcx;have HT:=Lib.hid hts;clear hsum hcx hle hK hts;generalize mkL ((l.take j).flatMap DSite.tr) k0=TS at *;generalize (l.drop (j+1)).flatMap DSite.tr=US at *;have hin':In lo wr.heap.size fp:=hin.mono (Nat.le_refl _) hchg.size;have o0:Own wr (.sl 4 (TS++([.lit (.string l[j].name),.lit (.string l[j].holder),.lit (.int .i64 l[j].place.x),.lit (.int .i64 l[j].place.y)]++US))) (.slice a l.length c) fp:=hown;clear hown;obtain⟨b,off,rfl,hbf⟩:=o0.someAddr;have hbw:=(hin' b hbf).2;have hfz:∀ i,wr.frozen? ⟨b,i,none⟩=false:=o0.free b hbf;have z0:wr.heap.size≤wr.heap.size:=Nat.le_refl _;obtain⟨s0,_⟩:=o0.cellChunk 0 _ rfl (off+j*4) (by rw[HT.out];omega);obtain⟨s1,_⟩:=o0.cellChunk 1 _ rfl (off+j*4+1) (by rw[HT.out];omega);obtain⟨s2,_⟩:=o0.cellChunk 2 _ rfl (off+j*4+2) (by rw[HT.out];omega);obtain⟨s3,_⟩:=o0.cellChunk 3 _ rfl (off+j*4+3) (by rw[HT.out];omega);have O0:=Lib.hid o0;have C0:=Lib.hid hchg;clear o0 hchg;go_wp2_with fail;refine (zb8 _ _ (by omega) (by omega)).mono ?_;rintro e w1 ⟨rfl,hb1⟩;obtain⟨qa1,qb1,hbw1⟩:=zah hb1 (b:=b) (by first|omega|(simp only[zaf];omega));have z1:wr.heap.size≤w1.heap.size:=by have:=hb1.size;(try simp only[zaf] at this);omega
   have O1:=Lib.hid ((O0.out.below hin' (by first|omega|(simp only[zaf];omega)) hb1).setChunk 0 _ rfl (off+j*4) (by rw[HT.out];omega) (.string (zc3 (K))));have C1:=Lib.hid ((C0.out.trans (Chg.of_below hb1)).setCell (p:=⟨b,off+j*4,none⟩) hbf (.string (zc3 (K))));go_wp2_with fail;refine (zb8 _ _ (by omega) (by omega)).mono ?_;rintro e w2 ⟨rfl,hb2⟩;obtain⟨qa2,qb2,hbw2⟩:=zah hb2 (b:=b) (by first|omega|(simp only[zaf];omega));have z2:wr.heap.size≤w2.heap.size:=by have:=hb2.size;(try simp only[zaf] at this);omega
   have O2:=Lib.hid ((O1.out.below hin' (by first|omega|(simp only[zaf];omega)) hb2).setChunk 1 _ rfl (off+j*4+1) (by rw[HT.out];omega) (.string (zc3 (K+1))));have C2:=Lib.hid ((C1.out.trans (Chg.of_below hb2)).setCell (p:=⟨b,off+j*4+1,none⟩) hbf (.string (zc3 (K+1))));have O3:=Lib.hid (O2.out.setChunk 2 _ rfl (off+j*4+2) (by rw[HT.out];omega) (.int .i64 ((K:Int)+1+1)));have C3:=Lib.hid (C2.out.setCell (p:=⟨b,off+j*4+2,none⟩) hbf (.int .i64 ((K:Int)+1+1)));have O4:=Lib.hid (O3.out.setChunk 3 _ rfl (off+j*4+3) (by rw[HT.out];omega) (.int .i64 ((K:Int)+1+1+1)));have C4:=Lib.hid (C3.out.setCell (p:=⟨b,off+j*4+3,none⟩) hbf (.int .i64 ((K:Int)+1+1+1)));go_wp2;go_roundw
   case rel =>
    refine⟨j+1,K+(1+1+1+1),by omega,by go_num,by have:=HK.out;have:=HS.out;have:=HC.out;omega,by go_num,?_,C4.out⟩;rw[HM.out,← HK.out,DSite.mk_tr];exact O4.out
   case measure=>simp[intOf];omega
  ·obtain rfl:j=l.length:=by omega
   have HK:=Lib.hid hK;clear hK;go_wp2;go_ret;rw[mid_end] at hown;have e:=HK.out;rw[List.take_length] at e;exact⟨zcd (by omega),hown,hchg⟩
theorem markI_SiteS (l:List DSite) (v:Value) (fp:List Nat) (k lo:Nat) (K:Int) (w:World) (h:Own w (DSite.sT l) v fp) (hin:In lo w.heap.size fp) (hs:siz (DSite.sT l)≤1099511627776) (hK:K=(k:Int)) (hk0:k+cnt (DSite.sT l)≤1099511627776) (hk1:0<k) :
  Calls Tryz.prog 67 #[v,.int .i64 K] w fun e w'=>e=.returned (.int .i64 (K+(cnt (DSite.sT l):Int)))∧Own w' (mkT (DSite.sT l) k) v fp∧Chg fp w w':=by
 subst hK;refine (mark_SiteS l v fp k lo w h hin hs hk0 hk1).mono fun e w' ⟨he,h1,h2⟩=>⟨?_,h1,h2⟩
 rw[he,Int.natCast_add]
set_option maxHeartbeats 4000000
set_option maxRecDepth 100000
theorem DSector.siz_tr (x:DSector):sizL x.tr=x.name.size+x.site.size+x.antenna.size+x.radio.size+x.band.size:=by simp[DSector.tr,sizL,siz,intT,strT]<;>omega
theorem sz_Sector (x:DSector) (B:Nat) (left:Int) (w:World) (hB:B≤w.heap.size) (hl:0≤left) (hl2:left≤1048576) (hok:x.ok) :
  Calls Tryz.prog 83 #[.agg #[.string x.name,.string x.site,.string x.antenna,.string x.radio,.string x.band,.int .i64 x.azimuth,.int .i64 x.tilt,.int .i64 x.above,.int .i64 x.channel],.int .i64 left] w (SzPost (sizL x.tr) left w):=by
 rw[DSector.siz_tr];have hs0:=hok.name;have hs1:=hok.site;have hs2:=hok.antenna;have hs3:=hok.radio;have hs4:=hok.band;unfold maxLen at hs0 hs1 hs2 hs3 hs4;clear hok;go_enter Tryz.func83,Tryz.ntmps83;go_wp2
 all_goals go_ret
 all_goals first|exact⟨Or.inl ⟨by omega,zcd (by omega)⟩,(Below.refl _ _).alloc (Nat.le_refl _) _⟩|exact⟨Or.inr ⟨by omega,rfl⟩,(Below.refl _ _).alloc (Nat.le_refl _) _⟩
theorem to_Sector (x:DSector) (w:World) :
  Calls Tryz.prog 96 #[.agg #[.string x.name,.string x.site,.string x.antenna,.string x.radio,.string x.band,.int .i64 x.azimuth,.int .i64 x.tilt,.int .i64 x.above,.int .i64 x.channel]] w fun e w'=>e=.returned (.agg #[.string x.name,.string x.site,.string x.antenna,.string x.radio,.string x.band,.int .i64 x.azimuth,.int .i64 x.tilt,.int .i64 x.above,.int .i64 x.channel])∧Below w.heap.size w w':=by
 go_enter Tryz.func96,Tryz.ntmps96;go_wp2;exact bodyPost_ret (v:=.agg #[.string x.name,.string x.site,.string x.antenna,.string x.radio,.string x.band,.int .i64 x.azimuth,.int .i64 x.tilt,.int .i64 x.above,.int .i64 x.channel]) (by simp[results,Tryz.results96,go_sem]) rfl ⟨rfl,(((Below.refl _ _).alloc (Nat.le_refl _) _).alloc (by simp) _).alloc (by simp<;>omega) _⟩
theorem eq_Sector (x:DSector) (w:World) :
  Calls Tryz.prog 112 #[.agg #[.string x.name,.string x.site,.string x.antenna,.string x.radio,.string x.band,.int .i64 x.azimuth,.int .i64 x.tilt,.int .i64 x.above,.int .i64 x.channel],.agg #[.string x.name,.string x.site,.string x.antenna,.string x.radio,.string x.band,.int .i64 x.azimuth,.int .i64 x.tilt,.int .i64 x.above,.int .i64 x.channel]] w fun e w'=>e=.returned (.bool true)∧Below w.heap.size w w':=by
 go_enter Tryz.func112,Tryz.ntmps112;go_wp2;go_ret;exact⟨rfl,((Below.refl _ _).alloc (Nat.le_refl _) _).alloc (by simp) _⟩
theorem DSector.siz_s (l:List DSector):siz (DSector.sT l)=l.length+sizL (l.flatMap DSector.tr):=siz_flat DSector.tr 9 (by decide) DSector.tr_len l
theorem sz_SectorS (l:List DSector) (v:Value) (B:Nat) (left:Int) (w:World) (h:Rd B w (DSector.sT l) v) (hB:B≤w.heap.size) (hl:0≤left) (hl2:left≤1048576) (hstr:∀ x ∈ l,x.ok) :
  Calls Tryz.prog 36 #[v,.int .i64 left] w (SzPost (siz (DSector.sT l)) left w):=by
 rw[DSector.siz_s];obtain⟨a,c,rfl,hnc,hcm,hcells⟩:=DSector.rd h;clear h;unfold maxLen at hcm
 by_cases c1:(l.length:Int)≤left
 ·have c1':decide (left-(l.length:Int)<0)=false:=by simp<;>omega
  go_enter Tryz.func36,Tryz.ntmps36;go_wp2;go_loopw [1,5] (fun m i wr=>∃ (k:Nat),k≤l.length∧i=.int .i64 k∧(sizL ((l.take k).flatMap DSector.tr):Int)≤left-l.length∧m=.int .i64 (left-l.length-sizL ((l.take k).flatMap DSector.tr))∧Below w.heap.size w wr) (fun _ i wr=>l.length-(intOf i).toNat)
  case atStart=>exact⟨0,Nat.zero_le _,rfl,by simp[sizL];omega,by simp[sizL],Below.refl _ _⟩
  case round =>
   obtain⟨k,hk,rfl,hm,rfl,hb⟩:=hrel
   by_cases hlt:k<l.length
   ·obtain⟨b,off,rfl,hbl,hat⟩:=hcells (by omega)
    obtain⟨s0,s1,s2,s3,s4,s5,s6,s7,s8⟩:=hat k hlt;rw[← hb.cell (p:=⟨b,_,none⟩) (show b<w.heap.size by omega)] at s0 s1 s2 s3 s4 s5 s6 s7 s8;have hB':B≤wr.heap.size:=by have:=hb.size;omega
    have hok:=hstr l[k] (List.getElem_mem hlt);have hsum:=zc2 DSector.tr l k hlt;have hle:=zds DSector.tr l (k+1);have HS:=Lib.hid hsum;have HB:=Lib.hid hb;clear hcells hat hb hsum hstr;go_wp2_with (go_at_call 83;refine (sz_Sector l[k]  B _ _  hB' (by omega) (by omega) hok).mono ?_;rintro e w1 ⟨⟨c2,rfl⟩|⟨c2,rfl⟩,hb1⟩)
    ·have c3:decide (left-l.length-sizL ((l.take k).flatMap DSector.tr)-sizL l[k].tr<0)=false:=by simp<;>omega
     go_wp2;go_roundw
     case rel=>exact⟨k+1,by omega,by go_num,by rw[HS.out];omega,by rw[HS.out];go_num,HB.out.trans (hb1.mono HB.out.size)⟩
     case measure=>simp[intOf];omega
    ·go_wp2
     go_ret;exact⟨Or.inr ⟨by have:=HS.out;omega,rfl⟩,HB.out.trans (hb1.mono HB.out.size)⟩
   ·obtain rfl:k=l.length:=by omega
    clear hcells;rw[List.take_length] at hm;go_wp2;go_ret;refine⟨Or.inl ⟨by omega,zcd ?_⟩,hb⟩;simp only[List.take_length];omega
 ·have c1':decide (left-(l.length:Int)<0)=true:=by simp<;>omega
  go_enter Tryz.func36,Tryz.ntmps36;go_wp2;go_ret;exact⟨Or.inr ⟨by omega,rfl⟩,Below.refl _ _⟩
theorem infoSector:(Tryz.prog.info? 102).map (fun i=>(i.zero,i.size,i.bytes))=some (some (.agg #[.string ⟨#[]⟩,.string ⟨#[]⟩,.string ⟨#[]⟩,.string ⟨#[]⟩,.string ⟨#[]⟩,.int .i64 0,.int .i64 0,.int .i64 0,.int .i64 0]),9,112):=by kernel_rfl
theorem to_SectorS (l:List DSector) (v:Value) (w:World) (h:Rd w.heap.size w (DSector.sT l) v) (hn:siz (DSector.sT l)≤1048576) :
  Calls Tryz.prog 49 #[v] w fun e w'=>∃ a' c' fp,e=.returned (.slice a' l.length c')∧Below w.heap.size w w'∧Own w' (DSector.sT l) (.slice a' l.length c') fp∧In w.heap.size w'.heap.size fp:=by
 rw[DSector.siz_s] at hn;obtain⟨i0,hi0,hz0,hz1,hz2⟩:=info_parts infoSector;have hmk:=fun W=>zcv (P:=Tryz.prog) 42 102 i0 _ Tryz.underlying42 hi0 hz0 .i64 .i64 l.length l.length (Nat.le_refl _) (by rw[hz2];omega) (by omega) W
 rw[hz1] at hmk;have hnb:(l.length:Int)≤1048576:=by omega
 obtain⟨a,c,rfl,hnc,hcm,hcells⟩:=DSector.rd h;clear h;go_enter Tryz.func49,Tryz.ntmps49;go_wp2;clear hmk hi0 hz0 hz1 hz2;go_loopw [4] (fun i wr=>∃ (k:Nat) (f:List Nat),k≤l.length∧i=.int .i64 k∧Below w.heap.size w wr∧Fill wr w.heap.size 102 (l.length*9) ((l.take k).flatMap DSector.tr) f∧In w.heap.size wr.heap.size f) (fun i wr=>l.length-(intOf i).toNat)
 case atStart =>
  have hst:=Fill.start w (madeCells #[.string ⟨#[]⟩,.string ⟨#[]⟩,.string ⟨#[]⟩,.string ⟨#[]⟩,.string ⟨#[]⟩,.int .i64 0,.int .i64 0,.int .i64 0,.int .i64 0] (l.length*9)) 102;rw[size_madeCells] at hst;exact⟨0,[],Nat.zero_le _,rfl,(Below.refl _ _).alloc (Nat.le_refl _) _,by simpa using hst,In.nil⟩
 case round =>
  obtain⟨k,f,hk,rfl,hb,hfill,hin⟩:=hrel
  by_cases hlt:k<l.length
  ·obtain⟨b,off,rfl,hbl,hat⟩:=hcells (by omega)
   obtain⟨s0,s1,s2,s3,s4,s5,s6,s7,s8⟩:=hat k hlt;rw[← hb.cell (p:=⟨b,_,none⟩) hbl] at s0 s1 s2 s3 s4 s5 s6 s7 s8;have hz:=hfill.lt;have hz2:b<wr.heap.size:=by omega
   obtain⟨o0,p0⟩:=hfill.room (k*9) (by omega);obtain⟨o1,p1⟩:=hfill.room (k*9+1) (by omega);obtain⟨o2,p2⟩:=hfill.room (k*9+2) (by omega);obtain⟨o3,p3⟩:=hfill.room (k*9+3) (by omega);obtain⟨o4,p4⟩:=hfill.room (k*9+4) (by omega);obtain⟨o5,p5⟩:=hfill.room (k*9+5) (by omega);obtain⟨o6,p6⟩:=hfill.room (k*9+6) (by omega);obtain⟨o7,p7⟩:=hfill.room (k*9+7) (by omega);obtain⟨o8,p8⟩:=hfill.room (k*9+8) (by omega);have hfz:=hfill.open_;have hsl:=za4 DSector.tr l k hlt;have HB:=Lib.hid hb;clear hcells hat hb;go_wp2_with (go_at_call 96;refine (to_Sector l[k] _).mono ?_;rintro e w1 ⟨rfl,hb1⟩;obtain⟨q1,q2⟩:=bcell hb1);go_roundw
   case rel =>
    have hw1:=hfill.below hin hb1;have hst:=hw1.step (us:=l[k].tr) (vs:=[.string l[k].name,.string l[k].site,.string l[k].antenna,.string l[k].radio,.string l[k].band,.int .i64 l[k].azimuth,.int .i64 l[k].tilt,.int .i64 l[k].above,.int .i64 l[k].channel]) (g:=[]) (RepV.lits [.string l[k].name,.string l[k].site,.string l[k].antenna,.string l[k].radio,.string l[k].band,.int .i64 l[k].azimuth,.int .i64 l[k].tilt,.int .i64 l[k].above,.int .i64 l[k].channel]) (by rw[zay _ 9 DSector.tr_len];simp<;>omega) List.nodup_nil (by simp) (by simp) (fun b h=>by simp at h);rw[zay _ 9 DSector.tr_len,List.length_take,Nat.min_eq_left hk,List.append_nil,← zcb DSector.tr l k hlt] at hst;exact⟨k+1,f,by omega,by go_num,zdy (HB.out.trans (hb1.mono (by omega))) (Nat.le_refl _) [.string l[k].name,.string l[k].site,.string l[k].antenna,.string l[k].radio,.string l[k].band,.int .i64 l[k].azimuth,.int .i64 l[k].tilt,.int .i64 l[k].above,.int .i64 l[k].channel] (k*9),hst,fun x hx=>⟨(hin x hx).1,by have:=(hin x hx).2;have:=hb1.size;simp only[zaf];omega⟩⟩
   case measure=>simp[intOf];omega
  ·obtain rfl:k=l.length:=by omega
   clear hcells;go_wp2;go_ret;rw[List.take_length] at hfill;obtain⟨fp,h1,h2⟩:=hfill.own (zay _ 9 DSector.tr_len l) (by unfold maxLen;omega);exact⟨_,_,fp,rfl,hb,h1,fun x hx=>by rcases h2 x hx with rfl|h;exact⟨Nat.le_refl _,hfill.lt⟩;exact hin x h⟩
theorem eq_SectorS (l:List DSector) (v v':Value) (B:Nat) (w:World) (h:Rd B w (DSector.sT l) v) (h':Rd B w (DSector.sT l) v') (hB:B≤w.heap.size) (hn:siz (DSector.sT l)≤1099511627776) :
  Calls Tryz.prog 62 #[v,v'] w fun e w'=>e=.returned (.bool true)∧Below w.heap.size w w':=by
 rw[DSector.siz_s] at hn;have hnb:(l.length:Int)≤1099511627776:=by omega
 obtain⟨a,c,rfl,hnc,hcm,hcells⟩:=DSector.rd h;obtain⟨a',c',rfl,hnc',hcm',hcells'⟩:=DSector.rd h';clear h h';have hne:((l.length:Int) != l.length)=false:=by simp
 go_enter Tryz.func62,Tryz.ntmps62;go_wp2;clear hne;go_loopw [5] (fun i wr=>∃ (k:Nat),k≤l.length∧i=.int .i64 k∧Below w.heap.size w wr) (fun i wr=>l.length-(intOf i).toNat)
 case atStart=>exact⟨0,Nat.zero_le _,rfl,Below.refl _ _⟩
 case round =>
  obtain⟨k,hk,rfl,hb⟩:=hrel
  by_cases hlt:k<l.length
  ·obtain⟨b,off,rfl,hbl,hat⟩:=hcells (by omega)
   obtain⟨b',off',rfl,hbl',hat'⟩:=hcells' (by omega);obtain⟨s0,s1,s2,s3,s4,s5,s6,s7,s8⟩:=hat k hlt;obtain⟨sb0,sb1,sb2,sb3,sb4,sb5,sb6,sb7,sb8⟩:=hat' k hlt;rw[← hb.cell (p:=⟨b,_,none⟩) (show b<w.heap.size by omega)] at s0 s1 s2 s3 s4 s5 s6 s7 s8;rw[← hb.cell (p:=⟨b',_,none⟩) (show b' < w.heap.size by omega)] at sb0 sb1 sb2 sb3 sb4 sb5 sb6 sb7 sb8;have hB':B≤wr.heap.size:=by have:=hb.size;omega
   have hsl:=za4 DSector.tr l k hlt;have i1:(0:Int)≤(k:Int):=by omega
   have i2:(k:Int)<(l.length:Int):=by omega
   have HB:=Lib.hid hb;clear hcells hat hcells' hat' hb;go_wp2
   go_still_tail 8,(by kernel_rfl)
   change wpList _ _ _ _ _ wr.drew
   go_wp2_with (go_at_call 112;refine (eq_Sector l[k]   _  ).mono ?_;rintro e w1 ⟨rfl,hb1⟩);go_roundw
   case rel=>exact⟨k+1,by omega,by go_num,HB.out.drew.trans (hb1.mono HB.out.size)⟩
   case measure=>simp[intOf];omega
  ·obtain rfl:k=l.length:=by omega
   clear hcells hcells';go_wp2;go_ret;exact⟨rfl,hb⟩
theorem DSector.mk_tr (x:DSector) (K:Nat):mkL x.tr K = [.lit (.string (zc3 (K))),.lit (.string (zc3 (K+1))),.lit (.string (zc3 (K+1+1))),.lit (.string (zc3 (K+1+1+1))),.lit (.string (zc3 (K+1+1+1+1))),.lit (.int .i64 ((K:Int)+1+1+1+1+1)),.lit (.int .i64 ((K:Int)+1+1+1+1+1+1)),.lit (.int .i64 ((K:Int)+1+1+1+1+1+1+1)),.lit (.int .i64 ((K:Int)+1+1+1+1+1+1+1+1))]:=rfl
theorem DSector.cntL_tr (x:DSector):cntL x.tr=1+1+1+1+1+1+1+1+1:=by rfl
theorem mark_SectorS (l:List DSector) (v:Value) (fp:List Nat) (k0 lo:Nat) (w:World) (h:Own w (DSector.sT l) v fp) (hin:In lo w.heap.size fp) (hs:siz (DSector.sT l)≤1099511627776) (hk0:k0+cnt (DSector.sT l)≤1099511627776) (hk1:0<k0) :
  Calls Tryz.prog 68 #[v,.int .i64 k0] w fun e w'=>e=.returned (.int .i64 ((k0+cnt (DSector.sT l):Nat):Int))∧Own w' (mkT (DSector.sT l) k0) v fp∧Chg fp w w':=by
 rw[DSector.siz_s] at hs;obtain⟨a,c,hv,hnc,hcm⟩:=h.form (k:=9) (g:=DSector.tr) (by decide) DSector.tr_len;subst hv;rw[show cnt (DSector.sT l)=cntL (l.flatMap DSector.tr) from by rw[DSector.sT,cnt]] at hk0 ⊢;have hnb:(l.length:Int)≤1099511627776:=by omega
 go_enter Tryz.func68,Tryz.ntmps68;go_wp2;go_loopw [1,5] (fun kk i wr=>∃ (j K:Nat),j≤l.length∧i=.int .i64 j∧K=k0+cntL ((l.take j).flatMap DSector.tr)∧kk=.int .i64 (K:Int)∧Own wr (mid DSector.tr 9 l k0 j) (.slice a l.length c) fp∧Chg fp w wr) (fun _ i wr=>l.length-(intOf i).toNat)
 case atStart=>exact⟨0,k0,Nat.zero_le _,rfl,by simp[cntL],rfl,by rw[mid_zero];exact h,Chg.refl _ _⟩
 case round =>
  obtain⟨j,K,hj,rfl,hK,rfl,hown,hchg⟩:=hrel
  by_cases hlt:j<l.length
  ·rw[mid_at _ _ _ _ _ hlt] at hown
   have hts:(mkL ((l.take j).flatMap DSector.tr) k0).length=j*9:=by rw[zb4,zay _ 9 DSector.tr_len,List.length_take,Nat.min_eq_left hj]
   have hsum:=zc4 DSector.tr l j hlt;have hle:=zcg DSector.tr l (j+1);have hcx:=DSector.cntL_tr l[j];have hkb:K+(1+1+1+1+1+1+1+1+1)≤1099511627776:=by omega
   have hkp:0<K:=by omega
   have hszj:=za4 DSector.tr l j hlt;have HM:=Lib.hid (mid_succ DSector.tr 9 l k0 j hlt);have HS:=Lib.hid hsum;have HK:=Lib.hid hK;have HC:=Lib.hid hcx;have HT:=Lib.hid hts;clear hsum hcx hle hK hts;generalize mkL ((l.take j).flatMap DSector.tr) k0=TS at *;generalize (l.drop (j+1)).flatMap DSector.tr=US at *;have hin':In lo wr.heap.size fp:=hin.mono (Nat.le_refl _) hchg.size;have o0:Own wr (.sl 9 (TS++([.lit (.string l[j].name),.lit (.string l[j].site),.lit (.string l[j].antenna),.lit (.string l[j].radio),.lit (.string l[j].band),.lit (.int .i64 l[j].azimuth),.lit (.int .i64 l[j].tilt),.lit (.int .i64 l[j].above),.lit (.int .i64 l[j].channel)]++US))) (.slice a l.length c) fp:=hown;clear hown;obtain⟨b,off,rfl,hbf⟩:=o0.someAddr;have hbw:=(hin' b hbf).2;have hfz:∀ i,wr.frozen? ⟨b,i,none⟩=false:=o0.free b hbf;have z0:wr.heap.size≤wr.heap.size:=Nat.le_refl _;obtain⟨s0,_⟩:=o0.cellChunk 0 _ rfl (off+j*9) (by rw[HT.out];omega);obtain⟨s1,_⟩:=o0.cellChunk 1 _ rfl (off+j*9+1) (by rw[HT.out];omega);obtain⟨s2,_⟩:=o0.cellChunk 2 _ rfl (off+j*9+2) (by rw[HT.out];omega);obtain⟨s3,_⟩:=o0.cellChunk 3 _ rfl (off+j*9+3) (by rw[HT.out];omega);obtain⟨s4,_⟩:=o0.cellChunk 4 _ rfl (off+j*9+4) (by rw[HT.out];omega);obtain⟨s5,_⟩:=o0.cellChunk 5 _ rfl (off+j*9+5) (by rw[HT.out];omega);obtain⟨s6,_⟩:=o0.cellChunk 6 _ rfl (off+j*9+6) (by rw[HT.out];omega);obtain⟨s7,_⟩:=o0.cellChunk 7 _ rfl (off+j*9+7) (by rw[HT.out];omega);obtain⟨s8,_⟩:=o0.cellChunk 8 _ rfl (off+j*9+8) (by rw[HT.out];omega);have O0:=Lib.hid o0;have C0:=Lib.hid hchg;clear o0 hchg;go_wp2_with fail;refine (zb8 _ _ (by omega) (by omega)).mono ?_;rintro e w1 ⟨rfl,hb1⟩;obtain⟨qa1,qb1,hbw1⟩:=zah hb1 (b:=b) (by first|omega|(simp only[zaf];omega));have z1:wr.heap.size≤w1.heap.size:=by have:=hb1.size;(try simp only[zaf] at this);omega
   have O1:=Lib.hid ((O0.out.below hin' (by first|omega|(simp only[zaf];omega)) hb1).setChunk 0 _ rfl (off+j*9) (by rw[HT.out];omega) (.string (zc3 (K))));have C1:=Lib.hid ((C0.out.trans (Chg.of_below hb1)).setCell (p:=⟨b,off+j*9,none⟩) hbf (.string (zc3 (K))));go_wp2_with fail;refine (zb8 _ _ (by omega) (by omega)).mono ?_;rintro e w2 ⟨rfl,hb2⟩;obtain⟨qa2,qb2,hbw2⟩:=zah hb2 (b:=b) (by first|omega|(simp only[zaf];omega));have z2:wr.heap.size≤w2.heap.size:=by have:=hb2.size;(try simp only[zaf] at this);omega
   have O2:=Lib.hid ((O1.out.below hin' (by first|omega|(simp only[zaf];omega)) hb2).setChunk 1 _ rfl (off+j*9+1) (by rw[HT.out];omega) (.string (zc3 (K+1))));have C2:=Lib.hid ((C1.out.trans (Chg.of_below hb2)).setCell (p:=⟨b,off+j*9+1,none⟩) hbf (.string (zc3 (K+1))));go_wp2_with fail;refine (zb8 _ _ (by omega) (by omega)).mono ?_;rintro e w3 ⟨rfl,hb3⟩;obtain⟨qa3,qb3,hbw3⟩:=zah hb3 (b:=b) (by first|omega|(simp only[zaf];omega));have z3:wr.heap.size≤w3.heap.size:=by have:=hb3.size;(try simp only[zaf] at this);omega
   have O3:=Lib.hid ((O2.out.below hin' (by first|omega|(simp only[zaf];omega)) hb3).setChunk 2 _ rfl (off+j*9+2) (by rw[HT.out];omega) (.string (zc3 (K+1+1))));have C3:=Lib.hid ((C2.out.trans (Chg.of_below hb3)).setCell (p:=⟨b,off+j*9+2,none⟩) hbf (.string (zc3 (K+1+1))));go_wp2_with fail;refine (zb8 _ _ (by omega) (by omega)).mono ?_;rintro e w4 ⟨rfl,hb4⟩;obtain⟨qa4,qb4,hbw4⟩:=zah hb4 (b:=b) (by first|omega|(simp only[zaf];omega));have z4:wr.heap.size≤w4.heap.size:=by have:=hb4.size;(try simp only[zaf] at this);omega
   have O4:=Lib.hid ((O3.out.below hin' (by first|omega|(simp only[zaf];omega)) hb4).setChunk 3 _ rfl (off+j*9+3) (by rw[HT.out];omega) (.string (zc3 (K+1+1+1))));have C4:=Lib.hid ((C3.out.trans (Chg.of_below hb4)).setCell (p:=⟨b,off+j*9+3,none⟩) hbf (.string (zc3 (K+1+1+1))));go_wp2_with fail;refine (zb8 _ _ (by omega) (by omega)).mono ?_;rintro e w5 ⟨rfl,hb5⟩;obtain⟨qa5,qb5,hbw5⟩:=zah hb5 (b:=b) (by first|omega|(simp only[zaf];omega));have z5:wr.heap.size≤w5.heap.size:=by have:=hb5.size;(try simp only[zaf] at this);omega
   have O5:=Lib.hid ((O4.out.below hin' (by first|omega|(simp only[zaf];omega)) hb5).setChunk 4 _ rfl (off+j*9+4) (by rw[HT.out];omega) (.string (zc3 (K+1+1+1+1))));have C5:=Lib.hid ((C4.out.trans (Chg.of_below hb5)).setCell (p:=⟨b,off+j*9+4,none⟩) hbf (.string (zc3 (K+1+1+1+1))));have O6:=Lib.hid (O5.out.setChunk 5 _ rfl (off+j*9+5) (by rw[HT.out];omega) (.int .i64 ((K:Int)+1+1+1+1+1)));have C6:=Lib.hid (C5.out.setCell (p:=⟨b,off+j*9+5,none⟩) hbf (.int .i64 ((K:Int)+1+1+1+1+1)));have O7:=Lib.hid (O6.out.setChunk 6 _ rfl (off+j*9+6) (by rw[HT.out];omega) (.int .i64 ((K:Int)+1+1+1+1+1+1)));have C7:=Lib.hid (C6.out.setCell (p:=⟨b,off+j*9+6,none⟩) hbf (.int .i64 ((K:Int)+1+1+1+1+1+1)));have O8:=Lib.hid (O7.out.setChunk 7 _ rfl (off+j*9+7) (by rw[HT.out];omega) (.int .i64 ((K:Int)+1+1+1+1+1+1+1)));have C8:=Lib.hid (C7.out.setCell (p:=⟨b,off+j*9+7,none⟩) hbf (.int .i64 ((K:Int)+1+1+1+1+1+1+1)));have O9:=Lib.hid (O8.out.setChunk 8 _ rfl (off+j*9+8) (by rw[HT.out];omega) (.int .i64 ((K:Int)+1+1+1+1+1+1+1+1)));have C9:=Lib.hid (C8.out.setCell (p:=⟨b,off+j*9+8,none⟩) hbf (.int .i64 ((K:Int)+1+1+1+1+1+1+1+1)));go_wp2;go_roundw
   case rel =>
    refine⟨j+1,K+(1+1+1+1+1+1+1+1+1),by omega,by go_num,by have:=HK.out;have:=HS.out;have:=HC.out;omega,by go_num,?_,C9.out⟩;rw[HM.out,← HK.out,DSector.mk_tr];exact O9.out
   case measure=>simp[intOf];omega
  ·obtain rfl:j=l.length:=by omega
   have HK:=Lib.hid hK;clear hK;go_wp2;go_ret;rw[mid_end] at hown;have e:=HK.out;rw[List.take_length] at e;exact⟨zcd (by omega),hown,hchg⟩
theorem markI_SectorS (l:List DSector) (v:Value) (fp:List Nat) (k lo:Nat) (K:Int) (w:World) (h:Own w (DSector.sT l) v fp) (hin:In lo w.heap.size fp) (hs:siz (DSector.sT l)≤1099511627776) (hK:K=(k:Int)) (hk0:k+cnt (DSector.sT l)≤1099511627776) (hk1:0<k) :
  Calls Tryz.prog 68 #[v,.int .i64 K] w fun e w'=>e=.returned (.int .i64 (K+(cnt (DSector.sT l):Int)))∧Own w' (mkT (DSector.sT l) k) v fp∧Chg fp w w':=by
 subst hK;refine (mark_SectorS l v fp k lo w h hin hs hk0 hk1).mono fun e w' ⟨he,h1,h2⟩=>⟨?_,h1,h2⟩
 rw[he,Int.natCast_add]
end Go.Proofs.YtdgmgchdjlfchaaGreatDoor
