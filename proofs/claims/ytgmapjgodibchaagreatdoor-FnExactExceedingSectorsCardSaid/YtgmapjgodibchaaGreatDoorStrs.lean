/- Contracts of the laws' helpers over slices of texts; counts of marks against sizes. Conditions: bounded lengths. -/
import Derived.Test.YtgmapjgodibchaaGreatDoorProb1
import Derived.Test.YtgmapjgodibchaaGreatDoorOver
set_option linter.unusedVariables false
set_option linter.unusedSimpArgs false
namespace Go.Proofs.YtgmapjgodibchaaGreatDoor
open Go.RowKit
theorem to_Point (x:DPoint) (w:World) :
  Calls Tryz.prog 118 #[.agg #[I x.x,I x.y]] w fun e w'=>e=.returned (.agg #[I x.x,I x.y])∧IJ w w w':=by
 go_enter Tryz.func118,Tryz.ntmps118;go_wp2;exact bodyPost_ret (v:=.agg #[I x.x,I x.y]) (by simp[results,Tryz.results118,go_sem]) rfl ⟨rfl,(((Below.refl _ _).alloc (Nat.le_refl _) _).alloc (by simp) _).alloc (by simp<;>omega) _⟩
theorem eq_Point (x:DPoint) (w:World) :
  Calls Tryz.prog 146 #[.agg #[I x.x,I x.y],.agg #[I x.x,I x.y]] w fun e w'=>e=.returned (.bool true)∧IJ w w w':=by
 go_enter Tryz.func146,Tryz.ntmps146;go_wp2;go_ret;exact⟨rfl,((Below.refl _ _).alloc (Nat.le_refl _) _).alloc (by simp) _⟩
set_option maxHeartbeats 4000000
set_option maxRecDepth 100000
theorem DSite.siz_tr (x:DSite):sizL x.tr=x.name.size+x.holder.size:=by simp[DSite.tr,sizL,siz,intT,strT]<;>omega
theorem sz_Site (x:DSite) (B:Nat) (left:Int) (w:World) (hB:B≤w.heap.size) (hl:0≤left) (hl2:left≤1048576) (hok:x.ok) :
  Calls Tryz.prog 82 #[.agg #[F x.name,F x.holder,I x.place.x,I x.place.y],I left] w (SzPost (sizL x.tr) left w):=by
 rw[DSite.siz_tr];have hs0:=hok.name;have hs1:=hok.holder;unfold maxLen at hs0 hs1;clear hok;go_enter Tryz.func82,Tryz.ntmps82;go_wp2
 all_goals go_ret
 all_goals first|exact⟨Or.inl ⟨O,zb0 O⟩,(Below.refl _ _).alloc (Nat.le_refl _) _⟩|exact⟨Or.inr ⟨O,rfl⟩,(Below.refl _ _).alloc (Nat.le_refl _) _⟩
theorem to_Site (x:DSite) (w:World) :
  Calls Tryz.prog 95 #[.agg #[F x.name,F x.holder,I x.place.x,I x.place.y]] w fun e w'=>e=.returned (.agg #[F x.name,F x.holder,I x.place.x,I x.place.y])∧IJ w w w':=by
 go_enter Tryz.func95,Tryz.ntmps95;go_wp2_with fail;refine (to_Point x.place _).mono ?_;rintro e w1 ⟨rfl,hb1⟩;obtain⟨qa1,fa1,ya1⟩:=zad hb1 (b:=w.heap.size) (by first|omega|(simp;done)|(simp<;>omega));obtain⟨qb1,fb1,yb1⟩:=zad hb1 (b:=w.heap.size+1) (by first|omega|(simp;done)|(simp<;>omega));obtain⟨qc1,fc1,yc1⟩:=zad hb1 (b:=w.heap.size+1+1) (by first|omega|(simp;done)|(simp<;>omega));go_wp2;refine bodyPost_ret (v:=.agg #[F x.name,F x.holder,I x.place.x,I x.place.y]) (by simp[results,Tryz.results95,go_sem, *]) rfl ⟨rfl,?_⟩
 repeat (first|exact Below.refl _ _|(refine Below.setCell ?_ (by first|omega|(simp;done)|(simp<;>omega)) _)|(refine Below.alloc ?_ (by first|omega|(simp;done)|(simp<;>omega)) _)|(refine Below.trans ?_ (hb1.mono (by first|omega|(simp;done)|(simp<;>omega)))))
theorem eq_Site (x:DSite) (w:World) :
  Calls Tryz.prog 109 #[.agg #[F x.name,F x.holder,I x.place.x,I x.place.y],.agg #[F x.name,F x.holder,I x.place.x,I x.place.y]] w fun e w'=>e=.returned (.bool true)∧IJ w w w':=by
 go_enter Tryz.func109,Tryz.ntmps109;go_wp2_with fail;refine (eq_Point x.place _).mono ?_;rintro e w1 ⟨rfl,hb1⟩;obtain⟨qa1,_,ya1⟩:=zad hb1 (b:=w.heap.size) (by first|omega|(simp;done)|(simp<;>omega));obtain⟨qb1,_,yb1⟩:=zad hb1 (b:=w.heap.size+1) (by first|omega|(simp;done)|(simp<;>omega));go_wp2;go_ret;refine⟨rfl,?_⟩
 repeat (first|exact Below.refl _ _|(refine Below.alloc ?_ (by first|omega|(simp;done)|(simp<;>omega)) _)|(refine Below.trans ?_ (hb1.mono (by first|omega|(simp;done)|(simp<;>omega)))))
theorem DSite.siz_s (l:List DSite):siz (DSite.sT l)=l.length+sizL (l.flatMap DSite.tr):=zfz DSite.tr 4 (by decide) DSite.tr_len l
theorem sz_SiteS (l:List DSite) (v:Value) (B:Nat) (left:Int) (w:World) (h:Rd B w (DSite.sT l) v) (hB:B≤w.heap.size) (hl:0≤left) (hl2:left≤1048576) (hstr:∀ x ∈ l,x.ok) :
  Calls Tryz.prog 36 #[v,I left] w (SzPost (siz (DSite.sT l)) left w):=by
 rw[DSite.siz_s];obtain⟨a,c,rfl,hnc,hcm,hcells⟩:=DSite.rd h;clear h;unfold maxLen at hcm
 by_cases c1:(l.length:Int)≤left
 ·have c1':decide (left-(l.length:Int)<0)=false:=by simp<;>omega
  go_enter Tryz.func36,Tryz.ntmps36;go_wp2;go_loopw [1,5] (fun m i wr=>∃ (k:Nat),k≤l.length∧i=I k∧(sizL ((l.take k).flatMap DSite.tr):Int)≤left-l.length∧m=I (left-l.length-sizL ((l.take k).flatMap DSite.tr))∧IJ w w wr) (fun _ i wr=>l.length-(intOf i).toNat)
  case atStart=>exact⟨0,Nat.zero_le _,rfl,by simp[sizL];omega,by simp[sizL],Below.refl _ _⟩
  case round =>
   obtain⟨k,hk,rfl,hm,rfl,hb⟩:=hrel
   by_cases hlt:k<l.length
   ·obtain⟨b,off,rfl,hbl,hat⟩:=hcells O
    obtain⟨s0,s1,s2,s3⟩:=hat k hlt;rw[← hb.cell (p:=⟨b,_,none⟩) (show b<w.heap.size by omega)] at s0 s1 s2 s3;have hB':B≤wr.heap.size:=by have:=hb.size;omega
    have hok:=hstr l[k] (List.getElem_mem hlt);have hsum:=zcx DSite.tr l k hlt;have hle:=zdr DSite.tr l (k+1);have HS:=J hsum;have HB:=J hb;clear hcells hat hb hsum hstr;go_wp2_with (go_at_call 82;refine (sz_Site l[k]  B _ _  hB' O O hok).mono ?_;rintro e w1 ⟨⟨c2,rfl⟩|⟨c2,rfl⟩,hb1⟩)
    ·have c3:decide (left-l.length-sizL ((l.take k).flatMap DSite.tr)-sizL l[k].tr<0)=false:=by simp<;>omega
     go_wp2;go_roundw
     case rel=>exact⟨k+1,O,by go_num,by rw[HS.out];omega,by rw[HS.out];go_num,HB.out.trans (hb1.mono HB.out.size)⟩
     case measure=>simp[intOf];omega
    ·go_wp2
     go_ret;exact⟨Or.inr ⟨by have:=HS.out;omega,rfl⟩,HB.out.trans (hb1.mono HB.out.size)⟩
   ·obtain rfl:k=l.length:=O
    clear hcells;rw[List.take_length] at hm;go_wp2;go_ret;refine⟨Or.inl ⟨O,zb0 ?_⟩,hb⟩;simp only[List.take_length];omega
 ·have c1':decide (left-(l.length:Int)<0)=true:=by simp<;>omega
  go_enter Tryz.func36,Tryz.ntmps36;go_wp2;go_ret;exact⟨Or.inr ⟨O,rfl⟩,Below.refl _ _⟩
theorem infoSite:(Tryz.prog.info? 158).map (fun i=>(i.zero,i.size,i.bytes))=some (some (.agg #[F ⟨#[]⟩,F ⟨#[]⟩,I 0,I 0]),4,48):=by kernel_rfl
theorem to_SiteS (l:List DSite) (v:Value) (w:World) (h:Rd w w (DSite.sT l) v) (hn:siz (DSite.sT l)≤1048576) :
  Calls Tryz.prog 47 #[v] w fun e w'=>∃ a' c' fp,e=.returned (II a' l.length c')∧IJ w w w'∧Own w' (DSite.sT l) (II a' l.length c') fp∧In w w'.heap.size fp:=by
 rw[DSite.siz_s] at hn;obtain⟨i0,hi0,hz0,hz1,hz2⟩:=info_parts infoSite;have hmk:=fun W=>zcs (P:=Tryz.prog) 39 158 i0 _ Tryz.underlying39 hi0 hz0 .i64 .i64 l.length l.length (Nat.le_refl _) (by rw[hz2];omega) O W
 rw[hz1] at hmk;have hnb:(l.length:Int)≤1048576:=O
 obtain⟨a,c,rfl,hnc,hcm,hcells⟩:=DSite.rd h;clear h;go_enter Tryz.func47,Tryz.ntmps47;go_wp2;clear hmk hi0 hz0 hz1 hz2;go_loopw [4] (fun i wr=>∃ (k:Nat) (f:List Nat),k≤l.length∧i=I k∧IJ w w wr∧Fill wr w.heap.size 158 (l.length*4) ((l.take k).flatMap DSite.tr) f∧In w wr f) (fun i wr=>l.length-(intOf i).toNat)
 case atStart =>
  have hst:=Fill.start w (madeCells #[F ⟨#[]⟩,F ⟨#[]⟩,I 0,I 0] (l.length*4)) 158;rw[size_madeCells] at hst;exact⟨0,[],Nat.zero_le _,rfl,(Below.refl _ _).alloc (Nat.le_refl _) _,by simpa using hst,In.nil⟩
 case round =>
  obtain⟨k,f,hk,rfl,hb,hfill,hin⟩:=hrel
  by_cases hlt:k<l.length
  ·obtain⟨b,off,rfl,hbl,hat⟩:=hcells O
   obtain⟨s0,s1,s2,s3⟩:=hat k hlt;rw[← hb.cell (p:=⟨b,_,none⟩) hbl] at s0 s1 s2 s3;have hz:=hfill.lt;have hz2:b<wr.heap.size:=O
   obtain⟨o0,p0⟩:=hfill.room (k*4) O;obtain⟨o1,p1⟩:=hfill.room (k*4+1) O;obtain⟨o2,p2⟩:=hfill.room (k*4+2) O;obtain⟨o3,p3⟩:=hfill.room (k*4+3) O;have hfz:=hfill.open_;have hsl:=zay DSite.tr l k hlt;have HB:=J hb;clear hcells hat hb;go_wp2_with (go_at_call 95;refine (to_Site l[k] _).mono ?_;rintro e w1 ⟨rfl,hb1⟩;obtain⟨q1,q2⟩:=bcell hb1);go_roundw
   case rel =>
    have hw1:=hfill.below hin hb1;have hst:=hw1.step (us:=l[k].tr) (vs:=[F l[k].name,F l[k].holder,I l[k].place.x,I l[k].place.y]) (g:=[]) (RepV.lits [F l[k].name,F l[k].holder,I l[k].place.x,I l[k].place.y]) (by rw[zav _ 4 DSite.tr_len];simp<;>omega) List.nodup_nil (by simp) (by simp) (fun b h=>by simp at h);rw[zav _ 4 DSite.tr_len,List.length_take,Nat.min_eq_left hk,List.append_nil,← zb8 DSite.tr l k hlt] at hst;exact⟨k+1,f,O,by go_num,zds (HB.out.trans (hb1.mono O)) (Nat.le_refl _) [F l[k].name,F l[k].holder,I l[k].place.x,I l[k].place.y] (k*4),hst,fun x hx=>⟨(hin x hx).1,by have:=(hin x hx).2;have:=hb1.size;simp only[zae];omega⟩⟩
   case measure=>simp[intOf];omega
  ·obtain rfl:k=l.length:=O
   clear hcells;go_wp2;go_ret;rw[List.take_length] at hfill;obtain⟨fp,h1,h2⟩:=hfill.own (zav _ 4 DSite.tr_len l) (by unfold maxLen;omega);exact⟨_,_,fp,rfl,hb,h1,fun x hx=>by rcases h2 x hx with rfl|h;exact⟨Nat.le_refl _,hfill.lt⟩;exact hin x h⟩
theorem eq_SiteS (l:List DSite) (v v':Value) (B:Nat) (w:World) (h:Rd B w (DSite.sT l) v) (h':Rd B w (DSite.sT l) v') (hB:B≤w.heap.size) (hn:siz (DSite.sT l)≤1099511627776) :
  Calls Tryz.prog 60 #[v,v'] w fun e w'=>e=.returned (.bool true)∧IJ w w w':=by
 rw[DSite.siz_s] at hn;have hnb:(l.length:Int)≤1099511627776:=O
 obtain⟨a,c,rfl,hnc,hcm,hcells⟩:=DSite.rd h;obtain⟨a',c',rfl,hnc',hcm',hcells'⟩:=DSite.rd h';clear h h';have hne:((l.length:Int) != l.length)=false:=by simp
 go_enter Tryz.func60,Tryz.ntmps60;go_wp2;clear hne;go_loopw [5] (fun i wr=>∃ (k:Nat),k≤l.length∧i=I k∧IJ w w wr) (fun i wr=>l.length-(intOf i).toNat)
 case atStart=>exact⟨0,Nat.zero_le _,rfl,Below.refl _ _⟩
 case round =>
  obtain⟨k,hk,rfl,hb⟩:=hrel
  by_cases hlt:k<l.length
  ·obtain⟨b,off,rfl,hbl,hat⟩:=hcells O
   obtain⟨b',off',rfl,hbl',hat'⟩:=hcells' O;obtain⟨s0,s1,s2,s3⟩:=hat k hlt;obtain⟨sb0,sb1,sb2,sb3⟩:=hat' k hlt;rw[← hb.cell (p:=⟨b,_,none⟩) (show b<w.heap.size by omega)] at s0 s1 s2 s3;rw[← hb.cell (p:=⟨b',_,none⟩) (show b' < w.heap.size by omega)] at sb0 sb1 sb2 sb3;have hB':B≤wr.heap.size:=by have:=hb.size;omega
   have hsl:=zay DSite.tr l k hlt;have i1:(0:Int)≤(k:Int):=O
   have i2:(k:Int)<(l.length:Int):=O
   have HB:=J hb;clear hcells hat hcells' hat' hb;go_wp2
   go_still_tail 8,(by kernel_rfl)
   change wpList _ _ _ _ _ wr.drew
   go_wp2_with (go_at_call 109;refine (eq_Site l[k]   _  ).mono ?_;rintro e w1 ⟨rfl,hb1⟩);go_roundw
   case rel=>exact⟨k+1,O,by go_num,HB.out.drew.trans (hb1.mono HB.out.size)⟩
   case measure=>simp[intOf];omega
  ·obtain rfl:k=l.length:=O
   clear hcells hcells';go_wp2;go_ret;exact⟨rfl,hb⟩
theorem DSite.mk_tr (x:DSite) (K:Nat):mkL x.tr K = [.lit (F (zcn (K))),.lit (F (zcn (K+1))),.lit (I ((K:Int)+1+1)),.lit (I ((K:Int)+1+1+1))]:=rfl
theorem DSite.cntL_tr (x:DSite):cntL x.tr=1+1+1+1:=by rfl
theorem mark_SiteS (l:List DSite) (v:Value) (fp:List Nat) (k0 lo:Nat) (w:World) (h:Own w (DSite.sT l) v fp) (hin:In lo w fp) (hs:siz (DSite.sT l)≤1099511627776) (hk0:k0+cnt (DSite.sT l)≤1099511627776) (hk1:0<k0) :
  Calls Tryz.prog 64 #[v,I k0] w fun e w'=>e=.returned (I ((k0+cnt (DSite.sT l):Nat):Int))∧Own w' (mkT (DSite.sT l) k0) v fp∧Chg fp w w':=by
 rw[DSite.siz_s] at hs;obtain⟨a,c,hv,hnc,hcm⟩:=h.form (k:=4) (g:=DSite.tr) (by decide) DSite.tr_len;subst hv;rw[show cnt (DSite.sT l)=cntL (l.flatMap DSite.tr) from by rw[DSite.sT,cnt]] at hk0 ⊢;have hnb:(l.length:Int)≤1099511627776:=O
 go_enter Tryz.func64,Tryz.ntmps64;go_wp2;go_loopw [1,5] (fun kk i wr=>∃ (j K:Nat),j≤l.length∧i=I j∧K=k0+cntL ((l.take j).flatMap DSite.tr)∧kk=I (K:Int)∧Own wr (mid DSite.tr 4 l k0 j) (II a l.length c) fp∧Chg fp w wr) (fun _ i wr=>l.length-(intOf i).toNat)
 case atStart=>exact⟨0,k0,Nat.zero_le _,rfl,by simp[cntL],rfl,by rw[zfd];exact h,Chg.refl _ _⟩
 case round =>
  obtain⟨j,K,hj,rfl,hK,rfl,hown,hchg⟩:=hrel
  by_cases hlt:j<l.length
  ·rw[mid_at _ _ _ _ _ hlt] at hown
   have hts:(mkL ((l.take j).flatMap DSite.tr) k0).length=j*4:=by rw[zbr,zav _ 4 DSite.tr_len,List.length_take,Nat.min_eq_left hj]
   have hsum:=zcy DSite.tr l j hlt;have hle:=zcc DSite.tr l (j+1);have hcx:=DSite.cntL_tr l[j];have hkb:K+(1+1+1+1)≤1099511627776:=O
   have hkp:0<K:=O
   have hszj:=zay DSite.tr l j hlt;have HM:=J (zfe DSite.tr 4 l k0 j hlt);have HS:=J hsum;have HK:=J hK;have HC:=J hcx;have HT:=J hts;clear hsum hcx hle hK hts;generalize mkL ((l.take j).flatMap DSite.tr) k0=TS at *;generalize (l.drop (j+1)).flatMap DSite.tr=US at *;have hin':In lo wr fp:=hin.mono (Nat.le_refl _) hchg.size;have o0:Own wr (.sl 4 (TS++([.lit (F l[j].name),.lit (F l[j].holder),.lit (I l[j].place.x),.lit (I l[j].place.y)]++US))) (II a l.length c) fp:=hown;clear hown;obtain⟨b,off,rfl,hbf⟩:=o0.someAddr;have hbw:=(hin' b hbf).2;have hfz:∀ i,wr.frozen? ⟨b,i,none⟩=false:=o0.free b hbf;have z0:wr.heap.size≤wr.heap.size:=Nat.le_refl _;obtain⟨s0,_⟩:=o0.cellChunk 0 _ rfl (off+j*4) (by rw[HT.out];omega);obtain⟨s1,_⟩:=o0.cellChunk 1 _ rfl (off+j*4+1) (by rw[HT.out];omega);obtain⟨s2,_⟩:=o0.cellChunk 2 _ rfl (off+j*4+2) (by rw[HT.out];omega);obtain⟨s3,_⟩:=o0.cellChunk 3 _ rfl (off+j*4+3) (by rw[HT.out];omega);have O0:=J o0;have C0:=J hchg;clear o0 hchg;go_wp2_with fail;refine (zbs _ _ O O).mono ?_;rintro e w1 ⟨rfl,hb1⟩;obtain⟨qa1,qb1,hbw1⟩:=zad hb1 (b:=b) (by first|omega|(simp only[zae];omega));have z1:wr.heap.size≤w1.heap.size:=by have:=hb1.size;(try simp only[zae] at this);omega
   have O1:=J ((O0.out.below hin' (by first|omega|(simp only[zae];omega)) hb1).setChunk 0 _ rfl (off+j*4) (by rw[HT.out];omega) (F (zcn (K))));have C1:=J ((C0.out.trans (Chg.of_below hb1)).setCell (p:=⟨b,off+j*4,none⟩) hbf (F (zcn (K))));go_wp2_with fail;refine (zbs _ _ O O).mono ?_;rintro e w2 ⟨rfl,hb2⟩;obtain⟨qa2,qb2,hbw2⟩:=zad hb2 (b:=b) (by first|omega|(simp only[zae];omega));have z2:wr.heap.size≤w2.heap.size:=by have:=hb2.size;(try simp only[zae] at this);omega
   have O2:=J ((O1.out.below hin' (by first|omega|(simp only[zae];omega)) hb2).setChunk 1 _ rfl (off+j*4+1) (by rw[HT.out];omega) (F (zcn (K+1))));have C2:=J ((C1.out.trans (Chg.of_below hb2)).setCell (p:=⟨b,off+j*4+1,none⟩) hbf (F (zcn (K+1))));have O3:=J (O2.out.setChunk 2 _ rfl (off+j*4+2) (by rw[HT.out];omega) (I ((K:Int)+1+1)));have C3:=J (C2.out.setCell (p:=⟨b,off+j*4+2,none⟩) hbf (I ((K:Int)+1+1)));have O4:=J (O3.out.setChunk 3 _ rfl (off+j*4+3) (by rw[HT.out];omega) (I ((K:Int)+1+1+1)));have C4:=J (C3.out.setCell (p:=⟨b,off+j*4+3,none⟩) hbf (I ((K:Int)+1+1+1)));go_wp2;go_roundw
   case rel =>
    refine⟨j+1,K+(1+1+1+1),O,by go_num,by have:=HK.out;have:=HS.out;have:=HC.out;omega,by go_num,?_,C4.out⟩;rw[HM.out,← HK.out,DSite.mk_tr];exact O4.out
   case measure=>simp[intOf];omega
  ·obtain rfl:j=l.length:=O
   have HK:=J hK;clear hK;go_wp2;go_ret;rw[mid_end] at hown;have e:=HK.out;rw[List.take_length] at e;exact⟨zb0 O,hown,hchg⟩
theorem markI_SiteS (l:List DSite) (v:Value) (fp:List Nat) (k lo:Nat) (K:Int) (w:World) (h:Own w (DSite.sT l) v fp) (hin:In lo w fp) (hs:siz (DSite.sT l)≤1099511627776) (hK:K=(k:Int)) (hk0:k+cnt (DSite.sT l)≤1099511627776) (hk1:0<k) :
  Calls Tryz.prog 64 #[v,I K] w fun e w'=>e=.returned (I (K+(cnt (DSite.sT l):Int)))∧Own w' (mkT (DSite.sT l) k) v fp∧Chg fp w w':=by
 subst hK;refine (mark_SiteS l v fp k lo w h hin hs hk0 hk1).mono fun e w' ⟨he,h1,h2⟩=>⟨?_,h1,h2⟩
 rw[he,Int.natCast_add]
set_option maxHeartbeats 4000000
set_option maxRecDepth 100000
theorem DSector.siz_tr (x:DSector):sizL x.tr=x.name.size+x.site.size+x.antenna.size+x.radio.size+x.band.size:=by simp[DSector.tr,sizL,siz,intT,strT]<;>omega
theorem sz_Sector (x:DSector) (B:Nat) (left:Int) (w:World) (hB:B≤w.heap.size) (hl:0≤left) (hl2:left≤1048576) (hok:x.ok) :
  Calls Tryz.prog 83 #[.agg #[F x.name,F x.site,F x.antenna,F x.radio,F x.band,I x.azimuth,I x.tilt,I x.above,I x.channel],I left] w (SzPost (sizL x.tr) left w):=by
 rw[DSector.siz_tr];have hs0:=hok.name;have hs1:=hok.site;have hs2:=hok.antenna;have hs3:=hok.radio;have hs4:=hok.band;unfold maxLen at hs0 hs1 hs2 hs3 hs4;clear hok;go_enter Tryz.func83,Tryz.ntmps83;go_wp2
 all_goals go_ret
 all_goals first|exact⟨Or.inl ⟨O,zb0 O⟩,(Below.refl _ _).alloc (Nat.le_refl _) _⟩|exact⟨Or.inr ⟨O,rfl⟩,(Below.refl _ _).alloc (Nat.le_refl _) _⟩
theorem to_Sector (x:DSector) (w:World) :
  Calls Tryz.prog 96 #[.agg #[F x.name,F x.site,F x.antenna,F x.radio,F x.band,I x.azimuth,I x.tilt,I x.above,I x.channel]] w fun e w'=>e=.returned (.agg #[F x.name,F x.site,F x.antenna,F x.radio,F x.band,I x.azimuth,I x.tilt,I x.above,I x.channel])∧IJ w w w':=by
 go_enter Tryz.func96,Tryz.ntmps96;go_wp2;exact bodyPost_ret (v:=.agg #[F x.name,F x.site,F x.antenna,F x.radio,F x.band,I x.azimuth,I x.tilt,I x.above,I x.channel]) (by simp[results,Tryz.results96,go_sem]) rfl ⟨rfl,(((Below.refl _ _).alloc (Nat.le_refl _) _).alloc (by simp) _).alloc (by simp<;>omega) _⟩
theorem eq_Sector (x:DSector) (w:World) :
  Calls Tryz.prog 110 #[.agg #[F x.name,F x.site,F x.antenna,F x.radio,F x.band,I x.azimuth,I x.tilt,I x.above,I x.channel],.agg #[F x.name,F x.site,F x.antenna,F x.radio,F x.band,I x.azimuth,I x.tilt,I x.above,I x.channel]] w fun e w'=>e=.returned (.bool true)∧IJ w w w':=by
 go_enter Tryz.func110,Tryz.ntmps110;go_wp2;go_ret;exact⟨rfl,((Below.refl _ _).alloc (Nat.le_refl _) _).alloc (by simp) _⟩
theorem DSector.siz_s (l:List DSector):siz (DSector.sT l)=l.length+sizL (l.flatMap DSector.tr):=zfz DSector.tr 9 (by decide) DSector.tr_len l
theorem sz_SectorS (l:List DSector) (v:Value) (B:Nat) (left:Int) (w:World) (h:Rd B w (DSector.sT l) v) (hB:B≤w.heap.size) (hl:0≤left) (hl2:left≤1048576) (hstr:∀ x ∈ l,x.ok) :
  Calls Tryz.prog 37 #[v,I left] w (SzPost (siz (DSector.sT l)) left w):=by
 rw[DSector.siz_s];obtain⟨a,c,rfl,hnc,hcm,hcells⟩:=DSector.rd h;clear h;unfold maxLen at hcm
 by_cases c1:(l.length:Int)≤left
 ·have c1':decide (left-(l.length:Int)<0)=false:=by simp<;>omega
  go_enter Tryz.func37,Tryz.ntmps37;go_wp2;go_loopw [1,5] (fun m i wr=>∃ (k:Nat),k≤l.length∧i=I k∧(sizL ((l.take k).flatMap DSector.tr):Int)≤left-l.length∧m=I (left-l.length-sizL ((l.take k).flatMap DSector.tr))∧IJ w w wr) (fun _ i wr=>l.length-(intOf i).toNat)
  case atStart=>exact⟨0,Nat.zero_le _,rfl,by simp[sizL];omega,by simp[sizL],Below.refl _ _⟩
  case round =>
   obtain⟨k,hk,rfl,hm,rfl,hb⟩:=hrel
   by_cases hlt:k<l.length
   ·obtain⟨b,off,rfl,hbl,hat⟩:=hcells O
    obtain⟨s0,s1,s2,s3,s4,s5,s6,s7,s8⟩:=hat k hlt;rw[← hb.cell (p:=⟨b,_,none⟩) (show b<w.heap.size by omega)] at s0 s1 s2 s3 s4 s5 s6 s7 s8;have hB':B≤wr.heap.size:=by have:=hb.size;omega
    have hok:=hstr l[k] (List.getElem_mem hlt);have hsum:=zcx DSector.tr l k hlt;have hle:=zdr DSector.tr l (k+1);have HS:=J hsum;have HB:=J hb;clear hcells hat hb hsum hstr;go_wp2_with (go_at_call 83;refine (sz_Sector l[k]  B _ _  hB' O O hok).mono ?_;rintro e w1 ⟨⟨c2,rfl⟩|⟨c2,rfl⟩,hb1⟩)
    ·have c3:decide (left-l.length-sizL ((l.take k).flatMap DSector.tr)-sizL l[k].tr<0)=false:=by simp<;>omega
     go_wp2;go_roundw
     case rel=>exact⟨k+1,O,by go_num,by rw[HS.out];omega,by rw[HS.out];go_num,HB.out.trans (hb1.mono HB.out.size)⟩
     case measure=>simp[intOf];omega
    ·go_wp2
     go_ret;exact⟨Or.inr ⟨by have:=HS.out;omega,rfl⟩,HB.out.trans (hb1.mono HB.out.size)⟩
   ·obtain rfl:k=l.length:=O
    clear hcells;rw[List.take_length] at hm;go_wp2;go_ret;refine⟨Or.inl ⟨O,zb0 ?_⟩,hb⟩;simp only[List.take_length];omega
 ·have c1':decide (left-(l.length:Int)<0)=true:=by simp<;>omega
  go_enter Tryz.func37,Tryz.ntmps37;go_wp2;go_ret;exact⟨Or.inr ⟨O,rfl⟩,Below.refl _ _⟩
theorem infoSector:(Tryz.prog.info? 105).map (fun i=>(i.zero,i.size,i.bytes))=some (some (.agg #[F ⟨#[]⟩,F ⟨#[]⟩,F ⟨#[]⟩,F ⟨#[]⟩,F ⟨#[]⟩,I 0,I 0,I 0,I 0]),9,112):=by kernel_rfl
theorem to_SectorS (l:List DSector) (v:Value) (w:World) (h:Rd w w (DSector.sT l) v) (hn:siz (DSector.sT l)≤1048576) :
  Calls Tryz.prog 48 #[v] w fun e w'=>∃ a' c' fp,e=.returned (II a' l.length c')∧IJ w w w'∧Own w' (DSector.sT l) (II a' l.length c') fp∧In w w'.heap.size fp:=by
 rw[DSector.siz_s] at hn;obtain⟨i0,hi0,hz0,hz1,hz2⟩:=info_parts infoSector;have hmk:=fun W=>zcs (P:=Tryz.prog) 40 105 i0 _ Tryz.underlying40 hi0 hz0 .i64 .i64 l.length l.length (Nat.le_refl _) (by rw[hz2];omega) O W
 rw[hz1] at hmk;have hnb:(l.length:Int)≤1048576:=O
 obtain⟨a,c,rfl,hnc,hcm,hcells⟩:=DSector.rd h;clear h;go_enter Tryz.func48,Tryz.ntmps48;go_wp2;clear hmk hi0 hz0 hz1 hz2;go_loopw [4] (fun i wr=>∃ (k:Nat) (f:List Nat),k≤l.length∧i=I k∧IJ w w wr∧Fill wr w.heap.size 105 (l.length*9) ((l.take k).flatMap DSector.tr) f∧In w wr f) (fun i wr=>l.length-(intOf i).toNat)
 case atStart =>
  have hst:=Fill.start w (madeCells #[F ⟨#[]⟩,F ⟨#[]⟩,F ⟨#[]⟩,F ⟨#[]⟩,F ⟨#[]⟩,I 0,I 0,I 0,I 0] (l.length*9)) 105;rw[size_madeCells] at hst;exact⟨0,[],Nat.zero_le _,rfl,(Below.refl _ _).alloc (Nat.le_refl _) _,by simpa using hst,In.nil⟩
 case round =>
  obtain⟨k,f,hk,rfl,hb,hfill,hin⟩:=hrel
  by_cases hlt:k<l.length
  ·obtain⟨b,off,rfl,hbl,hat⟩:=hcells O
   obtain⟨s0,s1,s2,s3,s4,s5,s6,s7,s8⟩:=hat k hlt;rw[← hb.cell (p:=⟨b,_,none⟩) hbl] at s0 s1 s2 s3 s4 s5 s6 s7 s8;have hz:=hfill.lt;have hz2:b<wr.heap.size:=O
   obtain⟨o0,p0⟩:=hfill.room (k*9) O;obtain⟨o1,p1⟩:=hfill.room (k*9+1) O;obtain⟨o2,p2⟩:=hfill.room (k*9+2) O;obtain⟨o3,p3⟩:=hfill.room (k*9+3) O;obtain⟨o4,p4⟩:=hfill.room (k*9+4) O;obtain⟨o5,p5⟩:=hfill.room (k*9+5) O;obtain⟨o6,p6⟩:=hfill.room (k*9+6) O;obtain⟨o7,p7⟩:=hfill.room (k*9+7) O;obtain⟨o8,p8⟩:=hfill.room (k*9+8) O;have hfz:=hfill.open_;have hsl:=zay DSector.tr l k hlt;have HB:=J hb;clear hcells hat hb;go_wp2_with (go_at_call 96;refine (to_Sector l[k] _).mono ?_;rintro e w1 ⟨rfl,hb1⟩;obtain⟨q1,q2⟩:=bcell hb1);go_roundw
   case rel =>
    have hw1:=hfill.below hin hb1;have hst:=hw1.step (us:=l[k].tr) (vs:=[F l[k].name,F l[k].site,F l[k].antenna,F l[k].radio,F l[k].band,I l[k].azimuth,I l[k].tilt,I l[k].above,I l[k].channel]) (g:=[]) (RepV.lits [F l[k].name,F l[k].site,F l[k].antenna,F l[k].radio,F l[k].band,I l[k].azimuth,I l[k].tilt,I l[k].above,I l[k].channel]) (by rw[zav _ 9 DSector.tr_len];simp<;>omega) List.nodup_nil (by simp) (by simp) (fun b h=>by simp at h);rw[zav _ 9 DSector.tr_len,List.length_take,Nat.min_eq_left hk,List.append_nil,← zb8 DSector.tr l k hlt] at hst;exact⟨k+1,f,O,by go_num,zds (HB.out.trans (hb1.mono O)) (Nat.le_refl _) [F l[k].name,F l[k].site,F l[k].antenna,F l[k].radio,F l[k].band,I l[k].azimuth,I l[k].tilt,I l[k].above,I l[k].channel] (k*9),hst,fun x hx=>⟨(hin x hx).1,by have:=(hin x hx).2;have:=hb1.size;simp only[zae];omega⟩⟩
   case measure=>simp[intOf];omega
  ·obtain rfl:k=l.length:=O
   clear hcells;go_wp2;go_ret;rw[List.take_length] at hfill;obtain⟨fp,h1,h2⟩:=hfill.own (zav _ 9 DSector.tr_len l) (by unfold maxLen;omega);exact⟨_,_,fp,rfl,hb,h1,fun x hx=>by rcases h2 x hx with rfl|h;exact⟨Nat.le_refl _,hfill.lt⟩;exact hin x h⟩
theorem eq_SectorS (l:List DSector) (v v':Value) (B:Nat) (w:World) (h:Rd B w (DSector.sT l) v) (h':Rd B w (DSector.sT l) v') (hB:B≤w.heap.size) (hn:siz (DSector.sT l)≤1099511627776) :
  Calls Tryz.prog 61 #[v,v'] w fun e w'=>e=.returned (.bool true)∧IJ w w w':=by
 rw[DSector.siz_s] at hn;have hnb:(l.length:Int)≤1099511627776:=O
 obtain⟨a,c,rfl,hnc,hcm,hcells⟩:=DSector.rd h;obtain⟨a',c',rfl,hnc',hcm',hcells'⟩:=DSector.rd h';clear h h';have hne:((l.length:Int) != l.length)=false:=by simp
 go_enter Tryz.func61,Tryz.ntmps61;go_wp2;clear hne;go_loopw [5] (fun i wr=>∃ (k:Nat),k≤l.length∧i=I k∧IJ w w wr) (fun i wr=>l.length-(intOf i).toNat)
 case atStart=>exact⟨0,Nat.zero_le _,rfl,Below.refl _ _⟩
 case round =>
  obtain⟨k,hk,rfl,hb⟩:=hrel
  by_cases hlt:k<l.length
  ·obtain⟨b,off,rfl,hbl,hat⟩:=hcells O
   obtain⟨b',off',rfl,hbl',hat'⟩:=hcells' O;obtain⟨s0,s1,s2,s3,s4,s5,s6,s7,s8⟩:=hat k hlt;obtain⟨sb0,sb1,sb2,sb3,sb4,sb5,sb6,sb7,sb8⟩:=hat' k hlt;rw[← hb.cell (p:=⟨b,_,none⟩) (show b<w.heap.size by omega)] at s0 s1 s2 s3 s4 s5 s6 s7 s8;rw[← hb.cell (p:=⟨b',_,none⟩) (show b' < w.heap.size by omega)] at sb0 sb1 sb2 sb3 sb4 sb5 sb6 sb7 sb8;have hB':B≤wr.heap.size:=by have:=hb.size;omega
   have hsl:=zay DSector.tr l k hlt;have i1:(0:Int)≤(k:Int):=O
   have i2:(k:Int)<(l.length:Int):=O
   have HB:=J hb;clear hcells hat hcells' hat' hb;go_wp2
   go_still_tail 8,(by kernel_rfl)
   change wpList _ _ _ _ _ wr.drew
   go_wp2_with (go_at_call 110;refine (eq_Sector l[k]   _  ).mono ?_;rintro e w1 ⟨rfl,hb1⟩);go_roundw
   case rel=>exact⟨k+1,O,by go_num,HB.out.drew.trans (hb1.mono HB.out.size)⟩
   case measure=>simp[intOf];omega
  ·obtain rfl:k=l.length:=O
   clear hcells hcells';go_wp2;go_ret;exact⟨rfl,hb⟩
theorem DSector.mk_tr (x:DSector) (K:Nat):mkL x.tr K = [.lit (F (zcn (K))),.lit (F (zcn (K+1))),.lit (F (zcn (K+1+1))),.lit (F (zcn (K+1+1+1))),.lit (F (zcn (K+1+1+1+1))),.lit (I ((K:Int)+1+1+1+1+1)),.lit (I ((K:Int)+1+1+1+1+1+1)),.lit (I ((K:Int)+1+1+1+1+1+1+1)),.lit (I ((K:Int)+1+1+1+1+1+1+1+1))]:=rfl
theorem DSector.cntL_tr (x:DSector):cntL x.tr=1+1+1+1+1+1+1+1+1:=by rfl
theorem mark_SectorS (l:List DSector) (v:Value) (fp:List Nat) (k0 lo:Nat) (w:World) (h:Own w (DSector.sT l) v fp) (hin:In lo w fp) (hs:siz (DSector.sT l)≤1099511627776) (hk0:k0+cnt (DSector.sT l)≤1099511627776) (hk1:0<k0) :
  Calls Tryz.prog 65 #[v,I k0] w fun e w'=>e=.returned (I ((k0+cnt (DSector.sT l):Nat):Int))∧Own w' (mkT (DSector.sT l) k0) v fp∧Chg fp w w':=by
 rw[DSector.siz_s] at hs;obtain⟨a,c,hv,hnc,hcm⟩:=h.form (k:=9) (g:=DSector.tr) (by decide) DSector.tr_len;subst hv;rw[show cnt (DSector.sT l)=cntL (l.flatMap DSector.tr) from by rw[DSector.sT,cnt]] at hk0 ⊢;have hnb:(l.length:Int)≤1099511627776:=O
 go_enter Tryz.func65,Tryz.ntmps65;go_wp2;go_loopw [1,5] (fun kk i wr=>∃ (j K:Nat),j≤l.length∧i=I j∧K=k0+cntL ((l.take j).flatMap DSector.tr)∧kk=I (K:Int)∧Own wr (mid DSector.tr 9 l k0 j) (II a l.length c) fp∧Chg fp w wr) (fun _ i wr=>l.length-(intOf i).toNat)
 case atStart=>exact⟨0,k0,Nat.zero_le _,rfl,by simp[cntL],rfl,by rw[zfd];exact h,Chg.refl _ _⟩
 case round =>
  obtain⟨j,K,hj,rfl,hK,rfl,hown,hchg⟩:=hrel
  by_cases hlt:j<l.length
  ·rw[mid_at _ _ _ _ _ hlt] at hown
   have hts:(mkL ((l.take j).flatMap DSector.tr) k0).length=j*9:=by rw[zbr,zav _ 9 DSector.tr_len,List.length_take,Nat.min_eq_left hj]
   have hsum:=zcy DSector.tr l j hlt;have hle:=zcc DSector.tr l (j+1);have hcx:=DSector.cntL_tr l[j];have hkb:K+(1+1+1+1+1+1+1+1+1)≤1099511627776:=O
   have hkp:0<K:=O
   have hszj:=zay DSector.tr l j hlt;have HM:=J (zfe DSector.tr 9 l k0 j hlt);have HS:=J hsum;have HK:=J hK;have HC:=J hcx;have HT:=J hts;clear hsum hcx hle hK hts;generalize mkL ((l.take j).flatMap DSector.tr) k0=TS at *;generalize (l.drop (j+1)).flatMap DSector.tr=US at *;have hin':In lo wr fp:=hin.mono (Nat.le_refl _) hchg.size;have o0:Own wr (.sl 9 (TS++([.lit (F l[j].name),.lit (F l[j].site),.lit (F l[j].antenna),.lit (F l[j].radio),.lit (F l[j].band),.lit (I l[j].azimuth),.lit (I l[j].tilt),.lit (I l[j].above),.lit (I l[j].channel)]++US))) (II a l.length c) fp:=hown;clear hown;obtain⟨b,off,rfl,hbf⟩:=o0.someAddr;have hbw:=(hin' b hbf).2;have hfz:∀ i,wr.frozen? ⟨b,i,none⟩=false:=o0.free b hbf;have z0:wr.heap.size≤wr.heap.size:=Nat.le_refl _;obtain⟨s0,_⟩:=o0.cellChunk 0 _ rfl (off+j*9) (by rw[HT.out];omega);obtain⟨s1,_⟩:=o0.cellChunk 1 _ rfl (off+j*9+1) (by rw[HT.out];omega);obtain⟨s2,_⟩:=o0.cellChunk 2 _ rfl (off+j*9+2) (by rw[HT.out];omega);obtain⟨s3,_⟩:=o0.cellChunk 3 _ rfl (off+j*9+3) (by rw[HT.out];omega);obtain⟨s4,_⟩:=o0.cellChunk 4 _ rfl (off+j*9+4) (by rw[HT.out];omega);obtain⟨s5,_⟩:=o0.cellChunk 5 _ rfl (off+j*9+5) (by rw[HT.out];omega);obtain⟨s6,_⟩:=o0.cellChunk 6 _ rfl (off+j*9+6) (by rw[HT.out];omega);obtain⟨s7,_⟩:=o0.cellChunk 7 _ rfl (off+j*9+7) (by rw[HT.out];omega);obtain⟨s8,_⟩:=o0.cellChunk 8 _ rfl (off+j*9+8) (by rw[HT.out];omega);have O0:=J o0;have C0:=J hchg;clear o0 hchg;go_wp2_with fail;refine (zbs _ _ O O).mono ?_;rintro e w1 ⟨rfl,hb1⟩;obtain⟨qa1,qb1,hbw1⟩:=zad hb1 (b:=b) (by first|omega|(simp only[zae];omega));have z1:wr.heap.size≤w1.heap.size:=by have:=hb1.size;(try simp only[zae] at this);omega
   have O1:=J ((O0.out.below hin' (by first|omega|(simp only[zae];omega)) hb1).setChunk 0 _ rfl (off+j*9) (by rw[HT.out];omega) (F (zcn (K))));have C1:=J ((C0.out.trans (Chg.of_below hb1)).setCell (p:=⟨b,off+j*9,none⟩) hbf (F (zcn (K))));go_wp2_with fail;refine (zbs _ _ O O).mono ?_;rintro e w2 ⟨rfl,hb2⟩;obtain⟨qa2,qb2,hbw2⟩:=zad hb2 (b:=b) (by first|omega|(simp only[zae];omega));have z2:wr.heap.size≤w2.heap.size:=by have:=hb2.size;(try simp only[zae] at this);omega
   have O2:=J ((O1.out.below hin' (by first|omega|(simp only[zae];omega)) hb2).setChunk 1 _ rfl (off+j*9+1) (by rw[HT.out];omega) (F (zcn (K+1))));have C2:=J ((C1.out.trans (Chg.of_below hb2)).setCell (p:=⟨b,off+j*9+1,none⟩) hbf (F (zcn (K+1))));go_wp2_with fail;refine (zbs _ _ O O).mono ?_;rintro e w3 ⟨rfl,hb3⟩;obtain⟨qa3,qb3,hbw3⟩:=zad hb3 (b:=b) (by first|omega|(simp only[zae];omega));have z3:wr.heap.size≤w3.heap.size:=by have:=hb3.size;(try simp only[zae] at this);omega
   have O3:=J ((O2.out.below hin' (by first|omega|(simp only[zae];omega)) hb3).setChunk 2 _ rfl (off+j*9+2) (by rw[HT.out];omega) (F (zcn (K+1+1))));have C3:=J ((C2.out.trans (Chg.of_below hb3)).setCell (p:=⟨b,off+j*9+2,none⟩) hbf (F (zcn (K+1+1))));go_wp2_with fail;refine (zbs _ _ O O).mono ?_;rintro e w4 ⟨rfl,hb4⟩;obtain⟨qa4,qb4,hbw4⟩:=zad hb4 (b:=b) (by first|omega|(simp only[zae];omega));have z4:wr.heap.size≤w4.heap.size:=by have:=hb4.size;(try simp only[zae] at this);omega
   have O4:=J ((O3.out.below hin' (by first|omega|(simp only[zae];omega)) hb4).setChunk 3 _ rfl (off+j*9+3) (by rw[HT.out];omega) (F (zcn (K+1+1+1))));have C4:=J ((C3.out.trans (Chg.of_below hb4)).setCell (p:=⟨b,off+j*9+3,none⟩) hbf (F (zcn (K+1+1+1))));go_wp2_with fail;refine (zbs _ _ O O).mono ?_;rintro e w5 ⟨rfl,hb5⟩;obtain⟨qa5,qb5,hbw5⟩:=zad hb5 (b:=b) (by first|omega|(simp only[zae];omega));have z5:wr.heap.size≤w5.heap.size:=by have:=hb5.size;(try simp only[zae] at this);omega
   have O5:=J ((O4.out.below hin' (by first|omega|(simp only[zae];omega)) hb5).setChunk 4 _ rfl (off+j*9+4) (by rw[HT.out];omega) (F (zcn (K+1+1+1+1))));have C5:=J ((C4.out.trans (Chg.of_below hb5)).setCell (p:=⟨b,off+j*9+4,none⟩) hbf (F (zcn (K+1+1+1+1))));have O6:=J (O5.out.setChunk 5 _ rfl (off+j*9+5) (by rw[HT.out];omega) (I ((K:Int)+1+1+1+1+1)));have C6:=J (C5.out.setCell (p:=⟨b,off+j*9+5,none⟩) hbf (I ((K:Int)+1+1+1+1+1)));have O7:=J (O6.out.setChunk 6 _ rfl (off+j*9+6) (by rw[HT.out];omega) (I ((K:Int)+1+1+1+1+1+1)));have C7:=J (C6.out.setCell (p:=⟨b,off+j*9+6,none⟩) hbf (I ((K:Int)+1+1+1+1+1+1)));have O8:=J (O7.out.setChunk 7 _ rfl (off+j*9+7) (by rw[HT.out];omega) (I ((K:Int)+1+1+1+1+1+1+1)));have C8:=J (C7.out.setCell (p:=⟨b,off+j*9+7,none⟩) hbf (I ((K:Int)+1+1+1+1+1+1+1)));have O9:=J (O8.out.setChunk 8 _ rfl (off+j*9+8) (by rw[HT.out];omega) (I ((K:Int)+1+1+1+1+1+1+1+1)));have C9:=J (C8.out.setCell (p:=⟨b,off+j*9+8,none⟩) hbf (I ((K:Int)+1+1+1+1+1+1+1+1)));go_wp2;go_roundw
   case rel =>
    refine⟨j+1,K+(1+1+1+1+1+1+1+1+1),O,by go_num,by have:=HK.out;have:=HS.out;have:=HC.out;omega,by go_num,?_,C9.out⟩;rw[HM.out,← HK.out,DSector.mk_tr];exact O9.out
   case measure=>simp[intOf];omega
  ·obtain rfl:j=l.length:=O
   have HK:=J hK;clear hK;go_wp2;go_ret;rw[mid_end] at hown;have e:=HK.out;rw[List.take_length] at e;exact⟨zb0 O,hown,hchg⟩
theorem markI_SectorS (l:List DSector) (v:Value) (fp:List Nat) (k lo:Nat) (K:Int) (w:World) (h:Own w (DSector.sT l) v fp) (hin:In lo w fp) (hs:siz (DSector.sT l)≤1099511627776) (hK:K=(k:Int)) (hk0:k+cnt (DSector.sT l)≤1099511627776) (hk1:0<k) :
  Calls Tryz.prog 65 #[v,I K] w fun e w'=>e=.returned (I (K+(cnt (DSector.sT l):Int)))∧Own w' (mkT (DSector.sT l) k) v fp∧Chg fp w w':=by
 subst hK;refine (mark_SectorS l v fp k lo w h hin hs hk0 hk1).mono fun e w' ⟨he,h1,h2⟩=>⟨?_,h1,h2⟩
 rw[he,Int.natCast_add]
set_option maxHeartbeats 4000000
set_option maxRecDepth 100000
theorem DBand.siz_tr (x:DBand):sizL x.tr=x.name.size:=by simp[DBand.tr,sizL,siz,intT,strT]<;>omega
theorem sz_Band (x:DBand) (B:Nat) (left:Int) (w:World) (hB:B≤w.heap.size) (hl:0≤left) (hl2:left≤1048576) (hok:x.ok) :
  Calls Tryz.prog 68 #[.agg #[F x.name,I x.low,I x.high,I x.raster,I x.duplex],I left] w (SzPost (sizL x.tr) left w):=by
 rw[DBand.siz_tr];have hs0:=hok.name;unfold maxLen at hs0;clear hok;go_enter Tryz.func68,Tryz.ntmps68;go_wp2
 all_goals go_ret
 all_goals first|exact⟨Or.inl ⟨O,zb0 O⟩,(Below.refl _ _).alloc (Nat.le_refl _) _⟩|exact⟨Or.inr ⟨O,rfl⟩,(Below.refl _ _).alloc (Nat.le_refl _) _⟩
theorem to_Band (x:DBand) (w:World) :
  Calls Tryz.prog 70 #[.agg #[F x.name,I x.low,I x.high,I x.raster,I x.duplex]] w fun e w'=>e=.returned (.agg #[F x.name,I x.low,I x.high,I x.raster,I x.duplex])∧IJ w w w':=by
 go_enter Tryz.func70,Tryz.ntmps70;go_wp2;exact bodyPost_ret (v:=.agg #[F x.name,I x.low,I x.high,I x.raster,I x.duplex]) (by simp[results,Tryz.results70,go_sem]) rfl ⟨rfl,(((Below.refl _ _).alloc (Nat.le_refl _) _).alloc (by simp) _).alloc (by simp<;>omega) _⟩
theorem eq_Band (x:DBand) (w:World) :
  Calls Tryz.prog 80 #[.agg #[F x.name,I x.low,I x.high,I x.raster,I x.duplex],.agg #[F x.name,I x.low,I x.high,I x.raster,I x.duplex]] w fun e w'=>e=.returned (.bool true)∧IJ w w w':=by
 go_enter Tryz.func80,Tryz.ntmps80;go_wp2;go_ret;exact⟨rfl,((Below.refl _ _).alloc (Nat.le_refl _) _).alloc (by simp) _⟩
theorem DBand.siz_s (l:List DBand):siz (DBand.sT l)=l.length+sizL (l.flatMap DBand.tr):=zfz DBand.tr 5 (by decide) DBand.tr_len l
theorem sz_BandS (l:List DBand) (v:Value) (B:Nat) (left:Int) (w:World) (h:Rd B w (DBand.sT l) v) (hB:B≤w.heap.size) (hl:0≤left) (hl2:left≤1048576) (hstr:∀ x ∈ l,x.ok) :
  Calls Tryz.prog 19 #[v,I left] w (SzPost (siz (DBand.sT l)) left w):=by
 rw[DBand.siz_s];obtain⟨a,c,rfl,hnc,hcm,hcells⟩:=DBand.rd h;clear h;unfold maxLen at hcm
 by_cases c1:(l.length:Int)≤left
 ·have c1':decide (left-(l.length:Int)<0)=false:=by simp<;>omega
  go_enter Tryz.func19,Tryz.ntmps19;go_wp2;go_loopw [1,5] (fun m i wr=>∃ (k:Nat),k≤l.length∧i=I k∧(sizL ((l.take k).flatMap DBand.tr):Int)≤left-l.length∧m=I (left-l.length-sizL ((l.take k).flatMap DBand.tr))∧IJ w w wr) (fun _ i wr=>l.length-(intOf i).toNat)
  case atStart=>exact⟨0,Nat.zero_le _,rfl,by simp[sizL];omega,by simp[sizL],Below.refl _ _⟩
  case round =>
   obtain⟨k,hk,rfl,hm,rfl,hb⟩:=hrel
   by_cases hlt:k<l.length
   ·obtain⟨b,off,rfl,hbl,hat⟩:=hcells O
    obtain⟨s0,s1,s2,s3,s4⟩:=hat k hlt;rw[← hb.cell (p:=⟨b,_,none⟩) (show b<w.heap.size by omega)] at s0 s1 s2 s3 s4;have hB':B≤wr.heap.size:=by have:=hb.size;omega
    have hok:=hstr l[k] (List.getElem_mem hlt);have hsum:=zcx DBand.tr l k hlt;have hle:=zdr DBand.tr l (k+1);have HS:=J hsum;have HB:=J hb;clear hcells hat hb hsum hstr;go_wp2_with (go_at_call 68;refine (sz_Band l[k]  B _ _  hB' O O hok).mono ?_;rintro e w1 ⟨⟨c2,rfl⟩|⟨c2,rfl⟩,hb1⟩)
    ·have c3:decide (left-l.length-sizL ((l.take k).flatMap DBand.tr)-sizL l[k].tr<0)=false:=by simp<;>omega
     go_wp2;go_roundw
     case rel=>exact⟨k+1,O,by go_num,by rw[HS.out];omega,by rw[HS.out];go_num,HB.out.trans (hb1.mono HB.out.size)⟩
     case measure=>simp[intOf];omega
    ·go_wp2
     go_ret;exact⟨Or.inr ⟨by have:=HS.out;omega,rfl⟩,HB.out.trans (hb1.mono HB.out.size)⟩
   ·obtain rfl:k=l.length:=O
    clear hcells;rw[List.take_length] at hm;go_wp2;go_ret;refine⟨Or.inl ⟨O,zb0 ?_⟩,hb⟩;simp only[List.take_length];omega
 ·have c1':decide (left-(l.length:Int)<0)=true:=by simp<;>omega
  go_enter Tryz.func19,Tryz.ntmps19;go_wp2;go_ret;exact⟨Or.inr ⟨O,rfl⟩,Below.refl _ _⟩
theorem infoBand:(Tryz.prog.info? 123).map (fun i=>(i.zero,i.size,i.bytes))=some (some (.agg #[F ⟨#[]⟩,I 0,I 0,I 0,I 0]),5,48):=by kernel_rfl
theorem ze8 (l:List DBand) (v:Value) (w:World) (h:Rd w w (DBand.sT l) v) (hn:siz (DBand.sT l)≤1048576) :
  Calls Tryz.prog 22 #[v] w fun e w'=>∃ a' c' fp,e=.returned (II a' l.length c')∧IJ w w w'∧Own w' (DBand.sT l) (II a' l.length c') fp∧In w w'.heap.size fp:=by
 rw[DBand.siz_s] at hn;obtain⟨i0,hi0,hz0,hz1,hz2⟩:=info_parts infoBand;have hmk:=fun W=>zcs (P:=Tryz.prog) 64 123 i0 _ Tryz.underlying64 hi0 hz0 .i64 .i64 l.length l.length (Nat.le_refl _) (by rw[hz2];omega) O W
 rw[hz1] at hmk;have hnb:(l.length:Int)≤1048576:=O
 obtain⟨a,c,rfl,hnc,hcm,hcells⟩:=DBand.rd h;clear h;go_enter Tryz.func22,Tryz.ntmps22;go_wp2;clear hmk hi0 hz0 hz1 hz2;go_loopw [4] (fun i wr=>∃ (k:Nat) (f:List Nat),k≤l.length∧i=I k∧IJ w w wr∧Fill wr w.heap.size 123 (l.length*5) ((l.take k).flatMap DBand.tr) f∧In w wr f) (fun i wr=>l.length-(intOf i).toNat)
 case atStart =>
  have hst:=Fill.start w (madeCells #[F ⟨#[]⟩,I 0,I 0,I 0,I 0] (l.length*5)) 123;rw[size_madeCells] at hst;exact⟨0,[],Nat.zero_le _,rfl,(Below.refl _ _).alloc (Nat.le_refl _) _,by simpa using hst,In.nil⟩
 case round =>
  obtain⟨k,f,hk,rfl,hb,hfill,hin⟩:=hrel
  by_cases hlt:k<l.length
  ·obtain⟨b,off,rfl,hbl,hat⟩:=hcells O
   obtain⟨s0,s1,s2,s3,s4⟩:=hat k hlt;rw[← hb.cell (p:=⟨b,_,none⟩) hbl] at s0 s1 s2 s3 s4;have hz:=hfill.lt;have hz2:b<wr.heap.size:=O
   obtain⟨o0,p0⟩:=hfill.room (k*5) O;obtain⟨o1,p1⟩:=hfill.room (k*5+1) O;obtain⟨o2,p2⟩:=hfill.room (k*5+2) O;obtain⟨o3,p3⟩:=hfill.room (k*5+3) O;obtain⟨o4,p4⟩:=hfill.room (k*5+4) O;have hfz:=hfill.open_;have hsl:=zay DBand.tr l k hlt;have HB:=J hb;clear hcells hat hb;go_wp2_with (go_at_call 70;refine (to_Band l[k] _).mono ?_;rintro e w1 ⟨rfl,hb1⟩;obtain⟨q1,q2⟩:=bcell hb1);go_roundw
   case rel =>
    have hw1:=hfill.below hin hb1;have hst:=hw1.step (us:=l[k].tr) (vs:=[F l[k].name,I l[k].low,I l[k].high,I l[k].raster,I l[k].duplex]) (g:=[]) (RepV.lits [F l[k].name,I l[k].low,I l[k].high,I l[k].raster,I l[k].duplex]) (by rw[zav _ 5 DBand.tr_len];simp<;>omega) List.nodup_nil (by simp) (by simp) (fun b h=>by simp at h);rw[zav _ 5 DBand.tr_len,List.length_take,Nat.min_eq_left hk,List.append_nil,← zb8 DBand.tr l k hlt] at hst;exact⟨k+1,f,O,by go_num,zds (HB.out.trans (hb1.mono O)) (Nat.le_refl _) [F l[k].name,I l[k].low,I l[k].high,I l[k].raster,I l[k].duplex] (k*5),hst,fun x hx=>⟨(hin x hx).1,by have:=(hin x hx).2;have:=hb1.size;simp only[zae];omega⟩⟩
   case measure=>simp[intOf];omega
  ·obtain rfl:k=l.length:=O
   clear hcells;go_wp2;go_ret;rw[List.take_length] at hfill;obtain⟨fp,h1,h2⟩:=hfill.own (zav _ 5 DBand.tr_len l) (by unfold maxLen;omega);exact⟨_,_,fp,rfl,hb,h1,fun x hx=>by rcases h2 x hx with rfl|h;exact⟨Nat.le_refl _,hfill.lt⟩;exact hin x h⟩
theorem eq_BandS (l:List DBand) (v v':Value) (B:Nat) (w:World) (h:Rd B w (DBand.sT l) v) (h':Rd B w (DBand.sT l) v') (hB:B≤w.heap.size) (hn:siz (DBand.sT l)≤1099511627776) :
  Calls Tryz.prog 26 #[v,v'] w fun e w'=>e=.returned (.bool true)∧IJ w w w':=by
 rw[DBand.siz_s] at hn;have hnb:(l.length:Int)≤1099511627776:=O
 obtain⟨a,c,rfl,hnc,hcm,hcells⟩:=DBand.rd h;obtain⟨a',c',rfl,hnc',hcm',hcells'⟩:=DBand.rd h';clear h h';have hne:((l.length:Int) != l.length)=false:=by simp
 go_enter Tryz.func26,Tryz.ntmps26;go_wp2;clear hne;go_loopw [5] (fun i wr=>∃ (k:Nat),k≤l.length∧i=I k∧IJ w w wr) (fun i wr=>l.length-(intOf i).toNat)
 case atStart=>exact⟨0,Nat.zero_le _,rfl,Below.refl _ _⟩
 case round =>
  obtain⟨k,hk,rfl,hb⟩:=hrel
  by_cases hlt:k<l.length
  ·obtain⟨b,off,rfl,hbl,hat⟩:=hcells O
   obtain⟨b',off',rfl,hbl',hat'⟩:=hcells' O;obtain⟨s0,s1,s2,s3,s4⟩:=hat k hlt;obtain⟨sb0,sb1,sb2,sb3,sb4⟩:=hat' k hlt;rw[← hb.cell (p:=⟨b,_,none⟩) (show b<w.heap.size by omega)] at s0 s1 s2 s3 s4;rw[← hb.cell (p:=⟨b',_,none⟩) (show b' < w.heap.size by omega)] at sb0 sb1 sb2 sb3 sb4;have hB':B≤wr.heap.size:=by have:=hb.size;omega
   have hsl:=zay DBand.tr l k hlt;have i1:(0:Int)≤(k:Int):=O
   have i2:(k:Int)<(l.length:Int):=O
   have HB:=J hb;clear hcells hat hcells' hat' hb;go_wp2
   go_still_tail 8,(by kernel_rfl)
   change wpList _ _ _ _ _ wr.drew
   go_wp2_with (go_at_call 80;refine (eq_Band l[k]   _  ).mono ?_;rintro e w1 ⟨rfl,hb1⟩);go_roundw
   case rel=>exact⟨k+1,O,by go_num,HB.out.drew.trans (hb1.mono HB.out.size)⟩
   case measure=>simp[intOf];omega
  ·obtain rfl:k=l.length:=O
   clear hcells hcells';go_wp2;go_ret;exact⟨rfl,hb⟩
theorem DBand.mk_tr (x:DBand) (K:Nat):mkL x.tr K = [.lit (F (zcn (K))),.lit (I ((K:Int)+1)),.lit (I ((K:Int)+1+1)),.lit (I ((K:Int)+1+1+1)),.lit (I ((K:Int)+1+1+1+1))]:=rfl
theorem DBand.cntL_tr (x:DBand):cntL x.tr=1+1+1+1+1:=by rfl
theorem mark_BandS (l:List DBand) (v:Value) (fp:List Nat) (k0 lo:Nat) (w:World) (h:Own w (DBand.sT l) v fp) (hin:In lo w fp) (hs:siz (DBand.sT l)≤1099511627776) (hk0:k0+cnt (DBand.sT l)≤1099511627776) (hk1:0<k0) :
  Calls Tryz.prog 27 #[v,I k0] w fun e w'=>e=.returned (I ((k0+cnt (DBand.sT l):Nat):Int))∧Own w' (mkT (DBand.sT l) k0) v fp∧Chg fp w w':=by
 rw[DBand.siz_s] at hs;obtain⟨a,c,hv,hnc,hcm⟩:=h.form (k:=5) (g:=DBand.tr) (by decide) DBand.tr_len;subst hv;rw[show cnt (DBand.sT l)=cntL (l.flatMap DBand.tr) from by rw[DBand.sT,cnt]] at hk0 ⊢;have hnb:(l.length:Int)≤1099511627776:=O
 go_enter Tryz.func27,Tryz.ntmps27;go_wp2;go_loopw [1,5] (fun kk i wr=>∃ (j K:Nat),j≤l.length∧i=I j∧K=k0+cntL ((l.take j).flatMap DBand.tr)∧kk=I (K:Int)∧Own wr (mid DBand.tr 5 l k0 j) (II a l.length c) fp∧Chg fp w wr) (fun _ i wr=>l.length-(intOf i).toNat)
 case atStart=>exact⟨0,k0,Nat.zero_le _,rfl,by simp[cntL],rfl,by rw[zfd];exact h,Chg.refl _ _⟩
 case round =>
  obtain⟨j,K,hj,rfl,hK,rfl,hown,hchg⟩:=hrel
  by_cases hlt:j<l.length
  ·rw[mid_at _ _ _ _ _ hlt] at hown
   have hts:(mkL ((l.take j).flatMap DBand.tr) k0).length=j*5:=by rw[zbr,zav _ 5 DBand.tr_len,List.length_take,Nat.min_eq_left hj]
   have hsum:=zcy DBand.tr l j hlt;have hle:=zcc DBand.tr l (j+1);have hcx:=DBand.cntL_tr l[j];have hkb:K+(1+1+1+1+1)≤1099511627776:=O
   have hkp:0<K:=O
   have hszj:=zay DBand.tr l j hlt;have HM:=J (zfe DBand.tr 5 l k0 j hlt);have HS:=J hsum;have HK:=J hK;have HC:=J hcx;have HT:=J hts;clear hsum hcx hle hK hts;generalize mkL ((l.take j).flatMap DBand.tr) k0=TS at *;generalize (l.drop (j+1)).flatMap DBand.tr=US at *;have hin':In lo wr fp:=hin.mono (Nat.le_refl _) hchg.size;have o0:Own wr (.sl 5 (TS++([.lit (F l[j].name),.lit (I l[j].low),.lit (I l[j].high),.lit (I l[j].raster),.lit (I l[j].duplex)]++US))) (II a l.length c) fp:=hown;clear hown;obtain⟨b,off,rfl,hbf⟩:=o0.someAddr;have hbw:=(hin' b hbf).2;have hfz:∀ i,wr.frozen? ⟨b,i,none⟩=false:=o0.free b hbf;have z0:wr.heap.size≤wr.heap.size:=Nat.le_refl _;obtain⟨s0,_⟩:=o0.cellChunk 0 _ rfl (off+j*5) (by rw[HT.out];omega);obtain⟨s1,_⟩:=o0.cellChunk 1 _ rfl (off+j*5+1) (by rw[HT.out];omega);obtain⟨s2,_⟩:=o0.cellChunk 2 _ rfl (off+j*5+2) (by rw[HT.out];omega);obtain⟨s3,_⟩:=o0.cellChunk 3 _ rfl (off+j*5+3) (by rw[HT.out];omega);obtain⟨s4,_⟩:=o0.cellChunk 4 _ rfl (off+j*5+4) (by rw[HT.out];omega);have O0:=J o0;have C0:=J hchg;clear o0 hchg;go_wp2_with fail;refine (zbs _ _ O O).mono ?_;rintro e w1 ⟨rfl,hb1⟩;obtain⟨qa1,qb1,hbw1⟩:=zad hb1 (b:=b) (by first|omega|(simp only[zae];omega));have z1:wr.heap.size≤w1.heap.size:=by have:=hb1.size;(try simp only[zae] at this);omega
   have O1:=J ((O0.out.below hin' (by first|omega|(simp only[zae];omega)) hb1).setChunk 0 _ rfl (off+j*5) (by rw[HT.out];omega) (F (zcn (K))));have C1:=J ((C0.out.trans (Chg.of_below hb1)).setCell (p:=⟨b,off+j*5,none⟩) hbf (F (zcn (K))));have O2:=J (O1.out.setChunk 1 _ rfl (off+j*5+1) (by rw[HT.out];omega) (I ((K:Int)+1)));have C2:=J (C1.out.setCell (p:=⟨b,off+j*5+1,none⟩) hbf (I ((K:Int)+1)));have O3:=J (O2.out.setChunk 2 _ rfl (off+j*5+2) (by rw[HT.out];omega) (I ((K:Int)+1+1)));have C3:=J (C2.out.setCell (p:=⟨b,off+j*5+2,none⟩) hbf (I ((K:Int)+1+1)));have O4:=J (O3.out.setChunk 3 _ rfl (off+j*5+3) (by rw[HT.out];omega) (I ((K:Int)+1+1+1)));have C4:=J (C3.out.setCell (p:=⟨b,off+j*5+3,none⟩) hbf (I ((K:Int)+1+1+1)));have O5:=J (O4.out.setChunk 4 _ rfl (off+j*5+4) (by rw[HT.out];omega) (I ((K:Int)+1+1+1+1)));have C5:=J (C4.out.setCell (p:=⟨b,off+j*5+4,none⟩) hbf (I ((K:Int)+1+1+1+1)));go_wp2;go_roundw
   case rel =>
    refine⟨j+1,K+(1+1+1+1+1),O,by go_num,by have:=HK.out;have:=HS.out;have:=HC.out;omega,by go_num,?_,C5.out⟩;rw[HM.out,← HK.out,DBand.mk_tr];exact O5.out
   case measure=>simp[intOf];omega
  ·obtain rfl:j=l.length:=O
   have HK:=J hK;clear hK;go_wp2;go_ret;rw[mid_end] at hown;have e:=HK.out;rw[List.take_length] at e;exact⟨zb0 O,hown,hchg⟩
set_option maxHeartbeats 2000000
theorem to_End (x:DEnd) (w:World) :
  Calls Tryz.prog 71 #[.agg #[I x.place.x,I x.place.y,I x.above]] w fun e w'=>e=.returned (.agg #[I x.place.x,I x.place.y,I x.above])∧IJ w w w':=by
 go_enter Tryz.func71,Tryz.ntmps71;go_wp2_with fail;refine (to_Point x.place _).mono ?_;rintro e w1 ⟨rfl,hb1⟩;obtain⟨qa1,fa1,ya1⟩:=zad hb1 (b:=w.heap.size) (by first|omega|(simp;done)|(simp<;>omega));obtain⟨qb1,fb1,yb1⟩:=zad hb1 (b:=w.heap.size+1) (by first|omega|(simp;done)|(simp<;>omega));obtain⟨qc1,fc1,yc1⟩:=zad hb1 (b:=w.heap.size+1+1) (by first|omega|(simp;done)|(simp<;>omega));go_wp2;refine bodyPost_ret (v:=.agg #[I x.place.x,I x.place.y,I x.above]) (by simp[results,Tryz.results71,go_sem, *]) rfl ⟨rfl,?_⟩
 repeat (first|exact Below.refl _ _|(refine Below.setCell ?_ (by first|omega|(simp;done)|(simp<;>omega)) _)|(refine Below.alloc ?_ (by first|omega|(simp;done)|(simp<;>omega)) _)|(refine Below.trans ?_ (hb1.mono (by first|omega|(simp;done)|(simp<;>omega)))))
set_option maxHeartbeats 2000000
theorem DProtected.siz_tr (x:DProtected):sizL x.tr=x.name.size:=by simp[DProtected.tr,sizL,siz,intT,strT]<;>omega
theorem sz_Protected (x:DProtected) (B:Nat) (left:Int) (w:World) (hB:B≤w.heap.size) (hl:0≤left) (hl2:left≤1048576) (hok:x.ok) :
  Calls Tryz.prog 20 #[.agg #[F x.name,I x.at_.place.x,I x.at_.place.y,I x.at_.above,I x.low,I x.high,I x.limit],I left] w (SzPost (sizL x.tr) left w):=by
 rw[DProtected.siz_tr];have hs0:=hok.name;unfold maxLen at hs0;clear hok;go_enter Tryz.func20,Tryz.ntmps20;go_wp2
 all_goals go_ret
 all_goals first|exact⟨Or.inl ⟨O,zb0 O⟩,(Below.refl _ _).alloc (Nat.le_refl _) _⟩|exact⟨Or.inr ⟨O,rfl⟩,(Below.refl _ _).alloc (Nat.le_refl _) _⟩
theorem zdp (x:DProtected) (w:World) :
  Calls Tryz.prog 23 #[.agg #[F x.name,I x.at_.place.x,I x.at_.place.y,I x.at_.above,I x.low,I x.high,I x.limit]] w fun e w'=>e=.returned (.agg #[F x.name,I x.at_.place.x,I x.at_.place.y,I x.at_.above,I x.low,I x.high,I x.limit])∧IJ w w w':=by
 go_enter Tryz.func23,Tryz.ntmps23;go_wp2_with fail;refine (to_End x.at_ _).mono ?_;rintro e w1 ⟨rfl,hb1⟩;obtain⟨qa1,fa1,ya1⟩:=zad hb1 (b:=w.heap.size) (by first|omega|(simp;done)|(simp<;>omega));obtain⟨qb1,fb1,yb1⟩:=zad hb1 (b:=w.heap.size+1) (by first|omega|(simp;done)|(simp<;>omega));obtain⟨qc1,fc1,yc1⟩:=zad hb1 (b:=w.heap.size+1+1) (by first|omega|(simp;done)|(simp<;>omega));go_wp2;refine bodyPost_ret (v:=.agg #[F x.name,I x.at_.place.x,I x.at_.place.y,I x.at_.above,I x.low,I x.high,I x.limit]) (by simp[results,Tryz.results23,go_sem, *]) rfl ⟨rfl,?_⟩
 repeat (first|with_reducible exact Below.refl _ _|(with_reducible refine Below.setCell ?_ (by first|omega|(simp;done)|(simp<;>omega)) _)|(with_reducible refine Below.alloc ?_ (by first|omega|(simp;done)|(simp<;>omega)) _)|(with_reducible refine Below.trans ?_ (hb1.mono (by first|omega|(simp;done)|(simp<;>omega)))))
set_option maxHeartbeats 1000000
theorem strsT_flat (l:List ByteArray):zd2 l=.sl 1 (l.flatMap fun x=>[strT x]):=by rw[zd2,zem]
theorem cntL_strs (l:List ByteArray):cntL (l.map strT)=l.length:=by
 induction l with
 | nil=>rfl
 | cons x l ih=>simp only[List.map_cons,cntL,ih,strT,cnt,List.length_cons];omega
theorem cnt_strs (l:List ByteArray):cnt (zd2 l)=l.length:=by rw[zd2,cnt,cntL_strs]
theorem siz_strs (l:List ByteArray):siz (zd2 l)=l.length+(l.map ByteArray.size).sum:=by
 rw[zd2,siz,List.length_map,Nat.div_one]
 congr 1
 induction l with
 | nil=>rfl
 | cons x l ih=>simp only[List.map_cons,sizL,strT,siz,List.sum_cons,ih]
theorem zdn {α:Type} (g:α→List Tr) (k K:Nat) (hk:0<k) (hg:∀ x,(g x).length=k) (hc:∀ x,cntL (g x)≤K+K*sizL (g x)) (l:List α):cnt (.sl k (l.flatMap g))≤K*siz (.sl k (l.flatMap g)):=by
 rw[zfz g k hk hg,cnt]
 induction l with
 | nil=>simp[cntL]
 | cons x l ih =>
  rw[List.flatMap_cons,zf7,zev,List.length_cons];have h1:=hc x;rw[Nat.mul_add] at ih ⊢;rw[Nat.mul_add,Nat.mul_add];omega
theorem DSite.cnt_le (l:List DSite):cnt (DSite.sT l)≤16*siz (DSite.sT l):=zdn DSite.tr 4 16 (by decide) DSite.tr_len (fun x=>by simp only[DSite.tr,cntL,cnt,strT,intT];omega) l
theorem DSector.cnt_le (l:List DSector):cnt (DSector.sT l)≤16*siz (DSector.sT l):=zdn DSector.tr 9 16 (by decide) DSector.tr_len (fun x=>by simp only[DSector.tr,cntL,cnt,strT,intT];omega) l
theorem DMode.cnt_le (l:List DMode):cnt (DMode.sT l)≤16*siz (DMode.sT l):=zdn DMode.tr 2 16 (by decide) DMode.tr_len (fun x=>by simp only[DMode.tr,cntL,cnt,intT];omega) l
theorem DAntenna.cnt_le (l:List DAntenna):cnt (DAntenna.sT l)≤16*siz (DAntenna.sT l):=zdn DAntenna.tr 4 16 (by decide) DAntenna.tr_len (fun x=>by
 have h1:=zen x.horizontal
 have h2:=zbn x.horizontal
 have h3:=zen x.vertical
 have h4:=zbn x.vertical
 simp only[DAntenna.tr,cntL,sizL]
 have h5:cnt (strT x.name)=1:=rfl
 have h6:cnt (intT x.gain)=1:=rfl
 omega) l
theorem DRadio.cnt_le (l:List DRadio):cnt (DRadio.sT l)≤16*siz (DRadio.sT l):=zdn DRadio.tr 6 16 (by decide) DRadio.tr_len (fun x=>by
 have h1:=DMode.cnt_le x.modes
 simp only[DRadio.tr,cntL,sizL]
 have h5:cnt (strT x.name)=1:=rfl
 have h6:cnt (intT x.power)=1:=rfl
 have h7:cnt (intT x.feeder)=1:=rfl
 have h8:cnt (intT x.noise)=1:=rfl
 have h9:cnt (intT x.width)=1:=rfl
 omega) l
theorem eq_StringS (l:List ByteArray) (v v':Value) (B:Nat) (w:World) (h:Rd B w (zd2 l) v) (h':Rd B w (zd2 l) v') (hB:B≤w.heap.size) (hn:siz (zd2 l)≤1099511627776) :
  Calls Tryz.prog 32 #[v,v'] w fun e w'=>e=.returned (.bool true)∧IJ w w w':=by
 have hn2:l.length≤1099511627776:=by rw[siz_strs] at hn;omega
 have hnb:(l.length:Int)≤1099511627776:=O
 clear hn;obtain⟨a,c,rfl,hnc,hcm,hcells⟩:=h.strs;obtain⟨a',c',rfl,hnc',hcm',hcells'⟩:=h'.strs;clear h h';have hne:((l.length:Int) != l.length)=false:=by simp
 go_enter Tryz.func32,Tryz.ntmps32;go_wp2;clear hne;go_loopw [5] (fun i wr=>∃ (k:Nat),k≤l.length∧i=I k∧IJ w w wr) (fun i wr=>l.length-(intOf i).toNat)
 case atStart=>exact⟨0,Nat.zero_le _,rfl,Below.refl _ _⟩
 case round =>
  obtain⟨k,hk,rfl,hb⟩:=hrel
  by_cases hlt:k<l.length
  ·obtain⟨b,off,rfl,hbl,hat⟩:=hcells O
   obtain⟨b',off',rfl,hbl',hat'⟩:=hcells' O;have s0:=hat k hlt;have s1:=hat' k hlt;rw[← hb.cell (p:=⟨b,_,none⟩) (show b<w.heap.size by omega)] at s0;rw[← hb.cell (p:=⟨b',_,none⟩) (show b' < w.heap.size by omega)] at s1;have i1:(0:Int)≤(k:Int):=O
   have i2:(k:Int)<(l.length:Int):=O
   clear hcells hat hcells' hat';have HB:=J hb;clear hb;go_wp2
   go_quiet (fail)
   go_wp2;go_roundw
   case rel=>exact⟨k+1,O,by go_num,zbb HB.out _⟩
   case measure=>simp[intOf];omega
  ·obtain rfl:k=l.length:=O
   clear hcells hcells';go_wp2;go_ret;exact⟨rfl,hb⟩
theorem mark_StringS (l:List ByteArray) (v:Value) (fp:List Nat) (k0 lo:Nat) (w:World) (h:Own w (zd2 l) v fp) (hin:In lo w fp) (hs:siz (zd2 l)≤1099511627776) (hk0:k0+cnt (zd2 l)≤1099511627776) (hk1:0<k0) :
  Calls Tryz.prog 33 #[v,I k0] w fun e w'=>e=.returned (I ((k0+cnt (zd2 l):Nat):Int))∧Own w' (mkT (zd2 l) k0) v fp∧Chg fp w w':=by
 rw[cnt_strs] at hk0 ⊢;obtain⟨a,c,hv,hnc,hcm⟩:=h.form1;rw[strsT_flat] at h ⊢;subst hv;have hnb:(k0:Int)+(l.length:Int)≤1099511627776:=O
 go_enter Tryz.func33,Tryz.ntmps33;go_wp2;go_loopw [1,5] (fun kk i wr=>∃ (j:Nat),j≤l.length∧i=I j∧kk=I ((k0:Int)+(j:Int))∧Own wr (mid (fun x=>[strT x]) 1 l k0 j) (II a l.length c) fp∧Chg fp w wr) (fun _ i wr=>l.length-(intOf i).toNat)
 case atStart=>exact⟨0,Nat.zero_le _,rfl,by simp,by rw[zfd];exact h,Chg.refl _ _⟩
 case round =>
  obtain⟨j,hj,rfl,rfl,hown,hchg⟩:=hrel
  by_cases hlt:j<l.length
  ·have hin':In lo wr fp:=hin.mono (Nat.le_refl _) hchg.size
   rw[mid_at _ _ _ _ _ hlt] at hown;have OW:=J hown;obtain⟨b,off,f,n',c',hv,hfp,hcell,hfz,_⟩:=hown.litAt (v0:=F l[j]);rw[zbr,zav _ 1 (fun _=>rfl),List.length_take,Nat.min_eq_left hj,Nat.mul_one] at hcell;injection hv with hv1 hv2 hv3;subst hv1;have hbw:=(hin' b (by rw[hfp];simp)).2;have HF:=J hfp;have HCH:=J hchg;clear hfp hv2 hv3 hown hchg;go_wp2_with fail;refine (zbs _ _ O O).mono ?_;rintro e w1 ⟨rfl,hb1⟩;obtain⟨qa1,qb1,hbw1⟩:=zad hb1 (b:=b) hbw;have et:((k0:Int)+(j:Int)).toNat=k0+j:=O
   rw[et];have O1:=J (OW.out.below hin' (Nat.le_refl _) hb1);have HCC:=J (HCH.out.trans (Chg.of_below hb1));clear hb1 et;go_wp2;go_roundw
   case rel =>
    refine⟨j+1,O,by go_num,by go_num,?_,HCC.out.setCell (by rw[HF.out];simp) _⟩;rw[zfe _ _ _ _ _ hlt];have ec:cntL ((l.take j).flatMap fun x=>[strT x])=j:=by
     rw[← zem,cntL_strs,List.length_take,Nat.min_eq_left hj]
    rw[ec];have em:mkL [strT l[j]] (k0+j) = [.lit (F (zcn (k0+j)))]:=by simp[mkL,mkT,strT,mlit]
    rw[em];obtain⟨b2,off2,f2,n2,c2,hv2,_,_,_,hset⟩:=O1.out.litAt (v0:=F l[j]);injection hv2 with hv3 _ _;injection hv3 with hv3;injection hv3 with hb3 ho3;subst hb3 ho3;have:=hset (F (zcn (k0+j)));rw[zbr,zav _ 1 (fun _=>rfl),List.length_take,Nat.min_eq_left hj,Nat.mul_one] at this;exact this
   case measure=>simp[intOf];omega
  ·obtain rfl:j=l.length:=O
   go_wp2;go_ret;rw[mid_end] at hown;exact⟨zb0 O,hown,hchg⟩
theorem held_StringS (l:List ByteArray) (v:Value) (B:Nat) (k0:Nat) (w:World) (h:Rd B w (mkT (zd2 l) k0) v) (hB:B≤w.heap.size) (hs:siz (zd2 l)≤1099511627776) (hk0:k0+cnt (zd2 l)≤1099511627776) (hk1:0<k0) :
  Calls Tryz.prog 34 #[v,I k0] w fun e w'=>e=.returned (I ((k0+cnt (zd2 l):Nat):Int))∧IJ w w w':=by
 rw[cnt_strs] at hk0 ⊢;rw[strsT_flat] at h;obtain⟨a,c,rfl,hnc,hcm,hcells⟩:=h.mkAt (k:=1) (g:=fun x=>[strT x]) (by decide) (fun _=>rfl);clear h;have hnb:(k0:Int)+(l.length:Int)≤1099511627776:=O
 go_enter Tryz.func34,Tryz.ntmps34;go_wp2;go_loopw [1,5] (fun kk i wr=>∃ (j:Nat),j≤l.length∧i=I j∧kk=I ((k0:Int)+(j:Int))∧IJ w w wr) (fun _ i wr=>l.length-(intOf i).toNat)
 case atStart=>exact⟨0,Nat.zero_le _,rfl,by simp,Below.refl _ _⟩
 case round =>
  obtain⟨j,hj,rfl,rfl,hb⟩:=hrel
  by_cases hlt:j<l.length
  ·obtain⟨b,off,rfl,hbl,hat⟩:=hcells O
   obtain⟨u,s0,hu⟩:=hat j hlt 0 (.lit (F (zcn (k0+j)))) (by
    have ec:cntL ((l.take j).flatMap fun x=>[strT x])=j:=by
     rw[← zem,cntL_strs,List.length_take,Nat.min_eq_left hj]
    rw[ec];simp[mkL,mkT,strT,mlit])
   obtain rfl:=Rd.lit.1 hu;rw[← hb.cell (p:=⟨b,_,none⟩) (show b<w.heap.size by omega),Nat.mul_one,Nat.add_zero] at s0;have yb:b<wr.heap.size:=by have:=hb.size;omega
   have i1:(0:Int)≤(j:Int):=O
   have i2:(j:Int)<(l.length:Int):=O
   have HB:=J hb;have et:((k0:Int)+(j:Int)).toNat=k0+j:=O
   have HM:Hid (∀ W:World,Calls Tryz.prog 81 #[I ((k0:Int)+(j:Int))] W fun e w'=>e=.returned (F (zcn (k0+j)))∧IJ W W w'):=fun W=>by rw[← et];exact zbs _ W O O
   clear hcells hat hu hb et;have oB:=zak (w0:=wr) yb;have hne:(!((zcn (k0+j)).toList == (zcn (k0+j)).toList))=false:=by simp
   go_wp2;refine zab wr.heap.size wr (Below.refl _ _) (by kernel_rfl) (by kernel_rfl) ?_
   repeat (go_big_quiet_step (first|(go_at_call 81;exact zai (Nat.le_refl _) (HM.out _))))
   refine wpQuiet_nil ?_;rintro _ ⟨X,rfl⟩;have hX:=zaa wr.heap.size wr X;clear oB;generalize over wr.heap.size wr X=w2 at *;go_wp2;go_roundw
   case rel=>exact⟨j+1,O,by go_num,by go_num,HB.out.trans (hX.mono HB.out.size)⟩
   case measure=>simp[intOf];omega
  ·obtain rfl:j=l.length:=O
   clear hcells;go_wp2;go_ret;exact⟨zb0 O,hb⟩
end Go.Proofs.YtgmapjgodibchaaGreatDoor
