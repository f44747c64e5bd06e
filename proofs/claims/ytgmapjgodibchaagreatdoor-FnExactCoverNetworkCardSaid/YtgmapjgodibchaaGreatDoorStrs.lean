/- Contracts of the laws' helpers over slices of texts; counts of marks against sizes. Conditions: bounded lengths. -/
import Derived.Test.YtgmapjgodibchaaGreatDoorProb1
import Derived.Test.YtgmapjgodibchaaGreatDoorOver
set_option linter.unusedVariables false
set_option linter.unusedSimpArgs false
namespace Go.Proofs.YtgmapjgodibchaaGreatDoor
open Go.RowKit
theorem to_Point (x:DPoint) (w:World) :
  Calls Tryz.prog 118 #[.agg #[I x.x,I x.y]] w fun e w'=>e=.returned (.agg #[I x.x,I x.y])∧IJ w w w':=by
 go_enter Tryz.func118,Tryz.ntmps118;go_wp2;exact bodyPost_ret (v:=.agg #[I x.x,I x.y]) (by simp[results,Tryz.results118,go_sem]) rfl ⟨rfl,(((Below.refl _ _).alloc (Nat.le_refl _) _).alloc (by simp) _).alloc (by simp<;>omega) _⟩
theorem eq_Point (x:DPoint) (w:World) :
  Calls Tryz.prog 146 #[.agg #[I x.x,I x.y],.agg #[I x.x,I x.y]] w fun e w'=>e=.returned (.bool true)∧IJ w w w':=by
 go_enter Tryz.func146,Tryz.ntmps146;go_wp2;go_ret;exact⟨rfl,((Below.refl _ _).alloc (Nat.le_refl _) _).alloc (by simp) _⟩
set_option maxHeartbeats 4000000
set_option maxRecDepth 100000
theorem DSector.siz_tr (x:DSector):sizL x.tr=x.name.size+x.site.size+x.antenna.size+x.radio.size+x.band.size:=by simp[DSector.tr,sizL,siz,intT,strT]<;>omega
theorem sz_Sector (x:DSector) (B:Nat) (left:Int) (w:World) (hB:B≤w.heap.size) (hl:0≤left) (hl2:left≤1048576) (hok:x.ok) :
  Calls Tryz.prog 83 #[.agg #[F x.name,F x.site,F x.antenna,F x.radio,F x.band,I x.azimuth,I x.tilt,I x.above,I x.channel],I left] w (SzPost (sizL x.tr) left w):=by
 rw[DSector.siz_tr];have hs0:=hok.name;have hs1:=hok.site;have hs2:=hok.antenna;have hs3:=hok.radio;have hs4:=hok.band;unfold maxLen at hs0 hs1 hs2 hs3 hs4;clear hok;go_enter Tryz.func83,Tryz.ntmps83;go_wp2
 all_goals go_ret
 all_goals first|exact⟨Or.inl ⟨O,zb8 O⟩,(Below.refl _ _).alloc (Nat.le_refl _) _⟩|exact⟨Or.inr ⟨O,rfl⟩,(Below.refl _ _).alloc (Nat.le_refl _) _⟩
theorem to_Sector (x:DSector) (w:World) :
  Calls Tryz.prog 96 #[.agg #[F x.name,F x.site,F x.antenna,F x.radio,F x.band,I x.azimuth,I x.tilt,I x.above,I x.channel]] w fun e w'=>e=.returned (.agg #[F x.name,F x.site,F x.antenna,F x.radio,F x.band,I x.azimuth,I x.tilt,I x.above,I x.channel])∧IJ w w w':=by
 go_enter Tryz.func96,Tryz.ntmps96;go_wp2;exact bodyPost_ret (v:=.agg #[F x.name,F x.site,F x.antenna,F x.radio,F x.band,I x.azimuth,I x.tilt,I x.above,I x.channel]) (by simp[results,Tryz.results96,go_sem]) rfl ⟨rfl,(((Below.refl _ _).alloc (Nat.le_refl _) _).alloc (by simp) _).alloc (by simp<;>omega) _⟩
theorem eq_Sector (x:DSector) (w:World) :
  Calls Tryz.prog 110 #[.agg #[F x.name,F x.site,F x.antenna,F x.radio,F x.band,I x.azimuth,I x.tilt,I x.above,I x.channel],.agg #[F x.name,F x.site,F x.antenna,F x.radio,F x.band,I x.azimuth,I x.tilt,I x.above,I x.channel]] w fun e w'=>e=.returned (.bool true)∧IJ w w w':=by
 go_enter Tryz.func110,Tryz.ntmps110;go_wp2;go_ret;exact⟨rfl,((Below.refl _ _).alloc (Nat.le_refl _) _).alloc (by simp) _⟩
theorem DSector.siz_s (l:List DSector):siz (DSector.sT l)=l.length+sizL (l.flatMap DSector.tr):=siz_flat DSector.tr 9 (by decide) DSector.tr_len l
theorem sz_SectorS (l:List DSector) (v:Value) (B:Nat) (left:Int) (w:World) (h:Rd B w (DSector.sT l) v) (hB:B≤w.heap.size) (hl:0≤left) (hl2:left≤1048576) (hstr:∀ x ∈ l,x.ok) :
  Calls Tryz.prog 37 #[v,I left] w (SzPost (siz (DSector.sT l)) left w):=by
 rw[DSector.siz_s];obtain⟨a,c,rfl,hnc,hcm,hcells⟩:=DSector.rd h;clear h;unfold maxLen at hcm
 by_cases c1:(l.length:Int)≤left
 ·have c1':decide (left-(l.length:Int)<0)=false:=by simp<;>omega
  go_enter Tryz.func37,Tryz.ntmps37;go_wp2;go_loopw [1,5] (fun m i wr=>∃ (k:Nat),k≤l.length∧i=I k∧(sizL ((l.take k).flatMap DSector.tr):Int)≤left-l.length∧m=I (left-l.length-sizL ((l.take k).flatMap DSector.tr))∧IJ w w wr) (fun _ i wr=>l.length-(intOf i).toNat)
  case atStart=>exact⟨0,Nat.zero_le _,rfl,by simp[sizL];omega,by simp[sizL],Below.refl _ _⟩
  case round =>
   obtain⟨k,hk,rfl,hm,rfl,hb⟩:=hrel
   by_cases hlt:k<l.length
   ·obtain⟨b,off,rfl,hbl,hat⟩:=hcells O
    obtain⟨s0,s1,s2,s3,s4,s5,s6,s7,s8⟩:=hat k hlt;rw[← hb.cell (p:=⟨b,_,none⟩) (show b<w.heap.size by omega)] at s0 s1 s2 s3 s4 s5 s6 s7 s8;have hB':B≤wr.heap.size:=by have:=hb.size;omega
    have hok:=hstr l[k] (List.getElem_mem hlt);have hsum:=zc7 DSector.tr l k hlt;have hle:=zdy DSector.tr l (k+1);have HS:=J hsum;have HB:=J hb;clear hcells hat hb hsum hstr;go_wp2_with (go_at_call 83;refine (sz_Sector l[k]  B _ _  hB' O O hok).mono ?_;rintro e w1 ⟨⟨c2,rfl⟩|⟨c2,rfl⟩,hb1⟩)
    ·have c3:decide (left-l.length-sizL ((l.take k).flatMap DSector.tr)-sizL l[k].tr<0)=false:=by simp<;>omega
     go_wp2;go_roundw
     case rel=>exact⟨k+1,O,by go_num,by rw[HS.out];omega,by rw[HS.out];go_num,HB.out.trans (hb1.mono HB.out.size)⟩
     case measure=>simp[intOf];omega
    ·go_wp2
     go_ret;exact⟨Or.inr ⟨by have:=HS.out;omega,rfl⟩,HB.out.trans (hb1.mono HB.out.size)⟩
   ·obtain rfl:k=l.length:=O
    clear hcells;rw[List.take_length] at hm;go_wp2;go_ret;refine⟨Or.inl ⟨O,zb8 ?_⟩,hb⟩;simp only[List.take_length];omega
 ·have c1':decide (left-(l.length:Int)<0)=true:=by simp<;>omega
  go_enter Tryz.func37,Tryz.ntmps37;go_wp2;go_ret;exact⟨Or.inr ⟨O,rfl⟩,Below.refl _ _⟩
theorem infoSector:(Tryz.prog.info? 105).map (fun i=>(i.zero,i.size,i.bytes))=some (some (.agg #[F ⟨#[]⟩,F ⟨#[]⟩,F ⟨#[]⟩,F ⟨#[]⟩,F ⟨#[]⟩,I 0,I 0,I 0,I 0]),9,112):=by kernel_rfl
theorem to_SectorS (l:List DSector) (v:Value) (w:World) (h:Rd w w (DSector.sT l) v) (hn:siz (DSector.sT l)≤1048576) :
  Calls Tryz.prog 48 #[v] w fun e w'=>∃ a' c' fp,e=.returned (II a' l.length c')∧IJ w w w'∧Own w' (DSector.sT l) (II a' l.length c') fp∧In w w'.heap.size fp:=by
 rw[DSector.siz_s] at hn;obtain⟨i0,hi0,hz0,hz1,hz2⟩:=info_parts infoSector;have hmk:=fun W=>zc0 (P:=Tryz.prog) 40 105 i0 _ Tryz.underlying40 hi0 hz0 .i64 .i64 l.length l.length (Nat.le_refl _) (by rw[hz2];omega) O W
 rw[hz1] at hmk;have hnb:(l.length:Int)≤1048576:=O
 obtain⟨a,c,rfl,hnc,hcm,hcells⟩:=DSector.rd h;clear h;go_enter Tryz.func48,Tryz.ntmps48;go_wp2;clear hmk hi0 hz0 hz1 hz2;go_loopw [4] (fun i wr=>∃ (k:Nat) (f:List Nat),k≤l.length∧i=I k∧IJ w w wr∧Fill wr w.heap.size 105 (l.length*9) ((l.take k).flatMap DSector.tr) f∧In w wr f) (fun i wr=>l.length-(intOf i).toNat)
 case atStart =>
  have hst:=Fill.start w (madeCells #[F ⟨#[]⟩,F ⟨#[]⟩,F ⟨#[]⟩,F ⟨#[]⟩,F ⟨#[]⟩,I 0,I 0,I 0,I 0] (l.length*9)) 105;rw[size_madeCells] at hst;exact⟨0,[],Nat.zero_le _,rfl,(Below.refl _ _).alloc (Nat.le_refl _) _,by simpa using hst,In.nil⟩
 case round =>
  obtain⟨k,f,hk,rfl,hb,hfill,hin⟩:=hrel
  by_cases hlt:k<l.length
  ·obtain⟨b,off,rfl,hbl,hat⟩:=hcells O
   obtain⟨s0,s1,s2,s3,s4,s5,s6,s7,s8⟩:=hat k hlt;rw[← hb.cell (p:=⟨b,_,none⟩) hbl] at s0 s1 s2 s3 s4 s5 s6 s7 s8;have hz:=hfill.lt;have hz2:b<wr.heap.size:=O
   obtain⟨o0,p0⟩:=hfill.room (k*9) O;obtain⟨o1,p1⟩:=hfill.room (k*9+1) O;obtain⟨o2,p2⟩:=hfill.room (k*9+2) O;obtain⟨o3,p3⟩:=hfill.room (k*9+3) O;obtain⟨o4,p4⟩:=hfill.room (k*9+4) O;obtain⟨o5,p5⟩:=hfill.room (k*9+5) O;obtain⟨o6,p6⟩:=hfill.room (k*9+6) O;obtain⟨o7,p7⟩:=hfill.room (k*9+7) O;obtain⟨o8,p8⟩:=hfill.room (k*9+8) O;have hfz:=hfill.open_;have hsl:=za3 DSector.tr l k hlt;have HB:=J hb;clear hcells hat hb;go_wp2_with (go_at_call 96;refine (to_Sector l[k] _).mono ?_;rintro e w1 ⟨rfl,hb1⟩;obtain⟨q1,q2⟩:=bcell hb1);go_roundw
   case rel =>
    have hw1:=hfill.below hin hb1;have hst:=hw1.step (us:=l[k].tr) (vs:=[F l[k].name,F l[k].site,F l[k].antenna,F l[k].radio,F l[k].band,I l[k].azimuth,I l[k].tilt,I l[k].above,I l[k].channel]) (g:=[]) (RepV.lits [F l[k].name,F l[k].site,F l[k].antenna,F l[k].radio,F l[k].band,I l[k].azimuth,I l[k].tilt,I l[k].above,I l[k].channel]) (by rw[zaw _ 9 DSector.tr_len];simp<;>omega) List.nodup_nil (by simp) (by simp) (fun b h=>by simp at h);rw[zaw _ 9 DSector.tr_len,List.length_take,Nat.min_eq_left hk,List.append_nil,← zch DSector.tr l k hlt] at hst;exact⟨k+1,f,O,by go_num,zd5 (HB.out.trans (hb1.mono O)) (Nat.le_refl _) [F l[k].name,F l[k].site,F l[k].antenna,F l[k].radio,F l[k].band,I l[k].azimuth,I l[k].tilt,I l[k].above,I l[k].channel] (k*9),hst,fun x hx=>⟨(hin x hx).1,by have:=(hin x hx).2;have:=hb1.size;simp only[zac];omega⟩⟩
   case measure=>simp[intOf];omega
  ·obtain rfl:k=l.length:=O
   clear hcells;go_wp2;go_ret;rw[List.take_length] at hfill;obtain⟨fp,h1,h2⟩:=hfill.own (zaw _ 9 DSector.tr_len l) (by unfold maxLen;omega);exact⟨_,_,fp,rfl,hb,h1,fun x hx=>by rcases h2 x hx with rfl|h;exact⟨Nat.le_refl _,hfill.lt⟩;exact hin x h⟩
theorem eq_SectorS (l:List DSector) (v v':Value) (B:Nat) (w:World) (h:Rd B w (DSector.sT l) v) (h':Rd B w (DSector.sT l) v') (hB:B≤w.heap.size) (hn:siz (DSector.sT l)≤1099511627776) :
  Calls Tryz.prog 61 #[v,v'] w fun e w'=>e=.returned (.bool true)∧IJ w w w':=by
 rw[DSector.siz_s] at hn;have hnb:(l.length:Int)≤1099511627776:=O
 obtain⟨a,c,rfl,hnc,hcm,hcells⟩:=DSector.rd h;obtain⟨a',c',rfl,hnc',hcm',hcells'⟩:=DSector.rd h';clear h h';have hne:((l.length:Int) != l.length)=false:=by simp
 go_enter Tryz.func61,Tryz.ntmps61;go_wp2;clear hne;go_loopw [5] (fun i wr=>∃ (k:Nat),k≤l.length∧i=I k∧IJ w w wr) (fun i wr=>l.length-(intOf i).toNat)
 case atStart=>exact⟨0,Nat.zero_le _,rfl,Below.refl _ _⟩
 case round =>
  obtain⟨k,hk,rfl,hb⟩:=hrel
  by_cases hlt:k<l.length
  ·obtain⟨b,off,rfl,hbl,hat⟩:=hcells O
   obtain⟨b',off',rfl,hbl',hat'⟩:=hcells' O;obtain⟨s0,s1,s2,s3,s4,s5,s6,s7,s8⟩:=hat k hlt;obtain⟨sb0,sb1,sb2,sb3,sb4,sb5,sb6,sb7,sb8⟩:=hat' k hlt;rw[← hb.cell (p:=⟨b,_,none⟩) (show b<w.heap.size by omega)] at s0 s1 s2 s3 s4 s5 s6 s7 s8;rw[← hb.cell (p:=⟨b',_,none⟩) (show b' < w.heap.size by omega)] at sb0 sb1 sb2 sb3 sb4 sb5 sb6 sb7 sb8;have hB':B≤wr.heap.size:=by have:=hb.size;omega
   have hsl:=za3 DSector.tr l k hlt;have i1:(0:Int)≤(k:Int):=O
   have i2:(k:Int)<(l.length:Int):=O
   have HB:=J hb;clear hcells hat hcells' hat' hb;go_wp2
   go_still_tail 8,OJ
   change wpList _ _ _ _ _ wr.drew
   go_wp2_with (go_at_call 110;refine (eq_Sector l[k]   _  ).mono ?_;rintro e w1 ⟨rfl,hb1⟩);go_roundw
   case rel=>exact⟨k+1,O,by go_num,HB.out.drew.trans (hb1.mono HB.out.size)⟩
   case measure=>simp[intOf];omega
  ·obtain rfl:k=l.length:=O
   clear hcells hcells';go_wp2;go_ret;exact⟨rfl,hb⟩
theorem DSector.mk_tr (x:DSector) (K:Nat):mkL x.tr K = [.lit (F (zc8 (K))),.lit (F (zc8 (K+1))),.lit (F (zc8 (K+1+1))),.lit (F (zc8 (K+1+1+1))),.lit (F (zc8 (K+1+1+1+1))),.lit (I ((K:Int)+1+1+1+1+1)),.lit (I ((K:Int)+1+1+1+1+1+1)),.lit (I ((K:Int)+1+1+1+1+1+1+1)),.lit (I ((K:Int)+1+1+1+1+1+1+1+1))]:=rfl
theorem DSector.cntL_tr (x:DSector):cntL x.tr=1+1+1+1+1+1+1+1+1:=by rfl
theorem mark_SectorS (l:List DSector) (v:Value) (fp:List Nat) (k0 lo:Nat) (w:World) (h:Own w (DSector.sT l) v fp) (hin:In lo w fp) (hs:siz (DSector.sT l)≤1099511627776) (hk0:k0+cnt (DSector.sT l)≤1099511627776) (hk1:0<k0) :
  Calls Tryz.prog 65 #[v,I k0] w fun e w'=>e=.returned (I ((k0+cnt (DSector.sT l):Nat):Int))∧Own w' (mkT (DSector.sT l) k0) v fp∧Chg fp w w':=by
 rw[DSector.siz_s] at hs;obtain⟨a,c,hv,hnc,hcm⟩:=h.form (k:=9) (g:=DSector.tr) (by decide) DSector.tr_len;subst hv;rw[show cnt (DSector.sT l)=cntL (l.flatMap DSector.tr) from by rw[DSector.sT,cnt]] at hk0 ⊢;have hnb:(l.length:Int)≤1099511627776:=O
 go_enter Tryz.func65,Tryz.ntmps65;go_wp2;go_loopw [1,5] (fun kk i wr=>∃ (j K:Nat),j≤l.length∧i=I j∧K=k0+cntL ((l.take j).flatMap DSector.tr)∧kk=I (K:Int)∧Own wr (mid DSector.tr 9 l k0 j) (II a l.length c) fp∧Chg fp w wr) (fun _ i wr=>l.length-(intOf i).toNat)
 case atStart=>exact⟨0,k0,Nat.zero_le _,rfl,by simp[cntL],rfl,by rw[mid_zero];exact h,Chg.refl _ _⟩
 case round =>
  obtain⟨j,K,hj,rfl,hK,rfl,hown,hchg⟩:=hrel
  by_cases hlt:j<l.length
  ·rw[mid_at _ _ _ _ _ hlt] at hown
   have hts:(mkL ((l.take j).flatMap DSector.tr) k0).length=j*9:=by rw[zb6,zaw _ 9 DSector.tr_len,List.length_take,Nat.min_eq_left hj]
   have hsum:=zda DSector.tr l j hlt;have hle:=zcm DSector.tr l (j+1);have hcx:=DSector.cntL_tr l[j];have hkb:K+(1+1+1+1+1+1+1+1+1)≤1099511627776:=O
   have hkp:0<K:=O
   have hszj:=za3 DSector.tr l j hlt;have HM:=J (mid_succ DSector.tr 9 l k0 j hlt);have HS:=J hsum;have HK:=J hK;have HC:=J hcx;have HT:=J hts;clear hsum hcx hle hK hts;generalize mkL ((l.take j).flatMap DSector.tr) k0=TS at *;generalize (l.drop (j+1)).flatMap DSector.tr=US at *;have hin':In lo wr fp:=hin.mono (Nat.le_refl _) hchg.size;have o0:Own wr (.sl 9 (TS++([.lit (F l[j].name),.lit (F l[j].site),.lit (F l[j].antenna),.lit (F l[j].radio),.lit (F l[j].band),.lit (I l[j].azimuth),.lit (I l[j].tilt),.lit (I l[j].above),.lit (I l[j].channel)]++US))) (II a l.length c) fp:=hown;clear hown;obtain⟨b,off,rfl,hbf⟩:=o0.someAddr;have hbw:=(hin' b hbf).2;have hfz:∀ i,wr.frozen? ⟨b,i,none⟩=false:=o0.free b hbf;have z0:wr.heap.size≤wr.heap.size:=Nat.le_refl _;obtain⟨s0,_⟩:=o0.cellChunk 0 _ rfl (off+j*9) (by rw[HT.out];omega);obtain⟨s1,_⟩:=o0.cellChunk 1 _ rfl (off+j*9+1) (by rw[HT.out];omega);obtain⟨s2,_⟩:=o0.cellChunk 2 _ rfl (off+j*9+2) (by rw[HT.out];omega);obtain⟨s3,_⟩:=o0.cellChunk 3 _ rfl (off+j*9+3) (by rw[HT.out];omega);obtain⟨s4,_⟩:=o0.cellChunk 4 _ rfl (off+j*9+4) (by rw[HT.out];omega);obtain⟨s5,_⟩:=o0.cellChunk 5 _ rfl (off+j*9+5) (by rw[HT.out];omega);obtain⟨s6,_⟩:=o0.cellChunk 6 _ rfl (off+j*9+6) (by rw[HT.out];omega);obtain⟨s7,_⟩:=o0.cellChunk 7 _ rfl (off+j*9+7) (by rw[HT.out];omega);obtain⟨s8,_⟩:=o0.cellChunk 8 _ rfl (off+j*9+8) (by rw[HT.out];omega);have O0:=J o0;have C0:=J hchg;clear o0 hchg;go_wp2_with fail;refine (zcc _ _ O O).mono ?_;rintro e w1 ⟨rfl,hb1⟩;obtain⟨qa1,qb1,hbw1⟩:=zah hb1 (b:=b) (by first|omega|(simp only[zac];omega));have z1:wr.heap.size≤w1.heap.size:=by have:=hb1.size;(try simp only[zac] at this);omega
   have O1:=J ((O0.out.below hin' (by first|omega|(simp only[zac];omega)) hb1).setChunk 0 _ rfl (off+j*9) (by rw[HT.out];omega) (F (zc8 (K))));have C1:=J ((C0.out.trans (Chg.of_below hb1)).setCell (p:=⟨b,off+j*9,none⟩) hbf (F (zc8 (K))));go_wp2_with fail;refine (zcc _ _ O O).mono ?_;rintro e w2 ⟨rfl,hb2⟩;obtain⟨qa2,qb2,hbw2⟩:=zah hb2 (b:=b) (by first|omega|(simp only[zac];omega));have z2:wr.heap.size≤w2.heap.size:=by have:=hb2.size;(try simp only[zac] at this);omega
   have O2:=J ((O1.out.below hin' (by first|omega|(simp only[zac];omega)) hb2).setChunk 1 _ rfl (off+j*9+1) (by rw[HT.out];omega) (F (zc8 (K+1))));have C2:=J ((C1.out.trans (Chg.of_below hb2)).setCell (p:=⟨b,off+j*9+1,none⟩) hbf (F (zc8 (K+1))));go_wp2_with fail;refine (zcc _ _ O O).mono ?_;rintro e w3 ⟨rfl,hb3⟩;obtain⟨qa3,qb3,hbw3⟩:=zah hb3 (b:=b) (by first|omega|(simp only[zac];omega));have z3:wr.heap.size≤w3.heap.size:=by have:=hb3.size;(try simp only[zac] at this);omega
   have O3:=J ((O2.out.below hin' (by first|omega|(simp only[zac];omega)) hb3).setChunk 2 _ rfl (off+j*9+2) (by rw[HT.out];omega) (F (zc8 (K+1+1))));have C3:=J ((C2.out.trans (Chg.of_below hb3)).setCell (p:=⟨b,off+j*9+2,none⟩) hbf (F (zc8 (K+1+1))));go_wp2_with fail;refine (zcc _ _ O O).mono ?_;rintro e w4 ⟨rfl,hb4⟩;obtain⟨qa4,qb4,hbw4⟩:=zah hb4 (b:=b) (by first|omega|(simp only[zac];omega));have z4:wr.heap.size≤w4.heap.size:=by have:=hb4.size;(try simp only[zac] at this);omega
   have O4:=J ((O3.out.below hin' (by first|omega|(simp only[zac];omega)) hb4).setChunk 3 _ rfl (off+j*9+3) (by rw[HT.out];omega) (F (zc8 (K+1+1+1))));have C4:=J ((C3.out.trans (Chg.of_below hb4)).setCell (p:=⟨b,off+j*9+3,none⟩) hbf (F (zc8 (K+1+1+1))));go_wp2_with fail;refine (zcc _ _ O O).mono ?_;rintro e w5 ⟨rfl,hb5⟩;obtain⟨qa5,qb5,hbw5⟩:=zah hb5 (b:=b) (by first|omega|(simp only[zac];omega));have z5:wr.heap.size≤w5.heap.size:=by have:=hb5.size;(try simp only[zac] at this);omega
   have O5:=J ((O4.out.below hin' (by first|omega|(simp only[zac];omega)) hb5).setChunk 4 _ rfl (off+j*9+4) (by rw[HT.out];omega) (F (zc8 (K+1+1+1+1))));have C5:=J ((C4.out.trans (Chg.of_below hb5)).setCell (p:=⟨b,off+j*9+4,none⟩) hbf (F (zc8 (K+1+1+1+1))));have O6:=J (O5.out.setChunk 5 _ rfl (off+j*9+5) (by rw[HT.out];omega) (I ((K:Int)+1+1+1+1+1)));have C6:=J (C5.out.setCell (p:=⟨b,off+j*9+5,none⟩) hbf (I ((K:Int)+1+1+1+1+1)));have O7:=J (O6.out.setChunk 6 _ rfl (off+j*9+6) (by rw[HT.out];omega) (I ((K:Int)+1+1+1+1+1+1)));have C7:=J (C6.out.setCell (p:=⟨b,off+j*9+6,none⟩) hbf (I ((K:Int)+1+1+1+1+1+1)));have O8:=J (O7.out.setChunk 7 _ rfl (off+j*9+7) (by rw[HT.out];omega) (I ((K:Int)+1+1+1+1+1+1+1)));have C8:=J (C7.out.setCell (p:=⟨b,off+j*9+7,none⟩) hbf (I ((K:Int)+1+1+1+1+1+1+1)));have O9:=J (O8.out.setChunk 8 _ rfl (off+j*9+8) (by rw[HT.out];omega) (I ((K:Int)+1+1+1+1+1+1+1+1)));have C9:=J (C8.out.setCell (p:=⟨b,off+j*9+8,none⟩) hbf (I ((K:Int)+1+1+1+1+1+1+1+1)));go_wp2;go_roundw
   case rel =>
    refine⟨j+1,K+(1+1+1+1+1+1+1+1+1),O,by go_num,by have:=HK.out;have:=HS.out;have:=HC.out;omega,by go_num,?_,C9.out⟩;rw[HM.out,← HK.out,DSector.mk_tr];exact O9.out
   case measure=>simp[intOf];omega
  ·obtain rfl:j=l.length:=O
   have HK:=J hK;clear hK;go_wp2;go_ret;rw[mid_end] at hown;have e:=HK.out;rw[List.take_length] at e;exact⟨zb8 O,hown,hchg⟩
theorem markI_SectorS (l:List DSector) (v:Value) (fp:List Nat) (k lo:Nat) (K:Int) (w:World) (h:Own w (DSector.sT l) v fp) (hin:In lo w fp) (hs:siz (DSector.sT l)≤1099511627776) (hK:K=(k:Int)) (hk0:k+cnt (DSector.sT l)≤1099511627776) (hk1:0<k) :
  Calls Tryz.prog 65 #[v,I K] w fun e w'=>e=.returned (I (K+(cnt (DSector.sT l):Int)))∧Own w' (mkT (DSector.sT l) k) v fp∧Chg fp w w':=by
 subst hK;refine (mark_SectorS l v fp k lo w h hin hs hk0 hk1).mono fun e w' ⟨he,h1,h2⟩=>⟨?_,h1,h2⟩
 rw[he,Int.natCast_add]
set_option maxHeartbeats 4000000
set_option maxRecDepth 100000
theorem to_Mode (x:DMode) (w:World) :
  Calls Tryz.prog 184 #[.agg #[I x.need,I x.rate]] w fun e w'=>e=.returned (.agg #[I x.need,I x.rate])∧IJ w w w':=by
 go_enter Tryz.func184,Tryz.ntmps184;go_wp2;exact bodyPost_ret (v:=.agg #[I x.need,I x.rate]) (by simp[results,Tryz.results184,go_sem]) rfl ⟨rfl,(((Below.refl _ _).alloc (Nat.le_refl _) _).alloc (by simp) _).alloc (by simp<;>omega) _⟩
theorem eq_Mode (x:DMode) (w:World) :
  Calls Tryz.prog 188 #[.agg #[I x.need,I x.rate],.agg #[I x.need,I x.rate]] w fun e w'=>e=.returned (.bool true)∧IJ w w w':=by
 go_enter Tryz.func188,Tryz.ntmps188;go_wp2;go_ret;exact⟨rfl,((Below.refl _ _).alloc (Nat.le_refl _) _).alloc (by simp) _⟩
theorem DMode.siz_s (l:List DMode):siz (DMode.sT l)=l.length+sizL (l.flatMap DMode.tr):=siz_flat DMode.tr 2 (by decide) DMode.tr_len l
theorem DMode.siz_tr (x:DMode):sizL x.tr=0:=by simp[DMode.tr,sizL,siz,intT]
theorem DMode.sizL_s (l:List DMode):sizL (l.flatMap DMode.tr)=0:=by
 induction l with
 | nil=>rfl
 | cons x l ih=>rw[List.flatMap_cons,zfd,ih,DMode.siz_tr]
theorem sz_ModeS (l:List DMode) (v:Value) (B:Nat) (left:Int) (w:World) (h:Rd B w (DMode.sT l) v) (hB:B≤w.heap.size) (hl:0≤left) (hl2:left≤1048576) :
  Calls Tryz.prog 127 #[v,I left] w (SzPost (siz (DMode.sT l)) left w):=by
 rw[DMode.siz_s,DMode.sizL_s];obtain⟨a,c,rfl,hnc,hcm,_⟩:=DMode.rd h;clear h;unfold maxLen at hcm;go_enter Tryz.func127,Tryz.ntmps127;go_wp2
 all_goals go_ret
 all_goals first|exact⟨Or.inl ⟨O,zb8 O⟩,Below.refl _ _⟩|exact⟨Or.inr ⟨O,rfl⟩,Below.refl _ _⟩
theorem infoMode:(Tryz.prog.info? 200).map (fun i=>(i.zero,i.size,i.bytes))=some (some (.agg #[I 0,I 0]),2,16):=by kernel_rfl
theorem to_ModeS (l:List DMode) (v:Value) (w:World) (h:Rd w w (DMode.sT l) v) (hn:siz (DMode.sT l)≤1048576) :
  Calls Tryz.prog 136 #[v] w fun e w'=>∃ a' c' fp,e=.returned (II a' l.length c')∧IJ w w w'∧Own w' (DMode.sT l) (II a' l.length c') fp∧In w w'.heap.size fp:=by
 rw[DMode.siz_s] at hn;obtain⟨i0,hi0,hz0,hz1,hz2⟩:=info_parts infoMode;have hmk:=fun W=>zc0 (P:=Tryz.prog) 151 200 i0 _ Tryz.underlying151 hi0 hz0 .i64 .i64 l.length l.length (Nat.le_refl _) (by rw[hz2];omega) O W
 rw[hz1] at hmk;have hnb:(l.length:Int)≤1048576:=O
 obtain⟨a,c,rfl,hnc,hcm,hcells⟩:=DMode.rd h;clear h;go_enter Tryz.func136,Tryz.ntmps136;go_wp2;clear hmk hi0 hz0 hz1 hz2;go_loopw [4] (fun i wr=>∃ (k:Nat) (f:List Nat),k≤l.length∧i=I k∧IJ w w wr∧Fill wr w.heap.size 200 (l.length*2) ((l.take k).flatMap DMode.tr) f∧In w wr f) (fun i wr=>l.length-(intOf i).toNat)
 case atStart =>
  have hst:=Fill.start w (madeCells #[I 0,I 0] (l.length*2)) 200;rw[size_madeCells] at hst;exact⟨0,[],Nat.zero_le _,rfl,(Below.refl _ _).alloc (Nat.le_refl _) _,by simpa using hst,In.nil⟩
 case round =>
  obtain⟨k,f,hk,rfl,hb,hfill,hin⟩:=hrel
  by_cases hlt:k<l.length
  ·obtain⟨b,off,rfl,hbl,hat⟩:=hcells O
   obtain⟨s0,s1⟩:=hat k hlt;rw[← hb.cell (p:=⟨b,_,none⟩) hbl] at s0 s1;have hz:=hfill.lt;have hz2:b<wr.heap.size:=O
   obtain⟨o0,p0⟩:=hfill.room (k*2) O;obtain⟨o1,p1⟩:=hfill.room (k*2+1) O;have hfz:=hfill.open_;have hsl:=za3 DMode.tr l k hlt;have HB:=J hb;clear hcells hat hb;go_wp2_with (go_at_call 184;refine (to_Mode l[k] _).mono ?_;rintro e w1 ⟨rfl,hb1⟩;obtain⟨q1,q2⟩:=bcell hb1);go_roundw
   case rel =>
    have hw1:=hfill.below hin hb1;have hst:=hw1.step (us:=l[k].tr) (vs:=[I l[k].need,I l[k].rate]) (g:=[]) (RepV.lits [I l[k].need,I l[k].rate]) (by rw[zaw _ 2 DMode.tr_len];simp<;>omega) List.nodup_nil (by simp) (by simp) (fun b h=>by simp at h);rw[zaw _ 2 DMode.tr_len,List.length_take,Nat.min_eq_left hk,List.append_nil,← zch DMode.tr l k hlt] at hst;exact⟨k+1,f,O,by go_num,zd5 (HB.out.trans (hb1.mono O)) (Nat.le_refl _) [I l[k].need,I l[k].rate] (k*2),hst,fun x hx=>⟨(hin x hx).1,by have:=(hin x hx).2;have:=hb1.size;simp only[zac];omega⟩⟩
   case measure=>simp[intOf];omega
  ·obtain rfl:k=l.length:=O
   clear hcells;go_wp2;go_ret;rw[List.take_length] at hfill;obtain⟨fp,h1,h2⟩:=hfill.own (zaw _ 2 DMode.tr_len l) (by unfold maxLen;omega);exact⟨_,_,fp,rfl,hb,h1,fun x hx=>by rcases h2 x hx with rfl|h;exact⟨Nat.le_refl _,hfill.lt⟩;exact hin x h⟩
theorem eq_ModeS (l:List DMode) (v v':Value) (B:Nat) (w:World) (h:Rd B w (DMode.sT l) v) (h':Rd B w (DMode.sT l) v') (hB:B≤w.heap.size) (hn:siz (DMode.sT l)≤1099511627776) :
  Calls Tryz.prog 147 #[v,v'] w fun e w'=>e=.returned (.bool true)∧IJ w w w':=by
 rw[DMode.siz_s] at hn;have hnb:(l.length:Int)≤1099511627776:=O
 obtain⟨a,c,rfl,hnc,hcm,hcells⟩:=DMode.rd h;obtain⟨a',c',rfl,hnc',hcm',hcells'⟩:=DMode.rd h';clear h h';have hne:((l.length:Int) != l.length)=false:=by simp
 go_enter Tryz.func147,Tryz.ntmps147;go_wp2;clear hne;go_loopw [5] (fun i wr=>∃ (k:Nat),k≤l.length∧i=I k∧IJ w w wr) (fun i wr=>l.length-(intOf i).toNat)
 case atStart=>exact⟨0,Nat.zero_le _,rfl,Below.refl _ _⟩
 case round =>
  obtain⟨k,hk,rfl,hb⟩:=hrel
  by_cases hlt:k<l.length
  ·obtain⟨b,off,rfl,hbl,hat⟩:=hcells O
   obtain⟨b',off',rfl,hbl',hat'⟩:=hcells' O;obtain⟨s0,s1⟩:=hat k hlt;obtain⟨sb0,sb1⟩:=hat' k hlt;rw[← hb.cell (p:=⟨b,_,none⟩) (show b<w.heap.size by omega)] at s0 s1;rw[← hb.cell (p:=⟨b',_,none⟩) (show b' < w.heap.size by omega)] at sb0 sb1;have hB':B≤wr.heap.size:=by have:=hb.size;omega
   have hsl:=za3 DMode.tr l k hlt;have i1:(0:Int)≤(k:Int):=O
   have i2:(k:Int)<(l.length:Int):=O
   have HB:=J hb;clear hcells hat hcells' hat' hb;go_wp2
   go_still_tail 8,OJ
   change wpList _ _ _ _ _ wr.drew
   go_wp2_with (go_at_call 188;refine (eq_Mode l[k]   _  ).mono ?_;rintro e w1 ⟨rfl,hb1⟩);go_roundw
   case rel=>exact⟨k+1,O,by go_num,HB.out.drew.trans (hb1.mono HB.out.size)⟩
   case measure=>simp[intOf];omega
  ·obtain rfl:k=l.length:=O
   clear hcells hcells';go_wp2;go_ret;exact⟨rfl,hb⟩
theorem DMode.mk_tr (x:DMode) (K:Nat):mkL x.tr K = [.lit (I ((K:Int))),.lit (I ((K:Int)+1))]:=rfl
theorem DMode.cntL_tr (x:DMode):cntL x.tr=1+1:=by rfl
theorem mark_ModeS (l:List DMode) (v:Value) (fp:List Nat) (k0 lo:Nat) (w:World) (h:Own w (DMode.sT l) v fp) (hin:In lo w fp) (hs:siz (DMode.sT l)≤1099511627776) (hk0:k0+cnt (DMode.sT l)≤1099511627776) (hk1:0<k0) :
  Calls Tryz.prog 113 #[v,I k0] w fun e w'=>e=.returned (I ((k0+cnt (DMode.sT l):Nat):Int))∧Own w' (mkT (DMode.sT l) k0) v fp∧Chg fp w w':=by
 rw[DMode.siz_s] at hs;obtain⟨a,c,hv,hnc,hcm⟩:=h.form (k:=2) (g:=DMode.tr) (by decide) DMode.tr_len;subst hv;rw[show cnt (DMode.sT l)=cntL (l.flatMap DMode.tr) from by rw[DMode.sT,cnt]] at hk0 ⊢;have hnb:(l.length:Int)≤1099511627776:=O
 go_enter Tryz.func113,Tryz.ntmps113;go_wp2;go_loopw [1,5] (fun kk i wr=>∃ (j K:Nat),j≤l.length∧i=I j∧K=k0+cntL ((l.take j).flatMap DMode.tr)∧kk=I (K:Int)∧Own wr (mid DMode.tr 2 l k0 j) (II a l.length c) fp∧Chg fp w wr) (fun _ i wr=>l.length-(intOf i).toNat)
 case atStart=>exact⟨0,k0,Nat.zero_le _,rfl,by simp[cntL],rfl,by rw[mid_zero];exact h,Chg.refl _ _⟩
 case round =>
  obtain⟨j,K,hj,rfl,hK,rfl,hown,hchg⟩:=hrel
  by_cases hlt:j<l.length
  ·rw[mid_at _ _ _ _ _ hlt] at hown
   have hts:(mkL ((l.take j).flatMap DMode.tr) k0).length=j*2:=by rw[zb6,zaw _ 2 DMode.tr_len,List.length_take,Nat.min_eq_left hj]
   have hsum:=zda DMode.tr l j hlt;have hle:=zcm DMode.tr l (j+1);have hcx:=DMode.cntL_tr l[j];have hkb:K+(1+1)≤1099511627776:=O
   have hkp:0<K:=O
   have hszj:=za3 DMode.tr l j hlt;have HM:=J (mid_succ DMode.tr 2 l k0 j hlt);have HS:=J hsum;have HK:=J hK;have HC:=J hcx;have HT:=J hts;clear hsum hcx hle hK hts;generalize mkL ((l.take j).flatMap DMode.tr) k0=TS at *;generalize (l.drop (j+1)).flatMap DMode.tr=US at *;have hin':In lo wr fp:=hin.mono (Nat.le_refl _) hchg.size;have o0:Own wr (.sl 2 (TS++([.lit (I l[j].need),.lit (I l[j].rate)]++US))) (II a l.length c) fp:=hown;clear hown;obtain⟨b,off,rfl,hbf⟩:=o0.someAddr;have hbw:=(hin' b hbf).2;have hfz:∀ i,wr.frozen? ⟨b,i,none⟩=false:=o0.free b hbf;have z0:wr.heap.size≤wr.heap.size:=Nat.le_refl _;obtain⟨s0,_⟩:=o0.cellChunk 0 _ rfl (off+j*2) (by rw[HT.out];omega);obtain⟨s1,_⟩:=o0.cellChunk 1 _ rfl (off+j*2+1) (by rw[HT.out];omega);have O0:=J o0;have C0:=J hchg;clear o0 hchg;have O1:=J (O0.out.setChunk 0 _ rfl (off+j*2) (by rw[HT.out];omega) (I ((K:Int))));have C1:=J (C0.out.setCell (p:=⟨b,off+j*2,none⟩) hbf (I ((K:Int))));have O2:=J (O1.out.setChunk 1 _ rfl (off+j*2+1) (by rw[HT.out];omega) (I ((K:Int)+1)));have C2:=J (C1.out.setCell (p:=⟨b,off+j*2+1,none⟩) hbf (I ((K:Int)+1)));go_wp2;go_roundw
   case rel =>
    refine⟨j+1,K+(1+1),O,by go_num,by have:=HK.out;have:=HS.out;have:=HC.out;omega,by go_num,?_,C2.out⟩;rw[HM.out,← HK.out,DMode.mk_tr];exact O2.out
   case measure=>simp[intOf];omega
  ·obtain rfl:j=l.length:=O
   have HK:=J hK;clear hK;go_wp2;go_ret;rw[mid_end] at hown;have e:=HK.out;rw[List.take_length] at e;exact⟨zb8 O,hown,hchg⟩
theorem markI_ModeS (l:List DMode) (v:Value) (fp:List Nat) (k lo:Nat) (K:Int) (w:World) (h:Own w (DMode.sT l) v fp) (hin:In lo w fp) (hs:siz (DMode.sT l)≤1099511627776) (hK:K=(k:Int)) (hk0:k+cnt (DMode.sT l)≤1099511627776) (hk1:0<k) :
  Calls Tryz.prog 113 #[v,I K] w fun e w'=>e=.returned (I (K+(cnt (DMode.sT l):Int)))∧Own w' (mkT (DMode.sT l) k) v fp∧Chg fp w w':=by
 subst hK;refine (mark_ModeS l v fp k lo w h hin hs hk0 hk1).mono fun e w' ⟨he,h1,h2⟩=>⟨?_,h1,h2⟩
 rw[he,Int.natCast_add]
set_option maxHeartbeats 4000000
set_option maxRecDepth 100000
theorem DRaster.siz_tr (x:DRaster):sizL x.tr=siz (zai x.server)+siz (zai x.level):=by
 simp only[DRaster.tr,sizL,siz,intT];omega
theorem eq_Raster (x:DRaster) (v3 u3 v4 u4:Value) (B:Nat) (w:World) (h3:Rd B w (zai x.server) v3) (g3:Rd B w (zai x.server) u3) (h4:Rd B w (zai x.level) v4) (g4:Rd B w (zai x.level) u4) (hB:B≤w.heap.size) (hn:sizL x.tr≤1099511627776) :
  Calls Tryz.prog 12 #[.agg #[I x.step,I x.width,I x.height,v3,v4],.agg #[I x.step,I x.width,I x.height,u3,u4]] w fun e w'=>e=.returned (.bool true)∧IJ w w w':=by
 have hsum:=DRaster.siz_tr x;have b0:IJ w w ((w.alloc (.cells #[I x.step,I x.width,I x.height,v3,v4] 34)).alloc (.cells #[I x.step,I x.width,I x.height,u3,u4] 34)):=((Below.refl _ _).alloc (Nat.le_refl _) _).alloc (by simp) _;have B0:=J b0;have y0:w.heap.size+2≤((w.alloc (.cells #[I x.step,I x.width,I x.height,v3,v4] 34)).alloc (.cells #[I x.step,I x.width,I x.height,u3,u4] 34)).heap.size:=by first|(simp;done)|(simp<;>omega)
 clear b0;go_enter Tryz.func12,Tryz.ntmps12;go_wp2_with fail;refine (zfa x.server v3 u3 B _ (h3.below (B0.out.mono hB)) (g3.below (B0.out.mono hB)) O O).mono ?_;rintro e w1 ⟨rfl,hb1⟩;obtain⟨qa1,_,ya1⟩:=zah hb1 (b:=w.heap.size) O;obtain⟨qb1,_,yb1⟩:=zah hb1 (b:=w.heap.size+1) O;have y1:w.heap.size+2≤w1.heap.size:=by have:=hb1.size;omega
 have B1:=J (B0.out.trans (hb1.mono O));clear hb1;go_wp2_with fail;refine (zfa x.level v4 u4 B _ (h4.below (B1.out.mono hB)) (g4.below (B1.out.mono hB)) O O).mono ?_;rintro e w2 ⟨rfl,hb2⟩;obtain⟨qa2,_,ya2⟩:=zah hb2 (b:=w.heap.size) O;obtain⟨qb2,_,yb2⟩:=zah hb2 (b:=w.heap.size+1) O;have y2:w.heap.size+2≤w2.heap.size:=by have:=hb2.size;omega
 have B2:=J (B1.out.trans (hb2.mono O));clear hb2;go_wp2;go_ret;exact⟨rfl,B2.out⟩
theorem mark_Raster (x:DRaster) (v3 v4:Value) (f3 f4:List Nat) (k0 l3 m3 l4 m4:Nat) (w:World) (o3:Own w (zai x.server) v3 f3) (i3:In l3 m3 f3) (n3:m3≤w.heap.size) (o4:Own w (zai x.level) v4 f4) (i4:In l4 m4 f4) (n4:m4≤w.heap.size) (d3_4:∀ y ∈ f3,y ∉ f4) (hs:sizL x.tr≤1099511627776) (hk0:k0+cnt (zai x.server)+cnt (zai x.level)≤1099511627776) (hk1:0<k0) :
  Calls Tryz.prog 17 #[.agg #[I x.step,I x.width,I x.height,v3,v4],I k0] w fun e w'=>e=.returned (I ((k0+cnt (zai x.server)+cnt (zai x.level):Nat):Int))∧Own w' (mkT (zai x.server) (k0)) v3 f3∧Own w' (mkT (zai x.level) (k0+cnt (zai x.server))) v4 f4∧Chg (f3++f4) w w':=by
 have hsum:=DRaster.siz_tr x;have b0:IJ w w (w.alloc (.cells #[I x.step,I x.width,I x.height,v3,v4] 34)):=(Below.refl _ _).alloc (Nat.le_refl _) _;have C0:=J (Chg.of_below (fp:=(f3++f4)) b0);have y0:w.heap.size<(w.alloc (.cells #[I x.step,I x.width,I x.height,v3,v4] 34)).heap.size:=by simp
 have O0_3:=J (o3.below i3 n3 b0);have O0_4:=J (o4.below i4 n4 b0);clear b0 o3 o4;go_enter Tryz.func17,Tryz.ntmps17;go_wp2_with fail;refine (zdg x.server v3 f3 (k0) l3 _ _ O0_3.out (i3.mono (Nat.le_refl _) O) O (by first|rfl|simp only[Int.natCast_add]) O O).mono ?_;rintro e w1 ⟨rfl,p3,c1⟩;have y1:w.heap.size<w1.heap.size:=by have:=c1.size;omega
 have hk1c:∀ q,w1.cell? ⟨w.heap.size,q,none⟩=_:=fun q=>World.cell?_of_block (a:=⟨w.heap.size,q,none⟩) (c1.block w.heap.size y0 (fun e=>by have:=(i3 _ e).2;omega))
 have C1:=J (C0.out.trans (c1.mono (fun y hy=>by simp[hy])));have O1_3:=J p3;have O1_4:=J (O0_4.out.chg i4 O c1 (fun y hy e=>d3_4 y e hy));clear c1 p3;go_wp2_with fail;refine (zdg x.level v4 f4 (k0+cnt (zai x.server)) l4 _ _ O1_4.out (i4.mono (Nat.le_refl _) O) O (by first|rfl|simp only[Int.natCast_add]) O O).mono ?_;rintro e w2 ⟨rfl,p4,c2⟩;have y2:w.heap.size<w2.heap.size:=by have:=c2.size;omega
 have hk2c:∀ q,w2.cell? ⟨w.heap.size,q,none⟩=_:=fun q=>World.cell?_of_block (a:=⟨w.heap.size,q,none⟩) (c2.block w.heap.size y1 (fun e=>by have:=(i4 _ e).2;omega))
 have C2:=J (C1.out.trans (c2.mono (fun y hy=>by simp[hy])));have O2_3:=J (O1_3.out.chg i3 O c2 (fun y hy e=>d3_4 y hy e));have O2_4:=J p4;clear c2 p4;go_wp2;go_ret;exact⟨zb8 (by simp only[Int.natCast_add]),O2_3.out,O2_4.out,C2.out⟩
theorem held_Raster (x:DRaster) (v3 v4:Value) (B k0:Nat) (w:World) (h3:Rd B w (mkT (zai x.server) (k0)) v3) (h4:Rd B w (mkT (zai x.level) (k0+cnt (zai x.server))) v4) (hB:B≤w.heap.size) (hs:sizL x.tr≤1099511627776) (hk0:k0+cnt (zai x.server)+cnt (zai x.level)≤1099511627776) (hk1:0<k0) :
  Calls Tryz.prog 18 #[.agg #[I x.step,I x.width,I x.height,v3,v4],I k0] w fun e w'=>e=.returned (I ((k0+cnt (zai x.server)+cnt (zai x.level):Nat):Int))∧IJ w w w':=by
 have hsum:=DRaster.siz_tr x;have b0:IJ w w (w.alloc (.cells #[I x.step,I x.width,I x.height,v3,v4] 34)):=(Below.refl _ _).alloc (Nat.le_refl _) _;have B0:=J b0;have y0:w.heap.size<(w.alloc (.cells #[I x.step,I x.width,I x.height,v3,v4] 34)).heap.size:=by simp
 clear b0;go_enter Tryz.func18,Tryz.ntmps18;go_wp2_with fail;refine (heldI_Int64S x.server v3 B (k0) _ _ (h3.below (B0.out.mono hB)) O O (by first|rfl|simp only[Int.natCast_add]) O O).mono ?_;rintro e w1 ⟨rfl,hb1⟩;obtain⟨q1,_,y1⟩:=zah hb1 (b:=w.heap.size) y0;have B1:=J (B0.out.trans (hb1.mono O));clear hb1;go_wp2_with fail;refine (heldI_Int64S x.level v4 B (k0+cnt (zai x.server)) _ _ (h4.below (B1.out.mono hB)) O O (by first|rfl|simp only[Int.natCast_add]) O O).mono ?_;rintro e w2 ⟨rfl,hb2⟩;obtain⟨q2,_,y2⟩:=zah hb2 (b:=w.heap.size) y1;have B2:=J (B1.out.trans (hb2.mono O));clear hb2;go_wp2;go_ret;exact⟨zb8 (by simp only[Int.natCast_add]),B2.out⟩
theorem zep {α:Type} (g:α→List Tr) (k K:Nat) (hk:0<k) (hg:∀ x,(g x).length=k) (hc:∀ x,cntL (g x)≤K+K*sizL (g x)) (l:List α):cnt (.sl k (l.flatMap g))≤K*siz (.sl k (l.flatMap g)):=by
 rw[siz_flat g k hk hg,cnt]
 induction l with
 | nil=>simp[cntL]
 | cons x l ih =>
  rw[List.flatMap_cons,zfl,zfd,List.length_cons];have h1:=hc x;rw[Nat.mul_add] at ih ⊢;rw[Nat.mul_add,Nat.mul_add];omega
theorem DSite.cnt_le (l:List DSite):cnt (DSite.sT l)≤16*siz (DSite.sT l):=zep DSite.tr 4 16 (by decide) DSite.tr_len (fun x=>by simp only[DSite.tr,cntL,cnt,strT,intT];omega) l
theorem DSector.cnt_le (l:List DSector):cnt (DSector.sT l)≤16*siz (DSector.sT l):=zep DSector.tr 9 16 (by decide) DSector.tr_len (fun x=>by simp only[DSector.tr,cntL,cnt,strT,intT];omega) l
theorem DMode.cnt_le (l:List DMode):cnt (DMode.sT l)≤16*siz (DMode.sT l):=zep DMode.tr 2 16 (by decide) DMode.tr_len (fun x=>by simp only[DMode.tr,cntL,cnt,intT];omega) l
theorem DAntenna.cnt_le (l:List DAntenna):cnt (DAntenna.sT l)≤16*siz (DAntenna.sT l):=zep DAntenna.tr 4 16 (by decide) DAntenna.tr_len (fun x=>by
 have h1:=ze0 x.horizontal
 have h2:=zcb x.horizontal
 have h3:=ze0 x.vertical
 have h4:=zcb x.vertical
 simp only[DAntenna.tr,cntL,sizL]
 have h5:cnt (strT x.name)=1:=rfl
 have h6:cnt (intT x.gain)=1:=rfl
 omega) l
theorem DRadio.cnt_le (l:List DRadio):cnt (DRadio.sT l)≤16*siz (DRadio.sT l):=zep DRadio.tr 6 16 (by decide) DRadio.tr_len (fun x=>by
 have h1:=DMode.cnt_le x.modes
 simp only[DRadio.tr,cntL,sizL]
 have h5:cnt (strT x.name)=1:=rfl
 have h6:cnt (intT x.power)=1:=rfl
 have h7:cnt (intT x.feeder)=1:=rfl
 have h8:cnt (intT x.noise)=1:=rfl
 have h9:cnt (intT x.width)=1:=rfl
 omega) l
end Go.Proofs.YtgmapjgodibchaaGreatDoor
