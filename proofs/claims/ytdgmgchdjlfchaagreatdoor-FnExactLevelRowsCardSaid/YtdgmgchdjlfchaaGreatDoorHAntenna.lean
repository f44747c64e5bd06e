/- Contracts of the laws' helpers over the type Antenna and slices of it. Conditions: bounded lengths. -/
import Derived.Test.YtdgmgchdjlfchaaGreatDoorProb1
import Derived.Test.YtdgmgchdjlfchaaGreatDoorOver
set_option linter.unusedVariables false
set_option linter.unusedSimpArgs false
namespace Go.Proofs.YtdgmgchdjlfchaaGreatDoor
open Go.RowKit
set_option maxHeartbeats 4000000
set_option maxRecDepth 100000
theorem DAntenna.siz_tr (x:DAntenna):sizL x.tr=x.name.size+siz (zai x.horizontal)+siz (zai x.vertical):=by
 simp only[DAntenna.tr,sizL,siz,intT,strT];omega
theorem sz_Antenna (x:DAntenna) (v2 v3:Value) (B:Nat) (left:Int) (w:World) (h2:Rd B w (zai x.horizontal) v2) (h3:Rd B w (zai x.vertical) v3) (hB:B≤w.heap.size) (hl:0≤left) (hl2:left≤1048576) (hok:x.ok) :
  Calls Tryz.prog 84 #[.agg #[.string x.name,.int .i64 x.gain,v2,v3],.int .i64 left] w (SzPost (sizL x.tr) left w):=by
 have hsum:=DAntenna.siz_tr x;have b0:Below w.heap.size w (w.alloc (.cells #[.string x.name,.int .i64 x.gain,v2,v3] 129)):=(Below.refl _ _).alloc (Nat.le_refl _) _;have B0:=Lib.hid b0;have z0:w.heap.size≤(w.alloc (.cells #[.string x.name,.int .i64 x.gain,v2,v3] 129)).heap.size:=b0.size;have y0:w.heap.size<(w.alloc (.cells #[.string x.name,.int .i64 x.gain,v2,v3] 129)).heap.size:=by simp
 have R0_2:=Lib.hid (h2.below (b0.mono hB));have R0_3:=Lib.hid (h3.below (b0.mono hB));clear b0 h2 h3;go_enter Tryz.func84,Tryz.ntmps84;have hm0:x.name.size≤9223372036854775807:=hok.name
 by_cases c0:(x.name.size:Int)≤left
 case neg =>
  go_wp2;go_ret;exact⟨Or.inr ⟨by omega,rfl⟩,B0.out⟩
 have d0:decide (left-(x.name.size:Int)<0)=false:=by simp<;>omega
 go_wp2_with fail;refine (sz_Int64S x.horizontal v2 B _ _ R0_2.out (by omega) (by omega) (by omega)).mono ?_;rintro e w1 ⟨⟨c1,rfl⟩|⟨c1,rfl⟩,hb1⟩
 case inr =>
  go_wp2;go_ret;exact⟨Or.inr ⟨by omega,rfl⟩,B0.out.trans (hb1.mono z0)⟩
 obtain⟨q1,_,y1⟩:=zag hb1 (b:=w.heap.size) y0;have z1:w.heap.size≤w1.heap.size:=by omega
 have B1:=Lib.hid (B0.out.trans (hb1.mono z0));have R1_2:=Lib.hid (R0_2.out.below (hb1.mono (by omega)));have R1_3:=Lib.hid (R0_3.out.below (hb1.mono (by omega)));clear hb1;have d1:decide (left-(x.name.size:Int)-(siz (zai x.horizontal):Int)<0)=false:=by simp<;>omega
 go_wp2_with fail;refine (sz_Int64S x.vertical v3 B _ _ R1_3.out (by omega) (by omega) (by omega)).mono ?_;rintro e w2 ⟨⟨c2,rfl⟩|⟨c2,rfl⟩,hb2⟩
 case inr =>
  go_wp2;go_ret;exact⟨Or.inr ⟨by omega,rfl⟩,B1.out.trans (hb2.mono z1)⟩
 obtain⟨q2,_,y2⟩:=zag hb2 (b:=w.heap.size) y1;have z2:w.heap.size≤w2.heap.size:=by omega
 have B2:=Lib.hid (B1.out.trans (hb2.mono z1));have R2_2:=Lib.hid (R1_2.out.below (hb2.mono (by omega)));have R2_3:=Lib.hid (R1_3.out.below (hb2.mono (by omega)));clear hb2;have d2:decide (left-(x.name.size:Int)-(siz (zai x.horizontal):Int)-(siz (zai x.vertical):Int)<0)=false:=by simp<;>omega
 go_wp2;go_ret;exact⟨Or.inl ⟨by omega,zb2 (by omega)⟩,B2.out⟩
theorem to_Antenna (x:DAntenna) (v2 v3:Value) (w:World) (h2:Rd w.heap.size w (zai x.horizontal) v2) (h3:Rd w.heap.size w (zai x.vertical) v3) (hn:sizL x.tr≤1048576) :
  Calls Tryz.prog 97 #[.agg #[.string x.name,.int .i64 x.gain,v2,v3]] w fun e w'=>∃ a2 c2 a3 c3 fp,e=.returned (.agg #[.string x.name,.int .i64 x.gain,.slice a2 x.horizontal.length c2,.slice a3 x.vertical.length c3])∧Below w.heap.size w w'∧OwnV w' x.tr [.string x.name,.int .i64 x.gain,.slice a2 x.horizontal.length c2,.slice a3 x.vertical.length c3] fp∧In w.heap.size w'.heap.size fp:=by
 have hsum:=DAntenna.siz_tr x;go_enter Tryz.func97,Tryz.ntmps97;have bX0:Below w.heap.size w (((w.alloc (.cells #[.string x.name,.int .i64 x.gain,v2,v3] 129)).alloc (.cells #[.string ⟨#[]⟩,.int .i64 0,.slice none 0 0,.slice none 0 0] 147)).alloc (.cells #[.string x.name,.int .i64 x.gain,.slice none 0 0,.slice none 0 0] 147)):=(((Below.refl _ _).alloc (Nat.le_refl _) _).alloc (by simp) _).alloc (by first|(simp;done)|(simp<;>omega)) _;have BX0:=Lib.hid bX0;have zX0:w.heap.size+3≤(((w.alloc (.cells #[.string x.name,.int .i64 x.gain,v2,v3] 129)).alloc (.cells #[.string ⟨#[]⟩,.int .i64 0,.slice none 0 0,.slice none 0 0] 147)).alloc (.cells #[.string x.name,.int .i64 x.gain,.slice none 0 0,.slice none 0 0] 147)).heap.size:=by first|(simp;done)|(simp<;>omega)
 clear bX0;go_wp2_with fail;refine (to_Int64S x.horizontal v2 (((w.alloc (.cells #[.string x.name,.int .i64 x.gain,v2,v3] 129)).alloc (.cells #[.string ⟨#[]⟩,.int .i64 0,.slice none 0 0,.slice none 0 0] 147)).alloc (.cells #[.string x.name,.int .i64 x.gain,.slice none 0 0,.slice none 0 0] 147)) ((h2.below BX0.out).mono (by omega)) (by omega)).mono ?_;rintro e w1 ⟨a2,c2,fp1,rfl,hb1,o1,i1⟩;obtain⟨qa1,_,ya1⟩:=zag hb1 (b:=w.heap.size) (by omega);obtain⟨qb1,qf1,yb1⟩:=zag hb1 (b:=w.heap.size+1) (by omega);obtain⟨qc1,qg1,yc1⟩:=zag hb1 (b:=w.heap.size+1+1) (by omega);have z1:=hb1.size;have B1:=Lib.hid (BX0.out.trans (hb1.mono (by omega)));have y1:w.heap.size+3≤w1.heap.size:=by omega
 have j1:In (w.heap.size+3) w1.heap.size fp1:=i1.mono (by omega) (Nat.le_refl _);have P1_1:=Lib.hid o1;clear hb1 o1 i1;have BX1:=Lib.hid (B1.out.setCell (p:=⟨w.heap.size+1+1,2,none⟩) (by show w.heap.size≤w.heap.size+1+1;omega) (.slice a2 x.horizontal.length c2));have zX1:w.heap.size+3≤((w1.setCell ⟨w.heap.size+1+1,2,none⟩ (.slice a2 x.horizontal.length c2))).heap.size:=by simp only[zae];omega
 go_wp2_with fail;refine (to_Int64S x.vertical v3 ((w1.setCell ⟨w.heap.size+1+1,2,none⟩ (.slice a2 x.horizontal.length c2))) ((h3.below BX1.out).mono (by omega)) (by omega)).mono ?_;rintro e w2 ⟨a3,c3,fp2,rfl,hb2,o2,i2⟩;obtain⟨qa2,_,ya2⟩:=zag hb2 (b:=w.heap.size) (by omega);obtain⟨qb2,qf2,yb2⟩:=zag hb2 (b:=w.heap.size+1) (by omega);obtain⟨qc2,qg2,yc2⟩:=zag hb2 (b:=w.heap.size+1+1) (by omega);have z2:=hb2.size;simp only[zae] at z2;have B2:=Lib.hid (BX1.out.trans (hb2.mono (by omega)));have y2:w.heap.size+3≤w2.heap.size:=by omega
 have P1_2:=Lib.hid ((P1_1.out.setFar (p:=⟨w.heap.size+1+1,2,none⟩) (fun e=>by have:=(j1 _ e).1;simp only at this;omega) (.slice a2 x.horizontal.length c2)).below j1 (by first|omega|(simp only[zae];omega)) hb2);have j2:In (w1.heap.size) w2.heap.size fp2:=i2.mono (by simp only[zae];omega) (Nat.le_refl _);have P2_2:=Lib.hid o2;clear hb2 o2 i2;go_wp2;have F1:=Lib.hid (((((P1_2.out.setFar (p:=⟨w.heap.size+1+1,3,none⟩) (fun e=>by have:=(j1 _ e).1;simp only at this;omega) (.slice a3 x.vertical.length c3)).setFar (p:=⟨w.heap.size+1,0,none⟩) (fun e=>by have:=(j1 _ e).1;simp only at this;omega) (.string x.name)).setFar (p:=⟨w.heap.size+1,1,none⟩) (fun e=>by have:=(j1 _ e).1;simp only at this;omega) (.int .i64 x.gain)).setFar (p:=⟨w.heap.size+1,2,none⟩) (fun e=>by have:=(j1 _ e).1;simp only at this;omega) (.slice a2 x.horizontal.length c2)).setFar (p:=⟨w.heap.size+1,3,none⟩) (fun e=>by have:=(j1 _ e).1;simp only at this;omega) (.slice a3 x.vertical.length c3));have F2:=Lib.hid (((((P2_2.out.setFar (p:=⟨w.heap.size+1+1,3,none⟩) (fun e=>by have:=(j2 _ e).1;simp only at this;omega) (.slice a3 x.vertical.length c3)).setFar (p:=⟨w.heap.size+1,0,none⟩) (fun e=>by have:=(j2 _ e).1;simp only at this;omega) (.string x.name)).setFar (p:=⟨w.heap.size+1,1,none⟩) (fun e=>by have:=(j2 _ e).1;simp only at this;omega) (.int .i64 x.gain)).setFar (p:=⟨w.heap.size+1,2,none⟩) (fun e=>by have:=(j2 _ e).1;simp only at this;omega) (.slice a2 x.horizontal.length c2)).setFar (p:=⟨w.heap.size+1,3,none⟩) (fun e=>by have:=(j2 _ e).1;simp only at this;omega) (.slice a3 x.vertical.length c3));have BF:=Lib.hid (((((B2.out.setCell (p:=⟨w.heap.size+1+1,3,none⟩) (by show w.heap.size≤w.heap.size+1+1;omega) (.slice a3 x.vertical.length c3)).setCell (p:=⟨w.heap.size+1,0,none⟩) (by show w.heap.size≤w.heap.size+1;omega) (.string x.name)).setCell (p:=⟨w.heap.size+1,1,none⟩) (by show w.heap.size≤w.heap.size+1;omega) (.int .i64 x.gain)).setCell (p:=⟨w.heap.size+1,2,none⟩) (by show w.heap.size≤w.heap.size+1;omega) (.slice a2 x.horizontal.length c2)).setCell (p:=⟨w.heap.size+1,3,none⟩) (by show w.heap.size≤w.heap.size+1;omega) (.slice a3 x.vertical.length c3));refine bodyPost_ret (v:=.agg #[.string x.name,.int .i64 x.gain,.slice a2 x.horizontal.length c2,.slice a3 x.vertical.length c3]) (by simp[results,Tryz.results97,go_sem, *]) rfl ⟨a2,c2,a3,c3,fp1++(fp2++[]),rfl,BF.out,?_,?_⟩
 ·exact (OwnV.consLit (OwnV.consLit (OwnV.cons F1.out (OwnV.cons F2.out OwnV.nil (fun x hx e=>by have h1:=j2 x hx;simp at e)) (fun x hx e=>by have h1:=j1 x hx;simp only[List.mem_append,List.not_mem_nil,or_false] at e;have h2:=j2 x e;omega)) rfl) rfl)
 ·simp only[zae]
  exact ((j1.mono (by omega) (by omega)).append ((j2.mono (by omega) (by omega)).append In.nil))
theorem eq_Antenna (x:DAntenna) (v2 u2 v3 u3:Value) (B:Nat) (w:World) (h2:Rd B w (zai x.horizontal) v2) (g2:Rd B w (zai x.horizontal) u2) (h3:Rd B w (zai x.vertical) v3) (g3:Rd B w (zai x.vertical) u3) (hB:B≤w.heap.size) (hn:sizL x.tr≤1099511627776) :
  Calls Tryz.prog 113 #[.agg #[.string x.name,.int .i64 x.gain,v2,v3],.agg #[.string x.name,.int .i64 x.gain,u2,u3]] w fun e w'=>e=.returned (.bool true)∧Below w.heap.size w w':=by
 have hsum:=DAntenna.siz_tr x;have b0:Below w.heap.size w ((w.alloc (.cells #[.string x.name,.int .i64 x.gain,v2,v3] 147)).alloc (.cells #[.string x.name,.int .i64 x.gain,u2,u3] 147)):=((Below.refl _ _).alloc (Nat.le_refl _) _).alloc (by simp) _;have B0:=Lib.hid b0;have y0:w.heap.size+2≤((w.alloc (.cells #[.string x.name,.int .i64 x.gain,v2,v3] 147)).alloc (.cells #[.string x.name,.int .i64 x.gain,u2,u3] 147)).heap.size:=by first|(simp;done)|(simp<;>omega)
 clear b0;go_enter Tryz.func113,Tryz.ntmps113;go_wp2_with fail;refine (eq_Int64S x.horizontal v2 u2 B _ (h2.below (B0.out.mono hB)) (g2.below (B0.out.mono hB)) (by omega) (by omega)).mono ?_;rintro e w1 ⟨rfl,hb1⟩;obtain⟨qa1,_,ya1⟩:=zag hb1 (b:=w.heap.size) (by omega);obtain⟨qb1,_,yb1⟩:=zag hb1 (b:=w.heap.size+1) (by omega);have y1:w.heap.size+2≤w1.heap.size:=by have:=hb1.size;omega
 have B1:=Lib.hid (B0.out.trans (hb1.mono (by omega)));clear hb1;go_wp2_with fail;refine (eq_Int64S x.vertical v3 u3 B _ (h3.below (B1.out.mono hB)) (g3.below (B1.out.mono hB)) (by omega) (by omega)).mono ?_;rintro e w2 ⟨rfl,hb2⟩;obtain⟨qa2,_,ya2⟩:=zag hb2 (b:=w.heap.size) (by omega);obtain⟨qb2,_,yb2⟩:=zag hb2 (b:=w.heap.size+1) (by omega);have y2:w.heap.size+2≤w2.heap.size:=by have:=hb2.size;omega
 have B2:=Lib.hid (B1.out.trans (hb2.mono (by omega)));clear hb2;go_wp2;go_ret;exact⟨rfl,B2.out⟩
theorem DAntenna.siz_s (l:List DAntenna):siz (DAntenna.sT l)=l.length+sizL (l.flatMap DAntenna.tr):=zfc DAntenna.tr 4 (by decide) DAntenna.tr_len l
theorem sz_AntennaS (l:List DAntenna) (v:Value) (B:Nat) (left:Int) (w:World) (h:Rd B w (DAntenna.sT l) v) (hB:B≤w.heap.size) (hl:0≤left) (hl2:left≤1048576) (hstr:∀ x ∈ l,x.ok) :
  Calls Tryz.prog 37 #[v,.int .i64 left] w (SzPost (siz (DAntenna.sT l)) left w):=by
 rw[DAntenna.siz_s];obtain⟨a,c,rfl,hnc,hcm,hcells⟩:=DAntenna.rd h;clear h;unfold maxLen at hcm
 by_cases c1:(l.length:Int)≤left
 ·have c1':decide (left-(l.length:Int)<0)=false:=by simp<;>omega
  go_enter Tryz.func37,Tryz.ntmps37;go_wp2;go_loopw [1,5] (fun m i wr=>∃ (k:Nat),k≤l.length∧i=.int .i64 k∧(sizL ((l.take k).flatMap DAntenna.tr):Int)≤left-l.length∧m=.int .i64 (left-l.length-sizL ((l.take k).flatMap DAntenna.tr))∧Below w.heap.size w wr) (fun _ i wr=>l.length-(intOf i).toNat)
  case atStart=>exact⟨0,Nat.zero_le _,rfl,by simp[sizL];omega,by simp[sizL],Below.refl _ _⟩
  case round =>
   obtain⟨k,hk,rfl,hm,rfl,hb⟩:=hrel
   by_cases hlt:k<l.length
   ·obtain⟨b,off,rfl,hbl,hat⟩:=hcells (by omega)
    obtain⟨s0,s1,⟨u2,s2,r2⟩,⟨u3,s3,r3⟩⟩:=hat k hlt;rw[← hb.cell (p:=⟨b,_,none⟩) (show b<w.heap.size by omega)] at s0 s1 s2 s3;have t2:Rd B wr (zai l[k].horizontal) u2:=r2.below (hb.mono hB);have t3:Rd B wr (zai l[k].vertical) u3:=r3.below (hb.mono hB);have hB':B≤wr.heap.size:=by have:=hb.size;omega
    have hok:=hstr l[k] (List.getElem_mem hlt);have hsum:=zda DAntenna.tr l k hlt;have hle:=zdy DAntenna.tr l (k+1);have HS:=Lib.hid hsum;have HB:=Lib.hid hb;clear hcells hat hb hsum hstr r2 r3;go_wp2_with (go_at_call 84;refine (sz_Antenna l[k] u2 u3 B _ _ t2 t3 hB' (by omega) (by omega) hok).mono ?_;rintro e w1 ⟨⟨c2,rfl⟩|⟨c2,rfl⟩,hb1⟩)
    ·have c3:decide (left-l.length-sizL ((l.take k).flatMap DAntenna.tr)-sizL l[k].tr<0)=false:=by simp<;>omega
     go_wp2;go_roundw
     case rel=>exact⟨k+1,by omega,by go_num,by rw[HS.out];omega,by rw[HS.out];go_num,HB.out.trans (hb1.mono HB.out.size)⟩
     case measure=>simp[intOf];omega
    ·go_wp2
     go_ret;exact⟨Or.inr ⟨by have:=HS.out;omega,rfl⟩,HB.out.trans (hb1.mono HB.out.size)⟩
   ·obtain rfl:k=l.length:=by omega
    clear hcells;rw[List.take_length] at hm;go_wp2;go_ret;refine⟨Or.inl ⟨by omega,zb2 ?_⟩,hb⟩;simp only[List.take_length];omega
 ·have c1':decide (left-(l.length:Int)<0)=true:=by simp<;>omega
  go_enter Tryz.func37,Tryz.ntmps37;go_wp2;go_ret;exact⟨Or.inr ⟨by omega,rfl⟩,Below.refl _ _⟩
theorem infoAntenna:(Tryz.prog.info? 147).map (fun i=>(i.zero,i.size,i.bytes))=some (some (.agg #[.string ⟨#[]⟩,.int .i64 0,.slice none 0 0,.slice none 0 0]),4,72):=by kernel_rfl
theorem to_AntennaS (l:List DAntenna) (v:Value) (w:World) (h:Rd w.heap.size w (DAntenna.sT l) v) (hn:siz (DAntenna.sT l)≤1048576) :
  Calls Tryz.prog 50 #[v] w fun e w'=>∃ a' c' fp,e=.returned (.slice a' l.length c')∧Below w.heap.size w w'∧Own w' (DAntenna.sT l) (.slice a' l.length c') fp∧In w.heap.size w'.heap.size fp:=by
 rw[DAntenna.siz_s] at hn;obtain⟨i0,hi0,hz0,hz1,hz2⟩:=info_parts infoAntenna;have hmk:=fun W=>zco (P:=Tryz.prog) 43 147 i0 _ Tryz.underlying43 hi0 hz0 .i64 .i64 l.length l.length (Nat.le_refl _) (by rw[hz2];omega) (by omega) W
 rw[hz1] at hmk;have hnb:(l.length:Int)≤1048576:=by omega
 obtain⟨a,c,rfl,hnc,hcm,hcells⟩:=DAntenna.rd h;clear h;go_enter Tryz.func50,Tryz.ntmps50;go_wp2;clear hmk hi0 hz0 hz1 hz2;go_loopw [4] (fun i wr=>∃ (k:Nat) (f:List Nat),k≤l.length∧i=.int .i64 k∧Below w.heap.size w wr∧Fill wr w.heap.size 147 (l.length*4) ((l.take k).flatMap DAntenna.tr) f∧In w.heap.size wr.heap.size f) (fun i wr=>l.length-(intOf i).toNat)
 case atStart =>
  have hst:=Fill.start w (madeCells #[.string ⟨#[]⟩,.int .i64 0,.slice none 0 0,.slice none 0 0] (l.length*4)) 147;rw[size_madeCells] at hst;exact⟨0,[],Nat.zero_le _,rfl,(Below.refl _ _).alloc (Nat.le_refl _) _,by simpa using hst,In.nil⟩
 case round =>
  obtain⟨k,f,hk,rfl,hb,hfill,hin⟩:=hrel
  by_cases hlt:k<l.length
  ·obtain⟨b,off,rfl,hbl,hat⟩:=hcells (by omega)
   obtain⟨s0,s1,⟨u2,s2,r2⟩,⟨u3,s3,r3⟩⟩:=hat k hlt;rw[← hb.cell (p:=⟨b,_,none⟩) hbl] at s0 s1 s2 s3;have hz:=hfill.lt;have hz2:b<wr.heap.size:=by omega
   have t2:Rd wr.heap.size wr (zai l[k].horizontal) u2:=(r2.below hb).mono hb.size;have t3:Rd wr.heap.size wr (zai l[k].vertical) u3:=(r3.below hb).mono hb.size;obtain⟨o0,p0⟩:=hfill.room (k*4) (by omega);obtain⟨o1,p1⟩:=hfill.room (k*4+1) (by omega);obtain⟨o2,p2⟩:=hfill.room (k*4+2) (by omega);obtain⟨o3,p3⟩:=hfill.room (k*4+3) (by omega);have hfz:=hfill.open_;have hsl:=zaz DAntenna.tr l k hlt;have HB:=Lib.hid hb;clear hcells hat hb r2 r3;go_wp2_with (go_at_call 97;refine (to_Antenna l[k] u2 u3 _ t2 t3 (by omega)).mono ?_;rintro e w1 ⟨a2,c2,a3,c3,fp1,rfl,hb1,hown1,hin1⟩;obtain⟨q1,q2⟩:=bcell hb1);go_roundw
   case rel =>
    have hw1:=hfill.below hin hb1;have hst:=hw1.step (us:=l[k].tr) (vs:=[.string l[k].name,.int .i64 l[k].gain,.slice a2 l[k].horizontal.length c2,.slice a3 l[k].vertical.length c3]) (g:=fp1) hown1.rep (by rw[zat _ 4 DAntenna.tr_len];simp<;>omega) hown1.nd (fun e=>by have:=(hin1 _ e).1;omega) (fun x hx e=>by have:=(hin1 x hx).1;have:=(hin x e).2;omega) hown1.free;rw[zat _ 4 DAntenna.tr_len,List.length_take,Nat.min_eq_left hk,← zb5 DAntenna.tr l k hlt] at hst;refine⟨k+1,f++fp1,by omega,by go_num,zdg (HB.out.trans (hb1.mono (by omega))) (Nat.le_refl _) [.string l[k].name,.int .i64 l[k].gain,.slice a2 l[k].horizontal.length c2,.slice a3 l[k].vertical.length c3] (k*4),hst,?_⟩;simp only[zae];exact (hin.mono (Nat.le_refl _) hb1.size).append (hin1.mono (by omega) (Nat.le_refl _))
   case measure=>simp[intOf];omega
  ·obtain rfl:k=l.length:=by omega
   clear hcells;go_wp2;go_ret;rw[List.take_length] at hfill;obtain⟨fp,h1,h2⟩:=hfill.own (zat _ 4 DAntenna.tr_len l) (by unfold maxLen;omega);exact⟨_,_,fp,rfl,hb,h1,fun x hx=>by rcases h2 x hx with rfl|h;exact⟨Nat.le_refl _,hfill.lt⟩;exact hin x h⟩
theorem eq_AntennaS (l:List DAntenna) (v v':Value) (B:Nat) (w:World) (h:Rd B w (DAntenna.sT l) v) (h':Rd B w (DAntenna.sT l) v') (hB:B≤w.heap.size) (hn:siz (DAntenna.sT l)≤1099511627776) :
  Calls Tryz.prog 63 #[v,v'] w fun e w'=>e=.returned (.bool true)∧Below w.heap.size w w':=by
 rw[DAntenna.siz_s] at hn;have hnb:(l.length:Int)≤1099511627776:=by omega
 obtain⟨a,c,rfl,hnc,hcm,hcells⟩:=DAntenna.rd h;obtain⟨a',c',rfl,hnc',hcm',hcells'⟩:=DAntenna.rd h';clear h h';have hne:((l.length:Int) != l.length)=false:=by simp
 go_enter Tryz.func63,Tryz.ntmps63;go_wp2;clear hne;go_loopw [5] (fun i wr=>∃ (k:Nat),k≤l.length∧i=.int .i64 k∧Below w.heap.size w wr) (fun i wr=>l.length-(intOf i).toNat)
 case atStart=>exact⟨0,Nat.zero_le _,rfl,Below.refl _ _⟩
 case round =>
  obtain⟨k,hk,rfl,hb⟩:=hrel
  by_cases hlt:k<l.length
  ·obtain⟨b,off,rfl,hbl,hat⟩:=hcells (by omega)
   obtain⟨b',off',rfl,hbl',hat'⟩:=hcells' (by omega);obtain⟨s0,s1,⟨u2,s2,r2⟩,⟨u3,s3,r3⟩⟩:=hat k hlt;obtain⟨sb0,sb1,⟨ub2,sb2,rb2⟩,⟨ub3,sb3,rb3⟩⟩:=hat' k hlt;rw[← hb.cell (p:=⟨b,_,none⟩) (show b<w.heap.size by omega)] at s0 s1 s2 s3;rw[← hb.cell (p:=⟨b',_,none⟩) (show b' < w.heap.size by omega)] at sb0 sb1 sb2 sb3;have t2:Rd B wr.drew (zai l[k].horizontal) u2:=(r2.below (hb.mono hB)).drew;have tb2:Rd B wr.drew (zai l[k].horizontal) ub2:=(rb2.below (hb.mono hB)).drew;have t3:Rd B wr.drew (zai l[k].vertical) u3:=(r3.below (hb.mono hB)).drew;have tb3:Rd B wr.drew (zai l[k].vertical) ub3:=(rb3.below (hb.mono hB)).drew;have hB':B≤wr.heap.size:=by have:=hb.size;omega
   have hsl:=zaz DAntenna.tr l k hlt;have i1:(0:Int)≤(k:Int):=by omega
   have i2:(k:Int)<(l.length:Int):=by omega
   have HB:=Lib.hid hb;clear hcells hat hcells' hat' hb r2 rb2 r3 rb3;go_wp2
   go_still_tail 8,(by kernel_rfl)
   change wpList _ _ _ _ _ wr.drew
   go_wp2_with (go_at_call 113;refine (eq_Antenna l[k] u2 ub2 u3 ub3 B _ t2 tb2 t3 tb3 hB' (by omega)).mono ?_;rintro e w1 ⟨rfl,hb1⟩);go_roundw
   case rel=>exact⟨k+1,by omega,by go_num,HB.out.drew.trans (hb1.mono HB.out.size)⟩
   case measure=>simp[intOf];omega
  ·obtain rfl:k=l.length:=by omega
   clear hcells hcells';go_wp2;go_ret;exact⟨rfl,hb⟩
theorem DAntenna.mk_tr (x:DAntenna) (K:Nat):mkL x.tr K = [.lit (.string (zdb (K))),.lit (.int .i64 ((K:Int)+1)),mkT (zai x.horizontal) (K+1+1),mkT (zai x.vertical) (K+1+1+cnt (zai x.horizontal))]:=rfl
theorem DAntenna.cntL_tr (x:DAntenna):cntL x.tr=1+1+cnt (zai x.horizontal)+cnt (zai x.vertical):=by simp only[DAntenna.tr,cntL,cnt,intT,strT];omega
theorem mark_AntennaS (l:List DAntenna) (v:Value) (fp:List Nat) (k0 lo:Nat) (w:World) (h:Own w (DAntenna.sT l) v fp) (hin:In lo w.heap.size fp) (hs:siz (DAntenna.sT l)≤1099511627776) (hk0:k0+cnt (DAntenna.sT l)≤1099511627776) (hk1:0<k0) :
  Calls Tryz.prog 69 #[v,.int .i64 k0] w fun e w'=>e=.returned (.int .i64 ((k0+cnt (DAntenna.sT l):Nat):Int))∧Own w' (mkT (DAntenna.sT l) k0) v fp∧Chg fp w w':=by
 rw[DAntenna.siz_s] at hs;obtain⟨a,c,hv,hnc,hcm⟩:=h.form (k:=4) (g:=DAntenna.tr) (by decide) DAntenna.tr_len;subst hv;rw[show cnt (DAntenna.sT l)=cntL (l.flatMap DAntenna.tr) from by rw[DAntenna.sT,cnt]] at hk0 ⊢;have hnb:(l.length:Int)≤1099511627776:=by omega
 go_enter Tryz.func69,Tryz.ntmps69;go_wp2;go_loopw [1,5] (fun kk i wr=>∃ (j K:Nat),j≤l.length∧i=.int .i64 j∧K=k0+cntL ((l.take j).flatMap DAntenna.tr)∧kk=.int .i64 (K:Int)∧Own wr (mid DAntenna.tr 4 l k0 j) (.slice a l.length c) fp∧Chg fp w wr) (fun _ i wr=>l.length-(intOf i).toNat)
 case atStart=>exact⟨0,k0,Nat.zero_le _,rfl,by simp[cntL],rfl,by rw[zev];exact h,Chg.refl _ _⟩
 case round =>
  obtain⟨j,K,hj,rfl,hK,rfl,hown,hchg⟩:=hrel
  by_cases hlt:j<l.length
  ·rw[mid_at _ _ _ _ _ hlt] at hown
   have hts:(mkL ((l.take j).flatMap DAntenna.tr) k0).length=j*4:=by rw[zbt,zat _ 4 DAntenna.tr_len,List.length_take,Nat.min_eq_left hj]
   have hsum:=zcu DAntenna.tr l j hlt;have hle:=zb8 DAntenna.tr l (j+1);have hcx:=DAntenna.cntL_tr l[j];have hkb:K+(1+1+cnt (zai l[j].horizontal)+cnt (zai l[j].vertical))≤1099511627776:=by omega
   have hkp:0<K:=by omega
   have hszj:=zaz DAntenna.tr l j hlt;have HM:=Lib.hid (zew DAntenna.tr 4 l k0 j hlt);have HS:=Lib.hid hsum;have HK:=Lib.hid hK;have HC:=Lib.hid hcx;have HT:=Lib.hid hts;clear hsum hcx hle hK hts;generalize mkL ((l.take j).flatMap DAntenna.tr) k0=TS at *;generalize (l.drop (j+1)).flatMap DAntenna.tr=US at *;have hin':In lo wr.heap.size fp:=hin.mono (Nat.le_refl _) hchg.size;have o0:Own wr (.sl 4 (TS++([.lit (.string l[j].name),.lit (.int .i64 l[j].gain),zai l[j].horizontal,zai l[j].vertical]++US))) (.slice a l.length c) fp:=hown;clear hown;obtain⟨b,off,rfl,hbf⟩:=o0.someAddr;have hbw:=(hin' b hbf).2;have hfz:∀ i,wr.frozen? ⟨b,i,none⟩=false:=o0.free b hbf;have z0:wr.heap.size≤wr.heap.size:=Nat.le_refl _;obtain⟨s0,_⟩:=o0.cellChunk 0 _ rfl (off+j*4) (by rw[HT.out];omega);obtain⟨s1,_⟩:=o0.cellChunk 1 _ rfl (off+j*4+1) (by rw[HT.out];omega);obtain⟨x2,g2,s2,_,_,_,_⟩:=o0.partChunk 2 _ rfl (off+j*4+2) (by rw[HT.out];omega);obtain⟨x3,g3,s3,_,_,_,_⟩:=o0.partChunk 3 _ rfl (off+j*4+3) (by rw[HT.out];omega);have O0:=Lib.hid o0;have C0:=Lib.hid hchg;clear o0 hchg;go_wp2_with fail;refine (zcb _ _ (by omega) (by omega)).mono ?_;rintro e w1 ⟨rfl,hb1⟩;obtain⟨qa1,qb1,hbw1⟩:=zag hb1 (b:=b) (by first|omega|(simp only[zae];omega));have z1:wr.heap.size≤w1.heap.size:=by have:=hb1.size;(try simp only[zae] at this);omega
   have O1:=Lib.hid ((O0.out.below hin' (by first|omega|(simp only[zae];omega)) hb1).setChunk 0 _ rfl (off+j*4) (by rw[HT.out];omega) (.string (zdb (K))));have C1:=Lib.hid ((C0.out.trans (Chg.of_below hb1)).setCell (p:=⟨b,off+j*4,none⟩) hbf (.string (zdb (K))));have O2:=Lib.hid (O1.out.setChunk 1 _ rfl (off+j*4+1) (by rw[HT.out];omega) (.int .i64 ((K:Int)+1)));have C2:=Lib.hid (C1.out.setCell (p:=⟨b,off+j*4+1,none⟩) hbf (.int .i64 ((K:Int)+1)));obtain⟨y2,h2,sy2,hox2,hgf2,hbg2,hset2⟩:=O2.out.partChunk 2 _ rfl (off+j*4+2) (by rw[HT.out];omega);have HX2:=Lib.hid hox2;have HY2:=Lib.hid hset2;clear hox2 hset2;have hsz2:siz (zai l[j].horizontal)≤1099511627776:=by
    have:siz (zai l[j].horizontal)≤sizL l[j].tr:=by simp only[DAntenna.tr,sizL];omega
    omega
   go_wp2_with fail;refine (zex (l[j].horizontal) y2 h2 (K+1+1) lo _ _ HX2.out (fun y hy=>⟨(hin' y (hgf2 y hy)).1,by have:=(hin' y (hgf2 y hy)).2;(try simp only[zae]);omega⟩) hsz2 (by simp only[Int.natCast_add,Int.natCast_one]) (by omega) (by omega)).mono ?_;rintro e w2 ⟨rfl,ho2,hc2⟩;have z2:wr.heap.size≤w2.heap.size:=by have:=hc2.size;(try simp only[zae] at this);omega
   have hbk2:=hc2.block b (by first|omega|(simp only[zae];omega)) hbg2;have qb2:∀ o,w2.frozen? ⟨b,o,none⟩=_:=fun o=>World.frozen?_of_block (a:=⟨b,o,none⟩) hbk2
   clear hbk2;have O3:=Lib.hid (HY2.out w2 _ (fun y hy hyg=>hc2.block y (by have:=(hin' y hy).2;(try simp only[zae]);omega) hyg) ho2);have C3:=Lib.hid (C2.out.trans (hc2.mono hgf2));clear hc2 ho2;obtain⟨y3,h3,sy3,hox3,hgf3,hbg3,hset3⟩:=O3.out.partChunk 3 _ rfl (off+j*4+3) (by rw[HT.out];omega);have HX3:=Lib.hid hox3;have HY3:=Lib.hid hset3;clear hox3 hset3;have hsz3:siz (zai l[j].vertical)≤1099511627776:=by
    have:siz (zai l[j].vertical)≤sizL l[j].tr:=by simp only[DAntenna.tr,sizL];omega
    omega
   go_wp2_with fail;refine (zex (l[j].vertical) y3 h3 (K+1+1+cnt (zai l[j].horizontal)) lo _ _ HX3.out (fun y hy=>⟨(hin' y (hgf3 y hy)).1,by have:=(hin' y (hgf3 y hy)).2;(try simp only[zae]);omega⟩) hsz3 (by simp only[Int.natCast_add,Int.natCast_one]) (by omega) (by omega)).mono ?_;rintro e w3 ⟨rfl,ho3,hc3⟩;have z3:wr.heap.size≤w3.heap.size:=by have:=hc3.size;(try simp only[zae] at this);omega
   have hbk3:=hc3.block b (by first|omega|(simp only[zae];omega)) hbg3;have qa3:∀ o,w3.cell? ⟨b,o,none⟩=_:=fun o=>World.cell?_of_block (a:=⟨b,o,none⟩) hbk3
   have qb3:∀ o,w3.frozen? ⟨b,o,none⟩=_:=fun o=>World.frozen?_of_block (a:=⟨b,o,none⟩) hbk3
   clear hbk3;have O4:=Lib.hid (HY3.out w3 _ (fun y hy hyg=>hc3.block y (by have:=(hin' y hy).2;(try simp only[zae]);omega) hyg) ho3);have C4:=Lib.hid (C3.out.trans (hc3.mono hgf3));clear hc3 ho3;go_wp2;go_roundw
   case rel =>
    refine⟨j+1,K+(1+1+cnt (zai l[j].horizontal)+cnt (zai l[j].vertical)),by omega,by go_num,by have:=HK.out;have:=HS.out;have:=HC.out;omega,by go_num,?_,C4.out⟩;rw[HM.out,← HK.out,DAntenna.mk_tr];exact O4.out
   case measure=>simp[intOf];omega
  ·obtain rfl:j=l.length:=by omega
   have HK:=Lib.hid hK;clear hK;go_wp2;go_ret;rw[mid_end] at hown;have e:=HK.out;rw[List.take_length] at e;exact⟨zb2 (by omega),hown,hchg⟩
theorem markI_AntennaS (l:List DAntenna) (v:Value) (fp:List Nat) (k lo:Nat) (K:Int) (w:World) (h:Own w (DAntenna.sT l) v fp) (hin:In lo w.heap.size fp) (hs:siz (DAntenna.sT l)≤1099511627776) (hK:K=(k:Int)) (hk0:k+cnt (DAntenna.sT l)≤1099511627776) (hk1:0<k) :
  Calls Tryz.prog 69 #[v,.int .i64 K] w fun e w'=>e=.returned (.int .i64 (K+(cnt (DAntenna.sT l):Int)))∧Own w' (mkT (DAntenna.sT l) k) v fp∧Chg fp w w':=by
 subst hK;refine (mark_AntennaS l v fp k lo w h hin hs hk0 hk1).mono fun e w' ⟨he,h1,h2⟩=>⟨?_,h1,h2⟩
 rw[he,Int.natCast_add]
end Go.Proofs.YtdgmgchdjlfchaaGreatDoor
