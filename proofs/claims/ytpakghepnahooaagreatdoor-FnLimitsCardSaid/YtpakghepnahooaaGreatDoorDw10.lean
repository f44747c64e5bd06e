/- Contract: the list of bands that the reference draws (l15DrawList): a few small ones. Condition: a place in the source that is not too great. -/
import Derived.Test.YtpakghepnahooaaGreatDoorDw8
import Derived.Test.YtpakghepnahooaaGreatDoorSr2
set_option linter.unusedVariables false
set_option linter.unusedSimpArgs false
namespace Go.Proofs.YtpakghepnahooaaGreatDoor
set_option maxHeartbeats 16000000
set_option maxRecDepth 100000
open Go.RowKit
structure BnS (b k c N:Nat) (w0 w:World) (l:List DBand) (v:Value):Prop where
 src:∃ k',k≤k'∧k'≤k+c∧Src w b k'
 chg:Chg [b] w0 w
 bl:b<w0.heap.size
 g:Grow w w0.heap.size 102 5 v l.length (l.flatMap DBand.tr) []
 bd:∀ x ∈ l,BandW x
 ln:l.length≤N
section
variable {b k c N:Nat} {w0 w w':World} {l:List DBand} {v:Value}
theorem BnS.keep {d:Nat} (h:BnS b k c N w0 w l v) (hs:∃ k',k≤k'∧k'≤k+d∧Src w' b k') (C:Chg [b] w w'):BnS b k d N w0 w' l v :=
 ⟨hs,h.chg.trans C,h.bl,h.g.frame (fun g hg=>C.block g (h.g.block hg).2 (by have:=(h.g.block hg).1;have:=h.bl;simp<;>omega)) (fun x hx=>by simp at hx),h.bd,h.ln⟩
theorem BnS.below (h:BnS b k c N w0 w l v) (hb:OI w w w'):BnS b k c N w0 w' l v:=by
 obtain⟨k',h1,h2,S⟩:=h.src;exact h.keep ⟨k',h1,h2,S.below S.lt hb⟩ (Chg.of_below hb)
theorem BnS.call {k1 d:Nat} (h:BnS b k c N w0 w l v) (h1:k≤k1) (h2:k1≤k+c) (s:SrcQ b k1 d w w'):BnS b k (c+d) N w0 w' l v:=by
 obtain⟨k2,a1,a2,S,C⟩:=s;exact h.keep ⟨k2,II,II,S⟩ C
theorem BnS.more {d M:Nat} (h:BnS b k c N w0 w l v) (hd:c≤d) (hN:N≤M):BnS b k d M w0 w l v:=by
 obtain⟨k',h1,h2,S⟩:=h.src;exact⟨⟨k',h1,II,S⟩,h.chg,h.bl,h.g,h.bd,Nat.le_trans h.ln hN⟩
theorem BnS.form (h:BnS b k c N w0 w l v):∃ a m,v=IZ a l.length m:=by
 obtain⟨xs,ho,_⟩:=h.g.own;obtain⟨a,m,e,_⟩:=zar ho;exact⟨a,m,e⟩
theorem BnS.app (h:BnS b k c N w0 w l v) {x:DBand} (hx:BandW x) {v':Value} (G:Grown w w' w0.heap.size 102 5 v v' (l.length+1) (l.flatMap DBand.tr++x.tr) ([]++[])):BnS b k c (N+1) w0 w' (l++[x]) v':=by
 obtain⟨k',h1,h2,S⟩:=h.src;have hg:=G.grow;have e:(l++[x]).flatMap DBand.tr=l.flatMap DBand.tr++x.tr:=by simp
 refine⟨⟨k',h1,h2,S.below h.bl G.below⟩,⟨G.below.os.trans h.chg.os,G.below.tape.trans h.chg.tape,G.below.output.trans h.chg.output,Nat.le_trans h.chg.size G.below.size,fun y hy hn=>(G.below.block y hy).trans (h.chg.block y hy hn)⟩,h.bl,by rw[e,List.length_append];exact hg,fun y hy=>?_,by rw[List.length_append];have:=h.ln;simp<;>omega⟩
 rcases List.mem_append.1 hy with r|r
 ·exact h.bd y r
 ·rw[List.mem_singleton.1 r];exact hx
theorem BnS.setO (h:BnS b k c N w0 w l v) {y:Nat} (hy:w0.heap.size≤y) (hv:∀ g,v.ownBlock=some g→g≠y) (j:Nat) (u:Value):BnS b k c N w0 (w.setCell ⟨y,j,none⟩ u) l v:=by
 obtain⟨k',h1,h2,S⟩:=h.src;have:=h.bl;have hk:∀ x,x≠y→(w.setCell ⟨y,j,none⟩ u).heap[x]? = w.heap[x]?:=fun x hx=>bkO rfl (p:=⟨y,j,none⟩) (by show x≠y;exact hx) _
 exact⟨⟨k',h1,h2,S.below (B:=b+1) II ((Below.refl (b+1) w).setCell (p:=⟨y,j,none⟩) (by show b+1≤y;omega) _)⟩,⟨h.chg.os,h.chg.tape,h.chg.output,by rw[zac];exact h.chg.size,fun x hx hn=>(hk x II).trans (h.chg.block x hx hn)⟩,h.bl,h.g.frame (fun g hg=>hk g (hv g hg)) (fun x hx=>by simp at hx),h.bd,h.ln⟩
theorem BnS.vlt (h:BnS b k c N w0 w l v):∀ g,v.ownBlock=some g→g<w.heap.size:=fun g hg=>(h.g.block hg).2
theorem BnS.empty (hs:∃ k',k≤k'∧k'≤k+c∧Src w b k') (hc:Chg [b] w0 w) (hb:b<w0.heap.size) (hz:w0.heap.size≤w.heap.size):BnS b k c 0 w0 (w.alloc (.cells #[] 102)) [] (IZ (some ⟨w,0,none⟩) 0 0):=by
 obtain⟨k',h1,h2,S⟩:=hs;have hb2:=zak w (.cells #[] 102);exact⟨⟨k',h1,h2,S.below S.lt hb2⟩,hc.trans (Chg.of_below hb2),hb,⟨⟨[],ownsRow_mono (zep w 102 5) hz,rfl⟩,List.nodup_nil,fun b h=>by simp at h,fun g _=>by simp⟩,fun x hx=>by simp at hx,Nat.le_refl _⟩
end
def DrBands (b k m:Nat) (w:World) (e:Ending) (w':World):Prop:=∃ (l:List DBand) (a:Option Addr) (c:Nat) (fp:List Nat),(∀ x ∈ l,BandW x)∧l.length≤30∧e=.returned (IZ a l.length c)∧Own w' (DBand.sT l) (IZ a l.length c) fp∧In w w'.heap.size fp∧SrcQ b k m w w'
theorem l15DrawList_any (b k:Nat) (w:World) (h:Src w b k) (hk:k≤1099511200000):Calls Tryz.prog 82 #[.pointer (some ⟨b,0,none⟩)] w (DrBands b k 400 w):=by
 obtain⟨iB,hB0,hB1,hB2,hB3⟩:=info_parts infoBand;have yb:=h.lt;have HS:=IJ h;clear h;have R0:Hid (BnS b k 0 0 w (w.alloc (.cells #[] 102)) [] (IZ (some ⟨w,0,none⟩) 0 0)):=BnS.empty ⟨k,Nat.le_refl _,Nat.le_refl _,HS.out⟩ (Chg.refl _ _) yb (Nat.le_refl _);have hz0:(w.alloc (.cells #[] 102)).heap.size=w.heap.size+1:=by simp
 have z1:=Nat.le_of_eq hz0;have z2:=Nat.le_of_eq hz0.symm;clear HS hz0;go_enter Tryz.func82,Tryz.ntmps82;go_upto_region 2 with (fail);generalize w.alloc (.cells #[] 102)=W0 at *;go_upto_region 3 with (fail);obtain⟨W1,hW1,b1,zz1,k1⟩:=zav W0 #[IQ ⟨#[97]⟩,IQ ⟨#[98,57,48,48]⟩,IQ ⟨#[109,119]⟩,IQ ⟨#[117,104,102]⟩,IQ ⟨#[118,104,102]⟩] 9;rw[hW1];clear hW1;have R1:=IJ (R0.out.below b1);have NB:=IJ k1;obtain⟨nb,hnb⟩:∃ nb,nb=W0.heap.size:=⟨_,rfl⟩
 rw[← hnb] at NB ⊢;have n1:=Nat.le_of_eq hnb;have n2:=Nat.le_of_eq hnb.symm;clear k1 b1 R0 hnb;go_wp2;go_loopw [3,5] (fun s3 i wr=>∃ (j:Nat) (l:List DBand),j≤5∧i=J (j:Int)∧BnS b k (20*j) j w wr l s3∧wr.heap[nb]? = some (.cells #[IQ ⟨#[97]⟩,IQ ⟨#[98,57,48,48]⟩,IQ ⟨#[109,119]⟩,IQ ⟨#[117,104,102]⟩,IQ ⟨#[118,104,102]⟩] 9 (0,0))∧∀ g,s3.ownBlock=some g→g≠nb) (fun _ i wr=>5-(intOf i).toNat)
 case atStart=>exact⟨0,[],II,rfl,R1.out,NB.out,fun g hg=>(by have e:w.heap.size=g:=(by simpa [Value.ownBlock] using hg);omega)⟩
 case round =>
  obtain⟨j,l,hj,rfl,hR,hnm,hnv⟩:=hrel;obtain⟨a,cc,rfl⟩:=hR.form;have RA:=IJ hR;have NA:=IJ hnm;have NV:=IJ hnv;have hll:=hR.ln;have nl:nb<wr.heap.size:=zcq hnm;have wl:w.heap.size≤wr.heap.size:=hR.chg.size;clear hR hnm hnv R1 NB
  by_cases hlt:j<5
  ·have hji:(j:Int)<5:=II
   have hj0:(0:Int)≤(j:Int):=II
   go_wp2_with (fail)
   go_at_call 68
   obtain⟨kk,ka,kb,SS⟩:=RA.out.src;refine (one_any b kk 2 _ SS II ⟨II,II⟩).mono ?_;rintro e w2 ⟨⟨cd,rfl⟩,hq⟩;have RB:Hid (BnS b k (20*j+2) j w w2 l (IZ a l.length cc)):=RA.out.call ka kb hq;obtain⟨_,_,_,_,cq⟩:=hq;have zz2:=cq.size;have NB:=IJ ((cq.block nb nl (by simp<;>omega)).trans NA.out);clear RA NA SS ka kb cq
   cases cd with
   | false =>
    go_wp2;go_roundw
    case rel=>exact⟨j+1,l,II,by go_num,RB.out.more II II,NB.out,NV.out⟩
    case measure=>simp only[intOf];omega
   | true =>
    go_wp2_with (fail)
    go_at_call 122
    obtain⟨kk,ka,kb,SS⟩:=RB.out.src;refine (l15DrawOk_any b kk _ SS II).mono ?_;rintro e w3 ⟨x,hx,rfl,hq⟩;have RC:Hid (BnS b k (20*j+2+14) j w w3 l (IZ a l.length cc)):=RB.out.call ka kb hq;obtain⟨_,_,_,_,cq⟩:=hq;have zz3:=cq.size;have NC:=IJ ((cq.block nb II (by simp<;>omega)).trans NB.out);have HX:=IJ hx;clear RB NB SS ka kb cq hx;go_upto_region 8 with (fail);obtain⟨w4,hw4,b4,zz4,k4⟩:=zav w3 #[IQ x.name,J x.low,J x.high,J x.raster,J x.duplex] 102;rw[hw4];clear hw4;obtain⟨f,hf⟩:∃ f,f=w3.heap.size:=⟨_,rfl⟩
    rw[← hf] at k4 ⊢;have f1:=Nat.le_of_eq hf;have f2:=Nat.le_of_eq hf.symm;have RD:=IJ (RC.out.below b4);have ND:=IJ (bkB NC.out b4 II);have KF:=IJ k4;have RC_V:=IJ RC.out.vlt;clear k4 b4 RC NC hf;have L:LayS w4 nb ([⟨#[97]⟩,⟨#[98,57,48,48]⟩,⟨#[109,119]⟩,⟨#[117,104,102]⟩,⟨#[118,104,102]⟩]:List ByteArray):=⟨II,fun i hi=>(za3 ND.out i).trans (by rw[← Array.getElem?_toList];show (([⟨#[97]⟩,⟨#[98,57,48,48]⟩,⟨#[109,119]⟩,⟨#[117,104,102]⟩,⟨#[118,104,102]⟩]:List ByteArray).map (fun n=>Value.string n))[i]? = _;rw[List.getElem?_map,List.getElem?_eq_getElem hi];rfl)⟩
    have s0:=L.at_ j (by simpa using hlt);have hsz:∀ y ∈ ([⟨#[97]⟩,⟨#[98,57,48,48]⟩,⟨#[109,119]⟩,⟨#[117,104,102]⟩,⟨#[118,104,102]⟩]:List ByteArray),y.size≤20:=by decide
    have hy:=hsz _ (List.getElem_mem (l:=([⟨#[97]⟩,⟨#[98,57,48,48]⟩,⟨#[109,119]⟩,⟨#[117,104,102]⟩,⟨#[118,104,102]⟩]:List ByteArray)) (by simpa using hlt));generalize ([⟨#[97]⟩,⟨#[98,57,48,48]⟩,⟨#[109,119]⟩,⟨#[117,104,102]⟩,⟨#[118,104,102]⟩]:List ByteArray)[j]'(by simpa using hlt)=y at *;clear L hsz;have q0:=bkC KF.out 0 rfl;have fz:=bkF KF.out;have HV:Hid (∀ g,(Value.slice a l.length cc).ownBlock=some g→g<f):=fun g hg=>by have:=RC_V.out g hg;omega
    go_upto_region 9 with (fail);have KG:=IJ (bkS KF.out 0 (IQ y));have RE:Hid (BnS b k (20*j+2+14) j w (w4.setCell ⟨f,0,none⟩ (IQ y)) l (IZ a l.length cc)):=RD.out.setO II (fun g hg=>by have:=HV.out g hg;omega) 0 _;have NE:=IJ (bkO ND.out (p:=⟨f,0,none⟩) (by show nb≠f;omega) (IQ y));have zz5:(w4.setCell ⟨f,0,none⟩ (IQ y)).heap.size=w4.heap.size:=zac _ _ _;have zz5a:=Nat.le_of_eq zz5;have zz5b:=Nat.le_of_eq zz5.symm;generalize w4.setCell ⟨f,0,none⟩ (IQ y)=w5 at *;clear zz5 RD ND KF q0 fz s0;have q0:=bkC KG.out 0 rfl;have q1:=bkC KG.out 1 rfl;have q2:=bkC KG.out 2 rfl;have q3:=bkC KG.out 3 rfl;have q4:=bkC KG.out 4 rfl;have HW:Hid (BandW ⟨y,x.low,x.high,x.raster,x.duplex⟩):=⟨hy,HX.out.2⟩
    go_wp2_with (at_builtin;refine zao rfl (.tmp 26) (.tmp 28) _ rfl w.heap.size 102 iB _ 5 48 Tryz.underlying51 hB0 hB1 hB2 hB3 rfl II _ _ _ [] rfl RE.out.g [IQ y,J x.low,J x.high,J x.raster,J x.duplex] (DBand.tr (⟨y,x.low,x.high,x.raster,x.duplex⟩)) [] rfl 1 rfl (fun u hu=>by simp only[List.mem_cons,List.not_mem_nil,or_false] at hu;rcases hu with rfl|rfl|rfl|rfl|rfl<;>rfl) (RepV.lits [IQ y,J x.low,J x.high,J x.raster,J x.duplex]) List.nodup_nil (fun b h=>by simp at h) 0 In.nil In.nil (fun y h1=>by simp at h1) (fun y hy h2=>by simp at h2) (by unfold maxLen;omega) II II ?_;intro v9 w9 hgn;obtain⟨xs9,ho9,_⟩:=hgn.grow.own;obtain⟨a9,c9,ev,_⟩:=zar ho9;subst ev;clear ho9;have RN:=IJ (RE.out.app (x:=⟨y,x.low,x.high,x.raster,x.duplex⟩) HW.out hgn);have NN9:=IJ ((hgn.keep nb II (fun e=>by exact NV.out nb e rfl)).trans NE.out);have NV9:Hid (∀ g,(Value.slice a9 (l.length+1) c9).ownBlock=some g→g≠nb):=fun g hg=>(hgn.row.elim (fun r=>NV.out g (r.symm.trans hg)) (fun ⟨y9,r,hr⟩=>(by rw[r] at hg;injection hg with hg;omega)));clear hgn);go_roundw
    case rel=>exact⟨j+1,_,II,by go_num,RN.out.more II II,NN9.out,NV9.out⟩
    case measure=>simp only[intOf];omega
  ·have hji:¬ (j:Int)<5:=II
   have RX:Hid (BnS b k 100 5 w wr l (IZ a l.length cc)):=RA.out.more II II;clear RA NA;go_wp2_with (fail)
   go_at_call 68
   obtain⟨kk,ka,kb,SS⟩:=RX.out.src;refine (one_any b kk 8 _ SS II ⟨II,II⟩).mono ?_;rintro e w2 ⟨⟨cd,rfl⟩,hq⟩;have RB:Hid (BnS b k 102 5 w w2 l (IZ a l.length cc)):=RX.out.call ka kb hq;have zz2:=RB.out.chg.size;clear RX SS ka kb hq;go_upto_if 31 with (fail);go_cut [3] (fun s3 wx=>∃ l:List DBand,BnS b k 160 6 w wx l s3)
   case first =>
    cases cd with
    | false =>
     go_wp2;go_meet;exact⟨l,RB.out.more II II⟩
    | true =>
     go_wp2_with (fail)
     go_at_call 123
     obtain⟨kk,ka,kb,SS⟩:=RB.out.src;refine (l15Draw_any b kk _ SS II).mono ?_;rintro e w3 ⟨x,hx,rfl,hq⟩;have RC:Hid (BnS b k 124 5 w w3 l (IZ a l.length cc)):=RB.out.call ka kb hq;have zz3:=RC.out.chg.size;have HX:=IJ hx;clear RB SS ka kb hq hx;go_wp2_with (at_builtin;refine zao rfl (.tmp 32) (.tmp 35) _ rfl w.heap.size 102 iB _ 5 48 Tryz.underlying51 hB0 hB1 hB2 hB3 rfl II _ _ _ [] rfl RC.out.g [IQ x.name,J x.low,J x.high,J x.raster,J x.duplex] (DBand.tr (x)) [] rfl 1 rfl (fun u hu=>by simp only[List.mem_cons,List.not_mem_nil,or_false] at hu;rcases hu with rfl|rfl|rfl|rfl|rfl<;>rfl) (RepV.lits [IQ x.name,J x.low,J x.high,J x.raster,J x.duplex]) List.nodup_nil (fun b h=>by simp at h) 0 In.nil In.nil (fun y h1=>by simp at h1) (fun y hy h2=>by simp at h2) (by unfold maxLen;omega) II II ?_;intro v9 w9 hgn;obtain⟨xs9,ho9,_⟩:=hgn.grow.own;obtain⟨a9,c9,ev,_⟩:=zar ho9;subst ev;clear ho9;have RN:=IJ (RC.out.app (x:=x) HX.out hgn);clear hgn);go_meet;exact⟨_,RN.out.more II II⟩
   case rest =>
    obtain⟨l,hd⟩:=hcut;obtain⟨a,cc,rfl⟩:=hd.form;clear RB;have RX:=IJ hd;clear hd;generalize wc=wy at *;have hll:=RX.out.ln;go_wp2_with (fail)
    go_at_call 68
    obtain⟨kk,ka,kb,SS⟩:=RX.out.src;refine (one_any b kk 14 _ SS II ⟨II,II⟩).mono ?_;rintro e w3 ⟨⟨cd2,rfl⟩,hq⟩;have RB:Hid (BnS b k 162 6 w w3 l (IZ a l.length cc)):=RX.out.call ka kb hq;have zz3:=RB.out.chg.size;clear RX SS ka kb hq;go_upto_if 38 with (fail);go_cut [3] (fun s3 wx=>∃ l:List DBand,BnS b k 400 30 w wx l s3)
    case first =>
     cases cd2 with
     | false =>
      go_wp2;go_meet;exact⟨l,RB.out.more II II⟩
     | true =>
      go_wp2_with (fail)
      go_at_call 66
      have BA:=zak w3 (.cells #[J 8,J 9] 2);have DA:=RB.out.below BA;obtain⟨kk,ka,kb,SS⟩:=DA.src;refine (zco b kk [8,9] w3.heap.size 2 _ SS II (by have:=RB.out.bl;omega) (by simp) (by simp) (LayI.new w3 _ [8,9] 2 rfl)).mono ?_;rintro e w4 ⟨⟨mv,hv,rfl⟩,hq⟩;have hmv:0≤mv∧mv≤9:=by
       simp only[List.mem_cons,List.not_mem_nil,or_false] at hv
       rcases hv with rfl|rfl<;>omega
      obtain⟨M,rfl⟩:=Int.eq_ofNat_of_zero_le hmv.1;have hM:M≤9:=II
      have RC:Hid (BnS b k 164 6 w w4 l (IZ a l.length cc)):=DA.call ka kb hq;have RE:Hid (BnS b k 164 0 w (w4.alloc (.cells #[] 102)) [] (IZ (some ⟨w4,0,none⟩) 0 0)):=BnS.empty RC.out.src RC.out.chg RC.out.bl RC.out.chg.size;clear RB DA SS hq hv BA ka kb RC hmv;go_upto_region 15 with (fail);generalize w4.alloc (.cells #[] 102)=w5 at *;go_wp2;go_loopw [3,8] (fun s3 i wr=>∃ (j:Nat) (l:List DBand),j≤M∧i=J (j:Int)∧BnS b k 164 j w wr l s3) (fun _ i wr=>M-(intOf i).toNat)
      case atStart=>exact⟨0,[],II,rfl,RE.out⟩
      case round =>
       obtain⟨j,l,hj,rfl,hR⟩:=hrel;obtain⟨a,cc,rfl⟩:=hR.form;have RA:=IJ hR;have hll:=hR.ln;clear hR RE
       by_cases hlt:j<M
       ·have hji:(j:Int)<(M:Int):=II
        go_wp2_with (fail)
        go_at_call 124
        refine (l01Dec_any (j:Int) ⟨II,II⟩ wr).mono ?_;rintro e w6 ⟨rfl,hb⟩;have RC:=IJ (RA.out.below hb);have zz6:=RC.out.chg.size;have hns:((⟨#[120]⟩:ByteArray)++ofL (Go.Lib.itoa (j:Int))).size≤20:=by
         have h8:j≤8:=II
         rw[ByteArray.size_append]
         rcases (show j=0∨j=1∨j=2∨j=3∨j=4∨j=5∨j=6∨j=7∨j=8 by omega) with rfl|rfl|rfl|rfl|rfl|rfl|rfl|rfl|rfl<;>decide +kernel
        have HW:Hid (BandW ⟨(⟨#[120]⟩:ByteArray)++ofL (Go.Lib.itoa (j:Int)),1,9,1,0⟩):=⟨hns,(show I64 1 from ⟨by decide,by decide⟩),(show I64 9 from ⟨by decide,by decide⟩),(show I64 1 from ⟨by decide,by decide⟩),(show I64 0 from ⟨by decide,by decide⟩)⟩
        have hno:¬ 9223372036854775807<1+(ofL (Go.Lib.itoa (j:Int))).size:=by
         have h2:=hns;rw[ByteArray.size_append,show (⟨#[120]⟩:ByteArray).size=1 from rfl] at h2;omega
        clear RA hb;go_wp2_with (at_builtin;refine zao rfl (.tmp 48) (.tmp 53) _ rfl w.heap.size 102 iB _ 5 48 Tryz.underlying51 hB0 hB1 hB2 hB3 rfl II _ _ _ [] rfl RC.out.g [IQ ((⟨#[120]⟩:ByteArray)++ofL (Go.Lib.itoa (j:Int))),J 1,J 9,J 1,J 0] (DBand.tr (⟨(⟨#[120]⟩:ByteArray)++ofL (Go.Lib.itoa (j:Int)),1,9,1,0⟩)) [] rfl 1 rfl (fun u hu=>by simp only[List.mem_cons,List.not_mem_nil,or_false] at hu;rcases hu with rfl|rfl|rfl|rfl|rfl<;>rfl) (RepV.lits [IQ ((⟨#[120]⟩:ByteArray)++ofL (Go.Lib.itoa (j:Int))),J 1,J 9,J 1,J 0]) List.nodup_nil (fun b h=>by simp at h) 0 In.nil In.nil (fun y h1=>by simp at h1) (fun y hy h2=>by simp at h2) (by unfold maxLen;omega) II II ?_;intro v9 w9 hgn;obtain⟨xs9,ho9,_⟩:=hgn.grow.own;obtain⟨a9,c9,ev,_⟩:=zar ho9;subst ev;clear ho9;have RN:=IJ (RC.out.app (x:=⟨(⟨#[120]⟩:ByteArray)++ofL (Go.Lib.itoa (j:Int)),1,9,1,0⟩) HW.out hgn);clear hgn);go_roundw
        case rel=>exact⟨j+1,_,II,by go_num,RN.out.more II II⟩
        case measure=>simp only[intOf];omega
       ·have hji:¬ (j:Int)<(M:Int):=II
        go_wp2;go_meet;exact⟨l,RA.out.more II II⟩
    case rest =>
     obtain⟨l,hd⟩:=hcut;obtain⟨a,cc,rfl⟩:=hd.form;clear RB;go_wp2;refine bodyPost_ret (v:=IZ a l.length cc) (by simp[results,Tryz.results82,go_sem, *]) rfl ?_;obtain⟨fp,o1,i1,_⟩:=hd.g.toOwnB (lo:=w.heap.size) (by decide) In.nil (Nat.le_refl _);obtain⟨k',h1,h2,S⟩:=hd.src;exact⟨l,a,cc,fp,hd.bd,hd.ln,rfl,o1,i1,k',h1,h2,S,hd.chg⟩
end Go.Proofs.YtpakghepnahooaaGreatDoor
