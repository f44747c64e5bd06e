/- Contract: DrawCoverNetwork of the reference (some small arguments). No condition. -/
import Derived.Test.YtpakghepnahooaaGreatDoorDw5
import Derived.Deep.CutBlock
set_option linter.unusedVariables false
set_option linter.unusedSimpArgs false
namespace Go.Proofs.YtpakghepnahooaaGreatDoor
open Go.RowKit
theorem Q0z {p:Prop} (h:p:=by
 rintro e w5 ⟨x,u0,u1,u2,u3,hx,rfl,hrow,hq1⟩
 have RU:Hid (NwS b k 364 w w5 q p lo hi 32 n (IZ A0 n.sites.length C0) (IZ A1 n.sectors.length C1) (IZ A2 n.antennas.length C2) (IZ A3 n.radios.length C3)):=RT.out.call ka kb hq1
 have pl:p<w4.heap.size:=zcv RT.out.hp
 obtain⟨B0,D0,B1,D1,B2,D2,B3,D3,rfl,rfl,rfl,rfl⟩:=hrow.form
 have HR:=IJ hrow
 clear RT SS ka kb hq1 hrow
 obtain⟨s0,s1,s2,s3,g⟩:=bz4 RU.out.hp
 go_wp2
 go_meet
 exact⟨x,_,_,_,_,(RU.out.putX hx pl (Nat.le_refl _) HR.out).more II⟩):p:=h
theorem Q1p {p:Prop} (h:p:=by
 have HQ:Hid (SrcQ b k 4 w w2):=⟨k2,II,II,S2,(cq.trans (Chg.of_below BA)).trans C2⟩
 clear SQ SS cq BA ka kb S2 C2 k3 k4 hv
 go_wp2
 go_ret
 exact⟨v,hI,rfl,HQ.out⟩):p:=h
set_option maxHeartbeats 8000000
set_option maxRecDepth 100000
def DrNetW (b k m:Nat) (w:World) (e:Ending) (w':World):Prop:=∃ (n:DNetwork) (v0 v1 v2 v3:Value),NetW 40 60 n∧e=.returned (.agg #[v0,v1,v2,v3])∧NwP w.heap.size w'.heap.size w' n v0 v1 v2 v3∧SrcQ b k m w w'
theorem chg_new {b p:Nat} {w0 w w':World} (h:Chg [b] w0 w) (g:Chg [p] w w') (hp:w0.heap.size≤p):Chg [b] w0 w' :=
 ⟨g.os.trans h.os,g.tape.trans h.tape,g.output.trans h.output,Nat.le_trans h.size g.size,fun x hx hn=>(g.block x (Nat.lt_of_lt_of_le hx h.size) Q41).trans (h.block x hx hn)⟩
theorem l14Many_any (b k:Nat) (S D:Nat) (w:World) (h:Src w b k) (hk:k≤1099511400000) (hS:S≤13) (hD:D≤25):Calls Tryz.prog 114 #[.pointer (some ⟨b,0,none⟩),J (S:Int),J (D:Int)] w (DrNetW b k 120 w):=by
 obtain⟨iS,hS0,hS1,hS2,hS3⟩:=info_parts infoSite;obtain⟨iT,hT0,hT1,hT2,hT3⟩:=info_parts infoSector;have yb:=h.lt;have HS:=IJ h;clear h;go_enter Tryz.func114,Tryz.ntmps114;go_wp2_with (fail);obtain⟨W0,hW0,b0,z0,k0⟩:=zav w () 32;rw[hW0];clear hW0;obtain⟨q,hq⟩:∃ q,q=w.heap.size:=⟨_,rfl⟩
 rw[← hq] at k0 ⊢;have q1:=Nat.le_of_eq hq;have q2:=Nat.le_of_eq hq.symm;have K0:=IJ k0;have B0:=IJ b0;clear b0 k0 hq
 go_at_call 90
 refine (l14Base_new b k W0 (HS.out.below HS.out.lt B0.out) II).mono ?_;rintro e w1 ⟨la,lr,v2,v3,hn,rfl,hrow,kk,ka,kb,SS,cq⟩;obtain⟨A0,C0,A1,C1,A2,C2,A3,C3,-,-,rfl,rfl⟩:=hrow.form;have HN:=IJ hn;have HR:=IJ hrow;have SK:=IJ SS;have CQ:=IJ cq;have zq:=cq.size;have K1:=IJ ((cq.block q II Q41).trans K0.out);clear hn hrow SS cq HS K0;go_upto_region 2 with (fail);obtain⟨w2,hw2,b2,z2,k2⟩:=zav w1 #[IZ none 0 0,IZ none 0 0,IZ A2 la.length C2,IZ A3 lr.length C3] 32;rw[hw2];clear hw2;obtain⟨p,hp⟩:∃ p,p=w1.heap.size:=⟨_,rfl⟩
 rw[← hp] at k2 ⊢;have p1:=Nat.le_of_eq hp;have p2:=Nat.le_of_eq hp.symm;have HR2:=IJ (HR.out.frame (fun x _ hx=>b2.block x hx));have HP2:=IJ k2;have HQ2:=IJ (bkB K1.out b2 II);have SK2:=IJ (SK.out.below SK.out.lt b2);have CH2:=IJ (((Chg.of_below B0.out).trans CQ.out).trans (Chg.of_below b2));clear k2 b2 HR SK CQ K1 B0 hp;go_wp2;go_loopw [8] (fun i wr=>∃ (j:Nat) (l:List DSite) (a:Option Addr) (c:Nat),j≤S∧i=J (j:Int)∧l.length=j∧(∀ x ∈ l,x.ok∧sizL x.tr≤100)∧wr.heap[p]? = some (.cells #[IZ a j c,IZ none 0 0,IZ A2 la.length C2,IZ A3 lr.length C3] 32 (0,0))∧Grow wr w2.heap.size 119 4 (IZ a j c) j (l.flatMap DSite.tr) []∧Chg [p] w2 wr) (fun i wr=>S-(intOf i).toNat)
 case atStart=>exact⟨0,[],none,0,Nat.zero_le _,rfl,rfl,fun x hx=>by simp at hx,HP2.out,Grow.nil,Chg.refl _ _⟩
 case round =>
  obtain⟨j,l,a,c,hj,rfl,hl,hok,hkp,hgr,hch⟩:=hrel;have HL:=IJ (And.intro hl hok);have HP:=IJ hkp;have HG:=IJ hgr;have HC:=IJ hch;have zr:=hch.size;clear hl hok hkp hgr hch HP2
  by_cases hlt:j<S
  ·have hji:(j:Int)<(S:Int):=II
   have hj0:(0:Int)≤(j:Int):=II
   have q0:=bkC HP.out 0 rfl;obtain⟨ch,hch⟩:∃ ch:UInt8,(ch.toNat:Int)=97+(j:Int):=⟨UInt8.ofNat (97+j),by rw[show (UInt8.ofNat (97+j)).toNat=97+j from UInt8.toNat_ofNat_of_lt (show 97+j<256 by omega)];omega⟩
   have HCH:=IJ hch;clear hch
   have hcv:(Go.convert 22 9 (IZ (some ⟨wr,0,none⟩) 1 1)).run Tryz.prog (wr.alloc (.cells #[.int .u8 (97+(j:Int))] 5))=.ok (IQ ⟨#[ch]⟩) (wr.alloc (.cells #[.int .u8 (97+(j:Int))] 5)):=run_convert_bytes_back (P:=Tryz.prog) (wr.alloc (.cells #[.int .u8 (97+(j:Int))] 5)) 22 9 5 ⟨wr,0,none⟩ 1 [ch] Tryz.underlying22 Tryz.underlying5 Tryz.underlying9 (fun i hi=>by
    have h0:i=0:=by simp at hi;omega
    subst h0;have hc:(wr.alloc (.cells #[.int .u8 (97+(j:Int))] 5)).cell? ⟨wr,0,none⟩=some (.int .u8 (97+(j:Int))):=bkC (bkN wr #[.int .u8 (97+(j:Int))] 5) 0 rfl;show _=some (Value.int .u8 (ch.toNat:Int))
    rw[HCH.out]
    exact hc)
   have HCV:=IJ hcv;clear hcv;have HG1:=IJ (HG.out.below (lo:=0) In.nil (zao wr (.cells #[.int .u8 (97+(j:Int))] 5)));have HP1:=IJ (bkB HP.out (zao wr (.cells #[.int .u8 (97+(j:Int))] 5)) (zcv HP.out));have HC1:=IJ (HC.out.trans (Chg.of_below (zao wr (.cells #[.int .u8 (97+(j:Int))] 5))));have zr1:wr.heap.size<(wr.alloc (.cells #[.int .u8 (97+(j:Int))] 5)).heap.size:=by simp
   have HX:Hid ((⟨⟨#[115]⟩++⟨#[ch]⟩,⟨#[111,110,101]⟩,⟨0,0⟩⟩:DSite).ok∧sizL (⟨⟨#[115]⟩++⟨#[ch]⟩,⟨#[111,110,101]⟩,⟨0,0⟩⟩:DSite).tr≤100):=by
    have hs:((⟨#[115]⟩:ByteArray)++⟨#[ch]⟩).size=2:=by rw[ByteArray.size_append];rfl
    refine⟨⟨(by show ((⟨#[115]⟩:ByteArray)++⟨#[ch]⟩).size≤maxLen;rw[hs];decide),(show ((⟨#[111,110,101]⟩:ByteArray)).size≤maxLen by decide),⟨(show I64 0 from ⟨by decide,by decide⟩),(show I64 0 from ⟨by decide,by decide⟩)⟩⟩,?_⟩
    ·simp only[DSite.tr,DPoint.tr,sizL,siz,strT,intT,List.cons_append,List.nil_append,hs]
     decide
   go_wp2;generalize (wr.alloc (.cells #[.int .u8 (97+(j:Int))] 5))=w8 at *;rw[HCV.out];simp only[Result.andThen_ok];go_wp2_with (at_builtin;refine zax rfl (.tmp 18) (.tmp 26) _ rfl w2.heap.size 119 iS _ 4 48 Tryz.underlying27 hS0 hS1 hS2 hS3 rfl II _ _ _ [] rfl HG1.out [IQ (⟨#[115]⟩++⟨#[ch]⟩),IQ ⟨#[111,110,101]⟩,J 0,J 0] (DSite.tr (⟨⟨#[115]⟩++⟨#[ch]⟩,⟨#[111,110,101]⟩,⟨0,0⟩⟩)) [] rfl 1 rfl (fun u hu=>by simp only[List.mem_cons,List.not_mem_nil,or_false] at hu;rcases hu with rfl|rfl|rfl|rfl<;>rfl) (RepV.lits [IQ (⟨#[115]⟩++⟨#[ch]⟩),IQ ⟨#[111,110,101]⟩,J 0,J 0]) List.nodup_nil (fun b h=>by simp at h) 0 In.nil In.nil (fun y h1=>by simp at h1) (fun y hy h2=>by simp at h2) Q3v II II ?_;intro v9 w9 hgn;obtain⟨xs9,ho9,_⟩:=hgn.grow.own;obtain⟨a9,c9,ev,_⟩:=zaw ho9;subst ev;clear ho9;have kp9:=(hgn.keep p (by have:=zcv HP1.out;omega) (fun e=>by have:=(HG1.out.block e).1;omega)).trans HP1.out;have HP9:=IJ kp9;have m0:=bkC kp9 0 rfl;have mz:=bkF kp9;have HGN:=IJ hgn;clear hgn kp9);go_roundw
   case rel =>
    refine⟨j+1,l++[⟨⟨#[115]⟩++⟨#[ch]⟩,⟨#[111,110,101]⟩,⟨0,0⟩⟩],a9,c9,II,by go_num,by rw[List.length_append,HL.out.1];rfl,fun x hx=>?_,?_,?_,(Chg.thenB' HC1.out HGN.out.below).setCell Q4a _⟩
    ·rcases List.mem_append.1 hx with e|e
     ·exact HL.out.2 x e
     ·rw[List.mem_singleton.1 e];exact HX.out
    ·have:=bkS HP9.out 0 (IZ a9 (j+1) c9)
     simpa using this
    ·rw[List.flatMap_append,List.flatMap_cons,List.flatMap_nil,List.append_nil]
     exact HGN.out.grow.frame (fun g hg=>bkO rfl (p:=⟨p,0,none⟩) (by have:=(HGN.out.grow.block hg).1;show g≠p;omega) _) (fun x hx=>by simp at hx)
   case measure=>simp only[intOf];omega
  ·have hji:¬ (j:Int)<(S:Int):=II
   obtain rfl:S=j:=II
   obtain⟨w6,ew⟩:∃ W:World,W=wr:=⟨_,rfl⟩
   subst ew;obtain⟨f0,o0,i0,_⟩:=HG.out.toOwnB (lo:=w2.heap.size) Q47 In.nil (Nat.le_refl _);obtain⟨a0,ea⟩:∃ x,x=a:=⟨_,rfl⟩
   obtain⟨c0,ec⟩:∃ x,x=c:=⟨_,rfl⟩
   obtain⟨l0,el⟩:∃ x,x=l:=⟨_,rfl⟩
   subst ea ec el;have HL0:=HL;have HO:=IJ o0;have HI:=IJ i0;have HP2:=HP;have HR6:=IJ (HR2.out.frame (fun x h1 h2=>HC.out.block x II Q41));have HQ6:=IJ ((HC.out.block q II Q41).trans HQ2.out);have SK6:=IJ (SK2.out.chg (fun x hx=>by simp at hx;omega) HC.out);have CH6:=IJ (chg_new CH2.out HC.out II);clear HL HP HG HC o0 i0 HR2 HQ2 SK2 CH2 hj hlt hji;go_wp2;go_loopw [9] (fun i wr=>∃ (j:Nat) (l:List DSector) (a:Option Addr) (c:Nat),j≤D∧i=J (j:Int)∧l.length=j∧(∀ x ∈ l,x.ok∧sizL x.tr≤100)∧wr.heap[p]? = some (.cells #[IZ a0 S c0,IZ a j c,IZ A2 la.length C2,IZ A3 lr.length C3] 32 (0,0))∧Grow wr w6.heap.size 43 9 (IZ a j c) j (l.flatMap DSector.tr) []∧Chg [p] w6 wr) (fun i wr=>D-(intOf i).toNat)
   case atStart=>exact⟨0,[],none,0,Nat.zero_le _,rfl,rfl,fun x hx=>by simp at hx,HP2.out,Grow.nil,Chg.refl _ _⟩
   case round =>
    obtain⟨j,l,a,c,hj,rfl,hl,hok,hkp,hgr,hch⟩:=hrel;have HL:=IJ (And.intro hl hok);have HP:=IJ hkp;have HG:=IJ hgr;have HC:=IJ hch;have zr:=hch.size;clear hl hok hkp hgr hch HP2
    by_cases hlt:j<D
    ·have hji:(j:Int)<(D:Int):=II
     have hj0:(0:Int)≤(j:Int):=II
     have q0:=bkC HP.out 1 rfl;obtain⟨ch,hch⟩:∃ ch:UInt8,(ch.toNat:Int)=97+(j:Int):=⟨UInt8.ofNat (97+j),by rw[show (UInt8.ofNat (97+j)).toNat=97+j from UInt8.toNat_ofNat_of_lt (show 97+j<256 by omega)];omega⟩
     have HCH:=IJ hch;clear hch
     have hcv:(Go.convert 22 9 (IZ (some ⟨wr,0,none⟩) 1 1)).run Tryz.prog (wr.alloc (.cells #[.int .u8 (97+(j:Int))] 5))=.ok (IQ ⟨#[ch]⟩) (wr.alloc (.cells #[.int .u8 (97+(j:Int))] 5)):=run_convert_bytes_back (P:=Tryz.prog) (wr.alloc (.cells #[.int .u8 (97+(j:Int))] 5)) 22 9 5 ⟨wr,0,none⟩ 1 [ch] Tryz.underlying22 Tryz.underlying5 Tryz.underlying9 (fun i hi=>by
      have h0:i=0:=by simp at hi;omega
      subst h0;have hc:(wr.alloc (.cells #[.int .u8 (97+(j:Int))] 5)).cell? ⟨wr,0,none⟩=some (.int .u8 (97+(j:Int))):=bkC (bkN wr #[.int .u8 (97+(j:Int))] 5) 0 rfl;show _=some (Value.int .u8 (ch.toNat:Int))
      rw[HCH.out]
      exact hc)
     have HCV:=IJ hcv;clear hcv;have HG1:=IJ (HG.out.below (lo:=0) In.nil (zao wr (.cells #[.int .u8 (97+(j:Int))] 5)));have HP1:=IJ (bkB HP.out (zao wr (.cells #[.int .u8 (97+(j:Int))] 5)) (zcv HP.out));have HC1:=IJ (HC.out.trans (Chg.of_below (zao wr (.cells #[.int .u8 (97+(j:Int))] 5))));have zr1:wr.heap.size<(wr.alloc (.cells #[.int .u8 (97+(j:Int))] 5)).heap.size:=by simp
     have HX:Hid ((⟨⟨#[116]⟩++⟨#[ch]⟩,⟨#[115,97]⟩,⟨#[98,101,97,109]⟩,⟨#[98,105,103]⟩,⟨#[108,111,119]⟩,0,0,5,-1⟩:DSector).ok∧sizL (⟨⟨#[116]⟩++⟨#[ch]⟩,⟨#[115,97]⟩,⟨#[98,101,97,109]⟩,⟨#[98,105,103]⟩,⟨#[108,111,119]⟩,0,0,5,-1⟩:DSector).tr≤100):=by
      have hs:((⟨#[116]⟩:ByteArray)++⟨#[ch]⟩).size=2:=by rw[ByteArray.size_append];rfl
      refine⟨⟨(by show ((⟨#[116]⟩:ByteArray)++⟨#[ch]⟩).size≤maxLen;rw[hs];decide),(show ((⟨#[115,97]⟩:ByteArray)).size≤maxLen by decide),(show ((⟨#[98,101,97,109]⟩:ByteArray)).size≤maxLen by decide),(show ((⟨#[98,105,103]⟩:ByteArray)).size≤maxLen by decide),(show ((⟨#[108,111,119]⟩:ByteArray)).size≤maxLen by decide),(show I64 0 from ⟨by decide,by decide⟩),(show I64 0 from ⟨by decide,by decide⟩),(show I64 5 from ⟨by decide,by decide⟩),(show I64 (-1) from ⟨by decide,by decide⟩)⟩,?_⟩
      ·simp only[DSector.tr,DPoint.tr,sizL,siz,strT,intT,List.cons_append,List.nil_append,hs]
       decide
     go_wp2;generalize (wr.alloc (.cells #[.int .u8 (97+(j:Int))] 5))=w8 at *;rw[HCV.out];simp only[Result.andThen_ok];go_wp2_with (at_builtin;refine zax rfl (.tmp 35) (.tmp 43) _ rfl w6.heap.size 43 iT _ 9 112 Tryz.underlying28 hT0 hT1 hT2 hT3 rfl II _ _ _ [] rfl HG1.out [IQ (⟨#[116]⟩++⟨#[ch]⟩),IQ ⟨#[115,97]⟩,IQ ⟨#[98,101,97,109]⟩,IQ ⟨#[98,105,103]⟩,IQ ⟨#[108,111,119]⟩,J 0,J 0,J 5,J (-1)] (DSector.tr (⟨⟨#[116]⟩++⟨#[ch]⟩,⟨#[115,97]⟩,⟨#[98,101,97,109]⟩,⟨#[98,105,103]⟩,⟨#[108,111,119]⟩,0,0,5,-1⟩)) [] rfl 1 rfl (fun u hu=>by simp only[List.mem_cons,List.not_mem_nil,or_false] at hu;rcases hu with rfl|rfl|rfl|rfl|rfl|rfl|rfl|rfl|rfl<;>rfl) (RepV.lits [IQ (⟨#[116]⟩++⟨#[ch]⟩),IQ ⟨#[115,97]⟩,IQ ⟨#[98,101,97,109]⟩,IQ ⟨#[98,105,103]⟩,IQ ⟨#[108,111,119]⟩,J 0,J 0,J 5,J (-1)]) List.nodup_nil (fun b h=>by simp at h) 0 In.nil In.nil (fun y h1=>by simp at h1) (fun y hy h2=>by simp at h2) Q3v II II ?_;intro v9 w9 hgn;obtain⟨xs9,ho9,_⟩:=hgn.grow.own;obtain⟨a9,c9,ev,_⟩:=zaw ho9;subst ev;clear ho9;have kp9:=(hgn.keep p (by have:=zcv HP1.out;omega) (fun e=>by have:=(HG1.out.block e).1;omega)).trans HP1.out;have HP9:=IJ kp9;have m0:=bkC kp9 1 rfl;have mz:=bkF kp9;have HGN:=IJ hgn;clear hgn kp9);go_roundw
     case rel =>
      refine⟨j+1,l++[⟨⟨#[116]⟩++⟨#[ch]⟩,⟨#[115,97]⟩,⟨#[98,101,97,109]⟩,⟨#[98,105,103]⟩,⟨#[108,111,119]⟩,0,0,5,-1⟩],a9,c9,II,by go_num,by rw[List.length_append,HL.out.1];rfl,fun x hx=>?_,?_,?_,(Chg.thenB' HC1.out HGN.out.below).setCell Q4a _⟩
      ·rcases List.mem_append.1 hx with e|e
       ·exact HL.out.2 x e
       ·rw[List.mem_singleton.1 e];exact HX.out
      ·have:=bkS HP9.out 1 (IZ a9 (j+1) c9)
       simpa using this
      ·rw[List.flatMap_append,List.flatMap_cons,List.flatMap_nil,List.append_nil]
       exact HGN.out.grow.frame (fun g hg=>bkO rfl (p:=⟨p,1,none⟩) (by have:=(HGN.out.grow.block hg).1;show g≠p;omega) _) (fun x hx=>by simp at hx)
     case measure=>simp only[intOf];omega
    ·have hji:¬ (j:Int)<(D:Int):=II
     obtain rfl:D=j:=II
     obtain⟨f1,o1,i1,_⟩:=HG.out.toOwnB (lo:=w6.heap.size) Q47 In.nil (Nat.le_refl _);have HO1:=IJ o1;have HI1:=IJ i1;have HO0:=IJ (HO.out.frame (fun x hx=>HC.out.block x (HI.out x hx).2 (by have:=(HI.out x hx).1;simp<;>omega)));have HR9:=IJ (HR6.out.frame (fun x h1 h2=>HC.out.block x II Q41));have HQ9:=IJ ((HC.out.block q II Q41).trans HQ6.out);have SK9:Hid (∃ k',k≤k'∧k'≤k+120∧Src wr b k'):=⟨kk,ka,kb,SK6.out.chg (fun x hx=>by simp at hx;omega) HC.out⟩
     have CH9:Hid (Chg [b] w wr):=chg_new CH6.out HC.out II;obtain⟨fpr,ovr,ivr⟩:=HR9.out;obtain⟨f0',g0,e0,_,ovr1,_⟩:=OwnV.uncons (show OwnV wr [DSite.sT [],DSector.sT [],DAntenna.sT la,DRadio.sT lr] _ fpr from ovr);obtain⟨f1',g1,e1,_,ovr2,_⟩:=ovr1.uncons;have ivg:In W0 w1 g1:=fun x hx=>ivr x (by rw[e0,e1];simp[hx])
     have ov:OwnV wr (DNetwork.tr ⟨l0,l,la,lr⟩) [IZ a0 S c0,IZ a D c,IZ A2 la.length C2,IZ A3 lr.length C3] (f0++(f1++g1)):=OwnV.cons HO0.out (OwnV.cons HO1.out ovr2 (fun x h1 h2=>by have:=(HI1.out x h1).1;have:=(ivg x h2).2;omega)) (fun x h1 h2=>by
      have:=HI.out x h1
      rcases List.mem_append.1 h2 with h2|h2
      ·have:=(HI1.out x h2).1;omega
      ·have:=(ivg x h2).2;omega)
     have OV:=IJ ov;have IV:Hid (In W0 wr (f0++(f1++g1))):=(HI.out.mono II II).append ((HI1.out.mono II (Nat.le_refl _)).append (ivg.mono (Nat.le_refl _) II));clear ov ovr ovr1 ovr2 ivr ivg o1 i1 HG;obtain⟨t0,t1,t2,t3,_⟩:=bz4 HP.out;obtain⟨s0,s1,s2,s3,g⟩:=bz4 HQ9.out;go_wp2;refine bodyPost_ret (v:=.agg #[IZ a0 S c0,IZ a D c,IZ A2 la.length C2,IZ A3 lr.length C3]) (by simp[results,Tryz.results114,go_sem, *]) rfl ?_;have hfar:=zca q [IZ a0 S c0,IZ a D c,IZ A2 la.length C2,IZ A3 lr.length C3] wr 0;have hsz:=zb2 q [IZ a0 S c0,IZ a D c,IZ A2 la.length C2,IZ A3 lr.length C3] wr 0;obtain⟨k',h1,h2,SS⟩:=SK9.out;have hW:=zd6 HN.out.ok;have W2:NetW 40 60 ⟨l0,l,la,lr⟩:=⟨by show l0.length≤40;rw[HL0.out.1];omega,by show l.length≤60;rw[HL.out.1];omega,hW.l2,hW.l3,HL0.out.2,HL.out.2,hW.s2,hW.s3⟩
     have E0:l0.length=S:=HL0.out.1;have E1:l.length=D:=HL.out.1;refine⟨⟨l0,l,la,lr⟩,_,_,_,_,W2,rfl,⟨_,OV.out.frame (fun x hx=>hfar x (by have:=(IV.out x hx).1;omega)),fun x hx=>⟨by have:=(IV.out x hx).1;omega,?_⟩⟩,SrcQ.low SS II h1 h2 CH9.out II (zbz q [IZ a0 S c0,IZ a D c,IZ A2 la.length C2,IZ A3 lr.length C3] wr 0)⟩;have:=(IV.out x hx).2;simp only[zbq] at hsz;rw[hsz];exact this
end Go.Proofs.YtpakghepnahooaaGreatDoor
namespace Go.Proofs.YtpakghepnahooaaGreatDoor
set_option maxHeartbeats 16000000
set_option maxRecDepth 100000
open Go.RowKit
theorem Reads.uniq {w:World} {B B' k n:Nat} {A:Option Addr} {xs ys:List Value} (h:Reads w B k A n xs) (g:Reads w B' k A n ys):xs=ys:=by
 rcases Nat.eq_zero_or_pos n with e|e
 ·subst e
  have h1:=h.1;have h2:=g.1;rw[Nat.zero_mul] at h1 h2;rw[List.eq_nil_of_length_eq_zero h1,List.eq_nil_of_length_eq_zero h2]
 ·obtain⟨ad,e1,_,c1⟩:=h.2 e
  obtain⟨ad',e2,_,c2⟩:=g.2 e;rw[e1] at e2;injection e2 with e2;subst e2;refine List.ext_getElem (by rw[h.1,g.1]) (fun i h1 h2=>?_);have a:=c1 i _ (List.getElem?_eq_getElem h1);have b:=c2 i _ (List.getElem?_eq_getElem h2);rw[a] at b;injection b
theorem growOf {w:World} {lo hi B E k n:Nat} {v:Value} {ys:List Value} {fp:List Nat} (S:SpB w lo hi E k v n) (O:Own w (.sl k (ys.map .lit)) v fp) (hi_:In 0 B fp) (hk:0<k):Grow w lo E k v n (ys.map .lit) []:=by
 obtain⟨xs,hx⟩:=S.own;obtain⟨a,c,e,_⟩:=zaw hx;subst e;have e:=(Reads.of_own hx).uniq ((O.rd hi_).readsV hk);subst e;exact⟨⟨_,hx,RepV_lits w _⟩,List.nodup_nil,fun b h=>by simp at h,fun g _=>by simp⟩
theorem own_blk {w:World} {k:Nat} {es:List Tr} {v:Value} {f:List Nat} (O:Own w (.sl k es) v f) (hne:es≠[]):∀ g,v.ownBlock=some g→g ∈ f:=by
 obtain⟨a,n,c,hv,_,_,_,h⟩:=zb7.1 O.rep
 rcases h with ⟨e,_⟩|⟨b,off,f',_,ha,hf,_⟩
 ·exact absurd e hne
 ·subst hv ha hf
  intro g hg;simp[Value.ownBlock] at hg;simp[hg]
theorem own_tail {w:World} {k n c b off:Nat} {es us:List Tr} {fp:List Nat} (O:Own w (.sl k (es++us)) (IZ (some ⟨b,off,none⟩) (n+1) c) fp) (hk:es.length=k) (hn:0<n) (hl:0<k):∃ f,Own w (.sl k us) (IZ (some ⟨b,off+k,none⟩) n (c-1)) f∧∀ x ∈ f,x ∈ fp:=by
 obtain⟨a,n',c',hv,hlen,hnc,hc,h⟩:=zb7.1 O.rep;injection hv with e1 e2 e3;subst e2 e3;have hlu:us.length=n*k:=by rw[List.length_append,hk,Nat.add_mul,Nat.one_mul] at hlen;omega
 have hpos:0<n*k:=Nat.mul_pos hn hl;have hue:us≠[]:=fun e=>by rw[e] at hlu;simp at hlu;omega
 rcases h with ⟨e,_⟩|⟨b',off',f',_,ha,hf,hr⟩
 ·exact absurd (List.append_eq_nil_iff.1 e).2 hue
 ·rw[← e1] at ha
  injection ha with ha;injection ha with h1 h2;subst h1 h2 hf;obtain⟨f,g,_,hg,e⟩:=hr.split;subst e;rw[hk] at hg;have hnd:=O.nd;refine⟨b::g,⟨zb7.2 ⟨_,n,c-1,rfl,hlu,II,II,Or.inr ⟨b,off+k,g,hue,rfl,rfl,hg⟩⟩,?_,fun x hx=>O.free x (by rcases List.mem_cons.1 hx with e|e<;>simp[e])⟩,fun x hx=>by rcases List.mem_cons.1 hx with e|e<;>simp[e]⟩;rw[List.nodup_cons] at hnd ⊢;exact⟨fun e=>hnd.1 (by simp[e]),(List.nodup_append.1 hnd.2).2.1⟩
theorem flat_lenC {α:Type} (g:α→List Tr) (c:Nat) (h:∀ x,(g x).length=c):∀ l:List α,(l.flatMap g).length=l.length*c
 | []=>by simp
 | x::l=>by rw[List.flatMap_cons,List.length_append,h,flat_lenC g c h l,List.length_cons,Nat.add_mul];omega
structure NwX (b k c:Nat) (w0 w:World) (q p T:Nat) (n:DNetwork) (v0 v1 v2 v3:Value):Prop where
 src:∃ k',k≤k'∧k'≤k+c∧Src w b k'
 chg:Chg [b] w0 w
 hq:w.heap[q]? = some (.cells () T (0,0))
 hp:w.heap[p]? = some (.cells #[v0,v1,v2,v3] T (0,0))
 bl:b<w0.heap.size
 lq:w0.heap.size≤q
 row:∃ fp,OwnV w n.tr [v0,v1,v2,v3] fp∧∀ x ∈ fp,w0.heap.size≤x∧x<w.heap.size∧x≠q
 ok:NetW 40 60 n
section
variable {b k c q p lo hi T:Nat} {w0 w w':World} {n:DNetwork} {v0 v1 v2 v3:Value}
theorem NwX.form (h:NwX b k c w0 w q p T n v0 v1 v2 v3):∃ A0 C0 A1 C1 A2 C2 A3 C3,v0=IZ A0 n.sites.length C0∧v1=IZ A1 n.sectors.length C1∧v2=IZ A2 n.antennas.length C2∧v3=IZ A3 n.radios.length C3:=by
 obtain⟨fp,ov,hf⟩:=h.row;exact NwP.form (lo:=0) (hi:=w.heap.size) (w:=w) ⟨fp,ov,fun x hx=>⟨Nat.zero_le _,(hf x hx).2.1⟩⟩
theorem NwX.fin (h:NwX b k c w0 w q p T n v0 v1 v2 v3):DrNetW b k c w0 (.returned (.agg #[v0,v1,v2,v3])) (zbq w q 0 [v0,v1,v2,v3]):=by
 obtain⟨k',h1,h2,S⟩:=h.src;have:=h.bl;have:=h.lq;have hfar:=zca q [v0,v1,v2,v3] w 0;have hsz:=zb2 q [v0,v1,v2,v3] w 0;obtain⟨fp,ov,hf⟩:=h.row;exact⟨n,v0,v1,v2,v3,h.ok,rfl,⟨fp,ov.frame (fun x hx=>hfar x (hf x hx).2.2),fun x hx=>⟨(hf x hx).1,by rw[hsz];exact (hf x hx).2.1⟩⟩,SrcQ.low S II h1 h2 h.chg h.lq (zbz q [v0,v1,v2,v3] w 0)⟩
theorem NwS.bend (h:NwS b k c w0 w q p lo hi T n v0 v1 v2 v3) {x:DNetwork} {u0 u1 u2 u3:Value} (hb:OI lo w w') (hkp:w'.heap[p]? = w.heap[p]?) (hx:NetW 40 60 x) {j:Nat} {u:Value} (hu:(#[v0,v1,v2,v3]:Array Value).setIfInBounds j u=#[u0,u1,u2,u3]) {fp:List Nat} (ov:OwnV w' x.tr [u0,u1,u2,u3] fp) (hf:∀ y ∈ fp,w0.heap.size≤y∧y<w'.heap.size∧y≠q∧y≠p):NwX b k c w0 (w'.setCell ⟨p,j,none⟩ u) q p T x u0 u1 u2 u3:=by
 obtain⟨k',h1,h2,S⟩:=h.src;have:=h.bl;have:=h.lq;have:=h.qp;have:=h.ql;have hp2:w'.heap[p]? = some (.cells #[v0,v1,v2,v3] T (0,0)):=hkp.trans h.hp;have hpp:=bkS hp2 j u;rw[hu] at hpp;refine⟨⟨k',h1,h2,(S.below (B:=b+1) II (hb.mono II)).below (B:=b+1) II ((Below.refl (b+1) w').setCell (p:=⟨p,j,none⟩) (by show b+1≤p;omega) u)⟩,⟨hb.os.trans h.chg.os,hb.tape.trans h.chg.tape,hb.output.trans h.chg.output,by rw[zac];have:=hb.size;have:=h.chg.size;omega,fun y hy hn=>?_⟩,?_,hpp,h.bl,h.lq,⟨fp,ov.setFar (p:=⟨p,j,none⟩) (fun e=>(hf _ e).2.2.2 rfl) u,fun y hy=>by rw[zac];exact⟨(hf y hy).1,(hf y hy).2.1,(hf y hy).2.2.1⟩⟩,hx⟩
 ·rw[bkO rfl (p:=⟨p,j,none⟩) (by show y≠p;omega) u,hb.block y II]
  exact h.chg.block y hy hn
 ·rw[bkO rfl (p:=⟨p,j,none⟩) (by show q≠p;omega) u,hb.block q II]
  exact h.hq
theorem NwS.bent0 {x:DSite} (h:NwS b k c w0 w q p lo hi T n v0 v1 v2 v3) (hx:x.ok∧sizL x.tr≤100) {v':Value} (G:Grown w w' lo 119 4 v0 v' (n.sites.length+1) (n.sites.flatMap DSite.tr++x.tr) ([]++[])):w'.heap[p]? = w.heap[p]?∧NwX b k c w0 (w'.setCell ⟨p,0,none⟩ v') q p T { n with sites:=n.sites++[x] } v' v1 v2 v3:=by
 obtain⟨fp,ov,iv⟩:=h.row;obtain⟨f0,f1,f2,f3,fpm,O0,O1,O2,O3,d0,d1,d2⟩:=zex ov;have:=h.lq;have:=h.ql;have hqp:=h.qp;have hsep:=h.sep;have hhh:=h.hh;have hpl:=zcv h.hp;have hv:∀ g,v0.ownBlock=some g→lo≤g∧g<hi:=fun g hg=>by
  obtain⟨xs,hx⟩:=h.sp0.own;exact⟨(zbf hx hg).1,h.sp0.blk g hg⟩
 have hb0:∀ g,v0.ownBlock=some g→g ∉ f1∧g ∉ f2∧g ∉ f3:=fun g hg=>by
  by_cases e:n.sites.length=0
  ·have hn:=h.sp0.none_in e ov g hg
   exact⟨fun hh=>hn ((fpm g).2 (by simp[hh])),fun hh=>hn ((fpm g).2 (by simp[hh])),fun hh=>hn ((fpm g).2 (by simp[hh]))⟩
  ·have:=own_blk O0 (fun e2=>e (by have:=congrArg List.length e2;rw[flat_lenC DSite.tr 4 DSite.tr_len] at this;simp at this;omega)) g hg
   exact d0 g this
 have kp:∀ y,y<w.heap.size→(∀ g,v0.ownBlock=some g→y≠g)→w'.heap[y]? = w.heap[y]?:=fun y hy hn=>G.keep y hy (fun e=>hn y e rfl)
 have hzz:=G.size;have hkp:w'.heap[p]? = w.heap[p]?:=kp p hpl (fun g hg=>by have:=hv g hg;omega);obtain⟨fq,oq,iq,dq⟩:=G.grow.toOwnB (lo:=lo) Q47 In.nil (Nat.le_refl _);have hfq:∀ y ∈ fq,v0.ownBlock=some y∨w.heap.size≤y:=fun y hy=>by
  rcases dq y hy with e|e
  ·rcases G.row with r|⟨g,r,hg⟩
   ·rw[r] at e;exact Or.inl e
   ·rw[r] at e;injection e with e;exact Or.inr II
  ·simp at e
 have I1:∀ y ∈ f1,lo≤y∧y<hi:=fun y hy=>iv y ((fpm y).2 Q46)
 have P1:Own w' _ v1 f1:=O1.frame (fun y hy=>kp y (by have:=I1 y hy;omega) (fun g hg e=>(hb0 g hg).1 (by rw[← e];exact hy)));have N1:∀ y ∈ fq,y ∉ f1:=fun y hy hh=>by
  rcases hfq y hy with e|e
  ·exact (hb0 y e).1 hh
  ·have:=I1 y hh;omega
 have I2:∀ y ∈ f2,lo≤y∧y<hi:=fun y hy=>iv y ((fpm y).2 Q46)
 have P2:Own w' _ v2 f2:=O2.frame (fun y hy=>kp y (by have:=I2 y hy;omega) (fun g hg e=>(hb0 g hg).2.1 (by rw[← e];exact hy)));have N2:∀ y ∈ fq,y ∉ f2:=fun y hy hh=>by
  rcases hfq y hy with e|e
  ·exact (hb0 y e).2.1 hh
  ·have:=I2 y hh;omega
 have I3:∀ y ∈ f3,lo≤y∧y<hi:=fun y hy=>iv y ((fpm y).2 Q46)
 have P3:Own w' _ v3 f3:=O3.frame (fun y hy=>kp y (by have:=I3 y hy;omega) (fun g hg e=>(hb0 g hg).2.2 (by rw[← e];exact hy)));have N3:∀ y ∈ fq,y ∉ f3:=fun y hy hh=>by
  rcases hfq y hy with e|e
  ·exact (hb0 y e).2.2 hh
  ·have:=I3 y hh;omega
 have oq2:Own w' (DSite.sT (n.sites++[x])) v' fq:=by
  have e:DSite.sT (n.sites++[x])=.sl 4 (n.sites.flatMap DSite.tr++x.tr):=by
   unfold DSite.sT;simp
  rw[e];exact oq
 have ov2:=netJoin (n:={ n with sites:=n.sites++[x] }) oq2 P1 P2 P3 (fun y hy=>⟨N1 y hy,N2 y hy,N3 y hy⟩) d1 d2;have W:=zd6 h.ok.ok;have ap:∀ y ∈ n.sites++[x],y.ok∧sizL y.tr≤100:=fun y hy=>by
  rcases List.mem_append.1 hy with e|e
  ·exact W.s0 y e
  ·rw[List.mem_singleton.1 e];exact hx
 refine⟨hkp,h.bend G.below hkp (x:={ n with sites:=n.sites++[x] }) ⟨by show (n.sites++[x]).length≤40;rw[List.length_append];have:=W.l0;simp<;>omega,by have:=W.l1;show n.sectors.length≤60;omega,W.l2,W.l3,ap,W.s1,W.s2,W.s3⟩ (j:=0) rfl ov2 (fun y hy=>?_)⟩;simp only[List.mem_append,List.not_mem_nil,or_false] at hy
 rcases hy with e|e|e|e
 ·have:=iq y e
  rcases hfq y e with r|r
  ·have:=hv y r;omega
  ·omega
 ·have:=I1 y e;omega
 ·have:=I2 y e;omega
 ·have:=I3 y e;omega
theorem NwS.bent1 {x:DSector} (h:NwS b k c w0 w q p lo hi T n v0 v1 v2 v3) (hx:x.ok∧sizL x.tr≤100) {v':Value} (G:Grown w w' lo 43 9 v1 v' (n.sectors.length+1) (n.sectors.flatMap DSector.tr++x.tr) ([]++[])):w'.heap[p]? = w.heap[p]?∧NwX b k c w0 (w'.setCell ⟨p,1,none⟩ v') q p T { n with sectors:=n.sectors++[x] } v0 v' v2 v3:=by
 obtain⟨fp,ov,iv⟩:=h.row;obtain⟨f0,f1,f2,f3,fpm,O0,O1,O2,O3,d0,d1,d2⟩:=zex ov;have:=h.lq;have:=h.ql;have hqp:=h.qp;have hsep:=h.sep;have hhh:=h.hh;have hpl:=zcv h.hp;have hv:∀ g,v1.ownBlock=some g→lo≤g∧g<hi:=fun g hg=>by
  obtain⟨xs,hx⟩:=h.sp1.own;exact⟨(zbf hx hg).1,h.sp1.blk g hg⟩
 have hb0:∀ g,v1.ownBlock=some g→g ∉ f0∧g ∉ f2∧g ∉ f3:=fun g hg=>by
  by_cases e:n.sectors.length=0
  ·have hn:=h.sp1.none_in e ov g hg
   exact⟨fun hh=>hn ((fpm g).2 (by simp[hh])),fun hh=>hn ((fpm g).2 (by simp[hh])),fun hh=>hn ((fpm g).2 (by simp[hh]))⟩
  ·have:=own_blk O1 (fun e2=>e (by have:=congrArg List.length e2;rw[flat_lenC DSector.tr 9 DSector.tr_len] at this;simp at this;omega)) g hg
   exact⟨fun hh=>(d0 g hh).1 this,d1 g this⟩
 have kp:∀ y,y<w.heap.size→(∀ g,v1.ownBlock=some g→y≠g)→w'.heap[y]? = w.heap[y]?:=fun y hy hn=>G.keep y hy (fun e=>hn y e rfl)
 have hzz:=G.size;have hkp:w'.heap[p]? = w.heap[p]?:=kp p hpl (fun g hg=>by have:=hv g hg;omega);obtain⟨fq,oq,iq,dq⟩:=G.grow.toOwnB (lo:=lo) Q47 In.nil (Nat.le_refl _);have hfq:∀ y ∈ fq,v1.ownBlock=some y∨w.heap.size≤y:=fun y hy=>by
  rcases dq y hy with e|e
  ·rcases G.row with r|⟨g,r,hg⟩
   ·rw[r] at e;exact Or.inl e
   ·rw[r] at e;injection e with e;exact Or.inr II
  ·simp at e
 have I0:∀ y ∈ f0,lo≤y∧y<hi:=fun y hy=>iv y ((fpm y).2 Q46)
 have P0:Own w' _ v0 f0:=O0.frame (fun y hy=>kp y (by have:=I0 y hy;omega) (fun g hg e=>(hb0 g hg).1 (by rw[← e];exact hy)));have N0:∀ y ∈ fq,y ∉ f0:=fun y hy hh=>by
  rcases hfq y hy with e|e
  ·exact (hb0 y e).1 hh
  ·have:=I0 y hh;omega
 have I2:∀ y ∈ f2,lo≤y∧y<hi:=fun y hy=>iv y ((fpm y).2 Q46)
 have P2:Own w' _ v2 f2:=O2.frame (fun y hy=>kp y (by have:=I2 y hy;omega) (fun g hg e=>(hb0 g hg).2.1 (by rw[← e];exact hy)));have N2:∀ y ∈ fq,y ∉ f2:=fun y hy hh=>by
  rcases hfq y hy with e|e
  ·exact (hb0 y e).2.1 hh
  ·have:=I2 y hh;omega
 have I3:∀ y ∈ f3,lo≤y∧y<hi:=fun y hy=>iv y ((fpm y).2 Q46)
 have P3:Own w' _ v3 f3:=O3.frame (fun y hy=>kp y (by have:=I3 y hy;omega) (fun g hg e=>(hb0 g hg).2.2 (by rw[← e];exact hy)));have N3:∀ y ∈ fq,y ∉ f3:=fun y hy hh=>by
  rcases hfq y hy with e|e
  ·exact (hb0 y e).2.2 hh
  ·have:=I3 y hh;omega
 have oq2:Own w' (DSector.sT (n.sectors++[x])) v' fq:=by
  have e:DSector.sT (n.sectors++[x])=.sl 9 (n.sectors.flatMap DSector.tr++x.tr):=by
   unfold DSector.sT;simp
  rw[e];exact oq
 have ov2:=netJoin (n:={ n with sectors:=n.sectors++[x] }) P0 oq2 P2 P3 (fun y hy=>⟨fun h=>N0 y h hy,(d0 y hy).2⟩) (fun y hy=>⟨N2 y hy,N3 y hy⟩) d2;have W:=zd6 h.ok.ok;have ap:∀ y ∈ n.sectors++[x],y.ok∧sizL y.tr≤100:=fun y hy=>by
  rcases List.mem_append.1 hy with e|e
  ·exact W.s1 y e
  ·rw[List.mem_singleton.1 e];exact hx
 refine⟨hkp,h.bend G.below hkp (x:={ n with sectors:=n.sectors++[x] }) ⟨by have:=W.l0;show n.sites.length≤40;omega,by show (n.sectors++[x]).length≤60;rw[List.length_append];have:=W.l1;simp<;>omega,W.l2,W.l3,W.s0,ap,W.s2,W.s3⟩ (j:=1) rfl ov2 (fun y hy=>?_)⟩;simp only[List.mem_append,List.not_mem_nil,or_false] at hy
 rcases hy with e|e|e|e
 ·have:=I0 y e;omega
 ·have:=iq y e
  rcases hfq y e with r|r
  ·have:=hv y r;omega
  ·omega
 ·have:=I2 y e;omega
 ·have:=I3 y e;omega
theorem NwX.more {d:Nat} (h:NwX b k c w0 w q p T n v0 v1 v2 v3) (hd:c≤d):NwX b k d w0 w q p T n v0 v1 v2 v3:=by
 obtain⟨k',h1,h2,S⟩:=h.src;exact⟨⟨k',h1,II,S⟩,h.chg,h.hq,h.hp,h.bl,h.lq,h.row,h.ok⟩
theorem NwS.rows (h:NwS b k c w0 w q p lo hi T n v0 v1 v2 v3):∃ fp,OwnV w n.tr [v0,v1,v2,v3] fp∧∀ x ∈ fp,w0.heap.size≤x∧x<w.heap.size∧x≠q∧x≠p:=by
 obtain⟨fp,ov,iv⟩:=h.row;have:=h.lq;have:=h.ql;have:=h.sep;have:=h.hh;exact⟨fp,ov,fun x hx=>by have:=iv x hx;omega⟩
theorem netW_wide {n:DNetwork} (h:netB n=true):NetW 40 60 n:=(zd6 h).mono II II
theorem NwS.asX (h:NwS b k c w0 w q p lo hi T n v0 v1 v2 v3):NwX b k c w0 w q p T n v0 v1 v2 v3:=by
 obtain⟨fp,ov,hf⟩:=h.rows;exact⟨h.src,h.chg,h.hq,h.hp,h.bl,h.lq,⟨fp,ov,fun x hx=>⟨(hf x hx).1,(hf x hx).2.1,(hf x hx).2.2.1⟩⟩,netW_wide h.ok.ok⟩
theorem NwS.g0 (h:NwS b k c w0 w q p lo hi T n v0 v1 v2 v3):Grow w lo 119 4 v0 n.sites.length (n.sites.flatMap DSite.tr) []:=by
 obtain⟨fp,ov,iv⟩:=h.row;obtain⟨f0,f1,f2,f3,fpm,O0,_⟩:=zex ov;have e:=DSite.sT_vs n.sites;rw[e] at O0;unfold DSite.sT at e;injection e with _ e;rw[e];exact growOf h.sp0 O0 (fun x hx=>⟨Nat.zero_le _,(iv x ((fpm x).2 (by simp[hx]))).2⟩) Q47
theorem NwS.g1 (h:NwS b k c w0 w q p lo hi T n v0 v1 v2 v3):Grow w lo 43 9 v1 n.sectors.length (n.sectors.flatMap DSector.tr) []:=by
 obtain⟨fp,ov,iv⟩:=h.row;obtain⟨f0,f1,f2,f3,fpm,O0,O1,_⟩:=zex ov;have e:=DSector.sT_vs n.sectors;rw[e] at O1;unfold DSector.sT at e;injection e with _ e;rw[e];exact growOf h.sp1 O1 (fun x hx=>⟨Nat.zero_le _,(iv x ((fpm x).2 (by simp[hx]))).2⟩) Q47
theorem NwS.putX (h:NwS b k c w0 w q p lo hi T n v0 v1 v2 v3) {x:DNetwork} {u0 u1 u2 u3:Value} {lj hj:Nat} (hx:NetW 40 60 x) (hl:p<lj) (hjw:hj≤w.heap.size) (R:NwP lj hj w x u0 u1 u2 u3):NwX b k c w0 ((((w.setCell ⟨p,0,none⟩ u0).setCell ⟨p,1,none⟩ u1).setCell ⟨p,2,none⟩ u2).setCell ⟨p,3,none⟩ u3) q p T x u0 u1 u2 u3:=by
 obtain⟨k',h1,h2,S⟩:=h.src;have:=h.bl;have:=h.lq;have:=h.qp;have hbb:OI p w ((((w.setCell ⟨p,0,none⟩ u0).setCell ⟨p,1,none⟩ u1).setCell ⟨p,2,none⟩ u2).setCell ⟨p,3,none⟩ u3):=zbz p [u0,u1,u2,u3] w 0;have hpp:=bkS (bkS (bkS (bkS h.hp 0 u0) 1 u1) 2 u2) 3 u3;have hfar:=zca p [u0,u1,u2,u3] w 0;have hsz:=zb2 p [u0,u1,u2,u3] w 0;obtain⟨fp,ov,iv⟩:=R;refine⟨⟨k',h1,h2,S.below (B:=p) II hbb⟩,⟨hbb.os.trans h.chg.os,hbb.tape.trans h.chg.tape,hbb.output.trans h.chg.output,by have:=hbb.size;have:=h.chg.size;omega,fun y hy hn=>(hbb.block y II).trans (h.chg.block y hy hn)⟩,(hbb.block _ h.qp).trans h.hq,hpp,h.bl,h.lq,⟨fp,ov.frame (fun x hx=>hfar x (by have:=iv x hx;omega)),fun y hy=>?_⟩,hx⟩;have:=iv y hy;simp only[zbq] at hsz;rw[hsz];omega
theorem NwS.gain {g off m C:Nat} (h:NwS b k c w0 w q p lo hi T n v0 v1 (IZ (some ⟨g,off,none⟩) m C) v3) {x:DAntenna} {l:List DAntenna} (hn:n.antennas=x::l):(w,g,off+1,J x.gain)∧w.frozen? ⟨g,off+1,none⟩=false∧NwX b k c w0 (w.setCell ⟨g,off+1,none⟩ (J 60001)) q p T { n with antennas:={ x with gain:=60001 }::l } v0 v1 (IZ (some ⟨g,off,none⟩) m C) v3:=by
 obtain⟨fp,ov,hf⟩:=h.rows;obtain⟨f0,f1,f2,f3,fpm,O0,O1,O2,O3,d0,d1,d2⟩:=zex ov;have e:DAntenna.sT n.antennas=.sl 4 ([]++(x.tr++l.flatMap DAntenna.tr)):=by rw[hn];unfold DAntenna.sT;simp
 rw[e] at O2;have hg:g ∈ f2:=own_blk O2 (by simp[DAntenna.tr]) g rfl;obtain⟨c1,c2⟩:=O2.cellChunk 1 (J x.gain) rfl (off+1) rfl;have o2:=O2.setChunk 1 (J x.gain) rfl (off+1) rfl (J 60001);have e2:(.sl 4 ([]++(x.tr.set 1 (.lit (J 60001))++l.flatMap DAntenna.tr)):Tr)=DAntenna.sT ({ x with gain:=60001 }::l):=by unfold DAntenna.sT;simp[DAntenna.tr,intT]
 rw[e2] at o2;have W:=zd6 h.ok.ok;have hx:=W.s2 x (by rw[hn];simp)
 have W2:NetW 40 60 { n with antennas:={ x with gain:=60001 }::l }:=⟨by have:=W.l0;show n.sites.length≤40;omega,by have:=W.l1;show n.sectors.length≤60;omega,by have:=W.l2;rw[hn] at this;exact this,W.l3,W.s0,W.s1,fun y hy=>by
  rcases List.mem_cons.1 hy with r|r
  ·subst r
   exact⟨⟨hx.1.name,(show I64 60001 from ⟨by decide,by decide⟩),hx.1.horizontal,hx.1.vertical⟩,by have:=hx.2;simpa only[DAntenna.tr,sizL,zdb,strT,intT,siz] using this⟩
  ·exact W.s2 y (by rw[hn];simp[r]),W.s3⟩
 have P0:=O0.setFar (p:=⟨g,off+1,none⟩) (fun r=>(d0 _ r).2.1 hg) (J 60001);have P1:=O1.setFar (p:=⟨g,off+1,none⟩) (fun r=>(d1 _ r).1 hg) (J 60001);have P3:=O3.setFar (p:=⟨g,off+1,none⟩) (fun r=>d2 _ hg r) (J 60001);have ov2:=netJoin (n:={ n with antennas:={ x with gain:=60001 }::l }) P0 P1 o2 P3 d0 d1 d2;have hgf:=hf g ((fpm g).2 (by simp[hg]));obtain⟨k',h1,h2,S⟩:=h.src;have:=h.bl;refine⟨c1,c2 _,⟨⟨k',h1,h2,S.below (B:=b+1) II ((Below.refl (b+1) w).setCell (p:=⟨g,off+1,none⟩) (by show b+1≤g;omega) _)⟩,⟨h.chg.os,h.chg.tape,h.chg.output,by rw[zac];exact h.chg.size,fun y hy hn2=>?_⟩,bkO h.hq (p:=⟨g,off+1,none⟩) (by show q≠g;omega) _,bkO h.hp (p:=⟨g,off+1,none⟩) (by show p≠g;omega) _,h.bl,h.lq,⟨_,ov2,fun y hy=>?_⟩,W2⟩⟩
 ·rw[bkO rfl (p:=⟨g,off+1,none⟩) (by show y≠g;omega) _]
  exact h.chg.block y hy hn2
 ·have hy2:=hf y ((fpm y).2 (by simpa using hy))
  rw[zac];exact⟨hy2.1,hy2.2.1,hy2.2.2.1⟩
theorem NwS.cutR {g off m C:Nat} (h:NwS b k c w0 w q p lo hi T n v0 v1 v2 (IZ (some ⟨g,off,none⟩) (m+1) C)) (hm:0<m) {x:DRadio} {l:List DRadio} (hn:n.radios=x::l):NwX b k c w0 (w.setCell ⟨p,3,none⟩ (IZ (some ⟨g,off+6,none⟩) m (C-1))) q p T { n with radios:=l } v0 v1 v2 (IZ (some ⟨g,off+6,none⟩) m (C-1)):=by
 obtain⟨fp,ov,hf⟩:=h.rows;obtain⟨f0,f1,f2,f3,fpm,O0,O1,O2,O3,d0,d1,d2⟩:=zex ov;have e:DRadio.sT n.radios=.sl 6 (x.tr++l.flatMap DRadio.tr):=by rw[hn];unfold DRadio.sT;simp
 rw[e] at O3;obtain⟨f,o3,hs⟩:=own_tail O3 (DRadio.tr_len x) hm Q47;have W:=zd6 h.ok.ok;have ov2:=netJoin (n:={ n with radios:=l }) O0 O1 O2 o3 (fun y hy=>⟨(d0 y hy).1,(d0 y hy).2.1,fun r=>(d0 y hy).2.2 (hs y r)⟩) (fun y hy=>⟨(d1 y hy).1,fun r=>(d1 y hy).2 (hs y r)⟩) (fun y hy r=>d2 y hy (hs y r));refine h.bend (Below.refl lo w) rfl (x:={ n with radios:=l }) ⟨by have:=W.l0;show n.sites.length≤40;omega,by have:=W.l1;show n.sectors.length≤60;omega,W.l2,by have:=W.l3;rw[hn] at this;simp at this;show l.length≤8;omega,W.s0,W.s1,W.s2,fun y hy=>W.s3 y (by rw[hn];simp[hy])⟩ (j:=3) rfl ov2 (fun y hy=>?_)
 exact hf y ((fpm y).2 (by
  simp only[List.mem_append,List.not_mem_nil,or_false] at hy
  rcases hy with r|r|r|r
  ·exact Or.inl r
  ·exact Or.inr (Or.inl r)
  ·exact Or.inr (Or.inr (Or.inl r))
  ·exact Or.inr (Or.inr (Or.inr (hs y r)))))
end
theorem l14Bent_any (b k:Nat) (w:World) (h:Src w b k) (hk:k≤1099511300000):Calls Tryz.prog 67 #[.pointer (some ⟨b,0,none⟩)] w (DrNetW b k 400 w):=by
 obtain⟨iS,hS0,hS1,hS2,hS3⟩:=info_parts infoSite;obtain⟨iT,hT0,hT1,hT2,hT3⟩:=info_parts infoSector;have yb:=h.lt;have HS:=IJ h;clear h;go_enter Tryz.func67,Tryz.ntmps67;go_wp2_with (fail);obtain⟨W0,hW0,b0,z0,k0⟩:=zav w () 32;rw[hW0];clear hW0;obtain⟨q,hq⟩:∃ q,q=w.heap.size:=⟨_,rfl⟩
 rw[← hq] at k0 ⊢;have q1:=Nat.le_of_eq hq;have q2:=Nat.le_of_eq hq.symm;have K0:=IJ k0;have B0:=IJ b0;clear b0 k0 hq
 go_at_call 56
 refine (l14Draw_any b k W0 (HS.out.below HS.out.lt B0.out) II).mono ?_;rintro e w1 ⟨n,v0,v1,v2,v3,hn,rfl,hrow,hs0,hs1,kk,ka,kb,SS,cq⟩;obtain⟨A0,C0,A1,C1,A2,C2,A3,C3,rfl,rfl,rfl,rfl⟩:=hrow.form;have HN:=IJ hn;have HR:=IJ hrow;have H0:=IJ hs0;have H1:=IJ hs1;have SK:=IJ SS;have CQ:=IJ cq;have zq:=cq.size;have K1:=IJ ((cq.block q II Q41).trans K0.out);clear hn hrow hs0 hs1 SS cq HS K0;go_upto_region 2 with (fail);obtain⟨w2,hw2,b2,z2,k2⟩:=zav w1 (n,A0,C0,A1,C1,A2,C2,A3,C3) 32;rw[hw2];clear hw2;obtain⟨p,hp⟩:∃ p,p=w1.heap.size:=⟨_,rfl⟩
 obtain⟨lo,hlo⟩:∃ lo,lo=W0.heap.size:=⟨_,rfl⟩
 obtain⟨hi,hhi⟩:∃ hi,hi=w1.heap.size:=⟨_,rfl⟩
 have HR2:=IJ (HR.out.frame (fun x _ hx=>b2.block x hx));have H02:=IJ (H0.out.frame (fun x _ hx=>b2.block x hx));have H12:=IJ (H1.out.frame (fun x _ hx=>b2.block x hx));rw[← hlo,← hhi] at HR2 H02 H12;rw[← hp] at k2 ⊢;have RS0:Hid (NwS b k 240 w w2 q p lo hi 32 n (IZ A0 n.sites.length C0) (IZ A1 n.sectors.length C1) (IZ A2 n.antennas.length C2) (IZ A3 n.radios.length C3)):=⟨⟨kk,ka,kb,SK.out.below SK.out.lt b2⟩,((Chg.of_below B0.out).trans CQ.out).trans (Chg.of_below b2),bkB K1.out b2 II,k2,yb,II,II,II,II,II,HR2.out,H02.out,H12.out,HN.out⟩
 have hlw:lo≤w2.heap.size:=II
 clear k2 b2 HR H0 H1 HR2 H02 H12 HN SK CQ K1 B0 hp hlo hhi;go_wp2_with (fail)
 go_at_call 59
 obtain⟨kk,ka,kb,SS⟩:=RS0.out.src;refine (zbe b kk 24 _ SS II II II).mono ?_;rintro e w3 ⟨⟨c,c0,c1,rfl⟩,hq1⟩;have RS:Hid (NwS b k 242 w w3 q p lo hi 32 n (IZ A0 n.sites.length C0) (IZ A1 n.sectors.length C1) (IZ A2 n.antennas.length C2) (IZ A3 n.radios.length C3)):=(RS0.out.call ka kb hq1).more II;obtain⟨_,_,_,_,cq⟩:=hq1;have zc:=cq.size;have hnw:=zd6 RS.out.ok.ok;have hn0:=hnw.l0;have hn1:=hnw.l1;clear RS0 SS ka kb cq hnw
 go_upto_block 0 with (fail)
 go_cut [] (fun wx=>∃ (n:DNetwork) (v0 v1 v2 v3:Value),NwX b k 400 w wx q p 32 n v0 v1 v2 v3)
 case first =>
  by_cases h0:c=0
  ·subst h0
   have HG:=IJ RS.out.g0;have HX:Hid ((⟨⟨#[97]⟩,⟨#[]⟩,⟨0,0⟩⟩:DSite).ok∧sizL (⟨⟨#[97]⟩,⟨#[]⟩,⟨0,0⟩⟩:DSite).tr≤100):=⟨⟨(show ((⟨#[97]⟩:ByteArray)).size≤maxLen by decide),(show ((⟨#[]⟩:ByteArray)).size≤maxLen by decide),⟨(show I64 0 from ⟨by decide,by decide⟩),(show I64 0 from ⟨by decide,by decide⟩)⟩⟩,by simp only[DSite.tr,DPoint.tr,sizL,siz,strT,intT,List.cons_append,List.nil_append];decide⟩
   have t0:=bkC RS.out.hp 0 rfl;have f0:=bkF RS.out.hp;go_wp2_with (at_builtin;refine zax rfl (.tmp 11) (.tmp 13) _ rfl lo 119 iS _ 4 48 Tryz.underlying27 hS0 hS1 hS2 hS3 rfl II _ _ _ [] rfl HG.out [IQ ⟨#[97]⟩,IQ ⟨#[]⟩,J 0,J 0] (DSite.tr (⟨⟨#[97]⟩,⟨#[]⟩,⟨0,0⟩⟩)) [] rfl 1 rfl (fun u hu=>by simp only[List.mem_cons,List.not_mem_nil,or_false] at hu;rcases hu with rfl|rfl|rfl|rfl<;>rfl) (RepV.lits [IQ ⟨#[97]⟩,IQ ⟨#[]⟩,J 0,J 0]) List.nodup_nil (fun b h=>by simp at h) 0 In.nil In.nil (fun y h1=>by simp at h1) (fun y hy h2=>by simp at h2) Q3v II II ?_;intro v9 w9 hgn;obtain⟨xs9,ho9,_⟩:=hgn.grow.own;obtain⟨a9,c9,ev,_⟩:=zaw ho9;subst ev;clear ho9;obtain⟨kp9,nx9⟩:=RS.out.bent0 (x:=⟨⟨#[97]⟩,⟨#[]⟩,⟨0,0⟩⟩) HX.out hgn;have NX:=IJ nx9;have m0:=bkC (kp9.trans RS.out.hp) 0 rfl;have mz:=bkF (kp9.trans RS.out.hp);clear kp9 nx9 hgn);go_meet;exact⟨_,_,_,_,_,NX.out.more II⟩
  by_cases h1:c=1
  ·subst h1
   have hr2:n.radios.length=2:=by
    have:=congrArg List.length RS.out.ok.rad
    simpa using this
   obtain⟨x,l,hxl⟩:∃ x l,n.radios=x::l:=by
    cases hl:n.radios with
    | nil=>rw[hl] at hr2;cases hr2
    | cons x l=>exact⟨x,l,rfl⟩
   obtain⟨a3,d3,e3,hc3,hm3,hcl⟩:=DRadio.rd RS.out.row.rd.2.2.2;obtain⟨g,off,ea,_,_⟩:=hcl II;injection e3 with e31 _ e33;subst e31 e33 ea;have RS1:Hid (NwS b k 242 w w3 q p lo hi 32 n (IZ A0 n.sites.length C0) (IZ A1 n.sectors.length C1) (IZ A2 n.antennas.length C2) (IZ (some ⟨g,off,none⟩) (1+1) C3)):=by
    have:=RS.out;rw[hr2] at this;exact this
   have t3:=bkC RS1.out.hp 3 rfl;have f3:=bkF RS1.out.hp;have hc2:2≤C3:=II
   have hc4:(2:Int)≤(C3:Int):=II
   unfold maxLen at hm3;clear hcl;go_wp2;go_meet;exact⟨_,_,_,_,_,(RS1.out.cutR Q47 hxl).more II⟩
  by_cases h2:c=2
  ·subst h2
   have HG:=IJ RS.out.g1;have HX:Hid ((⟨⟨#[122,122]⟩,⟨#[110,111,110,101]⟩,⟨#[]⟩,⟨#[]⟩,⟨#[]⟩,0,0,0,0⟩:DSector).ok∧sizL (⟨⟨#[122,122]⟩,⟨#[110,111,110,101]⟩,⟨#[]⟩,⟨#[]⟩,⟨#[]⟩,0,0,0,0⟩:DSector).tr≤100):=⟨⟨(show ((⟨#[122,122]⟩:ByteArray)).size≤maxLen by decide),(show ((⟨#[110,111,110,101]⟩:ByteArray)).size≤maxLen by decide),(show ((⟨#[]⟩:ByteArray)).size≤maxLen by decide),(show ((⟨#[]⟩:ByteArray)).size≤maxLen by decide),(show ((⟨#[]⟩:ByteArray)).size≤maxLen by decide),(show I64 0 from ⟨by decide,by decide⟩),(show I64 0 from ⟨by decide,by decide⟩),(show I64 0 from ⟨by decide,by decide⟩),(show I64 0 from ⟨by decide,by decide⟩)⟩,by simp only[DSector.tr,DPoint.tr,sizL,siz,strT,intT,List.cons_append,List.nil_append];decide⟩
   have t0:=bkC RS.out.hp 1 rfl;have f0:=bkF RS.out.hp;go_wp2_with (at_builtin;refine zax rfl (.tmp 25) (.tmp 27) _ rfl lo 43 iT _ 9 112 Tryz.underlying28 hT0 hT1 hT2 hT3 rfl II _ _ _ [] rfl HG.out [IQ ⟨#[122,122]⟩,IQ ⟨#[110,111,110,101]⟩,IQ ⟨#[]⟩,IQ ⟨#[]⟩,IQ ⟨#[]⟩,J 0,J 0,J 0,J 0] (DSector.tr (⟨⟨#[122,122]⟩,⟨#[110,111,110,101]⟩,⟨#[]⟩,⟨#[]⟩,⟨#[]⟩,0,0,0,0⟩)) [] rfl 1 rfl (fun u hu=>by simp only[List.mem_cons,List.not_mem_nil,or_false] at hu;rcases hu with rfl|rfl|rfl|rfl|rfl|rfl|rfl|rfl|rfl<;>rfl) (RepV.lits [IQ ⟨#[122,122]⟩,IQ ⟨#[110,111,110,101]⟩,IQ ⟨#[]⟩,IQ ⟨#[]⟩,IQ ⟨#[]⟩,J 0,J 0,J 0,J 0]) List.nodup_nil (fun b h=>by simp at h) 0 In.nil In.nil (fun y h1=>by simp at h1) (fun y hy h2=>by simp at h2) Q3v II II ?_;intro v9 w9 hgn;obtain⟨xs9,ho9,_⟩:=hgn.grow.own;obtain⟨a9,c9,ev,_⟩:=zaw ho9;subst ev;clear ho9;obtain⟨kp9,nx9⟩:=RS.out.bent1 (x:=⟨⟨#[122,122]⟩,⟨#[110,111,110,101]⟩,⟨#[]⟩,⟨#[]⟩,⟨#[]⟩,0,0,0,0⟩) HX.out hgn;have NX:=IJ nx9;have m0:=bkC (kp9.trans RS.out.hp) 1 rfl;have mz:=bkF (kp9.trans RS.out.hp);clear kp9 nx9 hgn);go_meet;exact⟨_,_,_,_,_,NX.out.more II⟩
  by_cases h3:c=3
  ·subst h3
   go_wp2_with (fail)
   go_at_call 59
   obtain⟨kk,ka,kb,SS⟩:=RS.out.src;refine (zbe b kk 3 _ SS II II II).mono ?_;rintro e w4 ⟨⟨M,M0,M1,rfl⟩,hq1⟩;have RT:Hid (NwS b k 244 w w4 q p lo hi 32 n (IZ A0 n.sites.length C0) (IZ A1 n.sectors.length C1) (IZ A2 n.antennas.length C2) (IZ A3 n.radios.length C3)):=RS.out.call ka kb hq1;clear RS SS ka kb hq1;obtain⟨M,rfl⟩:=Int.eq_ofNat_of_zero_le M0;go_wp2_with (fail)
   go_at_call 114
   rw[show (11:Int)+(M:Int)=((11+M:Nat):Int) by omega];obtain⟨kk,ka,kb,SS⟩:=RT.out.src;refine (l14Many_any b kk (11+M) 0 _ SS II II II).mono ?_;exact Q0z
  by_cases h4:c=4
  ·subst h4
   go_wp2_with (fail)
   go_at_call 59
   obtain⟨kk,ka,kb,SS⟩:=RS.out.src;refine (zbe b kk 3 _ SS II II II).mono ?_;rintro e w4 ⟨⟨M,M0,M1,rfl⟩,hq1⟩;have RT:Hid (NwS b k 244 w w4 q p lo hi 32 n (IZ A0 n.sites.length C0) (IZ A1 n.sectors.length C1) (IZ A2 n.antennas.length C2) (IZ A3 n.radios.length C3)):=RS.out.call ka kb hq1;clear RS SS ka kb hq1;obtain⟨M,rfl⟩:=Int.eq_ofNat_of_zero_le M0;go_wp2_with (fail)
   go_at_call 114
   rw[show (23:Int)+(M:Int)=((23+M:Nat):Int) by omega];obtain⟨kk,ka,kb,SS⟩:=RT.out.src;refine (l14Many_any b kk 1 (23+M) _ SS II II II).mono ?_;exact Q0z
  by_cases h5:c=5
  ·subst h5
   have hr2:n.antennas.length=2:=by
    have:=congrArg List.length RS.out.ok.ant
    simpa using this
   obtain⟨x,l,hxl⟩:∃ x l,n.antennas=x::l:=by
    cases hl:n.antennas with
    | nil=>rw[hl] at hr2;cases hr2
    | cons x l=>exact⟨x,l,rfl⟩
   obtain⟨a3,d3,e3,hc3,hm3,hcl⟩:=DAntenna.rd RS.out.row.rd.2.2.1;obtain⟨g,off,ea,_,_⟩:=hcl II;injection e3 with e31 _ e33;subst e31 e33 ea;have RS1:Hid (NwS b k 242 w w3 q p lo hi 32 n (IZ A0 n.sites.length C0) (IZ A1 n.sectors.length C1) (IZ (some ⟨g,off,none⟩) 2 C2) (IZ A3 n.radios.length C3)):=by
    have:=RS.out;rw[hr2] at this;exact this
   obtain⟨s1,s2,s3⟩:=RS1.out.gain hxl;have NX:=IJ s3;have t2:=bkC RS1.out.hp 2 rfl;clear hcl s3;go_wp2;go_meet;exact⟨_,_,_,_,_,NX.out.more II⟩
  go_wp2;go_meet;exact⟨n,_,_,_,_,RS.out.asX.more II⟩
 case rest =>
  obtain⟨n,v0,v1,v2,v3,hd⟩:=hcut;have D9:=IJ hd;clear hd RS hn0 hn1;obtain⟨A0,C0,A1,C1,A2,C2,A3,C3,rfl,rfl,rfl,rfl⟩:=D9.out.form;obtain⟨t0,t1,t2,t3,_⟩:=bz4 D9.out.hp;obtain⟨s0,s1,s2,s3,g⟩:=bz4 D9.out.hq;go_wp2;exact bodyPost_ret (v:=.agg (n,A0,C0,A1,C1,A2,C2,A3,C3)) (by simp[results,Tryz.results67,go_sem, *]) rfl D9.out.fin
end Go.Proofs.YtpakghepnahooaaGreatDoor
namespace Go.Proofs.YtpakghepnahooaaGreatDoor
set_option maxHeartbeats 16000000
set_option maxRecDepth 100000
open Go.RowKit
structure PlS (b k c:Nat) (w0 w:World) (q f g lo hi:Nat) (t:DTerrain) (v3 v4:Value) (n:DNetwork) (u0 u1 u2 u3:Value):Prop where
 src:∃ k',k≤k'∧k'≤k+c∧Src w b k'
 chg:Chg [b] w0 w
 h1:w.heap[q]? = some (.cells #[J 0,J 0,J 0,IZ none 0 0,IZ none 0 0] 26 (0,0))
 h2:w.heap[q+1]? = some (.cells () 32 (0,0))
 hf:w.heap[f]? = some (.cells (t,v3,v4) 26 (0,0))
 hg:w.heap[g]? = some (.cells #[u0,u1,u2,u3] 32 (0,0))
 bl:b<w0.heap.size
 lq:w0.heap.size≤q
 qf:q+1<f
 fg:f<g
 fl:f<lo
 sep:hi≤g∨g<lo
 hh:hi≤w.heap.size
 tr:TerP (q+2) f w t v3 v4
 nr:NwP lo hi w n u0 u1 u2 u3
 td:TerD t
 nd:NetW 40 60 n
def DrPlan (b k m:Nat) (w:World) (e:Ending) (w':World):Prop:=∃ (t:DTerrain) (v3 v4:Value) (n:DNetwork) (u0 u1 u2 u3:Value),TerD t∧NetW 40 60 n∧e=.returned (.tuple #[.agg (t,v3,v4),.agg #[u0,u1,u2,u3]])∧TerP w.heap.size w'.heap.size w' t v3 v4∧NwP w.heap.size w'.heap.size w' n u0 u1 u2 u3∧SrcQ b k m w w'
section
variable {b k c q f g lo hi:Nat} {w0 w w':World} {t:DTerrain} {v3 v4:Value} {n:DNetwork} {u0 u1 u2 u3:Value}
theorem PlS.keep {k1 d:Nat} (h:PlS b k c w0 w q f g lo hi t v3 v4 n u0 u1 u2 u3) (hs:∃ k',k≤k'∧k'≤k+d∧Src w' b k') (C:Chg [b] w w'):PlS b k d w0 w' q f g lo hi t v3 v4 n u0 u1 u2 u3:=by
 have:=h.bl;have:=h.lq;have:=h.qf;have:=h.fg;have:=h.fl;have:=h.hh;have:=C.size;have hk:∀ x,x<w.heap.size→q≤x→w'.heap[x]? = w.heap[x]?:=fun x hx hq=>C.block x hx Q41
 have fl:=zcv h.hf;exact⟨hs,h.chg.trans C,(hk q (zcv h.h1) (Nat.le_refl _)).trans h.h1,(hk (q+1) (zcv h.h2) II).trans h.h2,(hk f (zcv h.hf) II).trans h.hf,(hk g (zcv h.hg) II).trans h.hg,h.bl,h.lq,h.qf,h.fg,h.fl,h.sep,II,h.tr.frame (fun x h1 h2=>hk x II II),h.nr.frame (fun x h1 h2=>hk x II II),h.td,h.nd⟩
theorem PlS.below (h:PlS b k c w0 w q f g lo hi t v3 v4 n u0 u1 u2 u3) (hb:OI w w w'):PlS b k c w0 w' q f g lo hi t v3 v4 n u0 u1 u2 u3:=by
 obtain⟨k',h1,h2,S⟩:=h.src;exact h.keep (k1:=0) ⟨k',h1,h2,S.below S.lt hb⟩ (Chg.of_below hb)
theorem PlS.call {k1 d:Nat} (h:PlS b k c w0 w q f g lo hi t v3 v4 n u0 u1 u2 u3) (h1:k≤k1) (h2:k1≤k+c) (s:SrcQ b k1 d w w'):PlS b k (c+d) w0 w' q f g lo hi t v3 v4 n u0 u1 u2 u3:=by
 obtain⟨k2,a1,a2,S,C⟩:=s;exact h.keep (k1:=0) ⟨k2,II,II,S⟩ C
theorem PlS.more {d:Nat} (h:PlS b k c w0 w q f g lo hi t v3 v4 n u0 u1 u2 u3) (hd:c≤d):PlS b k d w0 w q f g lo hi t v3 v4 n u0 u1 u2 u3:=by
 obtain⟨k',h1,h2,S⟩:=h.src;exact h.keep (k1:=0) ⟨k',h1,II,S⟩ (Chg.refl _ _)
theorem PlS.step (h:PlS b k c w0 w q f g lo hi t v3 v4 n u0 u1 u2 u3) {s:Int} (hs:0≤s∧s≤1000):PlS b k c w0 (w.setCell ⟨f,0,none⟩ (J s)) q f g lo hi { t with step:=s } v3 v4 n u0 u1 u2 u3:=by
 obtain⟨k',h1,h2,S⟩:=h.src;have:=h.bl;have:=h.lq;have:=h.qf;have:=h.fg;have:=h.fl;have:=h.sep;have hk:∀ x,x≠f→(w.setCell ⟨f,0,none⟩ (J s)).heap[x]? = w.heap[x]?:=fun x hx=>bkO rfl (p:=⟨f,0,none⟩) (by show x≠f;exact hx) _
 exact⟨⟨k',h1,h2,S.below (B:=b+1) II ((Below.refl (b+1) w).setCell (p:=⟨f,0,none⟩) (by show b+1≤f;omega) _)⟩,⟨h.chg.os,h.chg.tape,h.chg.output,by rw[zac];exact h.chg.size,fun x hx hn=>(hk x II).trans (h.chg.block x hx hn)⟩,(hk q II).trans h.h1,(hk (q+1) II).trans h.h2,bkS h.hf 0 (J s),(hk g II).trans h.hg,h.bl,h.lq,h.qf,h.fg,h.fl,h.sep,by rw[zac];exact h.hh,h.tr.frame (fun x h1 h2=>hk x II),h.nr.frame (fun x h1 h2=>hk x II),⟨hs,h.td.2⟩,h.nd⟩
theorem PlS.put (h:PlS b k c w0 w q f g lo hi t v3 v4 n u0 u1 u2 u3) {x:DNetwork} {y0 y1 y2 y3:Value} {lj hj:Nat} (hx:NetW 40 60 x) (hl:g<lj) (hjw:hj≤w.heap.size) (R:NwP lj hj w x y0 y1 y2 y3):PlS b k c w0 ((((w.setCell ⟨g,0,none⟩ y0).setCell ⟨g,1,none⟩ y1).setCell ⟨g,2,none⟩ y2).setCell ⟨g,3,none⟩ y3) q f g lj hj t v3 v4 x y0 y1 y2 y3:=by
 obtain⟨k',h1,h2,S⟩:=h.src;have:=h.bl;have:=h.lq;have:=h.qf;have:=h.fg;have hbb:OI g w ((((w.setCell ⟨g,0,none⟩ y0).setCell ⟨g,1,none⟩ y1).setCell ⟨g,2,none⟩ y2).setCell ⟨g,3,none⟩ y3):=zbz g [y0,y1,y2,y3] w 0;have hpp:=bkS (bkS (bkS (bkS h.hg 0 y0) 1 y1) 2 y2) 3 y3;have hfar:=zca g [y0,y1,y2,y3] w 0;have hsz:=zb2 g [y0,y1,y2,y3] w 0;simp only[zbq] at hsz;exact⟨⟨k',h1,h2,S.below (B:=g) II hbb⟩,⟨hbb.os.trans h.chg.os,hbb.tape.trans h.chg.tape,hbb.output.trans h.chg.output,by have:=hbb.size;have:=h.chg.size;omega,fun y hy hn=>(hbb.block y II).trans (h.chg.block y hy hn)⟩,(hbb.block _ II).trans h.h1,(hbb.block _ II).trans h.h2,(hbb.block _ h.fg).trans h.hf,hpp,h.bl,h.lq,h.qf,h.fg,II,Or.inr hl,by rw[hsz];exact hjw,h.tr.frame (fun x _ h2=>hbb.block x II),R.frame (fun x h1 h2=>hfar x II),h.td,hx⟩
theorem PlS.fin (h:PlS b k c w0 w q f g lo hi t v3 v4 n u0 u1 u2 u3):DrPlan b k c w0 (.returned (.tuple #[.agg (t,v3,v4),.agg #[u0,u1,u2,u3]])) (zbq (zbq w q 0 [J t.step,J t.width,J t.height,v3,v4]) (q+1) 0 [u0,u1,u2,u3]):=by
 obtain⟨k',h1,h2,S⟩:=h.src;have:=h.bl;have:=h.lq;have:=h.qf;have:=h.fg;have:=h.fl;have hlow:OI q w (zbq (zbq w q 0 [J t.step,J t.width,J t.height,v3,v4]) (q+1) 0 [u0,u1,u2,u3]):=(zbz q _ w 0).trans ((zbz (q+1) [u0,u1,u2,u3] _ 0).mono (Nat.le_succ q));have hk:∀ x,q+1<x→(zbq (zbq w q 0 [J t.step,J t.width,J t.height,v3,v4]) (q+1) 0 [u0,u1,u2,u3]).heap[x]? = w.heap[x]?:=fun x hx=>(zca (q+1) _ _ 0 x II).trans (zca q _ w 0 x II)
 have hsz:(zbq (zbq w q 0 [J t.step,J t.width,J t.height,v3,v4]) (q+1) 0 [u0,u1,u2,u3]).heap.size=w.heap.size:=by rw[zb2,zb2]
 have hfl:=zcv h.hf;refine⟨t,v3,v4,n,u0,u1,u2,u3,h.td,h.nd,rfl,(h.tr.frame (fun x h1 h2=>hk x II)).mono II (by rw[hsz];omega),(h.nr.frame (fun x h1 h2=>hk x II)).mono II (by rw[hsz];exact h.hh),SrcQ.low S II h1 h2 h.chg h.lq hlow⟩
end
theorem l20DrawPlan_any (b k:Nat) (w:World) (h:Src w b k) (hk:k≤1099511200000):Calls Tryz.prog 27 #[.pointer (some ⟨b,0,none⟩)] w (DrPlan b k 1250 w):=by
 have yb:=h.lt;have HS:=IJ h;clear h;go_enter Tryz.func27,Tryz.ntmps27;go_wp2_with (fail);obtain⟨W0,hW0,b0,z0,k0,k1⟩:=zdv w #[J 0,J 0,J 0,IZ none 0 0,IZ none 0 0] 26 () 32;rw[hW0];clear hW0;obtain⟨q,hq⟩:∃ q,q=w.heap.size:=⟨_,rfl⟩
 rw[← hq] at k0 k1 ⊢;have q1:=Nat.le_of_eq hq;have q2:=Nat.le_of_eq hq.symm;have K0:=IJ k0;have K1:=IJ k1;have B0:=IJ b0;clear b0 k0 k1 hq
 go_at_call 65
 refine (l20Terrain_any b k W0 (HS.out.below HS.out.lt B0.out) II).mono ?_;rintro e w1 ⟨t,v3,v4,ht,rfl,htr,kk,ka,kb,SS,cq⟩;obtain⟨A4,C4,A5,C5,rfl,rfl⟩:=htr.form;have HT:=IJ ht;have HTR:=IJ htr;have SK:=IJ SS;have CQ:=IJ cq;have zq:=cq.size;have L0:=IJ ((cq.block q II Q41).trans K0.out);have L1:=IJ ((cq.block (q+1) II Q41).trans K1.out);clear ht htr SS cq HS K0 K1;go_upto_region 2 with (fail);obtain⟨w2,hw2,b2,z2,k2⟩:=zav w1 (t,A4,C4,A5,C5) 26;rw[hw2];clear hw2;obtain⟨f,hf⟩:∃ f,f=w1.heap.size:=⟨_,rfl⟩
 rw[← hf] at k2 ⊢;have f1:=Nat.le_of_eq hf;have f2:=Nat.le_of_eq hf.symm;have KF:=IJ k2;have HTR2:=IJ (HTR.out.frame (fun x _ hx=>b2.block x hx));have SK2:=IJ (SK.out.below SK.out.lt b2);have CQ2:=IJ (((Chg.of_below B0.out).trans CQ.out).trans (Chg.of_below b2));have M0:=IJ (bkB L0.out b2 II);have M1:=IJ (bkB L1.out b2 II);clear k2 b2 HTR SK CQ B0 L0 L1 hf;go_wp2_with (fail)
 go_at_call 56
 refine (l14Draw_any b kk w2 SK2.out II).mono ?_;rintro e w3 ⟨n,u0,u1,u2,u3,hn,rfl,hrow,-,-,hq3⟩;obtain⟨A0,C0,A1,C1,A2,C2,A3,C3,rfl,rfl,rfl,rfl⟩:=hrow.form;have HN:=IJ (netW_wide hn.ok);have HR:=IJ hrow;obtain⟨kj,kc,kd,SJ,cq⟩:=hq3;have SK3:=IJ SJ;have CQ3:=IJ (CQ2.out.trans cq);have zr:=cq.size;have KF3:=IJ ((cq.block f II Q41).trans KF.out);have N0:=IJ ((cq.block q II Q41).trans M0.out);have N1:=IJ ((cq.block (q+1) II Q41).trans M1.out);have HTR3:=IJ (HTR2.out.frame (fun x h1 hx=>cq.block x II Q41));clear hn hrow SJ cq SK2 CQ2 KF M0 M1 HTR2;go_upto_region 3 with (fail);obtain⟨w4,hw4,b4,z4,k4⟩:=zav w3 (n,A0,C0,A1,C1,A2,C2,A3,C3) 32;rw[hw4];clear hw4;obtain⟨g,hg⟩:∃ g,g=w3.heap.size:=⟨_,rfl⟩
 rw[← hg] at k4 ⊢;obtain⟨lo,hlo⟩:∃ lo,lo=w2.heap.size:=⟨_,rfl⟩
 obtain⟨hi,hhi⟩:∃ hi,hi=w3.heap.size:=⟨_,rfl⟩
 have HR4:=IJ (HR.out.frame (fun x _ hx=>b4.block x hx));rw[← hlo,← hhi] at HR4;have RS0:Hid (PlS b k 800 w w4 q f g lo hi t (IZ A4 t.heights.length C4) (IZ A5 t.clutter.length C5) n (IZ A0 n.sites.length C0) (IZ A1 n.sectors.length C1) (IZ A2 n.antennas.length C2) (IZ A3 n.radios.length C3)):=⟨⟨kj,II,II,SK3.out.below SK3.out.lt b4⟩,CQ3.out.trans (Chg.of_below b4),bkB N0.out b4 II,bkB N1.out b4 II,bkB KF3.out b4 II,k4,yb,II,II,II,II,II,II,(HTR3.out.frame (fun x _ hx=>b4.block x II)).mono II II,HR4.out,HT.out,HN.out⟩
 clear k4 b4 HR HR4 HTR3 SK3 CQ3 N0 N1 KF3 HT HN hg hlo hhi ka kb kc kd;go_wp2_with (fail)
 go_at_call 59
 obtain⟨kk,ka,kb,SS⟩:=RS0.out.src;refine (zbe b kk 14 _ SS II II II).mono ?_;rintro e w5 ⟨⟨c,c0,c1,rfl⟩,hq1⟩;have RS:Hid (PlS b k 802 w w5 q f g lo hi t (IZ A4 t.heights.length C4) (IZ A5 t.clutter.length C5) n (IZ A0 n.sites.length C0) (IZ A1 n.sectors.length C1) (IZ A2 n.antennas.length C2) (IZ A3 n.radios.length C3)):=(RS0.out.call ka kb hq1).more II;clear RS0 SS ka kb hq1
 go_upto_block 0 with (fail)
 go_cut [] (fun wx=>∃ (t:DTerrain) (v3 v4:Value) (n:DNetwork) (u0 u1 u2 u3:Value) (lo hi:Nat),PlS b k 1250 w wx q f g lo hi t v3 v4 n u0 u1 u2 u3)
 case first =>
  by_cases h0:c=0
  ·subst h0
   go_wp2_with (fail)
   go_at_call 66
   have BA:=zao w5 (.cells #[J 20,J 0] 2);have DA:=RS.out.below BA;obtain⟨kk,ka,kb,SS⟩:=DA.src;refine (zet b kk [20,0] w5.heap.size 2 _ SS II (by have:=RS.out.bl;have:=RS.out.chg.size;omega) Q4a Q4a (LayI.new w5 _ [20,0] 2 rfl)).mono ?_;rintro e w6 ⟨⟨s,hv,rfl⟩,hq⟩;have RT:Hid (PlS b k 804 w w6 q f g lo hi t (IZ A4 t.heights.length C4) (IZ A5 t.clutter.length C5) n (IZ A0 n.sites.length C0) (IZ A1 n.sectors.length C1) (IZ A2 n.antennas.length C2) (IZ A3 n.radios.length C3)):=(DA.call ka kb hq).more II;have hs:0≤s∧s≤1000:=by
    simp only[List.mem_cons,List.not_mem_nil,or_false] at hv
    rcases hv with rfl|rfl<;>omega
   clear RS DA SS hq hv BA ka kb;have q0:=bkC RT.out.hf 0 rfl;have fz:=bkF RT.out.hf;go_wp2;go_meet;exact⟨_,_,_,_,_,_,_,_,_,_,(RT.out.step hs).more II⟩
  by_cases h1:c=1
  ·subst h1
   go_wp2_with (fail)
   go_at_call 67
   obtain⟨kk,ka,kb,SS⟩:=RS.out.src;refine (l14Bent_any b kk _ SS II).mono ?_;rintro e w6 ⟨x,y0,y1,y2,y3,hx,rfl,hrow,hq⟩;have RT:Hid (PlS b k 1202 w w6 q f g lo hi t (IZ A4 t.heights.length C4) (IZ A5 t.clutter.length C5) n (IZ A0 n.sites.length C0) (IZ A1 n.sectors.length C1) (IZ A2 n.antennas.length C2) (IZ A3 n.radios.length C3)):=(RS.out.call ka kb hq).more II;have gl:g<w5.heap.size:=zcv RS.out.hg;obtain⟨B0,D0,B1,D1,B2,D2,B3,D3,rfl,rfl,rfl,rfl⟩:=hrow.form;have HR:=IJ hrow;clear RS SS ka kb hq hrow;obtain⟨s0,s1,s2,s3,gz⟩:=bz4 RT.out.hg;go_wp2;go_meet;exact⟨_,_,_,x,_,_,_,_,_,_,(RT.out.put hx gl (Nat.le_refl _) HR.out).more II⟩
  go_wp2;go_meet;exact⟨_,_,_,_,_,_,_,_,_,_,RS.out.more II⟩
 case rest =>
  obtain⟨t,v3,v4,n,u0,u1,u2,u3,lo,hi,hd⟩:=hcut;obtain⟨A4,C4,A5,C5,rfl,rfl⟩:=hd.tr.form;obtain⟨A0,C0,A1,C1,A2,C2,A3,C3,rfl,rfl,rfl,rfl⟩:=hd.nr.form;clear RS;go_upto_region 8 with (fail);have D9:=IJ (hd.below (zbl wc));clear hd;refine zbj 3 [(0,true),(1,true),(2,false)] (fun W=>(W,f,0,J t.step)∧(W,f,1,J t.width)∧(W,f,2,J t.height)∧(W,f,3,IZ A4 t.heights.length C4)∧(W,f,4,IZ A5 t.clutter.length C5)∧(W,g,0,IZ A0 n.sites.length C0)∧(W,g,1,IZ A1 n.sectors.length C1)∧(W,g,2,IZ A2 n.antennas.length C2)∧(W,g,3,IZ A3 n.radios.length C3)) JI JI ⟨bkC D9.out.hf 0 rfl,bkC D9.out.hf 1 rfl,bkC D9.out.hf 2 rfl,bkC D9.out.hf 3 rfl,bkC D9.out.hf 4 rfl,bkC D9.out.hg 0 rfl,bkC D9.out.hg 1 rfl,bkC D9.out.hg 2 rfl,bkC D9.out.hg 3 rfl⟩ (fun hHeld=>?_);generalize wc.drew=Y0 at *;clear hHeld
  iterate 2 (refine zaj (v:=?_) rfl (fun _ _ _ h=>h) ?_ ?_;rotate_left;focus (intro W hSW;(try dsimp only at hSW);(go_simp<;>with_reducible rfl));(try simp only[Act.put,OO,OJ,OQ]))
  have hqf:q+1<f:=D9.out.qf;have hfg:f<g:=D9.out.fg;obtain⟨s0,s1,s2,s3,s4,gz⟩:=bz5 D9.out.h1;refine zbd rfl (fun K hK=>?_);go_simp;have hfar:=zca q [J t.step,J t.width,J t.height,IZ A4 t.heights.length C4,IZ A5 t.clutter.length C5] Y0 0;simp only[zbq] at hfar;have KF:=(hfar f II).trans D9.out.hf;have KG:=(hfar g II).trans D9.out.hg;have K2:=(hfar (q+1) II).trans D9.out.h2;refine hK.out _ _ ⟨bkC KF 0 rfl,bkC KF 1 rfl,bkC KF 2 rfl,bkC KF 3 rfl,bkC KF 4 rfl,bkC KG 0 rfl,bkC KG 1 rfl,bkC KG 2 rfl,bkC KG 3 rfl⟩ ?_;clear hK K s0 s1 s2 s3 s4 gz
  (try simp only[Act.put,OO,OJ,OQ])
  refine zcp ?_;simp only[List.drop_succ_cons,List.drop_zero];obtain⟨s0,s1,s2,s3,gz⟩:=bz4 K2;have HF:=IJ (D9.out.fin);obtain⟨m0,m1,m2,m3,m4⟩:=And.intro (bkC (bkS (bkS (bkS (bkS (bkS D9.out.h1 0 (J t.step)) 1 (J t.width)) 2 (J t.height)) 3 (IZ A4 t.heights.length C4)) 4 (IZ A5 t.clutter.length C5)) 0 rfl) (And.intro (bkC (bkS (bkS (bkS (bkS (bkS D9.out.h1 0 (J t.step)) 1 (J t.width)) 2 (J t.height)) 3 (IZ A4 t.heights.length C4)) 4 (IZ A5 t.clutter.length C5)) 1 rfl) (And.intro (bkC (bkS (bkS (bkS (bkS (bkS D9.out.h1 0 (J t.step)) 1 (J t.width)) 2 (J t.height)) 3 (IZ A4 t.heights.length C4)) 4 (IZ A5 t.clutter.length C5)) 2 rfl) (And.intro (bkC (bkS (bkS (bkS (bkS (bkS D9.out.h1 0 (J t.step)) 1 (J t.width)) 2 (J t.height)) 3 (IZ A4 t.heights.length C4)) 4 (IZ A5 t.clutter.length C5)) 3 rfl) (bkC (bkS (bkS (bkS (bkS (bkS D9.out.h1 0 (J t.step)) 1 (J t.width)) 2 (J t.height)) 3 (IZ A4 t.heights.length C4)) 4 (IZ A5 t.clutter.length C5)) 4 rfl))));have hne:q+1≠q:=II
  go_wp2;exact bodyPost_ret (v:=.tuple #[.agg (t,A4,C4,A5,C5),.agg (n,A0,C0,A1,C1,A2,C2,A3,C3)]) (by simp[results,Tryz.results27,go_sem, *]) rfl HF.out
end Go.Proofs.YtpakghepnahooaaGreatDoor
namespace Go.Proofs.YtpakghepnahooaaGreatDoor
open Go.RowKit
set_option maxHeartbeats 4000000
set_option maxRecDepth 100000
def DrI (b k:Nat) (w:World) (e:Ending) (w':World):Prop:=∃ v:Int,I64 v∧e=.returned (J v)∧SrcQ b k 4 w w'
theorem l20DrawAbove_any (b k:Nat) (w:World) (h:Src w b k) (hk:k≤1099511200000):Calls Tryz.prog 29 #[.pointer (some ⟨b,0,none⟩)] w (DrI b k w):=by
 have yb:=h.lt;have HS:=IJ h;clear h;go_enter Tryz.func29,Tryz.ntmps29;go_wp2_with (fail)
 go_at_call 68
 refine (one_any b k 9 _ HS.out II ⟨II,II⟩).mono ?_;rintro e w1 ⟨⟨cd,rfl⟩,hq⟩;have SQ:=IJ hq;clear hq HS
 cases cd with
 | true =>
  go_wp2_with (fail)
  go_at_call 66
  have BA:=zao w1 (.cells #[J 0,J 1,J 3000,J 3001] 2);obtain⟨kk,ka,kb,SS,cq⟩:=SQ.out;have z_:=cq.size;refine (zet b kk [0,1,3000,3001] w1.heap.size 4 _ (SS.below SS.lt BA) II II Q4a Q4a (LayI.new w1 _ [0,1,3000,3001] 2 rfl)).mono ?_;rintro e w2 ⟨⟨v,hv,rfl⟩,k2,k3,k4,S2,C2⟩;have hI:I64 v:=by
   simp only[List.mem_cons,List.not_mem_nil,or_false] at hv
   rcases hv with rfl|rfl|rfl|rfl<;>(constructor<;>omega)
  have HQ:Hid (SrcQ b k 4 w w2):=⟨k2,II,II,S2,(cq.trans (Chg.of_below BA)).trans C2⟩
  clear SQ SS cq BA ka kb S2 C2 k3 k4 hv;go_wp2;go_ret;exact⟨v,hI,rfl,HQ.out⟩
 | false =>
  go_wp2_with (fail)
  go_at_call 59
  obtain⟨kk,ka,kb,SS,cq⟩:=SQ.out;refine (zbe b kk 200 _ SS II II II).mono ?_;rintro e w2 ⟨⟨v,v0,v1,rfl⟩,k2,k3,k4,S2,C2⟩;have HQ:Hid (SrcQ b k 4 w w2):=⟨k2,II,II,S2,cq.trans C2⟩
  clear SQ SS cq ka kb S2 C2 k3 k4;go_wp2;go_ret;exact⟨v+10,⟨II,II⟩,rfl,HQ.out⟩
theorem l20DrawLeast_any (b k:Nat) (w:World) (h:Src w b k) (hk:k≤1099511200000):Calls Tryz.prog 30 #[.pointer (some ⟨b,0,none⟩)] w (DrI b k w):=by
 have yb:=h.lt;have HS:=IJ h;clear h;go_enter Tryz.func30,Tryz.ntmps30;go_wp2_with (fail)
 go_at_call 68
 refine (one_any b k 9 _ HS.out II ⟨II,II⟩).mono ?_;rintro e w1 ⟨⟨cd,rfl⟩,hq⟩;have SQ:=IJ hq;clear hq HS
 cases cd with
 | true =>
  go_wp2_with (fail)
  go_at_call 66
  have BA:=zao w1 (.cells #[J (-300000),J 300000,J 300001,J (-300001)] 2);obtain⟨kk,ka,kb,SS,cq⟩:=SQ.out;have z_:=cq.size;refine (zet b kk [-300000,300000,300001,-300001] w1.heap.size 4 _ (SS.below SS.lt BA) II II Q4a Q4a (LayI.new w1 _ [-300000,300000,300001,-300001] 2 rfl)).mono ?_;rintro e w2 ⟨⟨v,hv,rfl⟩,k2,k3,k4,S2,C2⟩;have hI:I64 v:=by
   simp only[List.mem_cons,List.not_mem_nil,or_false] at hv
   rcases hv with rfl|rfl|rfl|rfl<;>(constructor<;>omega)
  have HQ:Hid (SrcQ b k 4 w w2):=⟨k2,II,II,S2,(cq.trans (Chg.of_below BA)).trans C2⟩
  clear SQ SS cq BA ka kb S2 C2 k3 k4 hv;go_wp2;go_ret;exact⟨v,hI,rfl,HQ.out⟩
 | false =>
  go_wp2_with (fail)
  go_at_call 59
  obtain⟨kk,ka,kb,SS,cq⟩:=SQ.out;refine (zbe b kk 60 _ SS II II II).mono ?_;rintro e w2 ⟨⟨v,v0,v1,rfl⟩,k2,k3,k4,S2,C2⟩;have HQ:Hid (SrcQ b k 4 w w2):=⟨k2,II,II,S2,cq.trans C2⟩
  clear SQ SS cq ka kb S2 C2 k3 k4;go_wp2;go_ret;exact⟨-60000-v*1000,⟨II,II⟩,rfl,HQ.out⟩
theorem l09DrawFrequency_any (b k:Nat) (w:World) (h:Src w b k) (hk:k≤1099511200000):Calls Tryz.prog 28 #[.pointer (some ⟨b,0,none⟩)] w (DrI b k w):=by
 have yb:=h.lt;have HS:=IJ h;clear h;go_enter Tryz.func28,Tryz.ntmps28;go_wp2_with (fail)
 go_at_call 59
 refine (zbe b k 6 _ HS.out II II II).mono ?_;rintro e w1 ⟨⟨c,c0,c1,rfl⟩,hq⟩;have SQ:=IJ hq;clear hq HS
 by_cases h0:c=0
 ·subst h0
  go_wp2_with (fail)
  go_at_call 66
  have BA:=zao w1 (.cells #[J 0,J 1,J (-1),J 100000000,J 100000001,J 30] 2);obtain⟨kk,ka,kb,SS,cq⟩:=SQ.out;have z_:=cq.size;refine (zet b kk [0,1,-1,100000000,100000001,30] w1.heap.size 6 _ (SS.below SS.lt BA) II II Q4a Q4a (LayI.new w1 _ [0,1,-1,100000000,100000001,30] 2 rfl)).mono ?_;rintro e w2 ⟨⟨v,hv,rfl⟩,k2,k3,k4,S2,C2⟩;have hI:I64 v:=by
   simp only[List.mem_cons,List.not_mem_nil,or_false] at hv
   rcases hv with rfl|rfl|rfl|rfl|rfl|rfl<;>(constructor<;>omega)
  exact Q1p
 by_cases h1:c=1
 ·subst h1
  go_wp2_with (fail)
  go_at_call 59
  obtain⟨kk,ka,kb,SS,cq⟩:=SQ.out;refine (zbe b kk 1000 _ SS II II II).mono ?_;rintro e w2 ⟨⟨v,v0,v1,rfl⟩,k2,k3,k4,S2,C2⟩;have HQ:Hid (SrcQ b k 4 w w2):=⟨k2,II,II,S2,cq.trans C2⟩
  clear SQ SS cq ka kb S2 C2 k3 k4;go_wp2;go_ret;exact⟨v*1000+1,⟨II,II⟩,rfl,HQ.out⟩
 go_wp2_with (fail)
 go_at_call 66
 have BA:=zao w1 (.cells #[J 150000,J 460000,J 900000,J 1800000,J 2600000,J 3500000,J 6000000,J 18000000,J 38000000,J 80000000] 2);obtain⟨kk,ka,kb,SS,cq⟩:=SQ.out;have z_:=cq.size;refine (zet b kk [150000,460000,900000,1800000,2600000,3500000,6000000,18000000,38000000,80000000] w1.heap.size 10 _ (SS.below SS.lt BA) II II Q4a Q4a (LayI.new w1 _ [150000,460000,900000,1800000,2600000,3500000,6000000,18000000,38000000,80000000] 2 rfl)).mono ?_;rintro e w2 ⟨⟨v,hv,rfl⟩,k2,k3,k4,S2,C2⟩;have hI:I64 v:=by
  simp only[List.mem_cons,List.not_mem_nil,or_false] at hv
  rcases hv with rfl|rfl|rfl|rfl|rfl|rfl|rfl|rfl|rfl|rfl<;>(constructor<;>omega)
 exact Q1p
end Go.Proofs.YtpakghepnahooaaGreatDoor
namespace Go.Proofs.YtpakghepnahooaaGreatDoor
set_option maxHeartbeats 16000000
set_option maxRecDepth 100000
open Go.RowKit
structure CvS (b k c:Nat) (w0 w:World) (q f g hi:Nat) (t:DTerrain) (v3 v4:Value) (n:DNetwork) (u0 u1 u2 u3:Value):Prop where
 src:∃ k',k≤k'∧k'≤k+c∧Src w b k'
 low:OI q w0 w
 h1:w.heap[q]? = some (.cells #[J 0,J 0,J 0,IZ none 0 0,IZ none 0 0] 26 (0,0))
 h2:w.heap[q+1]? = some (.cells () 32 (0,0))
 hf:w.heap[f]? = some (.cells (t,v3,v4) 26 (0,0))
 hg:w.heap[g]? = some (.cells #[u0,u1,u2,u3] 32 (0,0))
 qb:q+1<b
 bf:b<f
 fg:f<g
 gh:g<hi
 hh:hi≤w.heap.size
 tr:TerP (b+1) hi w t v3 v4
 nr:NwP (b+1) hi w n u0 u1 u2 u3
 td:TerD t
 nd:NetW 40 60 n
section
variable {b k c q f g hi:Nat} {w0 w w':World} {t:DTerrain} {v3 v4:Value} {n:DNetwork} {u0 u1 u2 u3:Value}
theorem CvS.keep {d:Nat} (h:CvS b k c w0 w q f g hi t v3 v4 n u0 u1 u2 u3) (hs:∃ k',k≤k'∧k'≤k+d∧Src w' b k') (C:Chg [b] w w'):CvS b k d w0 w' q f g hi t v3 v4 n u0 u1 u2 u3:=by
 have:=h.qb;have:=h.bf;have:=h.fg;have:=h.gh;have:=h.hh;have:=C.size;have hk:∀ x,x<w.heap.size→x≠b→w'.heap[x]? = w.heap[x]?:=fun x hx hq=>C.block x hx Q41
 exact⟨hs,⟨C.os.trans h.low.os,C.tape.trans h.low.tape,C.output.trans h.low.output,Nat.le_trans h.low.size C.size,fun x hx=>(hk x II II).trans (h.low.block x hx)⟩,(hk q (zcv h.h1) II).trans h.h1,(hk (q+1) (zcv h.h2) II).trans h.h2,(hk f (zcv h.hf) II).trans h.hf,(hk g (zcv h.hg) II).trans h.hg,h.qb,h.bf,h.fg,h.gh,II,h.tr.frame (fun x h1 h2=>hk x II II),h.nr.frame (fun x h1 h2=>hk x II II),h.td,h.nd⟩
theorem CvS.below (h:CvS b k c w0 w q f g hi t v3 v4 n u0 u1 u2 u3) (hb:OI w w w'):CvS b k c w0 w' q f g hi t v3 v4 n u0 u1 u2 u3:=by
 obtain⟨k',h1,h2,S⟩:=h.src;exact h.keep ⟨k',h1,h2,S.below S.lt hb⟩ (Chg.of_below hb)
theorem CvS.call {k1 d:Nat} (h:CvS b k c w0 w q f g hi t v3 v4 n u0 u1 u2 u3) (h1:k≤k1) (h2:k1≤k+c) (s:SrcQ b k1 d w w'):CvS b k (c+d) w0 w' q f g hi t v3 v4 n u0 u1 u2 u3:=by
 obtain⟨k2,a1,a2,S,C⟩:=s;exact h.keep ⟨k2,II,II,S⟩ C
end
def DrCov (w:World) (e:Ending) (w':World):Prop:=∃ (t:DTerrain) (v3 v4:Value) (n:DNetwork) (u0 u1 u2 u3:Value) (f a l:Int),TerD t∧NetW 40 60 n∧I64 f∧I64 a∧I64 l∧e=.returned (.tuple #[.agg (t,v3,v4),.agg #[u0,u1,u2,u3],J f,J a,J l])∧TerP w.heap.size w'.heap.size w' t v3 v4∧NwP w.heap.size w'.heap.size w' n u0 u1 u2 u3∧OI w w w'
theorem DrawCoverNetwork_any (code:List UInt8) (v0:Value) (w:World) (h:Rd w w (bsT code) v0):Calls Tryz.prog 7 #[v0] w (DrCov w):=by
 have H0:=IJ h;obtain⟨x0,y0,rfl,_,_,_⟩:=h.bs;clear h;go_enter Tryz.func7,Tryz.ntmps7;go_wp2_with (fail);obtain⟨W0,hW0,b0,z0,k0,k1⟩:=zdv w #[J 0,J 0,J 0,IZ none 0 0,IZ none 0 0] 26 () 32;rw[hW0];clear hW0;obtain⟨q,hq⟩:∃ q,q=w.heap.size:=⟨_,rfl⟩
 rw[← hq] at k0 k1 ⊢;have q1:=Nat.le_of_eq hq;have q2:=Nat.le_of_eq hq.symm;have K0:=IJ k0;have K1:=IJ k1;have B0:=IJ b0;clear b0 k0 k1 hq
 go_at_call 26
 refine (l00From_any code _ W0 ((H0.out.below B0.out).mono II)).mono ?_;rintro e w1 ⟨rfl,hs,hb,hz⟩;have HS:=IJ hs;have HB:=IJ hb;have zz1:=hb.size;clear hs hb H0;obtain⟨b,hbb⟩:∃ b,b=W0.heap.size:=⟨_,rfl⟩
 rw[← hbb] at HS ⊢;have b1:=Nat.le_of_eq hbb;have b2:=Nat.le_of_eq hbb.symm;clear hbb;go_wp2_with (fail)
 go_at_call 27
 refine (l20DrawPlan_any b 0 w1 HS.out II).mono ?_;rintro e w2 ⟨t,v3,v4,n,u0,u1,u2,u3,ht,hn,rfl,htr,hnr,kk,ka,kb,SS,cq⟩;obtain⟨A4,C4,A5,C5,rfl,rfl⟩:=htr.form;obtain⟨A0,C0,A1,C1,A2,C2,A3,C3,rfl,rfl,rfl,rfl⟩:=hnr.form;have HT:=IJ ht;have HN:=IJ hn;have HTR:=IJ htr;have HNR:=IJ hnr;have SK:=IJ SS;have zz2:=cq.size;have hk:∀ x,x<b→w2.heap[x]? = W0.heap[x]?:=fun x hx=>(cq.block x II Q41).trans (HB.out.block x II)
 have L0:=IJ ((hk q II).trans K0.out);have L1:=IJ ((hk (q+1) II).trans K1.out);have BW:Hid (OI q w w2):=⟨cq.os.trans (HB.out.os.trans B0.out.os),cq.tape.trans (HB.out.tape.trans B0.out.tape),cq.output.trans (HB.out.output.trans B0.out.output),by have:=B0.out.size;omega,fun x hx=>(hk x II).trans (B0.out.block x II)⟩
 clear ht hn htr hnr SS cq HS HB B0 K0 K1 hk;go_upto_region 3 with (fail);obtain⟨w3,hw3,b3,z3,k3,k4⟩:=zdv w2 (t,A4,C4,A5,C5) 26 (n,A0,C0,A1,C1,A2,C2,A3,C3) 32;rw[hw3];clear hw3;obtain⟨f,hf⟩:∃ f,f=w2.heap.size:=⟨_,rfl⟩
 obtain⟨g,hg⟩:∃ g,g=w2.heap.size+1:=⟨_,rfl⟩
 rw[← hf] at k3;rw[← hg] at k4;rw[← hg,← hf];obtain⟨hi,hhi⟩:∃ hi,hi=w3.heap.size:=⟨_,rfl⟩
 have D0:Hid (CvS b 0 1250 w w3 q f g hi t (IZ A4 t.heights.length C4) (IZ A5 t.clutter.length C5) n (IZ A0 n.sites.length C0) (IZ A1 n.sectors.length C1) (IZ A2 n.antennas.length C2) (IZ A3 n.radios.length C3)):=⟨⟨kk,ka,kb,SK.out.below SK.out.lt b3⟩,BW.out.trans (b3.mono II),bkB L0.out b3 II,bkB L1.out b3 II,k3,k4,II,II,II,II,II,(HTR.out.frame (fun x _ hx=>b3.block x hx)).mono II II,(HNR.out.frame (fun x _ hx=>b3.block x hx)).mono II II,HT.out,HN.out⟩
 clear k3 k4 b3 HTR HNR HT HN SK BW L0 L1 hf hg ka kb hhi;go_wp2_with (fail)
 go_at_call 28
 obtain⟨kk,ka,kb,SS⟩:=D0.out.src;refine (l09DrawFrequency_any b kk _ SS II).mono ?_;rintro e w4 ⟨fr,h_fr,rfl,hq⟩;have D1:Hid (CvS b 0 1254 w w4 q f g hi t (IZ A4 t.heights.length C4) (IZ A5 t.clutter.length C5) n (IZ A0 n.sites.length C0) (IZ A1 n.sectors.length C1) (IZ A2 n.antennas.length C2) (IZ A3 n.radios.length C3)):=D0.out.call ka kb hq;clear D0 SS ka kb hq;go_wp2_with (fail)
 go_at_call 29
 obtain⟨kk,ka,kb,SS⟩:=D1.out.src;refine (l20DrawAbove_any b kk _ SS II).mono ?_;rintro e w5 ⟨av,h_av,rfl,hq⟩;have D2:Hid (CvS b 0 1258 w w5 q f g hi t (IZ A4 t.heights.length C4) (IZ A5 t.clutter.length C5) n (IZ A0 n.sites.length C0) (IZ A1 n.sectors.length C1) (IZ A2 n.antennas.length C2) (IZ A3 n.radios.length C3)):=D1.out.call ka kb hq;clear D1 SS ka kb hq;go_upto_region 5 with (fail);have D9:=IJ (D2.out.below (zbl w5));clear D2;refine zbj 9 [(0,true),(1,true),(2,true),(3,true),(4,true),(5,false),(6,false),(7,false),(8,true)] (fun W=>(W,f,0,J t.step)∧(W,f,1,J t.width)∧(W,f,2,J t.height)∧(W,f,3,IZ A4 t.heights.length C4)∧(W,f,4,IZ A5 t.clutter.length C5)∧(W,g,0,IZ A0 n.sites.length C0)∧(W,g,1,IZ A1 n.sectors.length C1)∧(W,g,2,IZ A2 n.antennas.length C2)∧(W,g,3,IZ A3 n.radios.length C3)) JI JI ⟨bkC D9.out.hf 0 rfl,bkC D9.out.hf 1 rfl,bkC D9.out.hf 2 rfl,bkC D9.out.hf 3 rfl,bkC D9.out.hf 4 rfl,bkC D9.out.hg 0 rfl,bkC D9.out.hg 1 rfl,bkC D9.out.hg 2 rfl,bkC D9.out.hg 3 rfl⟩ (fun hHeld=>?_);generalize w5.drew=Y0 at *;clear hHeld
 iterate 5 (refine zaj (v:=?_) rfl (fun _ _ _ h=>h) ?_ ?_;rotate_left;focus (intro W hSW;(try dsimp only at hSW);(go_simp<;>with_reducible rfl));(try simp only[Act.put,OO,OJ,OQ]))
 refine zbd rfl (fun K hK=>?_);go_simp;obtain⟨kk,ka,kb,SS⟩:=D9.out.src;refine (l20DrawLeast_any b kk _ SS II).mono ?_;rintro e Y1 ⟨ls,h_ls,rfl,hq⟩;have DD:Hid (CvS b 0 1262 w Y1 q f g hi t (IZ A4 t.heights.length C4) (IZ A5 t.clutter.length C5) n (IZ A0 n.sites.length C0) (IZ A1 n.sectors.length C1) (IZ A2 n.antennas.length C2) (IZ A3 n.radios.length C3)):=D9.out.call ka kb hq;have hqb:=DD.out.qb;have hbf:=DD.out.bf;have hfg:=DD.out.fg;refine hK.out _ _ ⟨bkC DD.out.hf 0 rfl,bkC DD.out.hf 1 rfl,bkC DD.out.hf 2 rfl,bkC DD.out.hf 3 rfl,bkC DD.out.hf 4 rfl,bkC DD.out.hg 0 rfl,bkC DD.out.hg 1 rfl,bkC DD.out.hg 2 rfl,bkC DD.out.hg 3 rfl⟩ ?_;clear hK K D9 SS ka kb hq
 (try simp only[Act.put,OO,OJ,OQ])
 obtain⟨s0,s1,s2,s3,s4,gz⟩:=bz5 DD.out.h1;refine zbd rfl (fun K hK=>?_);go_simp;have hfar:=zca q [J t.step,J t.width,J t.height,IZ A4 t.heights.length C4,IZ A5 t.clutter.length C5] Y1 0;have hfq:=bkS (bkS (bkS (bkS (bkS DD.out.h1 0 (J t.step)) 1 (J t.width)) 2 (J t.height)) 3 (IZ A4 t.heights.length C4)) 4 (IZ A5 t.clutter.length C5);obtain⟨Z1,hZ1⟩:∃ Z1,zbq Y1 q 0 [J t.step,J t.width,J t.height,IZ A4 t.heights.length C4,IZ A5 t.clutter.length C5]=Z1:=⟨_,rfl⟩
 have hlow1:=zbz q [J t.step,J t.width,J t.height,IZ A4 t.heights.length C4,IZ A5 t.clutter.length C5] Y1 0;have hsz1:=zb2 q [J t.step,J t.width,J t.height,IZ A4 t.heights.length C4,IZ A5 t.clutter.length C5] Y1 0;rw[hZ1] at hfar hlow1 hsz1;have KF:=IJ ((hfar f II).trans DD.out.hf);have KG:=IJ ((hfar g II).trans DD.out.hg);have K2:=IJ ((hfar (q+1) II).trans DD.out.h2);have T1:=IJ (DD.out.tr.frame (fun x h1 h2=>hfar x II));have N1:=IJ (DD.out.nr.frame (fun x h1 h2=>hfar x II));have LW:=IJ (DD.out.low.trans hlow1);simp only[zbq] at hZ1;have K1:Hid (Z1.heap[q]? = some (.cells (t,A4,C4,A5,C5) 26 (0,0))):=by
  show _=_
  rw[← hZ1]
  simpa using hfq
 rw[hZ1];refine hK.out _ _ ⟨bkC KF.out 0 rfl,bkC KF.out 1 rfl,bkC KF.out 2 rfl,bkC KF.out 3 rfl,bkC KF.out 4 rfl,bkC KG.out 0 rfl,bkC KG.out 1 rfl,bkC KG.out 2 rfl,bkC KG.out 3 rfl⟩ ?_;clear hK K s0 s1 s2 s3 s4 gz hfq hfar hZ1 hlow1
 (try simp only[Act.put,OO,OJ,OQ])
 obtain⟨s0,s1,s2,s3,gz⟩:=bz4 K2.out;refine zbd rfl (fun K hK=>?_);go_simp;have hfar:=zca (q+1) [IZ A0 n.sites.length C0,IZ A1 n.sectors.length C1,IZ A2 n.antennas.length C2,IZ A3 n.radios.length C3] Z1 0;have hfq:=bkS (bkS (bkS (bkS K2.out 0 (IZ A0 n.sites.length C0)) 1 (IZ A1 n.sectors.length C1)) 2 (IZ A2 n.antennas.length C2)) 3 (IZ A3 n.radios.length C3);have hlow2:=zbz (q+1) [IZ A0 n.sites.length C0,IZ A1 n.sectors.length C1,IZ A2 n.antennas.length C2,IZ A3 n.radios.length C3] Z1 0;have hsz2:=zb2 (q+1) [IZ A0 n.sites.length C0,IZ A1 n.sectors.length C1,IZ A2 n.antennas.length C2,IZ A3 n.radios.length C3] Z1 0;have FIN:Hid (DrCov w (.returned (.tuple #[.agg (t,A4,C4,A5,C5),.agg (n,A0,C0,A1,C1,A2,C2,A3,C3),J fr,J av,J ls])) (zbq Z1 (q+1) 0 [IZ A0 n.sites.length C0,IZ A1 n.sectors.length C1,IZ A2 n.antennas.length C2,IZ A3 n.radios.length C3])):=⟨t,_,_,n,_,_,_,_,fr,av,ls,DD.out.td,DD.out.nd,h_fr,h_av,h_ls,rfl,(T1.out.frame (fun x h1 h2=>hfar x II)).mono II (by rw[hsz2,hsz1];exact DD.out.hh),(N1.out.frame (fun x h1 h2=>hfar x II)).mono II (by rw[hsz2,hsz1];exact DD.out.hh),(LW.out.trans (hlow2.mono (Nat.le_succ q))).mono q2⟩
 obtain⟨Z2,hZ2⟩:∃ Z2,zbq Z1 (q+1) 0 [IZ A0 n.sites.length C0,IZ A1 n.sectors.length C1,IZ A2 n.antennas.length C2,IZ A3 n.radios.length C3]=Z2:=⟨_,rfl⟩
 rw[hZ2] at hfar FIN;have KF2:=IJ ((hfar f II).trans KF.out);have KG2:=IJ ((hfar g II).trans KG.out);have M1:=IJ ((hfar q II).trans K1.out);simp only[zbq] at hZ2;have M2:Hid (Z2.heap[q+1]? = some (.cells (n,A0,C0,A1,C1,A2,C2,A3,C3) 32 (0,0))):=by
  show _=_
  rw[← hZ2]
  simpa using hfq
 rw[hZ2];refine hK.out _ _ ⟨bkC KF2.out 0 rfl,bkC KF2.out 1 rfl,bkC KF2.out 2 rfl,bkC KF2.out 3 rfl,bkC KF2.out 4 rfl,bkC KG2.out 0 rfl,bkC KG2.out 1 rfl,bkC KG2.out 2 rfl,bkC KG2.out 3 rfl⟩ ?_;clear hK K s0 s1 s2 s3 gz hfq hfar hZ2 hlow2 hsz2 hsz1 T1 N1 LW DD KF KG K1 K2 KF2 KG2
 (try simp only[Act.put,OO,OJ,OQ])
 iterate 1 (refine zaj (v:=?_) rfl (fun _ _ _ h=>h) ?_ ?_;rotate_left;focus (intro W hSW;(try dsimp only at hSW);(go_simp<;>with_reducible rfl));(try simp only[Act.put,OO,OJ,OQ]))
 refine zcp ?_;simp only[List.drop_succ_cons,List.drop_zero];simp only[Act.put,OO,OJ,OQ];obtain⟨m0,m1,m2,m3,m4,_⟩:=bz5 M1.out;obtain⟨n0,n1,n2,n3,_⟩:=bz4 M2.out;go_wp2;exact bodyPost_ret (v:=.tuple #[.agg (t,A4,C4,A5,C5),.agg (n,A0,C0,A1,C1,A2,C2,A3,C3),J fr,J av,J ls]) (by simp[results,Tryz.results7,go_sem, *]) rfl FIN.out
end Go.Proofs.YtpakghepnahooaaGreatDoor
