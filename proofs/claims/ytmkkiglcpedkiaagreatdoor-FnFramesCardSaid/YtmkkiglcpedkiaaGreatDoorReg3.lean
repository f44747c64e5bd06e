/- Contracts: where a record is, and a state after a change. Conditions: rising keys, bounded lengths. -/
import Derived.Test.YtmkkiglcpedkiaaGreatDoorRegW
import Derived.Test.YtmkkiglcpedkiaaGreatDoorBinRecord
import Derived.Test.YtmkkiglcpedkiaaGreatDoorDelT
import Derived.Test.YtmkkiglcpedkiaaGreatDoorInsRecord
import Derived.Test.YtmkkiglcpedkiaaGreatDoorCloneT
set_option linter.unusedVariables false
set_option linter.unusedSimpArgs false
namespace Go.Proofs.YtmkkiglcpedkiaaGreatDoor
open Go.RowKit
set_option maxHeartbeats 2000000
set_option maxRecDepth 100000
theorem cmp_zero:(a b:List UInt8)→(Lib.compareBytes a b=0↔a=b):=by
 intro a
 induction a with
 | nil=>intro b;cases b<;>simp[Lib.compareBytes]
 | cons x a ih =>
  intro b
  cases b with
  | nil=>simp[Lib.compareBytes]
  | cons y b =>
   simp only[Lib.compareBytes]
   by_cases h1:x<y
   ·have:x≠y:=fun e=>by subst e;rw[UInt8.lt_iff_toNat_lt] at h1;omega
    simp[h1,this]
   ·by_cases h2:y<x
    ·have:x≠y:=fun e=>by subst e;exact h1 h2
     simp[h1,h2,this]
    ·have h3:x=y:=by
      apply UInt8.toNat_inj.1
      rw[UInt8.lt_iff_toNat_lt] at h1 h2;omega
     subst h3;simp[h1,ih]
theorem cmpS_zero (a b:ByteArray):cmpS a b=0↔eqS a b=true:=by
 unfold cmpS eqS;rw[cmp_zero,beq_iff_eq,ByteArray.toList_eq,ByteArray.toList_eq]
theorem bin_pos {l:List DRecord} {nm:ByteArray} {k:Nat} (h:Rise l) (hk:k≤l.length) (hlo:0<k→belRecord l nm (k-1)=true) (hhi:k<l.length→belRecord l nm k=false):posOf DRecord.key l nm=k :=
 pos_of h.adj hk (fun h=>by have:=hlo h;rw[belRecord_at (by omega),cmpS_lt] at this;exact this) (fun h=>by have:=hhi h;rw[belRecord_at h,cmpS_lt] at this;exact this)
theorem Own.recAt {w:World} {l:List DRecord} {a:Option Addr} {n c:Nat} {fp:List Nat} (h:Own w (DRecord.sT l) (.slice a n c) fp) (k:Nat) (hk:k<l.length) :
  ∃ b off,a=some ⟨b,off,none⟩∧b ∈ fp∧w.cell? ⟨b,off+k*2,none⟩=some (.string l[k].key)∧w.cell? ⟨b,off+k*2+1,none⟩=some (.string l[k].value)∧(∀ i,w.frozen? ⟨b,i,none⟩=false) ∧
   ∀ s,Own (w.setCell ⟨b,off+k*2+1,none⟩ (.string s)) (DRecord.sT (l.set k ⟨l[k].key,s⟩)) (.slice a n c) fp:=by
 have hT:((l.take k).flatMap DRecord.tr).length=k*2:=by rw[flat_length DRecord.tr 2 DRecord.tr_len,List.length_take,Nat.min_eq_left (by omega)]
 have h2:Own w (.sl 2 ((l.take k).flatMap DRecord.tr++(DRecord.tr l[k]++(l.drop (k+1)).flatMap DRecord.tr))) (.slice a n c) fp:=by
  rw[← flatSplit DRecord.tr l k hk];exact h
 obtain⟨b,off,rfl,hb⟩:=Own.someAddr (t:=strT l[k].key) (us:=strT l[k].value::(l.drop (k+1)).flatMap DRecord.tr) h2;obtain⟨c0,hf⟩:=h2.cellChunk 0 (.string l[k].key) rfl (off+k*2) (by rw[hT];rfl);obtain⟨c1,_⟩:=h2.cellChunk 1 (.string l[k].value) rfl (off+k*2+1) (by rw[hT];omega);refine⟨b,off,rfl,hb,c0,c1,hf,fun s=>?_⟩;have h3:=h2.setChunk 1 (.string l[k].value) rfl (off+k*2+1) (by rw[hT];omega) (.string s);unfold DRecord.sT;rw[flatSet DRecord.tr l k hk];exact h3
theorem recordAt_any (l:List DRecord) (nm:ByteArray) (v:Value) (w:World) (h:Rd w.heap.size w (DRecord.sT l) v) (hn:l.length≤1048576) :
  Calls Tryz.prog 74 #[v,.string nm] w (BinQ l nm w):=by
 have HB:=Lib.hid (binRecord_any l nm v w h hn);clear h hn;go_enter Tryz.func74,Tryz.ntmps74;go_wp2_with fail;refine HB.out.mono ?_;rintro e w1 ⟨k,fd,hk,rfl,hb,hlo,hhi,hfd⟩;have H1:=Lib.hid hb;have H2:=Lib.hid hlo;have H3:=Lib.hid hhi;have H4:=Lib.hid hfd;clear hb hlo hhi hfd;go_wp2;go_ret2;exact⟨k,fd,hk,rfl,H1.out,H2.out,H3.out,H4.out⟩
def MadeQ (m:List DRecord) (w:World) (e:Ending) (w':World):Prop:=∃ a c fp,e=.returned (.slice a m.length c)∧Below w.heap.size w w'∧Own w' (DRecord.sT m) (.slice a m.length c) fp∧In w.heap.size w'.heap.size fp
theorem made_any (l:List DRecord) (ch:DChange) (v:Value) (w:World) (h:Rd w.heap.size w (DRecord.sT l) v) (hn:l.length≤1000) (hr:Rise l) (hdel:eqS ch.new_ emptyS=true→∃ (i:Nat) (hi:i<l.length),eqS l[i].key ch.key=true) :
  Calls Tryz.prog 48 #[v,.agg #[.int .i64 ch.day,.string ch.key,.string ch.old_,.string ch.new_]] w (MadeQ (putL l ch.key ch.new_) w):=by
 have hb0:Below w.heap.size w (w.alloc (.cells #[.int .i64 ch.day,.string ch.key,.string ch.old_,.string ch.new_] 44)):=below_alloc _ _;have k0:=bkN w #[.int .i64 ch.day,.string ch.key,.string ch.old_,.string ch.new_] 44;have z0:w.heap.size+1≤(w.alloc (.cells #[.int .i64 ch.day,.string ch.key,.string ch.old_,.string ch.new_] 44)).heap.size:=by simp
 have HR:=Lib.hid (h.below hb0);have HDEL:=Lib.hid hdel;clear h hdel;go_enter Tryz.func48,Tryz.ntmps48;go_upto_region 1 with (fail);generalize w.alloc (.cells #[.int .i64 ch.day,.string ch.key,.string ch.old_,.string ch.new_] 44)=W0 at *;have B0:=Lib.hid hb0;have K0:=Lib.hid k0;clear hb0 k0;go_wp2_with fail;refine (cloneRecord_raw l v w.heap.size W0 HR.out (by omega) (by omega)).mono ?_;rintro e w1 ⟨a1,c1,xs,rfl,hb1,how,hx⟩;rw[flat_lits DRecord.tr DRecord.vs DRecord.tr_vs] at hx;obtain rfl:=RdV_vals _ _ hx;have K1:=Lib.hid (bkB K0.out hb1 (by omega));have B1:=Lib.hid (B0.out.trans (hb1.mono (by omega)));have OW1:=Lib.hid how;have z1:W0.heap.size≤w1.heap.size:=hb1.size;obtain⟨fp1,o1,i1,m1⟩:=rowOwnB (lo:=W0.heap.size) how (by omega) (by omega);have O1:Hid (Own w1 (DRecord.sT l) (.slice a1 l.length c1) fp1):=by rw[DRecord.sT_vs];exact o1
 have I1:=Lib.hid i1;have M1:=Lib.hid m1;clear hb1 how hx B0 K0 HR o1 i1 m1;have f1:=bkC (v:=.string ch.key) K1.out 1 rfl;go_wp2_with fail;refine (recordAt_any l ch.key _ w1 (O1.out.rd I1.out) (by omega)).mono ?_;rintro e w2 ⟨k,fd,hk,rfl,hb2,hlo,hhi,hfd⟩;have HP:=Lib.hid (bin_pos hr hk hlo hhi);have HFD:=Lib.hid hfd;have K2:=Lib.hid (bkB K1.out hb2 (by omega));have B2:=Lib.hid (B1.out.trans (hb2.mono (by omega)));have O2:=Lib.hid (O1.out.below I1.out (Nat.le_refl _) hb2);have OW2:Hid (w2.ownsRow W0.heap.size 69 2 (.slice a1 l.length c1) l.length (l.flatMap DRecord.vs)):=ownsRow_frame OW1.out (fun g hg=>hb2.block g (ownsRow_block OW1.out hg).2);have z2:w1.heap.size≤w2.heap.size:=hb2.size;clear hb2 hlo hhi hfd f1 B1 K1 O1 OW1;have HRI:=Lib.hid hr;clear hr
 by_cases hnew:eqS ch.new_ emptyS=true
 ·
  obtain⟨i,hi,he⟩:=HDEL.out hnew;have e1:=there_at HRI.out hi he;rw[HP.out] at e1;subst e1;have HPD:=Lib.hid (put_drop HRI.out hi he hnew);have hnw:=emptyS_of hnew;have f3:w2.cell? ⟨w.heap.size,3,none⟩=some (.string ⟨#[]⟩):=by rw[← hnw];exact bkC K2.out 3 rfl
  have HL:Hid (l.length-1=(l.eraseIdx k).length):=by show _=_;rw[List.length_eraseIdx,if_pos hi]
  clear he hnew hnw HDEL HFD OW2;go_wp2_with fail;refine (deleteRecord_any l k a1 c1 fp1 w2 O2.out hi (by omega)).mono ?_;rintro e w3 ⟨fp',rfl,hch,ho,hfp⟩;have H1:=Lib.hid hch;have H2:=Lib.hid ho;have H3:=Lib.hid hfp;have z3:w2.heap.size≤w3.heap.size:=hch.size;clear hch ho hfp f3;go_wp2;go_ret;rw[HPD.out];refine⟨a1,c1,fp',by rw[HL.out];rfl,B2.out.trans (H1.out.below (by omega) (fun x hx=>by have:=(I1.out x hx).1;omega)),?_,fun y hy=>?_⟩
  ·rw[← HL.out];exact H2.out
  ·have:=I1.out y (H3.out y hy);omega
 ·replace hnew:eqS ch.new_ emptyS=false:=Bool.eq_false_iff.2 hnew
  obtain⟨n1,n2,n3⟩:=eqS_empty_list hnew;have f3:=bkC (v:=.string ch.new_) K2.out 3 rfl
  cases fd with
  | true =>
   obtain⟨hi,he0⟩:=HFD.out.1 rfl;have he:=(cmpS_zero _ _).1 he0;have HPS:=Lib.hid (put_set HRI.out hi he hnew);clear he he0 hnew HDEL HFD OW2;obtain⟨b,off,rfl,hb,g0,g1,hf,hset⟩:=O2.out.recAt k hi;have HS:=Lib.hid (hset ch.new_);have j1:(k:Int)<(l.length:Int):=by omega
   have hbw:=I1.out b hb;have hne:¬ b=w.heap.size:=by omega
   clear hset hb;go_wp2;go_ret;rw[HPS.out];have hlen:(l.set k ⟨l[k].key,ch.new_⟩).length=l.length:=List.length_set;unfold MadeQ;rw[hlen];exact⟨_,c1,fp1,rfl,B2.out.setCell (p:=⟨b,_,none⟩) (by show w.heap.size≤b;omega) _,HS.out,by rw[size_setCell];exact I1.out.mono (by omega) (by omega)⟩
  | false =>
   have hno:∀ j (hj:j<l.length),eqS l[j].key ch.key=false:=fun j hj=>by
    rw[Bool.eq_false_iff];intro he;have e1:=there_at HRI.out hj he;rw[HP.out] at e1;subst e1;have:=HFD.out.2 ⟨hj,(cmpS_zero _ _).2 he⟩
    cases this
   have HPN:=Lib.hid (put_new HRI.out hno hnew);have f1:=bkC (v:=.string ch.key) K2.out 1 rfl;have HLN:Hid ((insAt l ⟨ch.key,ch.new_⟩ k).length=l.length+1):=insAt_length l _ hk;have bx:Below w2.heap.size w2 (w2.alloc (.cells #[.string ch.key,.string ch.new_] 69)):=below_alloc _ _;have kx:=bkN w2 #[.string ch.key,.string ch.new_] 69;have zx:(w2.alloc (.cells #[.string ch.key,.string ch.new_] 69)).heap.size=w2.heap.size+1:=by simp
   have owx:(w2.alloc (.cells #[.string ch.key,.string ch.new_] 69)).ownsRow W0.heap.size 69 2 (.slice a1 l.length c1) l.length (l.flatMap DRecord.vs):=ownsRow_frame OW2.out (fun g hg=>bx.block g (ownsRow_block OW2.out hg).2);have HIN:=Lib.hid (insertRecord_any l ⟨ch.key,ch.new_⟩ k hk a1 c1 W0.heap.size w2.heap.size _ owx (by omega) kx (fun e=>by have:=(ownsRow_block OW2.out e).2;omega) (by omega));have BX:=Lib.hid (B2.out.trans (bx.mono (by omega)));have OBB:Hid (∀ b,(Value.slice a1 l.length c1).ownBlock=some b→W0.heap.size≤b):=fun b hb=>(ownsRow_block OW2.out hb).1
   rw[HP.out] at HPN;clear hno hnew HDEL HFD OW2 bx kx owx;go_wp2_with fail;refine HIN.out.mono ?_;rintro e w3 ⟨a6,c6,rfl,ins⟩;have H1:=Lib.hid ins;clear ins f1 f3 HIN;go_wp2;go_ret;rw[HPN.out];unfold MadeQ;rw[HLN.out];obtain⟨fq,oq,iq,mq⟩:=rowOwnB (lo:=w.heap.size) H1.out.own (by omega) (by omega);have hz3:=H1.out.grown.size;refine⟨a6,c6,fq,rfl,BX.out.trans ⟨H1.out.grown.os,H1.out.grown.tape,H1.out.grown.output,by omega,fun b hb=>H1.out.grown.block b (by omega) (fun e=>by have:=OBB.out b e.symm;omega)⟩,by rw[DRecord.sT_vs];exact oq,iq⟩
end Go.Proofs.YtmkkiglcpedkiaaGreatDoor
