/- Contract: the reference puts a value into records. Conditions: rising keys, bounded lengths. -/
import Derived.Test.YtmkkiglcpedkiaaGreatDoorRegW
import Derived.Deep.DeepCutAuto
set_option linter.unusedVariables false
set_option linter.unusedSimpArgs false
namespace Go.Proofs.YtmkkiglcpedkiaaGreatDoor
set_option maxHeartbeats 4000000
set_option maxRecDepth 100000
open Go.RowKit
section
variable (l:List DRecord) (k v:ByteArray)
def pq:Nat:=posOf DRecord.key l k
def inN (n:Nat):Bool:=eqS v emptyS || decide (pq l k<n)
def newN (n:Nat):List DRecord:=if (!(eqS v emptyS)&&decide (pq l k<n))=true then [⟨k,v⟩] else []
def outN (n:Nat):List DRecord:=(l.take n).filter (fun x=>ltS x.key k)++(newN l k v n++(l.take n).filter (fun x=>ltS k x.key))
end
section
variable {l:List DRecord} {k v:ByteArray} {n:Nat}
theorem filt_succ (p:DRecord→Bool) (h:n<l.length):(l.take (n+1)).filter p=(l.take n).filter p++(if p l[n]=true then [l[n]] else []):=by
 rw[List.take_succ_eq_append_getElem h,List.filter_append]
 congr 1
 by_cases e:p l[n]=true
 ·rw[if_pos e];simp[e]
 ·rw[if_neg e];simp[e]
theorem gt_nil (hr:Rise l) (h:n≤pq l k):(l.take n).filter (fun x=>ltS k x.key) = []:=by
 rw[List.filter_eq_nil_iff];intro x hx;obtain⟨j,hj,rfl⟩:=List.mem_take_iff_getElem.1 hx;rw[ltS_asymm ((pos_spec hr k).1 j (by omega) (by unfold pq at h;omega))];simp
theorem newN_nil (h:n≤pq l k):newN l k v n = []:=by unfold newN;rw[decide_eq_false (by omega)];simp
theorem out_less (hr:Rise l) (hn:n<l.length) (h:ltS l[n].key k=true):outN l k v (n+1)=outN l k v n++[l[n]]∧inN l k v (n+1)=inN l k v n:=by
 have hq:n<pq l k:=by
  rcases Nat.lt_or_ge n (pq l k) with e|e
  ·exact e
  ·have:=(pos_spec hr k).2 n hn e;rw[h] at this;cases this
 unfold outN inN;rw[gt_nil hr (show n≤pq l k by omega),gt_nil hr (show n+1≤pq l k by omega),newN_nil (by omega),newN_nil (by omega),filt_succ _ hn,if_pos h,decide_eq_false (by omega),decide_eq_false (by omega)];simp
theorem pq_le_of (hr:Rise l) (hn:n<l.length) (h:ltS l[n].key k=false):pq l k≤n:=by
 rcases Nat.lt_or_ge n (pq l k) with e|e
 ·have:=(pos_spec hr k).1 n hn e;rw[h] at this;cases this
 ·exact e
theorem lt_same (hn:n<l.length) (h:ltS l[n].key k=false):(l.take (n+1)).filter (fun x=>ltS x.key k)=(l.take n).filter (fun x=>ltS x.key k):=by
 rw[filt_succ _ hn,if_neg (by rw[h];simp),List.append_nil]
theorem gt_eq (hn:n<l.length) (h:ltS l[n].key k=false):(l.take (n+1)).filter (fun x=>ltS k x.key)=(l.take n).filter (fun x=>ltS k x.key)++(if eqS l[n].key k=true then [] else [l[n]]):=by
 rw[filt_succ _ hn]
 congr 1
 by_cases e:eqS l[n].key k=true
 ·rw[if_pos e,eqS_iff.1 e,ltS_irrefl];rfl
 ·rw[if_neg e]
  have:ltS k l[n].key=true:=ltS_of_not h (by rw[eqS_false];intro e2;exact e (by rw[← e2];exact eqS_refl _));rw[if_pos this]
theorem out_in (hr:Rise l) (hn:n<l.length) (h:ltS l[n].key k=false) (hd:inN l k v n=true):outN l k v (n+1)=outN l k v n++(if eqS l[n].key k=true then [] else [l[n]])∧inN l k v (n+1)=true:=by
 have hq:=pq_le_of hr hn h;have hN:newN l k v (n+1)=newN l k v n:=by
  unfold inN at hd;unfold newN;rw[decide_eq_true (show pq l k<n+1 by omega)]
  cases he:eqS v emptyS with
  | true=>simp
  | false=>rw[he,Bool.false_or] at hd;rw[hd]
 constructor
 ·unfold outN
  rw[lt_same hn h,gt_eq hn h,hN];simp only[List.append_assoc]
 ·unfold inN
  rw[decide_eq_true (show pq l k<n+1 by omega)];simp
theorem out_put (hr:Rise l) (hn:n<l.length) (h:ltS l[n].key k=false) (hd:inN l k v n=false):outN l k v (n+1)=(outN l k v n++[⟨k,v⟩])++(if eqS l[n].key k=true then [] else [l[n]])∧inN l k v (n+1)=true:=by
 have hq:=pq_le_of hr hn h;unfold inN at hd;rw[Bool.or_eq_false_iff,decide_eq_false_iff_not] at hd;obtain⟨he,hd⟩:=hd;have hN:newN l k v (n+1) = [⟨k,v⟩]:=by
  unfold newN;rw[decide_eq_true (show pq l k<n+1 by omega),he]
  rfl
 constructor
 ·unfold outN
  rw[lt_same hn h,gt_eq hn h,hN,newN_nil (by omega),gt_nil hr (show n≤pq l k by omega)];simp
 ·unfold inN
  rw[decide_eq_true (show pq l k<n+1 by omega)];simp
theorem out_end_in (h:inN l k v l.length=true):outN l k v l.length=putL l k v:=by
 unfold outN putL;rw[List.take_length]
 congr 2
 unfold inN at h;unfold newN
 cases he:eqS v emptyS with
 | true=>simp
 | false=>rw[he,Bool.false_or] at h;rw[h];rfl
theorem out_end_new (hr:Rise l) (h:inN l k v l.length=false):outN l k v l.length++[⟨k,v⟩]=putL l k v:=by
 unfold inN at h;rw[Bool.or_eq_false_iff,decide_eq_false_iff_not] at h;obtain⟨he,hd⟩:=h;have hg:=gt_nil hr (show l.length≤pq l k by omega);rw[List.take_length] at hg;unfold outN putL;rw[List.take_length,hg,newN_nil (by omega),he];simp
theorem out_zero:outN l k v 0 = []:=by unfold outN;rw[newN_nil (by omega)];simp
theorem in_zero:inN l k v 0=eqS v emptyS:=by unfold inN;rw[decide_eq_false (by omega),Bool.or_false]
theorem out_len (l:List DRecord) (k v:ByteArray) (n:Nat):(outN l k v n).length≤2*l.length+1:=by
 unfold outN;have h1:=List.length_filter_le (fun x:DRecord=>ltS x.key k) (l.take n);have h2:=List.length_filter_le (fun x:DRecord=>ltS k x.key) (l.take n);have h3:(newN l k v n).length≤1:=by unfold newN;split<;>simp
 rw[List.length_take] at h1 h2;simp only[List.length_append];omega
end
theorem l28Put_any (l:List DRecord) (key val:ByteArray) (v:Value) (w:World) (h:Rd w.heap.size w (DRecord.sT l) v) (hn:l.length≤1000) (hr:Rise l) :
  Calls Tryz.prog 79 #[v,.string key,.string val] w fun e w'=>∃ a c fp,e=.returned (.slice a (putL l key val).length c)∧Below w.heap.size w w'∧Own w' (DRecord.sT (putL l key val)) (.slice a (putL l key val).length c) fp∧In w.heap.size w'.heap.size fp:=by
 obtain⟨a,c,rfl,hnc,hcm,hcells⟩:=DRecord.rd h;have HC:=Lib.hid hcells;have HRI:=Lib.hid hr;clear h hcells hr;have hnb:(l.length:Int)≤1000:=by omega
 obtain⟨i0,hi0,hz0,hz1,hz2⟩:=info_parts infoRecord;have go:∀ d0:Bool,eqS val emptyS=d0→Calls Tryz.prog 79 #[.slice a l.length c,.string key,.string val] w fun e w'=>∃ a c fp,e=.returned (.slice a (putL l key val).length c)∧Below w.heap.size w w'∧Own w' (DRecord.sT (putL l key val)) (.slice a (putL l key val).length c) fp∧In w.heap.size w'.heap.size fp:=by
  intro d0 hd0;have HD0:=Lib.hid hd0
  cases d0
  case false =>
   obtain⟨n1,n2,n3⟩:=eqS_empty_list hd0;clear hd0;have HOL:=Lib.hid (out_len l key val);go_enter Tryz.func79,Tryz.ntmps79;go_wp2;go_loopw [7,8,9] (fun ov dv i wr=>∃ (k:Nat),k≤l.length∧i=.int .i64 k∧dv=.bool (inN l key val k)∧Below w.heap.size w wr∧Grow wr w.heap.size 69 2 ov (outN l key val k).length ((outN l key val k).flatMap DRecord.tr) []) (fun _ _ i wr=>l.length-(intOf i).toNat)
   case atStart=>exact⟨0,Nat.zero_le _,rfl,by rw[in_zero,HD0.out],(Below.refl _ _).alloc (Nat.le_refl _) _,by rw[out_zero];exact⟨⟨[],own_emptyK w _ _,rfl⟩,List.nodup_nil,fun b h=>by simp at h,fun g _=>by simp⟩⟩
   case round =>
    obtain⟨k,hk,rfl,rfl,hb,hgr⟩:=hrel;have HB:=Lib.hid hb;have HG:=Lib.hid hgr;have zr:=hb.size;clear hb hgr;have holk:=HOL.out k;have holk1:=HOL.out (k+1)
    by_cases hlt:k<l.length
    ·obtain⟨b,off,rfl,hbl,hat⟩:=HC.out (by omega)
     obtain⟨s0,s1⟩:=hat k hlt;rw[← HB.out.cell (p:=⟨b,_,none⟩) hbl] at s0 s1;have yb:b<wr.heap.size:=by omega
     clear hat HC;have j1:(k:Int)<(l.length:Int):=by omega
     have HLESS:=Lib.hid (fun h=>out_less (v:=val) (k:=key) HRI.out hlt h);have HIN:=Lib.hid (fun h hd=>out_in (v:=val) (k:=key) HRI.out hlt h hd);have HPUT:=Lib.hid (fun h hd=>out_put (v:=val) (k:=key) HRI.out hlt h hd);generalize hON:outN l key val k=ON at *;generalize hIN:inN l key val k=IN at *;generalize l[k]=A at *;clear hON hIN
     by_cases hl:ltS A.key key=true
     ·have HX:=Lib.hid (HLESS.out hl)
      have le4:Op.bytesLess A.key.toList key.toList=true:=hl;have he2:(A.key.toList == key.toList)=false:=by
       show eqS A.key key=false
       rw[eqS_false];intro e;rw[e,ltS_irrefl] at hl;cases hl
      have he3:(A.key.toList != key.toList)=true:=by rw[bne,he2];rfl
      clear hl HLESS HIN HPUT
      cases IN
      case false =>
       go_wp2_with (at_builtin;refine wpList_append1 rfl (.tmp 43) (.tmp 48) _ rfl (w.heap.size) 69 i0 _ 2 32 Tryz.underlying24 hi0 hz0 hz1 hz2 rfl (by omega) _ _ _ [] rfl HG.out [.string A.key,.string A.value] [strT A.key,strT A.value] [] rfl 1 rfl (fun u hu=>by simp at hu;rcases hu with rfl|rfl<;>rfl) (RepV.lits [.string A.key,.string A.value]) List.nodup_nil (fun b h=>by simp at h) 0 In.nil In.nil (by simp) (by simp) (by unfold maxLen;omega) (by omega) (by omega) ?_;intro v2 w2 hgn);have HGN:=Lib.hid hgn;clear hgn;go_wp2;go_roundw
       case rel=>exact⟨k+1,by omega,by go_num,by rw[HX.out.2],HB.out.trans HGN.out.below,by rw[HX.out.1];rw[List.length_append,List.flatMap_append];exact HGN.out.grow⟩
       case measure=>simp[intOf];omega
      case true =>
       go_wp2_with (at_builtin;refine wpList_append1 rfl (.tmp 43) (.tmp 48) _ rfl (w.heap.size) 69 i0 _ 2 32 Tryz.underlying24 hi0 hz0 hz1 hz2 rfl (by omega) _ _ _ [] rfl HG.out [.string A.key,.string A.value] [strT A.key,strT A.value] [] rfl 1 rfl (fun u hu=>by simp at hu;rcases hu with rfl|rfl<;>rfl) (RepV.lits [.string A.key,.string A.value]) List.nodup_nil (fun b h=>by simp at h) 0 In.nil In.nil (by simp) (by simp) (by unfold maxLen;omega) (by omega) (by omega) ?_;intro v2 w2 hgn);have HGN:=Lib.hid hgn;clear hgn;go_wp2;go_roundw
       case rel=>exact⟨k+1,by omega,by go_num,by rw[HX.out.2],HB.out.trans HGN.out.below,by rw[HX.out.1];rw[List.length_append,List.flatMap_append];exact HGN.out.grow⟩
       case measure=>simp[intOf];omega
     ·replace hl:ltS A.key key=false:=Bool.eq_false_iff.2 hl
      have le4:Op.bytesLess A.key.toList key.toList=false:=hl
      cases IN
      case true =>
       have HX:=Lib.hid (HIN.out hl rfl);clear HLESS HIN HPUT hl
       by_cases he:eqS A.key key=true
       ·have he2:(A.key.toList == key.toList)=true:=he
        have he3:(A.key.toList != key.toList)=false:=by rw[bne,he2];rfl
        rw[if_pos he,List.append_nil] at HX;clear he;go_wp2;go_roundw
        case rel=>exact⟨k+1,by omega,by go_num,by rw[HX.out.2],HB.out,by rw[HX.out.1];exact HG.out⟩
        case measure=>simp[intOf];omega
       ·replace he:eqS A.key key=false:=Bool.eq_false_iff.2 he
        have he2:(A.key.toList == key.toList)=false:=he;have he3:(A.key.toList != key.toList)=true:=by rw[bne,he2];rfl
        rw[if_neg (by rw[he];simp)] at HX;clear he;go_wp2_with (at_builtin;refine wpList_append1 rfl (.tmp 43) (.tmp 48) _ rfl (w.heap.size) 69 i0 _ 2 32 Tryz.underlying24 hi0 hz0 hz1 hz2 rfl (by omega) _ _ _ [] rfl HG.out [.string A.key,.string A.value] [strT A.key,strT A.value] [] rfl 1 rfl (fun u hu=>by simp at hu;rcases hu with rfl|rfl<;>rfl) (RepV.lits [.string A.key,.string A.value]) List.nodup_nil (fun b h=>by simp at h) 0 In.nil In.nil (by simp) (by simp) (by unfold maxLen;omega) (by omega) (by omega) ?_;intro v2 w2 hgn);have HGN:=Lib.hid hgn;clear hgn;go_wp2;go_roundw
        case rel=>exact⟨k+1,by omega,by go_num,by rw[HX.out.2],HB.out.trans HGN.out.below,by rw[HX.out.1];rw[List.length_append,List.flatMap_append];exact HGN.out.grow⟩
        case measure=>simp[intOf];omega
      case false =>
       have HX:=Lib.hid (HPUT.out hl rfl);clear HLESS HIN HPUT hl
       by_cases he:eqS A.key key=true
       ·have he2:(A.key.toList == key.toList)=true:=he
        have he3:(A.key.toList != key.toList)=false:=by rw[bne,he2];rfl
        rw[if_pos he,List.append_nil] at HX;clear he;go_upto_region 8 with (at_builtin;refine wpList_append1 rfl (.tmp 30) (.tmp 34) _ rfl (w.heap.size) 69 i0 _ 2 32 Tryz.underlying24 hi0 hz0 hz1 hz2 rfl (by omega) _ _ _ [] rfl HG.out [.string key,.string val] [strT key,strT val] [] rfl 1 rfl (fun u hu=>by simp at hu;rcases hu with rfl|rfl<;>rfl) (RepV.lits [.string key,.string val]) List.nodup_nil (fun b h=>by simp at h) 0 In.nil In.nil (by simp) (by simp) (by unfold maxLen;omega) (by omega) (by omega) ?_;intro v2 w2 hgn);have HGN:=Lib.hid hgn;have zn:=hgn.size;have hkp:w2.heap[b]? = wr.heap[b]?:=hgn.keep b yb (fun e=>by have:=(HG.out.block e).1;omega);rw[← World.cell?_of_block (w:=wr) (w':=w2) (a:=⟨b,off+k*2,none⟩) hkp] at s0;rw[← World.cell?_of_block (w:=wr) (w':=w2) (a:=⟨b,off+k*2+1,none⟩) hkp] at s1;clear hgn hkp;go_wp2;go_roundw
        case rel=>exact⟨k+1,by omega,by go_num,by rw[HX.out.2],HB.out.trans HGN.out.below,by rw[HX.out.1];rw[List.length_append,List.flatMap_append];exact HGN.out.grow⟩
        case measure=>simp[intOf];omega
       ·replace he:eqS A.key key=false:=Bool.eq_false_iff.2 he
        have he2:(A.key.toList == key.toList)=false:=he;have he3:(A.key.toList != key.toList)=true:=by rw[bne,he2];rfl
        rw[if_neg (by rw[he];simp)] at HX;clear he;go_upto_region 8 with (at_builtin;refine wpList_append1 rfl (.tmp 30) (.tmp 34) _ rfl (w.heap.size) 69 i0 _ 2 32 Tryz.underlying24 hi0 hz0 hz1 hz2 rfl (by omega) _ _ _ [] rfl HG.out [.string key,.string val] [strT key,strT val] [] rfl 1 rfl (fun u hu=>by simp at hu;rcases hu with rfl|rfl<;>rfl) (RepV.lits [.string key,.string val]) List.nodup_nil (fun b h=>by simp at h) 0 In.nil In.nil (by simp) (by simp) (by unfold maxLen;omega) (by omega) (by omega) ?_;intro v2 w2 hgn);have HGN:=Lib.hid hgn;have zn:=hgn.size;have hkp:w2.heap[b]? = wr.heap[b]?:=hgn.keep b yb (fun e=>by have:=(HG.out.block e).1;omega);rw[← World.cell?_of_block (w:=wr) (w':=w2) (a:=⟨b,off+k*2,none⟩) hkp] at s0;rw[← World.cell?_of_block (w:=wr) (w':=w2) (a:=⟨b,off+k*2+1,none⟩) hkp] at s1;have HG2:=Lib.hid hgn.grow;clear hgn hkp;go_wp2_with (at_builtin;refine wpList_append1 rfl (.tmp 43) (.tmp 48) _ rfl (w.heap.size) 69 i0 _ 2 32 Tryz.underlying24 hi0 hz0 hz1 hz2 rfl (by omega) _ _ _ [] rfl HG2.out [.string A.key,.string A.value] [strT A.key,strT A.value] [] rfl 1 rfl (fun u hu=>by simp at hu;rcases hu with rfl|rfl<;>rfl) (RepV.lits [.string A.key,.string A.value]) List.nodup_nil (fun b h=>by simp at h) 0 In.nil In.nil (by simp) (by simp) (by unfold maxLen;omega) (by omega) (by omega) ?_;intro v3 w3 hgn);have HGM:=Lib.hid hgn;clear hgn;go_wp2;go_roundw
        case rel=>exact⟨k+1,by omega,by go_num,by rw[HX.out.2],HB.out.trans (HGN.out.below.trans HGM.out.below),by rw[HX.out.1];rw[List.length_append,List.flatMap_append,List.length_append,List.flatMap_append];exact HGM.out.grow⟩
        case measure=>simp[intOf];omega
    ·obtain rfl:k=l.length:=by omega
     clear HC
     cases hin:inN l key val l.length
     case true =>
      have HE:=Lib.hid (out_end_in hin);clear hin;rw[HE.out] at HG;obtain⟨av,cv,fv,ev,ov,iv⟩:=HG.out.toOwn (lo:=w.heap.size) (by omega) In.nil (by omega);subst ev;have OV:=Lib.hid ov;have IV:=Lib.hid iv;clear ov iv;go_wp2;go_ret;exact⟨av,cv,fv,rfl,HB.out,OV.out,IV.out⟩
     case false =>
      have HE:=Lib.hid (out_end_new HRI.out hin);clear hin;go_wp2_with (at_builtin;refine wpList_append1 rfl (.tmp 52) (.tmp 56) _ rfl (w.heap.size) 69 i0 _ 2 32 Tryz.underlying24 hi0 hz0 hz1 hz2 rfl (by omega) _ _ _ [] rfl HG.out [.string key,.string val] [strT key,strT val] [] rfl 1 rfl (fun u hu=>by simp at hu;rcases hu with rfl|rfl<;>rfl) (RepV.lits [.string key,.string val]) List.nodup_nil (fun b h=>by simp at h) 0 In.nil In.nil (by simp) (by simp) (by unfold maxLen;omega) (by omega) (by omega) ?_;intro v2 w2 hgn);have hg2:=hgn.grow;have BN:=Lib.hid hgn.below;have hg3:Grow w2 w.heap.size 69 2 v2 (putL l key val).length ((putL l key val).flatMap DRecord.tr) []:=by
       rw[← HE.out,List.length_append,List.flatMap_append];exact hg2
      obtain⟨av,cv,fv,ev,ov,iv⟩:=hg3.toOwn (lo:=w.heap.size) (by omega) In.nil (by omega);subst ev;have OV:=Lib.hid ov;have IV:=Lib.hid iv;clear ov iv hgn hg2 hg3;go_wp2;go_ret;exact⟨av,cv,fv,rfl,HB.out.trans BN.out,OV.out,IV.out⟩
  case true =>
   obtain rfl:=emptyS_of hd0;clear hd0;have HOL:=Lib.hid (out_len l key ⟨#[]⟩);go_enter Tryz.func79,Tryz.ntmps79;go_wp2;go_loopw [7,8,9] (fun ov dv i wr=>∃ (k:Nat),k≤l.length∧i=.int .i64 k∧dv=.bool (inN l key ⟨#[]⟩ k)∧Below w.heap.size w wr∧Grow wr w.heap.size 69 2 ov (outN l key ⟨#[]⟩ k).length ((outN l key ⟨#[]⟩ k).flatMap DRecord.tr) []) (fun _ _ i wr=>l.length-(intOf i).toNat)
   case atStart=>exact⟨0,Nat.zero_le _,rfl,by rw[in_zero,HD0.out],(Below.refl _ _).alloc (Nat.le_refl _) _,by rw[out_zero];exact⟨⟨[],own_emptyK w _ _,rfl⟩,List.nodup_nil,fun b h=>by simp at h,fun g _=>by simp⟩⟩
   case round =>
    obtain⟨k,hk,rfl,rfl,hb,hgr⟩:=hrel;have HB:=Lib.hid hb;have HG:=Lib.hid hgr;have zr:=hb.size;clear hb hgr;have holk:=HOL.out k;have holk1:=HOL.out (k+1)
    by_cases hlt:k<l.length
    ·obtain⟨b,off,rfl,hbl,hat⟩:=HC.out (by omega)
     obtain⟨s0,s1⟩:=hat k hlt;rw[← HB.out.cell (p:=⟨b,_,none⟩) hbl] at s0 s1;have yb:b<wr.heap.size:=by omega
     clear hat HC;have j1:(k:Int)<(l.length:Int):=by omega
     have HLESS:=Lib.hid (fun h=>out_less (v:=⟨#[]⟩) (k:=key) HRI.out hlt h);have HIN:=Lib.hid (fun h hd=>out_in (v:=⟨#[]⟩) (k:=key) HRI.out hlt h hd);have HPUT:=Lib.hid (fun h hd=>out_put (v:=⟨#[]⟩) (k:=key) HRI.out hlt h hd);generalize hON:outN l key ⟨#[]⟩ k=ON at *;generalize hIN:inN l key ⟨#[]⟩ k=IN at *;generalize l[k]=A at *;clear hON hIN
     by_cases hl:ltS A.key key=true
     ·have HX:=Lib.hid (HLESS.out hl)
      have le4:Op.bytesLess A.key.toList key.toList=true:=hl;have he2:(A.key.toList == key.toList)=false:=by
       show eqS A.key key=false
       rw[eqS_false];intro e;rw[e,ltS_irrefl] at hl;cases hl
      have he3:(A.key.toList != key.toList)=true:=by rw[bne,he2];rfl
      clear hl HLESS HIN HPUT
      cases IN
      case false =>
       go_wp2_with (at_builtin;refine wpList_append1 rfl (.tmp 43) (.tmp 48) _ rfl (w.heap.size) 69 i0 _ 2 32 Tryz.underlying24 hi0 hz0 hz1 hz2 rfl (by omega) _ _ _ [] rfl HG.out [.string A.key,.string A.value] [strT A.key,strT A.value] [] rfl 1 rfl (fun u hu=>by simp at hu;rcases hu with rfl|rfl<;>rfl) (RepV.lits [.string A.key,.string A.value]) List.nodup_nil (fun b h=>by simp at h) 0 In.nil In.nil (by simp) (by simp) (by unfold maxLen;omega) (by omega) (by omega) ?_;intro v2 w2 hgn);have HGN:=Lib.hid hgn;clear hgn;go_wp2;go_roundw
       case rel=>exact⟨k+1,by omega,by go_num,by rw[HX.out.2],HB.out.trans HGN.out.below,by rw[HX.out.1];rw[List.length_append,List.flatMap_append];exact HGN.out.grow⟩
       case measure=>simp[intOf];omega
      case true =>
       go_wp2_with (at_builtin;refine wpList_append1 rfl (.tmp 43) (.tmp 48) _ rfl (w.heap.size) 69 i0 _ 2 32 Tryz.underlying24 hi0 hz0 hz1 hz2 rfl (by omega) _ _ _ [] rfl HG.out [.string A.key,.string A.value] [strT A.key,strT A.value] [] rfl 1 rfl (fun u hu=>by simp at hu;rcases hu with rfl|rfl<;>rfl) (RepV.lits [.string A.key,.string A.value]) List.nodup_nil (fun b h=>by simp at h) 0 In.nil In.nil (by simp) (by simp) (by unfold maxLen;omega) (by omega) (by omega) ?_;intro v2 w2 hgn);have HGN:=Lib.hid hgn;clear hgn;go_wp2;go_roundw
       case rel=>exact⟨k+1,by omega,by go_num,by rw[HX.out.2],HB.out.trans HGN.out.below,by rw[HX.out.1];rw[List.length_append,List.flatMap_append];exact HGN.out.grow⟩
       case measure=>simp[intOf];omega
     ·replace hl:ltS A.key key=false:=Bool.eq_false_iff.2 hl
      have le4:Op.bytesLess A.key.toList key.toList=false:=hl
      cases IN
      case true =>
       have HX:=Lib.hid (HIN.out hl rfl);clear HLESS HIN HPUT hl
       by_cases he:eqS A.key key=true
       ·have he2:(A.key.toList == key.toList)=true:=he
        have he3:(A.key.toList != key.toList)=false:=by rw[bne,he2];rfl
        rw[if_pos he,List.append_nil] at HX;clear he;go_wp2;go_roundw
        case rel=>exact⟨k+1,by omega,by go_num,by rw[HX.out.2],HB.out,by rw[HX.out.1];exact HG.out⟩
        case measure=>simp[intOf];omega
       ·replace he:eqS A.key key=false:=Bool.eq_false_iff.2 he
        have he2:(A.key.toList == key.toList)=false:=he;have he3:(A.key.toList != key.toList)=true:=by rw[bne,he2];rfl
        rw[if_neg (by rw[he];simp)] at HX;clear he;go_wp2_with (at_builtin;refine wpList_append1 rfl (.tmp 43) (.tmp 48) _ rfl (w.heap.size) 69 i0 _ 2 32 Tryz.underlying24 hi0 hz0 hz1 hz2 rfl (by omega) _ _ _ [] rfl HG.out [.string A.key,.string A.value] [strT A.key,strT A.value] [] rfl 1 rfl (fun u hu=>by simp at hu;rcases hu with rfl|rfl<;>rfl) (RepV.lits [.string A.key,.string A.value]) List.nodup_nil (fun b h=>by simp at h) 0 In.nil In.nil (by simp) (by simp) (by unfold maxLen;omega) (by omega) (by omega) ?_;intro v2 w2 hgn);have HGN:=Lib.hid hgn;clear hgn;go_wp2;go_roundw
        case rel=>exact⟨k+1,by omega,by go_num,by rw[HX.out.2],HB.out.trans HGN.out.below,by rw[HX.out.1];rw[List.length_append,List.flatMap_append];exact HGN.out.grow⟩
        case measure=>simp[intOf];omega
      case false =>
       have HX:=Lib.hid (HPUT.out hl rfl);clear HLESS HIN HPUT hl
       by_cases he:eqS A.key key=true
       ·have he2:(A.key.toList == key.toList)=true:=he
        have he3:(A.key.toList != key.toList)=false:=by rw[bne,he2];rfl
        rw[if_pos he,List.append_nil] at HX;clear he;go_upto_region 8 with (at_builtin;refine wpList_append1 rfl (.tmp 30) (.tmp 34) _ rfl (w.heap.size) 69 i0 _ 2 32 Tryz.underlying24 hi0 hz0 hz1 hz2 rfl (by omega) _ _ _ [] rfl HG.out [.string key,.string ⟨#[]⟩] [strT key,strT ⟨#[]⟩] [] rfl 1 rfl (fun u hu=>by simp at hu;rcases hu with rfl|rfl<;>rfl) (RepV.lits [.string key,.string ⟨#[]⟩]) List.nodup_nil (fun b h=>by simp at h) 0 In.nil In.nil (by simp) (by simp) (by unfold maxLen;omega) (by omega) (by omega) ?_;intro v2 w2 hgn);have HGN:=Lib.hid hgn;have zn:=hgn.size;have hkp:w2.heap[b]? = wr.heap[b]?:=hgn.keep b yb (fun e=>by have:=(HG.out.block e).1;omega);rw[← World.cell?_of_block (w:=wr) (w':=w2) (a:=⟨b,off+k*2,none⟩) hkp] at s0;rw[← World.cell?_of_block (w:=wr) (w':=w2) (a:=⟨b,off+k*2+1,none⟩) hkp] at s1;clear hgn hkp;go_wp2;go_roundw
        case rel=>exact⟨k+1,by omega,by go_num,by rw[HX.out.2],HB.out.trans HGN.out.below,by rw[HX.out.1];rw[List.length_append,List.flatMap_append];exact HGN.out.grow⟩
        case measure=>simp[intOf];omega
       ·replace he:eqS A.key key=false:=Bool.eq_false_iff.2 he
        have he2:(A.key.toList == key.toList)=false:=he;have he3:(A.key.toList != key.toList)=true:=by rw[bne,he2];rfl
        rw[if_neg (by rw[he];simp)] at HX;clear he;go_upto_region 8 with (at_builtin;refine wpList_append1 rfl (.tmp 30) (.tmp 34) _ rfl (w.heap.size) 69 i0 _ 2 32 Tryz.underlying24 hi0 hz0 hz1 hz2 rfl (by omega) _ _ _ [] rfl HG.out [.string key,.string ⟨#[]⟩] [strT key,strT ⟨#[]⟩] [] rfl 1 rfl (fun u hu=>by simp at hu;rcases hu with rfl|rfl<;>rfl) (RepV.lits [.string key,.string ⟨#[]⟩]) List.nodup_nil (fun b h=>by simp at h) 0 In.nil In.nil (by simp) (by simp) (by unfold maxLen;omega) (by omega) (by omega) ?_;intro v2 w2 hgn);have HGN:=Lib.hid hgn;have zn:=hgn.size;have hkp:w2.heap[b]? = wr.heap[b]?:=hgn.keep b yb (fun e=>by have:=(HG.out.block e).1;omega);rw[← World.cell?_of_block (w:=wr) (w':=w2) (a:=⟨b,off+k*2,none⟩) hkp] at s0;rw[← World.cell?_of_block (w:=wr) (w':=w2) (a:=⟨b,off+k*2+1,none⟩) hkp] at s1;have HG2:=Lib.hid hgn.grow;clear hgn hkp;go_wp2_with (at_builtin;refine wpList_append1 rfl (.tmp 43) (.tmp 48) _ rfl (w.heap.size) 69 i0 _ 2 32 Tryz.underlying24 hi0 hz0 hz1 hz2 rfl (by omega) _ _ _ [] rfl HG2.out [.string A.key,.string A.value] [strT A.key,strT A.value] [] rfl 1 rfl (fun u hu=>by simp at hu;rcases hu with rfl|rfl<;>rfl) (RepV.lits [.string A.key,.string A.value]) List.nodup_nil (fun b h=>by simp at h) 0 In.nil In.nil (by simp) (by simp) (by unfold maxLen;omega) (by omega) (by omega) ?_;intro v3 w3 hgn);have HGM:=Lib.hid hgn;clear hgn;go_wp2;go_roundw
        case rel=>exact⟨k+1,by omega,by go_num,by rw[HX.out.2],HB.out.trans (HGN.out.below.trans HGM.out.below),by rw[HX.out.1];rw[List.length_append,List.flatMap_append,List.length_append,List.flatMap_append];exact HGM.out.grow⟩
        case measure=>simp[intOf];omega
    ·obtain rfl:k=l.length:=by omega
     clear HC
     cases hin:inN l key ⟨#[]⟩ l.length
     case true =>
      have HE:=Lib.hid (out_end_in hin);clear hin;rw[HE.out] at HG;obtain⟨av,cv,fv,ev,ov,iv⟩:=HG.out.toOwn (lo:=w.heap.size) (by omega) In.nil (by omega);subst ev;have OV:=Lib.hid ov;have IV:=Lib.hid iv;clear ov iv;go_wp2;go_ret;exact⟨av,cv,fv,rfl,HB.out,OV.out,IV.out⟩
     case false =>
      have HE:=Lib.hid (out_end_new HRI.out hin);clear hin;go_wp2_with (at_builtin;refine wpList_append1 rfl (.tmp 52) (.tmp 56) _ rfl (w.heap.size) 69 i0 _ 2 32 Tryz.underlying24 hi0 hz0 hz1 hz2 rfl (by omega) _ _ _ [] rfl HG.out [.string key,.string ⟨#[]⟩] [strT key,strT ⟨#[]⟩] [] rfl 1 rfl (fun u hu=>by simp at hu;rcases hu with rfl|rfl<;>rfl) (RepV.lits [.string key,.string ⟨#[]⟩]) List.nodup_nil (fun b h=>by simp at h) 0 In.nil In.nil (by simp) (by simp) (by unfold maxLen;omega) (by omega) (by omega) ?_;intro v2 w2 hgn);have hg2:=hgn.grow;have BN:=Lib.hid hgn.below;have hg3:Grow w2 w.heap.size 69 2 v2 (putL l key ⟨#[]⟩).length ((putL l key ⟨#[]⟩).flatMap DRecord.tr) []:=by
       rw[← HE.out,List.length_append,List.flatMap_append];exact hg2
      obtain⟨av,cv,fv,ev,ov,iv⟩:=hg3.toOwn (lo:=w.heap.size) (by omega) In.nil (by omega);subst ev;have OV:=Lib.hid ov;have IV:=Lib.hid iv;clear ov iv hgn hg2 hg3;go_wp2;go_ret;exact⟨av,cv,fv,rfl,HB.out.trans BN.out,OV.out,IV.out⟩
 exact go _ rfl
end Go.Proofs.YtmkkiglcpedkiaaGreatDoor
