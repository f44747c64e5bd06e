/- Contract of the laws' helper markText: the text of a mark. Condition: 0 < k at most 2^40. -/
import Derived.Test.YtgmapjgodibchaaGreatDoorProg
import Derived.Test.YtgmapjgodibchaaGreatDoorTypes
import Derived.WalkKit
import Derived.Lib.Hide
import Derived.BigQuiet
import Derived.StillTailTactics
set_option linter.unusedVariables false
set_option linter.unusedSimpArgs false
namespace Go.Proofs.YtgmapjgodibchaaGreatDoor
open Go.RowKit
theorem bcell {W w1:World} (hb:IJ W W w1):(∀ b o,b<W.heap.size→w1.cell? ⟨b,o,none⟩=W.cell? ⟨b,o,none⟩)∧(∀ b o,b<W.heap.size→w1.frozen? ⟨b,o,none⟩=W.frozen? ⟨b,o,none⟩) :=
 ⟨fun b o h=>hb.cell (p:=⟨b,o,none⟩) h,fun b o h=>hb.frozen (p:=⟨b,o,none⟩) h⟩
theorem zah {W w1:World} {b:Nat} (hb:IJ W W w1) (h:b<W.heap.size):(∀ o,w1.cell? ⟨b,o,none⟩=W.cell? ⟨b,o,none⟩)∧(∀ o,w1.frozen? ⟨b,o,none⟩=W.frozen? ⟨b,o,none⟩)∧b<w1.heap.size :=
 ⟨fun o=>hb.cell (p:=⟨b,o,none⟩) h,fun o=>hb.frozen (p:=⟨b,o,none⟩) h,by have:=hb.size;omega⟩
theorem zc0 {P:Program} (t e:TypeId) (i:TypeInfo) (z:Value) (ht:P.underlying t=some (.slice e)) (hi:P.info? e=some i) (hz:i.zero=some z)
  (kl kc:IntKind) (n c:Nat) (hnc:n≤c) (hbytes:i.bytes*c≤281474976710656) (h63:c≤9223372036854775807) (w:World) :
  (Instr.makeSlice t (.int kl (n:Int)) (.int kc (c:Int))).run P w=.ok (II (some ⟨w,0,none⟩) n c) (w.alloc (.cells (madeCells z.cells (c*i.size)) e)):=by
 have hb:(i.bytes:Int)*(c:Int)≤281474976710656:=by
  have h:((i.bytes*c:Nat):Int)≤281474976710656:=O
  rwa [Int.natCast_mul] at h
 have hr:=run_make (P:=P) w t e i z ht hi hz kl kc n c O O hb O;simp only[Int.toNat_natCast] at hr;exact hr
theorem zbc {B:Nat} {a w:World} (h:IJ B a w) (n:Nat):IJ B a (w.drewN n):=⟨h.os,h.tape,h.output,h.size,h.block⟩
theorem zb8 {k:IntKind} {a b:Int} (h:a=b):Ending.returned (.int k a)=.returned (.int k b):=by rw[h]
theorem infoI:(Tryz.prog.info? 2).map (fun i=>(i.zero,i.size,i.bytes))=some (some (I 0),1,8):=by kernel_rfl
theorem toInt64S_any (l:List Int) (v:Value) (w:World) (h:Rd w w (zai l) v) (hn:l.length≤1048576) :
  Calls Tryz.prog 46 #[v] w fun e w'=>∃ a' c' fp,e=.returned (II a' l.length c')∧IJ w w w'∧Own w' (zai l) (II a' l.length c') fp∧In w w'.heap.size fp:=by
 obtain⟨i0,hi0,hz0,hz1,hz2⟩:=info_parts infoI;have hmk:=fun W=>zc0 (P:=Tryz.prog) 22 2 i0 _ Tryz.underlying22 hi0 hz0 .i64 .i64 l.length l.length (Nat.le_refl _) (by rw[hz2];omega) O W
 rw[hz1] at hmk;have hnb:(l.length:Int)≤1048576:=O
 obtain⟨a,c,rfl,hnc,hcm,hcells⟩:=h.ints;clear h;go_enter Tryz.func46,Tryz.ntmps46;go_wp2;clear hmk hi0 hz0 hz1 hz2;go_loopw [4] (fun i wr=>∃ (k:Nat),k≤l.length∧i=I k∧IJ w w wr∧Fill wr w.heap.size 2 (l.length*1) ((l.take k).map intT) []) (fun i wr=>l.length-(intOf i).toNat)
 case atStart =>
  have hst:=Fill.start w (madeCells #[Value.int IntKind.i64 0] (l.length*1)) 2;rw[size_madeCells] at hst;refine⟨0,Nat.zero_le _,rfl,(Below.refl _ _).alloc (Nat.le_refl _) _,?_⟩
  simpa [Nat.mul_one] using hst
 case round =>
  obtain⟨k,hk,rfl,hb,hfill⟩:=hrel
  by_cases hlt:k<l.length
  ·obtain⟨b,off,rfl,hbl,hat⟩:=hcells O
   have s0:=hat k hlt;rw[← hb.cell (p:=⟨b,_,none⟩) hbl] at s0;have hz:=hfill.lt;have hz2:b<wr.heap.size:=O
   obtain⟨o0,p0⟩:=hfill.room k O;have hfz:=hfill.open_;have HB:=J hb;clear hcells hat hb;go_wp2;go_roundw
   case rel =>
    have hst:=hfill.step (us:=[intT l[k]]) (vs:=[I l[k]]) (g:=[]) (RepV.lits [I l[k]]) (by simp<;>omega) List.nodup_nil (by simp) (by simp) (fun b h=>by simp at h);rw[List.length_map,List.length_take,Nat.min_eq_left hk,List.append_nil] at hst;refine⟨k+1,O,by go_num,HB.out.setCell (Nat.le_refl _) _,?_⟩;rw[List.take_succ_eq_append_getElem hlt,List.map_append];exact hst
   case measure=>simp[intOf];omega
  ·obtain rfl:k=l.length:=O
   clear hcells;go_wp2;go_ret;rw[List.take_length] at hfill;obtain⟨fp,h1,h2⟩:=hfill.own (by simp) (by unfold maxLen;omega);exact⟨_,_,fp,rfl,hb,h1,fun x hx=>by rcases h2 x hx with rfl|h;exact⟨Nat.le_refl _,hfill.lt⟩;simp at h⟩
theorem eqInt64S_any (l:List Int) (v v':Value) (B:Nat) (w:World) (h:Rd B w (zai l) v) (h':Rd B w (zai l) v') (hB:B≤w.heap.size) (hn:l.length≤1099511627776) :
  Calls Tryz.prog 25 #[v,v'] w fun e w'=>e=.returned (.bool true)∧IJ w w w':=by
 have hnb:(l.length:Int)≤1099511627776:=O
 obtain⟨a,c,rfl,hnc,hcm,hcells⟩:=h.ints;obtain⟨a',c',rfl,hnc',hcm',hcells'⟩:=h'.ints;clear h h';have hne:((l.length:Int) != l.length)=false:=by simp
 go_enter Tryz.func25,Tryz.ntmps25;go_wp2;clear hne;go_loopw [5] (fun i wr=>∃ (k:Nat),k≤l.length∧i=I k∧IJ w w wr) (fun i wr=>l.length-(intOf i).toNat)
 case atStart=>exact⟨0,Nat.zero_le _,rfl,Below.refl _ _⟩
 case round =>
  obtain⟨k,hk,rfl,hb⟩:=hrel
  by_cases hlt:k<l.length
  ·obtain⟨b,off,rfl,hbl,hat⟩:=hcells O
   obtain⟨b',off',rfl,hbl',hat'⟩:=hcells' O;have s0:=hat k hlt;have s1:=hat' k hlt;rw[← hb.cell (p:=⟨b,_,none⟩) (show b<w.heap.size by omega)] at s0;rw[← hb.cell (p:=⟨b',_,none⟩) (show b' < w.heap.size by omega)] at s1;have i1:(0:Int)≤(k:Int):=O
   have i2:(k:Int)<(l.length:Int):=O
   clear hcells hat hcells' hat';have HB:=J hb;clear hb;go_wp2
   go_quiet (fail)
   go_wp2;go_roundw
   case rel=>exact⟨k+1,O,by go_num,zbc HB.out _⟩
   case measure=>simp[intOf];omega
  ·obtain rfl:k=l.length:=O
   clear hcells hcells';go_wp2;go_ret;exact⟨rfl,hb⟩
theorem cntL_ints (l:List Int):cntL (l.map intT)=l.length:=by
 induction l with
 | nil=>rfl
 | cons x l ih=>simp only[List.map_cons,cntL,ih,intT,cnt,List.length_cons];omega
theorem ze0 (l:List Int):cnt (zai l)=l.length:=by rw[zai,cnt,cntL_ints]
theorem intsT_flat (l:List Int):zai l=.sl 1 (l.flatMap fun x=>[intT x]):=by rw[zai,map_flat]
theorem szInt64S_any (l:List Int) (v:Value) (B:Nat) (left:Int) (w:World) (h:Rd B w (zai l) v) (hl:0≤left) (hl2:left≤1048576) :
  Calls Tryz.prog 35 #[v,I left] w fun e w'=>e=.returned (I (left_ l.length left))∧w=w':=by
 obtain⟨a,c,rfl,hnc,hcm,_⟩:=h.ints;clear h;unfold maxLen at hcm
 by_cases c1:(l.length:Int)≤left
 ·have e:left_ l.length left=left-l.length:=by unfold left_;rw[if_pos c1]
  rw[e];clear e;go_enter Tryz.func35,Tryz.ntmps35;go_wp2;go_ret;exact⟨rfl,rfl⟩
 ·have e:left_ l.length left = -1:=by unfold left_;rw[if_neg c1]
  rw[e];clear e;go_enter Tryz.func35,Tryz.ntmps35;go_wp2;go_ret;exact⟨rfl,rfl⟩
theorem markInt64S_any (l:List Int) (v:Value) (fp:List Nat) (k0:Nat) (w:World) (h:Own w (zai l) v fp) (hk0:k0+l.length≤1099511627776) :
  Calls Tryz.prog 28 #[v,I k0] w fun e w'=>e=.returned (I ((k0+l.length:Nat):Int))∧Own w' (mkT (zai l) k0) v fp∧Chg fp w w':=by
 obtain⟨a,c,hv,hnc,hcm⟩:=h.form1;rw[intsT_flat] at h ⊢;subst hv;have hnb:(k0:Int)+(l.length:Int)≤1099511627776:=O
 go_enter Tryz.func28,Tryz.ntmps28;go_wp2;go_loopw [1,5] (fun kk i wr=>∃ (j:Nat),j≤l.length∧i=I j∧kk=I ((k0:Int)+(j:Int))∧Own wr (mid (fun x=>[intT x]) 1 l k0 j) (II a l.length c) fp∧Chg fp w wr) (fun _ i wr=>l.length-(intOf i).toNat)
 case atStart=>exact⟨0,Nat.zero_le _,rfl,by simp,by rw[mid_zero];exact h,Chg.refl _ _⟩
 case round =>
  obtain⟨j,hj,rfl,rfl,hown,hchg⟩:=hrel
  by_cases hlt:j<l.length
  ·rw[mid_at _ _ _ _ _ hlt] at hown
   obtain⟨b,off,f,n',c',hv,hfp,hcell,hfz,hset⟩:=hown.litAt (v0:=I l[j]);rw[zb6,zaw _ 1 (fun _=>rfl),List.length_take,Nat.min_eq_left hj,Nat.mul_one] at hcell hset;injection hv with hv1 hv2 hv3;subst hv1;have HF:=J hfp;have hs2:=hset (I ((k0:Int)+(j:Int)));clear hfp hv2 hv3 hset hown;go_wp2;go_roundw
   case rel =>
    refine⟨j+1,O,by go_num,by go_num,?_,hchg.setCell (by rw[HF.out];simp) _⟩;rw[mid_succ _ _ _ _ _ hlt];have ec:cntL ((l.take j).flatMap fun x=>[intT x])=j:=by
     rw[← map_flat,cntL_ints,List.length_take,Nat.min_eq_left hj]
    rw[ec];have em:mkL [intT l[j]] (k0+j) = [.lit (I ((k0:Int)+(j:Int)))]:=by simp[mkL,mkT,intT,mlit]
    rw[em];exact hs2
   case measure=>simp[intOf];omega
  ·obtain rfl:j=l.length:=O
   go_wp2;go_ret;rw[mid_end] at hown;exact⟨zb8 O,hown,hchg⟩
theorem heldInt64S_any (l:List Int) (v:Value) (B:Nat) (k0:Nat) (w:World) (h:Rd B w (mkT (zai l) k0) v) (hB:B≤w.heap.size) (hk0:k0+l.length≤1099511627776) :
  Calls Tryz.prog 29 #[v,I k0] w fun e w'=>e=.returned (I ((k0+l.length:Nat):Int))∧IJ w w w':=by
 rw[intsT_flat] at h;obtain⟨a,c,rfl,hnc,hcm,hcells⟩:=h.mkAt (k:=1) (g:=fun x=>[intT x]) (by decide) (fun _=>rfl);clear h;have hnb:(k0:Int)+(l.length:Int)≤1099511627776:=O
 go_enter Tryz.func29,Tryz.ntmps29;go_wp2;go_loopw [1,5] (fun kk i wr=>∃ (j:Nat),j≤l.length∧i=I j∧kk=I ((k0:Int)+(j:Int))∧IJ w w wr) (fun _ i wr=>l.length-(intOf i).toNat)
 case atStart=>exact⟨0,Nat.zero_le _,rfl,by simp,Below.refl _ _⟩
 case round =>
  obtain⟨j,hj,rfl,rfl,hb⟩:=hrel
  by_cases hlt:j<l.length
  ·obtain⟨b,off,rfl,hbl,hat⟩:=hcells O
   obtain⟨u,s0,hu⟩:=hat j hlt 0 (.lit (I ((k0+j:Nat):Int))) (by
    have ec:cntL ((l.take j).flatMap fun x=>[intT x])=j:=by
     rw[← map_flat,cntL_ints,List.length_take,Nat.min_eq_left hj]
    rw[ec];simp[mkL,mkT,intT,mlit])
   obtain rfl:=Rd.lit.1 hu;rw[← hb.cell (p:=⟨b,_,none⟩) (show b<w.heap.size by omega),Nat.mul_one,Nat.add_zero,Int.natCast_add] at s0;have hne:((k0:Int)+(j:Int) != (k0:Int)+(j:Int))=false:=by simp
   have HB:=J hb;clear hcells hat hu hb;go_wp2;go_roundw
   case rel=>exact⟨j+1,O,by go_num,by go_num,HB.out⟩
   case measure=>simp[intOf];omega
  ·obtain rfl:j=l.length:=O
   clear hcells;go_wp2;go_ret;exact⟨zb8 O,hb⟩
theorem Rd.intss {B:Nat} {w:World} {l:List (List Int)} {v:Value} (h:Rd B w (intssT l) v) :
  ∃ a c,v=II a l.length c∧l.length≤c∧c≤maxLen∧(0<l.length→∃ b off,a=some ⟨b,off,none⟩∧b<B∧∀ (i:Nat) (hi:i<l.length),∃ u,w.cell? ⟨b,off+i,none⟩=some u∧Rd B w (zai l[i]) u):=Rd.slAt1 h
theorem infoII:(Tryz.prog.info? 22).map (fun i=>(i.zero,i.size,i.bytes))=some (some (II none 0 0),1,24):=by kernel_rfl
set_option maxHeartbeats 400000
theorem mdigits_len (k:Nat):(zd7 k).length≤k:=by
 induction k using Nat.strongRecOn with
 | ind k ih =>
  rcases Nat.eq_zero_or_pos k with h|h
  ·subst h;rw[mdigits_zero];simp
  ·rw[mdigits_pos k h]
   have:=ih (k / 10) O;simp<;>omega
theorem markText_any (k:Nat) (w:World) (hk:0<k) (hk2:k≤1099511627776) :
  Calls Tryz.prog 81 #[I (k:Int)] w fun e w'=>e=.returned (F (zc8 k))∧IJ w w w':=by
 have hne:decide ((k:Int)≤0)=false:=by simp<;>omega
 have hlen:=mdigits_len k;go_enter Tryz.func81,Tryz.ntmps81;go_wp2;clear hne;go_loopw [0,3] (fun kv out wr=>∃ (m:Nat) (ds:List UInt8),m≤k∧kv=I (m:Int)∧out=F ⟨ds.toArray⟩∧zd7 k=zd7 m++ds∧IJ w w wr) (fun kv _ _=>(intOf kv).toNat)
 case atStart=>exact⟨k,[],Nat.le_refl _,rfl,rfl,by simp,Below.refl _ _⟩
 case round =>
  obtain⟨m,ds,hm,rfl,rfl,hd,hb⟩:=hrel;have hds:ds.length≤k:=by have:=congrArg List.length hd;simp at this;omega
  have HD:=J hd;have HB:=J hb;clear hd hb
  by_cases hlt:0<m
  ·have hcv:=run_convert_bytes_back (P:=Tryz.prog) (wr.alloc (.cells #[.int .u8 (48+(m:Int) % 10)] 5)) 187 9 5 ⟨wr,0,none⟩ 1 [UInt8.ofNat (48+m % 10)] Tryz.underlying187 Tryz.underlying5 Tryz.underlying9 (fun j hj=>by
    simp at hj;subst hj;have e:((48+m % 10) % 256:Nat)=48+m % 10:=O
    simp[go_sem,e])
   simp only[List.length_singleton] at hcv;have e2:zd7 m=zd7 (m / 10)++[UInt8.ofNat (48+m % 10)]:=mdigits_pos m hlt;have E2:=J e2;clear e2;generalize hc:UInt8.ofNat (48+m % 10)=c at *;clear hc;go_wp2;go_roundw
   case rel =>
    refine⟨m / 10,c::ds,O,by go_num,?_,?_,HB.out.alloc HB.out.size _⟩
    ·show Value.string (⟨[c].toArray⟩++⟨ds.toArray⟩)=_
     rw[ByteArray.mk_append_mk];rfl
    ·rw[HD.out,E2.out];simp
   case measure=>simp[intOf];omega
  ·obtain rfl:m=0:=O
   go_wp2;go_ret;refine⟨?_,HB.out⟩;have e3:zc8 k=⟨(109::ds).toArray⟩:=by
    have h:=HD.out;rw[mdigits_zero,List.nil_append] at h;unfold zc8;rw[if_neg O,h]
   rw[e3];show Ending.returned (Value.string (⟨[109].toArray⟩++⟨ds.toArray⟩))=_
   rw[ByteArray.mk_append_mk];rfl
theorem zcc (k:Int) (w:World) (hk:0<k) (hk2:k≤1099511627776) :
  Calls Tryz.prog 81 #[I k] w fun e w'=>e=.returned (F (zc8 k.toNat))∧IJ w w w':=by
 obtain⟨n,rfl⟩:=Int.eq_ofNat_of_zero_le (show 0≤k by omega);rw[Int.toNat_natCast];exact markText_any n w O O
end Go.Proofs.YtgmapjgodibchaaGreatDoor
