/- Contracts of the laws' helpers over slices of integers: sizes, copies, comparisons, marks. Conditions: bounded lengths. -/
import Derived.Test.YtjfmkmcefnidcaaGreatProg
import Derived.Test.YtjfmkmcefnidcaaGreatMark
import Derived.WalkKit
import Derived.Outline
import Derived.RowKit3
import Derived.LoopTactic
import Derived.Lib.Hide
import Derived.Laws.MakeOwn
import Derived.Laws.Entries
import Derived.BigQuiet
import Derived.Deep.QuietTactic
import Derived.StillTailTactics
import Derived.KernelRfl
namespace Go.Proofs.YtjfmkmcefnidcaaGreat
open Go.RowKit
set_option linter.unusedVariables false
theorem bcell {W w1:World} (hb:Below W.heap.size W w1):(∀ b o,b<W.heap.size→w1.cell? ⟨b,o,none⟩=W.cell? ⟨b,o,none⟩)∧(∀ b o,b<W.heap.size→w1.frozen? ⟨b,o,none⟩=W.frozen? ⟨b,o,none⟩) :=
 ⟨fun b o h=>hb.cell (p:=⟨b,o,none⟩) h,fun b o h=>hb.frozen (p:=⟨b,o,none⟩) h⟩
theorem bcellAt {W w1:World} {b:Nat} (hb:Below W.heap.size W w1) (h:b<W.heap.size):(∀ o,w1.cell? ⟨b,o,none⟩=W.cell? ⟨b,o,none⟩)∧(∀ o,w1.frozen? ⟨b,o,none⟩=W.frozen? ⟨b,o,none⟩)∧b<w1.heap.size :=
 ⟨fun o=>hb.cell (p:=⟨b,o,none⟩) h,fun o=>hb.frozen (p:=⟨b,o,none⟩) h,by have:=hb.size;omega⟩
theorem run_make_rowN {P:Program} (t e:TypeId) (i:TypeInfo) (z:Value) (ht:P.underlying t=some (.slice e)) (hi:P.info? e=some i) (hz:i.zero=some z)
  (kl kc:IntKind) (n c:Nat) (hnc:n≤c) (hbytes:i.bytes*c≤281474976710656) (h63:c≤9223372036854775807) (w:World) :
  (Instr.makeSlice t (.int kl (n:Int)) (.int kc (c:Int))).run P w=.ok (.slice (some ⟨w.heap.size,0,none⟩) n c) (w.alloc (.cells (madeCells z.cells (c*i.size)) e)):=by
 have hb:(i.bytes:Int)*(c:Int)≤281474976710656:=by
  have h:((i.bytes*c:Nat):Int)≤281474976710656:=by omega
  rwa [Int.natCast_mul] at h
 have hr:=run_make (P:=P) w t e i z ht hi hz kl kc n c (by omega) (by omega) hb (by omega)
 simp only[Int.toNat_natCast] at hr
 exact hr
theorem below_drewN {B:Nat} {a w:World} (h:Below B a w) (n:Nat):Below B a (w.drewN n):=⟨h.os,h.tape,h.output,h.size,h.block⟩
theorem ret_int {k:IntKind} {a b:Int} (h:a=b):Ending.returned (.int k a)=.returned (.int k b):=by rw[h]
theorem infoI:(Tryz.prog.info? 2).map (fun i=>(i.zero,i.size,i.bytes))=some (some (.int .i64 0),1,8):=by kernel_rfl
theorem toInt64S_any (l:List Int) (v:Value) (w:World) (h:Rd w.heap.size w (intsT l) v) (hn:l.length≤1048576) :
  Calls Tryz.prog 99 #[v] w fun e w'=>∃ a' c' fp,e=.returned (.slice a' l.length c')∧Below w.heap.size w w'∧Own w' (intsT l) (.slice a' l.length c') fp∧In w.heap.size w'.heap.size fp:=by
 obtain⟨i0,hi0,hz0,hz1,hz2⟩:=info_parts infoI
 have hmk:=fun W=>run_make_rowN (P:=Tryz.prog) 22 2 i0 _ Tryz.underlying22 hi0 hz0 .i64 .i64 l.length l.length (Nat.le_refl _) (by rw[hz2];omega) (by omega) W
 rw[hz1] at hmk
 have hnb:(l.length:Int)≤1048576:=by omega
 obtain⟨a,c,rfl,hnc,hcm,hcells⟩:=h.ints
 clear h
 go_enter Tryz.func99,Tryz.ntmps99
 go_wp2
 clear hmk hi0 hz0 hz1 hz2
 go_loopw [4] (fun i wr=>∃ (k:Nat),k≤l.length∧i=.int .i64 k∧Below w.heap.size w wr∧Fill wr w.heap.size 2 (l.length*1) ((l.take k).map intT) []) (fun i wr=>l.length-(intOf i).toNat)
 case atStart =>
  have hst:=Fill.start w (madeCells #[Value.int IntKind.i64 0] (l.length*1)) 2
  rw[size_madeCells] at hst
  refine⟨0,Nat.zero_le _,rfl,(Below.refl _ _).alloc (Nat.le_refl _) _,?_⟩
  simpa [Nat.mul_one] using hst
 case round =>
  obtain⟨k,hk,rfl,hb,hfill⟩:=hrel
  by_cases hlt:k<l.length
  ·obtain⟨b,off,rfl,hbl,hat⟩:=hcells (by omega)
   have s0:=hat k hlt
   rw[← hb.cell (p:=⟨b,_,none⟩) hbl] at s0
   have hz:=hfill.lt
   have hz2:b<wr.heap.size:=by omega
   obtain⟨o0,p0⟩:=hfill.room k (by omega)
   have hfz:=hfill.open_
   have HB:=Lib.hid hb
   clear hcells hat hb
   go_wp2
   go_roundw
   case rel =>
    have hst:=hfill.step (us:=[intT l[k]]) (vs:=[.int .i64 l[k]]) (g:=[]) (RepV.lits [.int .i64 l[k]]) (by simp;omega) List.nodup_nil (by simp) (by simp) (fun b h=>by simp at h)
    rw[List.length_map,List.length_take,Nat.min_eq_left hk,List.append_nil] at hst
    refine⟨k+1,by omega,by go_num,HB.out.setCell (Nat.le_refl _) _,?_⟩
    rw[List.take_succ_eq_append_getElem hlt,List.map_append]
    exact hst
   case measure=>simp[intOf];omega
  ·obtain rfl:k=l.length:=by omega
   clear hcells
   go_wp2
   go_ret
   rw[List.take_length] at hfill
   obtain⟨fp,h1,h2⟩:=hfill.own (by simp) (by unfold maxLen;omega)
   exact⟨_,_,fp,rfl,hb,h1,fun x hx=>by rcases h2 x hx with rfl|h;exact⟨Nat.le_refl _,hfill.lt⟩;simp at h⟩
theorem eqInt64S_any (l:List Int) (v v':Value) (B:Nat) (w:World) (h:Rd B w (intsT l) v) (h':Rd B w (intsT l) v') (hB:B≤w.heap.size) (hn:l.length≤1099511627776) :
  Calls Tryz.prog 115 #[v,v'] w fun e w'=>e=.returned (.bool true)∧Below w.heap.size w w':=by
 have hnb:(l.length:Int)≤1099511627776:=by omega
 obtain⟨a,c,rfl,hnc,hcm,hcells⟩:=h.ints
 obtain⟨a',c',rfl,hnc',hcm',hcells'⟩:=h'.ints
 clear h h'
 have hne:((l.length:Int) != l.length)=false:=by simp
 go_enter Tryz.func115,Tryz.ntmps115
 go_wp2
 clear hne
 go_loopw [5] (fun i wr=>∃ (k:Nat),k≤l.length∧i=.int .i64 k∧Below w.heap.size w wr) (fun i wr=>l.length-(intOf i).toNat)
 case atStart=>exact⟨0,Nat.zero_le _,rfl,Below.refl _ _⟩
 case round =>
  obtain⟨k,hk,rfl,hb⟩:=hrel
  by_cases hlt:k<l.length
  ·obtain⟨b,off,rfl,hbl,hat⟩:=hcells (by omega)
   obtain⟨b',off',rfl,hbl',hat'⟩:=hcells' (by omega)
   have s0:=hat k hlt
   have s1:=hat' k hlt
   rw[← hb.cell (p:=⟨b,_,none⟩) (show b<w.heap.size by omega)] at s0
   rw[← hb.cell (p:=⟨b',_,none⟩) (show b' < w.heap.size by omega)] at s1
   have i1:(0:Int)≤(k:Int):=by omega
   have i2:(k:Int)<(l.length:Int):=by omega
   clear hcells hat hcells' hat'
   have HB:=Lib.hid hb
   clear hb
   go_wp2
   go_quiet (fail)
   go_wp2
   go_roundw
   case rel=>exact⟨k+1,by omega,by go_num,below_drewN HB.out _⟩
   case measure=>simp[intOf];omega
  ·obtain rfl:k=l.length:=by omega
   clear hcells hcells'
   go_wp2
   go_ret
   exact⟨rfl,hb⟩
theorem cntL_ints (l:List Int):cntL (l.map intT)=l.length:=by
 induction l with
 | nil=>rfl
 | cons x l ih=>simp only[List.map_cons,cntL,ih,intT,cnt,List.length_cons];omega
theorem cnt_ints (l:List Int):cnt (intsT l)=l.length:=by rw[intsT,cnt,cntL_ints]
theorem flat_ints (l:List Int):l.map intT=l.flatMap fun x=>[intT x]:=map_flat intT l
theorem intsT_flat (l:List Int):intsT l=.sl 1 (l.flatMap fun x=>[intT x]):=by rw[intsT,map_flat]
theorem szInt64S_any (l:List Int) (v:Value) (B:Nat) (left:Int) (w:World) (h:Rd B w (intsT l) v) (hl:0≤left) (hl2:left≤1048576) :
  Calls Tryz.prog 83 #[v,.int .i64 left] w fun e w'=>e=.returned (.int .i64 (left_ l.length left))∧w=w':=by
 obtain⟨a,c,rfl,hnc,hcm,_⟩:=h.ints
 clear h
 unfold maxLen at hcm
 by_cases c1:(l.length:Int)≤left
 ·have e:left_ l.length left=left-l.length:=by unfold left_;rw[if_pos c1]
  rw[e];clear e
  go_enter Tryz.func83,Tryz.ntmps83
  go_wp2
  go_ret
  exact⟨rfl,rfl⟩
 ·have e:left_ l.length left = -1:=by unfold left_;rw[if_neg c1]
  rw[e];clear e
  go_enter Tryz.func83,Tryz.ntmps83
  go_wp2
  go_ret
  exact⟨rfl,rfl⟩
theorem markInt64S_any (l:List Int) (v:Value) (fp:List Nat) (k0:Nat) (w:World) (h:Own w (intsT l) v fp) (hk0:k0+l.length≤1099511627776) :
  Calls Tryz.prog 123 #[v,.int .i64 k0] w fun e w'=>e=.returned (.int .i64 ((k0+l.length:Nat):Int))∧Own w' (mkT (intsT l) k0) v fp∧Chg fp w w':=by
 obtain⟨a,c,hv,hnc,hcm⟩:=h.form1
 rw[intsT_flat] at h ⊢
 subst hv
 have hnb:(k0:Int)+(l.length:Int)≤1099511627776:=by omega
 go_enter Tryz.func123,Tryz.ntmps123
 go_wp2
 go_loopw [1,5] (fun kk i wr=>∃ (j:Nat),j≤l.length∧i=.int .i64 j∧kk=.int .i64 ((k0:Int)+(j:Int))∧Own wr (mid (fun x=>[intT x]) 1 l k0 j) (.slice a l.length c) fp∧Chg fp w wr) (fun _ i wr=>l.length-(intOf i).toNat)
 case atStart=>exact⟨0,Nat.zero_le _,rfl,by simp,by rw[mid_zero];exact h,Chg.refl _ _⟩
 case round =>
  obtain⟨j,hj,rfl,rfl,hown,hchg⟩:=hrel
  by_cases hlt:j<l.length
  ·rw[mid_at _ _ _ _ _ hlt] at hown
   obtain⟨b,off,f,n',c',hv,hfp,hcell,hfz,hset⟩:=hown.litAt (v0:=.int .i64 l[j])
   rw[mkL_length,flat_length _ 1 (fun _=>rfl),List.length_take,Nat.min_eq_left hj,Nat.mul_one] at hcell hset
   injection hv with hv1 hv2 hv3
   subst hv1
   have HF:=Lib.hid hfp
   have hs2:=hset (.int .i64 ((k0:Int)+(j:Int)))
   clear hfp hv2 hv3 hset hown
   go_wp2
   go_roundw
   case rel =>
    refine⟨j+1,by omega,by go_num,by go_num,?_,hchg.setCell (by rw[HF.out];simp) _⟩
    rw[mid_succ _ _ _ _ _ hlt]
    have ec:cntL ((l.take j).flatMap fun x=>[intT x])=j:=by
     rw[← map_flat,cntL_ints,List.length_take,Nat.min_eq_left hj]
    rw[ec]
    have em:mkL [intT l[j]] (k0+j) = [.lit (.int .i64 ((k0:Int)+(j:Int)))]:=by simp[mkL,mkT,intT,mlit]
    rw[em]
    exact hs2
   case measure=>simp[intOf];omega
  ·obtain rfl:j=l.length:=by omega
   go_wp2
   go_ret
   rw[mid_end] at hown
   exact⟨ret_int (by omega),hown,hchg⟩
theorem intssT_flat (l:List (List Int)):intssT l=.sl 1 (l.flatMap fun x=>[intsT x]):=by rw[intssT,map_flat]
theorem Rd.intss {B:Nat} {w:World} {l:List (List Int)} {v:Value} (h:Rd B w (intssT l) v) :
  ∃ a c,v=.slice a l.length c∧l.length≤c∧c≤maxLen∧(0<l.length→∃ b off,a=some ⟨b,off,none⟩∧b<B∧∀ (i:Nat) (hi:i<l.length),∃ u,w.cell? ⟨b,off+i,none⟩=some u∧Rd B w (intsT l[i]) u):=Rd.slAt1 h
def sumLen (l:List (List Int)):Nat:=(l.map List.length).sum
theorem sumLen_append (a b:List (List Int)):sumLen (a++b)=sumLen a+sumLen b:=by simp[sumLen,List.sum_append]
theorem sumLen_take_succ (l:List (List Int)) (i:Nat) (hi:i<l.length):sumLen (l.take (i+1))=sumLen (l.take i)+l[i].length:=by
 rw[List.take_succ_eq_append_getElem hi,sumLen_append];simp[sumLen]
theorem sumLen_take_le (l:List (List Int)) (i:Nat):sumLen (l.take i)≤sumLen l:=by
 have h:=sumLen_append (l.take i) (l.drop i)
 rw[List.take_append_drop] at h;omega
theorem sumLen_get_le (l:List (List Int)) (i:Nat) (hi:i<l.length):l[i].length≤sumLen l:=by
 have h1:=sumLen_take_succ l i hi
 have h2:=sumLen_take_le l (i+1)
 omega
theorem cntL_intss (l:List (List Int)):cntL (l.flatMap fun x=>[intsT x])=sumLen l:=by
 induction l with
 | nil=>rfl
 | cons x l ih=>rw[List.flatMap_cons,cntL_append,ih];simp[cntL,cnt_ints,sumLen]
theorem infoII:(Tryz.prog.info? 22).map (fun i=>(i.zero,i.size,i.bytes))=some (some (.slice none 0 0),1,24):=by kernel_rfl
theorem toInt64SS_any (l:List (List Int)) (v:Value) (w:World) (h:Rd w.heap.size w (intssT l) v) (hn:l.length≤1048576) (hm:sumLen l≤1048576) :
  Calls Tryz.prog 51 #[v] w fun e w'=>∃ a' c' fp,e=.returned (.slice a' l.length c')∧Below w.heap.size w w'∧Own w' (intssT l) (.slice a' l.length c') fp∧In w.heap.size w'.heap.size fp:=by
 obtain⟨i0,hi0,hz0,hz1,hz2⟩:=info_parts infoII
 have hmk:=fun W=>run_make_rowN (P:=Tryz.prog) 34 22 i0 _ Tryz.underlying34 hi0 hz0 .i64 .i64 l.length l.length (Nat.le_refl _) (by rw[hz2];omega) (by omega) W
 rw[hz1] at hmk
 have hnb:(l.length:Int)≤1048576:=by omega
 obtain⟨a,c,rfl,hnc,hcm,hcells⟩:=h.intss
 clear h
 go_enter Tryz.func51,Tryz.ntmps51
 go_wp2
 clear hmk hi0 hz0 hz1 hz2
 go_loopw [4] (fun i wr=>∃ (k:Nat) (f:List Nat),k≤l.length∧i=.int .i64 k∧Below w.heap.size w wr∧Fill wr w.heap.size 22 (l.length*1) ((l.take k).map intsT) f∧In w.heap.size wr.heap.size f) (fun i wr=>l.length-(intOf i).toNat)
 case atStart =>
  have hst:=Fill.start w (madeCells #[Value.slice none 0 0] (l.length*1)) 22
  rw[size_madeCells] at hst
  refine⟨0,[],Nat.zero_le _,rfl,(Below.refl _ _).alloc (Nat.le_refl _) _,?_,In.nil⟩
  simpa [Nat.mul_one] using hst
 case round =>
  obtain⟨k,f,hk,rfl,hb,hfill,hin⟩:=hrel
  by_cases hlt:k<l.length
  ·obtain⟨b,off,rfl,hbl,hat⟩:=hcells (by omega)
   obtain⟨u,s0,hu⟩:=hat k hlt
   have hu':Rd wr.heap.size wr (intsT l[k]) u:=(hu.below hb).mono (by have:=hfill.lt;omega)
   have hsl:=sumLen_get_le l k hlt
   rw[← hb.cell (p:=⟨b,_,none⟩) hbl] at s0
   have hz:=hfill.lt
   have hz2:b<wr.heap.size:=by omega
   obtain⟨o0,p0⟩:=hfill.room k (by omega)
   have hfz:=hfill.open_
   have HB:=Lib.hid hb
   clear hcells hat hb hu
   go_wp2_with (go_at_call 99;refine (toInt64S_any l[k] _ _ hu' (by omega)).mono ?_;rintro e w1 ⟨a1,c1,fp1,rfl,hb1,hown1,hin1⟩;obtain⟨q1,q2⟩:=bcell hb1)
   go_roundw
   case rel =>
    have hw1:=hfill.below hin hb1
    have hst:=hw1.step (us:=[intsT l[k]]) (vs:=[.slice a1 l[k].length c1]) (g:=fp1) ⟨fp1,[],hown1.rep,rfl,by simp⟩ (by simp;omega) hown1.nd (fun e=>by have:=(hin1 _ e).1;omega) (fun x hx e=>by have:=(hin1 x hx).1;have:=(hin x e).2;omega) hown1.free
    rw[List.length_map,List.length_take,Nat.min_eq_left hk] at hst
    refine⟨k+1,f++fp1,by omega,by go_num,(HB.out.trans (hb1.mono (by omega))).setCell (Nat.le_refl _) _,?_,?_⟩
    ·rw[List.take_succ_eq_append_getElem hlt,List.map_append]
     exact hst
    ·rw[size_setCell]
     exact (hin.mono (Nat.le_refl _) hb1.size).append (hin1.mono (by omega) (Nat.le_refl _))
   case measure=>simp[intOf];omega
  ·obtain rfl:k=l.length:=by omega
   clear hcells
   go_wp2
   go_ret
   rw[List.take_length] at hfill
   obtain⟨fp,h1,h2⟩:=hfill.own (by simp) (by unfold maxLen;omega)
   exact⟨_,_,fp,rfl,hb,h1,fun x hx=>by rcases h2 x hx with rfl|h;exact⟨Nat.le_refl _,hfill.lt⟩;exact hin x h⟩
theorem left_neg {n:Nat} {left:Int} (hl:0≤left):0≤left_ n left∨left_ n left = -1:=by unfold left_;split<;>omega
theorem szInt64SS_any (l:List (List Int)) (v:Value) (B:Nat) (left:Int) (w:World) (h:Rd B w (intssT l) v) (hB:B≤w.heap.size) (hl:0≤left) (hl2:left≤1048576) :
  Calls Tryz.prog 43 #[v,.int .i64 left] w fun e w'=>e=.returned (.int .i64 (left_ (l.length+sumLen l) left))∧Below w.heap.size w w':=by
 obtain⟨a,c,rfl,hnc,hcm,hcells⟩:=h.intss
 clear h
 unfold maxLen at hcm
 by_cases c1:(l.length:Int)≤left
 ·have c1':decide (left-(l.length:Int)<0)=false:=by simp;omega
  go_enter Tryz.func43,Tryz.ntmps43
  go_wp2
  go_loopw [1,5] (fun m i wr=>∃ (k:Nat),k≤l.length∧i=.int .i64 k∧(sumLen (l.take k):Int)≤left-l.length∧m=.int .i64 (left-l.length-sumLen (l.take k))∧Below w.heap.size w wr) (fun _ i wr=>l.length-(intOf i).toNat)
  case atStart=>exact⟨0,Nat.zero_le _,rfl,by simp[sumLen];omega,by simp[sumLen],Below.refl _ _⟩
  case round =>
   obtain⟨k,hk,rfl,hm,rfl,hb⟩:=hrel
   by_cases hlt:k<l.length
   ·obtain⟨b,off,rfl,hbl,hat⟩:=hcells (by omega)
    obtain⟨u,s0,hu⟩:=hat k hlt
    have hu':Rd B wr (intsT l[k]) u:=hu.below (hb.mono hB)
    rw[← hb.cell (p:=⟨b,_,none⟩) (show b<w.heap.size by omega)] at s0
    have hsum:=sumLen_take_succ l k hlt
    have hle:=sumLen_take_le l (k+1)
    have HS:=Lib.hid hsum
    have HB:=Lib.hid hb
    clear hcells hat hb hu hsum
    by_cases c2:(l[k].length:Int)≤left-l.length-sumLen (l.take k)
    ·have e2:left_ l[k].length (left-l.length-sumLen (l.take k))=left-l.length-sumLen (l.take k)-l[k].length:=by unfold left_;rw[if_pos c2]
     have c3:decide (left-l.length-sumLen (l.take k)-l[k].length<0)=false:=by simp;omega
     go_wp2_with (go_at_call 83;refine (szInt64S_any l[k] _ B _ _ hu' (by omega) (by omega)).mono ?_;rintro e w1 ⟨rfl,rfl⟩;rw[e2])
     go_roundw
     case rel=>exact⟨k+1,by omega,by go_num,by rw[HS.out];omega,by rw[HS.out];go_num,HB.out⟩
     case measure=>simp[intOf];omega
    ·have e2:left_ l[k].length (left-l.length-sumLen (l.take k)) = -1:=by unfold left_;rw[if_neg c2]
     go_wp2_with (go_at_call 83;refine (szInt64S_any l[k] _ B _ _ hu' (by omega) (by omega)).mono ?_;rintro e w1 ⟨rfl,rfl⟩;rw[e2])
     go_ret
     refine⟨ret_int ?_,HB.out⟩
     unfold left_
     rw[if_neg (by have:=HS.out;omega)]
   ·obtain rfl:k=l.length:=by omega
    clear hcells
    rw[List.take_length] at hm
    go_wp2
    go_ret
    refine⟨ret_int ?_,hb⟩
    unfold left_
    rw[if_pos (by omega)]
    simp only[List.take_length]
    omega
 ·have c1':decide (left-(l.length:Int)<0)=true:=by simp;omega
  have e:left_ (l.length+sumLen l) left = -1:=by unfold left_;rw[if_neg (by omega)]
  rw[e];clear e
  go_enter Tryz.func43,Tryz.ntmps43
  go_wp2
  go_ret
  exact⟨rfl,Below.refl _ _⟩
end Go.Proofs.YtjfmkmcefnidcaaGreat
