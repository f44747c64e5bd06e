/- Contract of the laws' helper markText: the text of a mark. Condition: 0 < k at most 2^40. -/
import Derived.Test.YtdgmgchdjlfchaaGreatDoorProg
import Derived.Test.YtdgmgchdjlfchaaGreatDoorTypes
import Derived.WalkKit
import Derived.Outline
import Derived.RowKit3
import Derived.LoopTactic
import Derived.Lib.Hide
import Derived.Laws.MakeOwn
import Derived.Laws.Entries
import Derived.BigQuiet
import Derived.Deep.QuietTactic
import Derived.StillTailTactics
import Derived.KernelRfl
namespace Go.Proofs.YtdgmgchdjlfchaaGreatDoor
open Go.RowKit
set_option linter.unusedVariables false
theorem bcell {W w1:World} (hb:Below W.heap.size W w1):(∀ b o,b<W.heap.size→w1.cell? ⟨b,o,none⟩=W.cell? ⟨b,o,none⟩)∧(∀ b o,b<W.heap.size→w1.frozen? ⟨b,o,none⟩=W.frozen? ⟨b,o,none⟩) :=
 ⟨fun b o h=>hb.cell (p:=⟨b,o,none⟩) h,fun b o h=>hb.frozen (p:=⟨b,o,none⟩) h⟩
theorem bcellAt {W w1:World} {b:Nat} (hb:Below W.heap.size W w1) (h:b<W.heap.size):(∀ o,w1.cell? ⟨b,o,none⟩=W.cell? ⟨b,o,none⟩)∧(∀ o,w1.frozen? ⟨b,o,none⟩=W.frozen? ⟨b,o,none⟩)∧b<w1.heap.size :=
 ⟨fun o=>hb.cell (p:=⟨b,o,none⟩) h,fun o=>hb.frozen (p:=⟨b,o,none⟩) h,by have:=hb.size;omega⟩
theorem run_make_rowN {P:Program} (t e:TypeId) (i:TypeInfo) (z:Value) (ht:P.underlying t=some (.slice e)) (hi:P.info? e=some i) (hz:i.zero=some z)
  (kl kc:IntKind) (n c:Nat) (hnc:n≤c) (hbytes:i.bytes*c≤281474976710656) (h63:c≤9223372036854775807) (w:World) :
  (Instr.makeSlice t (.int kl (n:Int)) (.int kc (c:Int))).run P w=.ok (.slice (some ⟨w.heap.size,0,none⟩) n c) (w.alloc (.cells (madeCells z.cells (c*i.size)) e)):=by
 have hb:(i.bytes:Int)*(c:Int)≤281474976710656:=by
  have h:((i.bytes*c:Nat):Int)≤281474976710656:=by omega
  rwa [Int.natCast_mul] at h
 have hr:=run_make (P:=P) w t e i z ht hi hz kl kc n c (by omega) (by omega) hb (by omega)
 simp only[Int.toNat_natCast] at hr
 exact hr
theorem below_drewN {B:Nat} {a w:World} (h:Below B a w) (n:Nat):Below B a (w.drewN n):=⟨h.os,h.tape,h.output,h.size,h.block⟩
theorem ret_int {k:IntKind} {a b:Int} (h:a=b):Ending.returned (.int k a)=.returned (.int k b):=by rw[h]
theorem infoI:(Tryz.prog.info? 2).map (fun i=>(i.zero,i.size,i.bytes))=some (some (.int .i64 0),1,8):=by kernel_rfl
theorem toInt64S_any (l:List Int) (v:Value) (w:World) (h:Rd w.heap.size w (intsT l) v) (hn:l.length≤1048576) :
  Calls Tryz.prog 47 #[v] w fun e w'=>∃ a' c' fp,e=.returned (.slice a' l.length c')∧Below w.heap.size w w'∧Own w' (intsT l) (.slice a' l.length c') fp∧In w.heap.size w'.heap.size fp:=by
 obtain⟨i0,hi0,hz0,hz1,hz2⟩:=info_parts infoI
 have hmk:=fun W=>run_make_rowN (P:=Tryz.prog) 22 2 i0 _ Tryz.underlying22 hi0 hz0 .i64 .i64 l.length l.length (Nat.le_refl _) (by rw[hz2];omega) (by omega) W
 rw[hz1] at hmk
 have hnb:(l.length:Int)≤1048576:=by omega
 obtain⟨a,c,rfl,hnc,hcm,hcells⟩:=h.ints
 clear h
 go_enter Tryz.func47,Tryz.ntmps47
 go_wp2
 clear hmk hi0 hz0 hz1 hz2
 go_loopw [4] (fun i wr=>∃ (k:Nat),k≤l.length∧i=.int .i64 k∧Below w.heap.size w wr∧Fill wr w.heap.size 2 (l.length*1) ((l.take k).map intT) []) (fun i wr=>l.length-(intOf i).toNat)
 case atStart =>
  have hst:=Fill.start w (madeCells #[Value.int IntKind.i64 0] (l.length*1)) 2
  rw[size_madeCells] at hst
  refine⟨0,Nat.zero_le _,rfl,(Below.refl _ _).alloc (Nat.le_refl _) _,?_⟩
  simpa [Nat.mul_one] using hst
 case round =>
  obtain⟨k,hk,rfl,hb,hfill⟩:=hrel
  by_cases hlt:k<l.length
  ·obtain⟨b,off,rfl,hbl,hat⟩:=hcells (by omega)
   have s0:=hat k hlt
   rw[← hb.cell (p:=⟨b,_,none⟩) hbl] at s0
   have hz:=hfill.lt
   have hz2:b<wr.heap.size:=by omega
   obtain⟨o0,p0⟩:=hfill.room k (by omega)
   have hfz:=hfill.open_
   have HB:=Lib.hid hb
   clear hcells hat hb
   go_wp2
   go_roundw
   case rel =>
    have hst:=hfill.step (us:=[intT l[k]]) (vs:=[.int .i64 l[k]]) (g:=[]) (RepV.lits [.int .i64 l[k]]) (by simp<;>omega) List.nodup_nil (by simp) (by simp) (fun b h=>by simp at h)
    rw[List.length_map,List.length_take,Nat.min_eq_left hk,List.append_nil] at hst
    refine⟨k+1,by omega,by go_num,HB.out.setCell (Nat.le_refl _) _,?_⟩
    rw[List.take_succ_eq_append_getElem hlt,List.map_append]
    exact hst
   case measure=>simp[intOf];omega
  ·obtain rfl:k=l.length:=by omega
   clear hcells
   go_wp2
   go_ret
   rw[List.take_length] at hfill
   obtain⟨fp,h1,h2⟩:=hfill.own (by simp) (by unfold maxLen;omega)
   exact⟨_,_,fp,rfl,hb,h1,fun x hx=>by rcases h2 x hx with rfl|h;exact⟨Nat.le_refl _,hfill.lt⟩;simp at h⟩
theorem eqInt64S_any (l:List Int) (v v':Value) (B:Nat) (w:World) (h:Rd B w (intsT l) v) (h':Rd B w (intsT l) v') (hB:B≤w.heap.size) (hn:l.length≤1099511627776) :
  Calls Tryz.prog 18 #[v,v'] w fun e w'=>e=.returned (.bool true)∧Below w.heap.size w w':=by
 have hnb:(l.length:Int)≤1099511627776:=by omega
 obtain⟨a,c,rfl,hnc,hcm,hcells⟩:=h.ints
 obtain⟨a',c',rfl,hnc',hcm',hcells'⟩:=h'.ints
 clear h h'
 have hne:((l.length:Int) != l.length)=false:=by simp
 go_enter Tryz.func18,Tryz.ntmps18
 go_wp2
 clear hne
 go_loopw [5] (fun i wr=>∃ (k:Nat),k≤l.length∧i=.int .i64 k∧Below w.heap.size w wr) (fun i wr=>l.length-(intOf i).toNat)
 case atStart=>exact⟨0,Nat.zero_le _,rfl,Below.refl _ _⟩
 case round =>
  obtain⟨k,hk,rfl,hb⟩:=hrel
  by_cases hlt:k<l.length
  ·obtain⟨b,off,rfl,hbl,hat⟩:=hcells (by omega)
   obtain⟨b',off',rfl,hbl',hat'⟩:=hcells' (by omega)
   have s0:=hat k hlt
   have s1:=hat' k hlt
   rw[← hb.cell (p:=⟨b,_,none⟩) (show b<w.heap.size by omega)] at s0
   rw[← hb.cell (p:=⟨b',_,none⟩) (show b' < w.heap.size by omega)] at s1
   have i1:(0:Int)≤(k:Int):=by omega
   have i2:(k:Int)<(l.length:Int):=by omega
   clear hcells hat hcells' hat'
   have HB:=Lib.hid hb
   clear hb
   go_wp2
   go_quiet (fail)
   go_wp2
   go_roundw
   case rel=>exact⟨k+1,by omega,by go_num,below_drewN HB.out _⟩
   case measure=>simp[intOf];omega
  ·obtain rfl:k=l.length:=by omega
   clear hcells hcells'
   go_wp2
   go_ret
   exact⟨rfl,hb⟩
theorem szInt64S_any (l:List Int) (v:Value) (B:Nat) (left:Int) (w:World) (h:Rd B w (intsT l) v) (hl:0≤left) (hl2:left≤1048576) :
  Calls Tryz.prog 34 #[v,.int .i64 left] w fun e w'=>e=.returned (.int .i64 (left_ l.length left))∧w=w':=by
 obtain⟨a,c,rfl,hnc,hcm,_⟩:=h.ints
 clear h
 unfold maxLen at hcm
 by_cases c1:(l.length:Int)≤left
 ·have e:left_ l.length left=left-l.length:=by unfold left_;rw[if_pos c1]
  rw[e];clear e
  go_enter Tryz.func34,Tryz.ntmps34
  go_wp2
  go_ret
  exact⟨rfl,rfl⟩
 ·have e:left_ l.length left = -1:=by unfold left_;rw[if_neg c1]
  rw[e];clear e
  go_enter Tryz.func34,Tryz.ntmps34
  go_wp2
  go_ret
  exact⟨rfl,rfl⟩
theorem Rd.intss {B:Nat} {w:World} {l:List (List Int)} {v:Value} (h:Rd B w (intssT l) v) :
  ∃ a c,v=.slice a l.length c∧l.length≤c∧c≤maxLen∧(0<l.length→∃ b off,a=some ⟨b,off,none⟩∧b<B∧∀ (i:Nat) (hi:i<l.length),∃ u,w.cell? ⟨b,off+i,none⟩=some u∧Rd B w (intsT l[i]) u):=Rd.slAt1 h
end Go.Proofs.YtdgmgchdjlfchaaGreatDoor
namespace Go.Proofs.YtdgmgchdjlfchaaGreatDoor
open Go.RowKit
set_option linter.unusedVariables false
end Go.Proofs.YtdgmgchdjlfchaaGreatDoor
