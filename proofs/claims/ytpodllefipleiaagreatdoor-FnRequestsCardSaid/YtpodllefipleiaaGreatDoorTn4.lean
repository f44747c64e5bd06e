/- Contracts: drawn samples and a drawn fit of the reference: some samples of bounded number, some fit. Condition: a place in the source that is not too great. -/
import Derived.Test.YtpodllefipleiaaGreatDoorTn6b
import Derived.Test.YtpodllefipleiaaGreatDoorCloneT
import Derived.Test.YtpodllefipleiaaGreatDoorLg1
set_option linter.unusedVariables false
set_option linter.unusedSimpArgs false
namespace Go.Proofs.YtpodllefipleiaaGreatDoor
open Go.RowKit
set_option maxHeartbeats 1000000
theorem info_partsS {t:TypeId} {z:Value} {s b:Nat} (h:(Tryz.prog.info? t).map (fun i=>(i.zero,i.size,i.bytes))=some (some z,s,b)):∃ i,Tryz.prog.info? t=some i∧i.zero=some z∧i.size=s∧i.bytes=b:=by
 cases hi:Tryz.prog.info? t with
 | none=>rw[hi] at h;cases h
 | some i =>
  rw[hi] at h;simp only[Option.map_some,Option.some.injEq,Prod.mk.injEq] at h;exact⟨i,rfl,h.1,h.2.1,h.2.2⟩
theorem Grow.chg {w w':World} {base E size n lo b:Nat} {v:Value} {ts:List Tr} {f:List Nat} (h:Grow w base E size v n ts f) (hin:In lo w.heap.size f) (hb:b<base) (hlo:b<lo) (hc:Chg [b] w w'):Grow w' base E size v n ts f :=
 h.frame (fun g hg=>hc.block g (h.block hg).2 (by have:=(h.block hg).1;simp<;>omega)) (fun x hx=>hc.block x (hin x hx).2 (by have:=(hin x hx).1;simp<;>omega))
structure LayI (w:World) (q:Nat) (l:List Int):Prop where
 lt:q<w.heap.size
 at_:∀ i (hi:i<l.length),w.cell? ⟨q,i,none⟩=some (.int .i64 l[i])
theorem LayI.new (w:World) (cs:Array Value) (l:List Int) (E:Nat) (h:cs.toList=l.map fun n=>.int .i64 n):LayI (w.alloc (.cells cs E)) w.heap.size l:=by
 refine⟨by simp,fun i hi=>?_⟩;have hk:=bkN w cs E;exact zae hk i ▸ (by rw[← Array.getElem?_toList,h,List.getElem?_map,List.getElem?_eq_getElem hi];rfl)
theorem zcr (b k:Nat) (l:List Int) (q c:Nat) (w:World) (h:Src w b k) (hk:k≤1099511627000) (hq:b≠q) (h1:1≤l.length) (h2:l.length≤1000) (L:LayI w q l) :
  Calls Tryz.prog 63 #[.pointer (some ⟨b,0,none⟩),.slice (some ⟨q,0,none⟩) l.length c] w fun e w'=>(∃ x ∈ l,e=.returned (.int .i64 x))∧SrcQ b k 2 w w':=by
 have HP:=Lib.hid (zci b k (l.length:Int) w h hk (by omega) (by omega));have HL:=Lib.hid L;clear h L;have hl:(l.length:Int)≤1000:=by omega
 go_enter Tryz.func63,Tryz.ntmps63;go_wp2_with (fail)
 go_at_call 62
 refine HP.out.mono ?_;rintro e w1 ⟨⟨x,hx0,hx1,rfl⟩,k1,g1,g2,S1,C1⟩;obtain⟨n,rfl⟩:=Int.eq_ofNat_of_zero_le hx0;have hn:n<l.length:=by omega
 have s0:=(show w1.cell? ⟨q,n,none⟩=w.cell? ⟨q,n,none⟩ from World.cell?_of_block (C1.block q HL.out.lt (by simp<;>omega))).trans (HL.out.at_ n hn);have HM:=Lib.hid (List.getElem_mem hn);generalize l[n]=y at *;have HS:=Lib.hid (show SrcQ b k 2 w w1 from ⟨k1,g1,g2,S1,C1⟩);clear HP HL S1 C1;go_wp2;go_ret;exact⟨⟨y,HM.out,rfl⟩,HS.out⟩
theorem SrcQ.trans {b k c d:Nat} {w w1 w2:World} {k1:Nat} (h1:k≤k1) (h2:k1≤k+c) (C1:Chg [b] w w1) (h:SrcQ b k1 d w1 w2):SrcQ b k (c+d) w w2:=by
 obtain⟨k2,a1,a2,S,C⟩:=h;exact⟨k2,by omega,by omega,S,C1.trans C⟩
theorem Chg.setN {fp:List Nat} {a w:World} (h:Chg fp a w) {p:Addr} (hp:a.heap.size≤p.block) (u:Value):Chg fp a (w.setCell p u) :=
 ⟨h.os,h.tape,h.output,by rw[zby];exact h.size,fun x hx hn=>(Below.heap_setCell w p u x (by omega)).trans (h.block x hx hn)⟩
theorem Src.setO {w:World} {b k:Nat} (h:Src w b k) {p:Addr} (hp:b<p.block) (u:Value):Src (w.setCell p u) b k:=h.below (B:=b+1) (by omega) ((Below.refl _ _).setCell hp u)
end Go.Proofs.YtpodllefipleiaaGreatDoor
