/- Contracts of the laws' helpers over slices of integers: sizes, copies, comparisons, marks. Conditions: bounded lengths. -/
import Derived.Test.YtpakghepnahooaaGreatDoorProg
import Derived.Test.YtpakghepnahooaaGreatDoorTypes
import Derived.WalkKit
import Derived.Lib.Hide
import Derived.BigQuiet
import Derived.StillTailTactics
set_option linter.unusedVariables false
set_option linter.unusedSimpArgs false
namespace Go.Proofs.YtpakghepnahooaaGreatDoor
open Go.RowKit
theorem bcell {W w1:World} (hb:OI W W w1):(∀ b o,b<W.heap.size→w1.cell? ⟨b,o,none⟩=W.cell? ⟨b,o,none⟩)∧(∀ b o,b<W.heap.size→w1.frozen? ⟨b,o,none⟩=W.frozen? ⟨b,o,none⟩) :=
 ⟨fun b o h=>hb.cell (p:=⟨b,o,none⟩) h,fun b o h=>hb.frozen (p:=⟨b,o,none⟩) h⟩
theorem zba {W w1:World} {b:Nat} (hb:OI W W w1) (h:b<W.heap.size):(∀ o,w1.cell? ⟨b,o,none⟩=W.cell? ⟨b,o,none⟩)∧(∀ o,w1.frozen? ⟨b,o,none⟩=W.frozen? ⟨b,o,none⟩)∧b<w1.heap.size :=
 ⟨fun o=>hb.cell (p:=⟨b,o,none⟩) h,fun o=>hb.frozen (p:=⟨b,o,none⟩) h,by have:=hb.size;omega⟩
theorem run_make_rowN {P:Program} (t e:TypeId) (i:TypeInfo) (z:Value) (ht:P.underlying t=some (.slice e)) (hi:P.info? e=some i) (hz:i.zero=some z)
  (kl kc:IntKind) (n c:Nat) (hnc:n≤c) (hbytes:i.bytes*c≤281474976710656) (h63:c≤9223372036854775807) (w:World) :
  (Instr.makeSlice t (.int kl (n:Int)) (.int kc (c:Int))).run P w=.ok (IZ (some ⟨w,0,none⟩) n c) (w.alloc (.cells (madeCells z.cells (c*i.size)) e)):=by
 have hb:(i.bytes:Int)*(c:Int)≤281474976710656:=by
  have h:((i.bytes*c:Nat):Int)≤281474976710656:=II
  rwa [Int.natCast_mul] at h
 have hr:=run_make (P:=P) w t e i z ht hi hz kl kc n c II II hb II;simp only[Int.toNat_natCast] at hr;exact hr
theorem zbu {B:Nat} {a w:World} (h:OI B a w) (n:Nat):OI B a (w.drewN n):=⟨h.os,h.tape,h.output,h.size,h.block⟩
theorem infoI:(Tryz.prog.info? 2).map (fun i=>(i.zero,i.size,i.bytes))=some (some (J 0),1,8):=by kernel_rfl
theorem Rd.intss {B:Nat} {w:World} {l:List (List Int)} {v:Value} (h:Rd B w (intssT l) v) :
  ∃ a c,v=IZ a l.length c∧l.length≤c∧c≤maxLen∧(0<l.length→∃ b off,a=some ⟨b,off,none⟩∧b<B∧∀ (i:Nat) (hi:i<l.length),∃ u,(w,b,off+i,u)∧Rd B w (zam l[i]) u):=Rd.slAt1 h
theorem infoII:(Tryz.prog.info? 24).map (fun i=>(i.zero,i.size,i.bytes))=some (some (IZ none 0 0),1,24):=by kernel_rfl
end Go.Proofs.YtpakghepnahooaaGreatDoor
