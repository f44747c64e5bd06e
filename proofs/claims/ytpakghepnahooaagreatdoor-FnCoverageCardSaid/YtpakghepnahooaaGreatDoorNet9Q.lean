/- Contract: a copy of a network, for the program: the rows of sites and sectors are known whole, so that they may grow. Conditions: bounded lengths. -/
import Derived.Test.YtpakghepnahooaaGreatDoorNet9
import Derived.Test.YtpakghepnahooaaGreatDoorIns0
import Derived.Test.YtpakghepnahooaaGreatDoorVs
set_option linter.unusedVariables false
set_option linter.unusedSimpArgs false
namespace Go.Proofs.YtpakghepnahooaaGreatDoor
open Go.RowKit
structure OwnQ (w:World) (base E k n:Nat) (v:Value) (xs:List Value) (fp:List Nat):Prop where
 row:w.ownsRow base E k v n xs
 fps:fp=obl v
section
variable {w w':World} {base E k n:Nat} {v:Value} {xs:List Value} {fp:List Nat}
theorem OwnQ.mem (h:OwnQ w base E k n v xs fp) {g:Nat} (hg:v.ownBlock=some g):g ∈ fp:=by rw[h.fps];unfold obl;rw[hg];simp
theorem OwnQ.frame (h:OwnQ w base E k n v xs fp) (hf:∀ b ∈ fp,w'.heap[b]? = w.heap[b]?):OwnQ w' base E k n v xs fp:=⟨zap h.row (fun g hg=>hf g (h.mem hg)),h.fps⟩
theorem OwnQ.below {lo hi B:Nat} (h:OwnQ w base E k n v xs fp) (hi':In lo hi fp) (hB:hi≤B) (hb:OI B w w'):OwnQ w' base E k n v xs fp:=h.frame fun b hx=>hb.block b (by have:=(hi' b hx).2;omega)
theorem OwnQ.chg {lo hi:Nat} {fq:List Nat} (h:OwnQ w base E k n v xs fp) (hi':In lo hi fp) (hs:hi≤w.heap.size) (hc:Chg fq w w') (hd:∀ x ∈ fp,x ∉ fq):OwnQ w' base E k n v xs fp:=h.frame fun b hx=>hc.block b (by have:=(hi' b hx).2;omega) (hd b hx)
theorem OwnQ.setFar (h:OwnQ w base E k n v xs fp) {p:Addr} (hp:p.block ∉ fp) (u:Value):OwnQ (w.setCell p u) base E k n v xs fp:=h.frame fun b hb=>Below.heap_setCell w p u b (fun e=>hp (e ▸ hb))
end
end Go.Proofs.YtpakghepnahooaaGreatDoor
