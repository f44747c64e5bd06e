/- Appending one element to a row that grows: one law. Plain lemmas; no program. -/
import Derived.Test.YtpodllefipleiaaGreatDoorApp
set_option linter.unusedVariables false
set_option linter.unusedSimpArgs false
namespace Go.Proofs.YtpodllefipleiaaGreatDoor
open Go.RowKit
theorem bat {B:Nat} {w w':World} (hb:Below B w w') (b o:Nat) (h:b<B):w'.cell? ⟨b,o,none⟩=w.cell? ⟨b,o,none⟩:=hb.cell (p:=⟨b,o,none⟩) h
theorem baf {B:Nat} {w w':World} (hb:Below B w w') (b o:Nat) (h:b<B):w'.frozen? ⟨b,o,none⟩=w.frozen? ⟨b,o,none⟩:=hb.frozen (p:=⟨b,o,none⟩) h
theorem Reads.fresh (w:World) (E size:Nat) (vs:List Value) (hl:vs.length=size):Reads (w.alloc (.cells vs.toArray E)) (w.heap.size+1) size (some ⟨w.heap.size,0,none⟩) 1 vs:=by
 refine⟨by omega,fun _=>⟨⟨w.heap.size,0,none⟩,rfl,by show w.heap.size<w.heap.size+1;omega,fun j u hu=>?_⟩⟩;have e:(⟨w.heap.size,0,none⟩:Addr).add j=⟨w.heap.size,j,none⟩:=by
  unfold Addr.add
  split
  ·rename_i h;subst h;rfl
  ·simp
 rw[e];have hh:(w.alloc (.cells vs.toArray E)).heap[w.heap.size]? = some (.cells vs.toArray E (0,0)):=by show (w.heap.push _)[w.heap.size]? = _;simp
 rw[zam hh]
 simpa using hu
structure Grown (w w':World) (base E size:Nat) (v v':Value) (n:Nat) (ts:List Tr) (f:List Nat):Prop where
 grow:Grow w' base E size v' n ts f
 below:Below base w w'
 size:w.heap.size<w'.heap.size
 keep:∀ b,b<w.heap.size→v.ownBlock≠some b→w'.heap[b]? = w.heap[b]?
 row:v'.ownBlock=v.ownBlock∨∃ b,v'.ownBlock=some b∧w.heap.size≤b
theorem za6 {P:Program} {ops:Array Oper} {rest:List Oper} {o:Oper} {a:Act} {Q:Exit→Act→World→Prop} {w:World} (hgd:o.guard=none) (s x:Operand) (t:TypeId)
  (ho:o.op=.call { callee:=.builtin .append,args:=#[s,x],argTypes:=#[t,t] })
  (base:Nat) (e:TypeId) (i:TypeInfo) (z:Value) (size bytes:Nat) (ht:P.underlying t=some (.slice e)) (hi:P.info? e=some i) (hz:i.zero=some z)
  (hsize:i.size=size) (hby:i.bytes=bytes) (hzs:z.cells.size=size) (hsz:0<size)
  (v:Value) (n:Nat) (ts:List Tr) (f:List Nat) (hs:a.eval s=v) (G:Grow w base e size v n ts f)
  (vs:List Value) (us:List Tr) (g:List Nat) (hl:vs.length=size) (c:Nat) (hx:a.eval x=.slice (some ⟨w.heap.size,0,none⟩) 1 c) (h1:∀ u ∈ vs,u.oneCell' = true)
  (hv:RepV w us vs g) (hg:g.Nodup) (hgo:Free w g) (lo:Nat) (hin:In lo w.heap.size f) (hgin:In lo w.heap.size g) (hgf:∀ x ∈ g,x ∉ f) (hgv:∀ b,v.ownBlock=some b→b ∉ g)
  (h63:n+1≤maxLen) (hbytes:(n+1)*bytes≤140737488355328) (hbase:base≤w.heap.size)
  (h:∀ v' w',Grown w w' base e size v v' (n+1) (ts++us) (f++g)→wpList P ops Q rest (a.put o.dst v') w'):wpList P ops Q (o::rest) a (w.alloc (.cells vs.toArray e)):=by
 obtain⟨xs,hxo,hxr⟩:=G.own;have hb2:Below w.heap.size w (w.alloc (.cells vs.toArray e)):=(Below.refl _ _).alloc (Nat.le_refl _) _;have HX2:=zbv hxo (w':=w.alloc (.cells vs.toArray e)) (fun g hg=>hb2.block g (G.block hg).2);have G2:=G.below hin hb2;have hv2:=hv.frame (w':=w.alloc (.cells vs.toArray e)) (fun b hb=>hb2.block b (hgin b hb).2);refine zbn _ hgd s x t ho base e i z size bytes ht hi hz hsize hby hzs hsz v n xs hs HX2 (w.heap.size+1) (some ⟨w.heap.size,0,none⟩) 1 c vs hx (Reads.fresh w e size vs hl) h1 h63 hbytes (by simp<;>omega) ?_;intro v' w' hown hgr hat
 refine h v' w' ⟨G2.step HX2 hv2 (hin.mono (Nat.le_refl _) (by simp)) (hgin.mono (Nat.le_refl _) (by simp)) hg hgf (fun b hb i=>by
  rw[World.frozen?_of_block (w:=w) (hb2.block b (hgin b hb).2)];exact hgo b hb i) hgv hown hgr hat,?_,?_,?_,?_⟩
 ·exact ((Below.refl _ _).alloc hbase _).grown hgr (by simp<;>omega) (fun b hb=>(G.block hb).1)
 ·have:=hgr.size;simp at this;omega
 ·intro b hb hne
  rw[hgr.block b (by simp<;>omega) (fun e=>hne e.symm)];exact hb2.block b hb
 ·rcases hat with e|e
  ·exact Or.inl e
  ·exact Or.inr ⟨_,e,by simp⟩
end Go.Proofs.YtpodllefipleiaaGreatDoor
