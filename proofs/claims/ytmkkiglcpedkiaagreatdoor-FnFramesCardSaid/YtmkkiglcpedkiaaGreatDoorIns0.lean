/- Rows under copies and insertions: plain lemmas; no program. -/
import Derived.Test.YtmkkiglcpedkiaaGreatDoorBox
import Derived.Lib.AppendZerosOnto
import Derived.Lib.Overlaps
set_option linter.unusedVariables false
set_option linter.unusedSimpArgs false
namespace Go.Proofs.YtmkkiglcpedkiaaGreatDoor
open Go.RowKit
theorem setCells_setRow (b:Nat):∀ (vs:List Value) (o:Nat) (w:World),w.setCells b o vs=setRow w b o vs:=by
 intro vs
 induction vs with
 | nil=>intro o w;rfl
 | cons v vs ih=>intro o w;rw[World.setCells,ih];rfl
theorem heap_setCellsV (b:Nat) (vs:List Value) (o:Nat) (w:World) (i:Nat) (h:i≠b):(w.setCells b o vs).heap[i]? = w.heap[i]?:=by
 rw[setCells_setRow];exact heap_setRow b vs w o i h
theorem blk_setCells {w:World} {b E:Nat} {cs:Array Value} (h:w.heap[b]? = some (.cells cs E (0,0))) (vs:List Value) (o:Nat):∃ cs',(w.setCells b o vs).heap[b]? = some (.cells cs' E (0,0))∧cs'.size=cs.size:=by
 obtain⟨cs',h1,h2,_⟩:=row_setRow vs w o cs h;exact⟨cs',by rw[setCells_setRow];exact h1,h2⟩
theorem RowV.of_blk {w:World} {b E:Nat} {cs:Array Value} (h:w.heap[b]? = some (.cells cs E (0,0))):RowV w b 0 cs.toList :=
 ⟨fun j u hu=>by rw[Nat.zero_add,cell_of_row' h];simpa using hu,fun i=>free_of_row h i⟩
theorem RowV.mid {w:World} {b off:Nat} {xs ys:List Value} (h:RowV w b off xs) (p:Nat) (hl:p+ys.length≤xs.length):RowV (w.setCells b (off+p) ys) b off (xs.take p++(ys++xs.drop (p+ys.length))):=by
 refine⟨fun j u hu=>?_,fun i=>by rw[World.frozen?_setCells];exact h.free i⟩
 by_cases hj:j<p+ys.length
 ·have h2:=(h.set (ys:=ys) p hl).cell j u
  apply h2
  by_cases hp:j<p
  ·rw[List.getElem?_append_left (by rw[List.length_take];omega)] at hu ⊢
   exact hu
  ·rw[List.getElem?_append_right (by rw[List.length_take];omega),List.length_take,Nat.min_eq_left (by omega)] at hu ⊢
   rw[List.getElem?_append_left (by omega)] at hu;exact hu
 ·rw[List.getElem?_append_right (by rw[List.length_take];omega),List.length_take,Nat.min_eq_left (by omega),List.getElem?_append_right (by omega),List.getElem?_drop] at hu
  rw[World.cell?_setCells_out b _ _ _ _ (fun _ _=>Or.inr (by show off+p+ys.length≤off+j;omega))];exact h.cell j u (by rw[← hu];congr 1;omega)
theorem ownsRow_of {w:World} {base E k g n cap:Nat} {cs:Array Value} {xs:List Value} (hg:w.heap[g]? = some (.cells cs E (0,0))) (hr:RowV w g 0 xs) (hl:xs.length=n*k) (hs:cs.size=cap*k) (hn:n≤cap) (hc:cap≤maxLen) (hb:base≤g) :
  w.ownsRow base E k (.slice (some ⟨g,0,none⟩) n cap) n xs:=by
 refine⟨hl,Or.inr ⟨g,cap,cs,rfl,hb,hg,hn,hc,hs,?_⟩⟩;have hle:n*k≤cap*k:=Nat.mul_le_mul_right k hn
 apply List.ext_getElem?
 intro j
 by_cases hj:j<n*k
 ·have h1:=hr.at_ j (by omega)
  rw[Nat.zero_add,cell_of_row' hg] at h1;rw[List.getElem?_take_of_lt hj,Array.getElem?_toList,h1,List.getElem?_eq_getElem (by omega)]
 ·rw[List.getElem?_eq_none (by rw[List.length_take,Array.length_toList];omega),List.getElem?_eq_none (by omega)]
theorem ownsRow_parts {w:World} {base E k n c:Nat} {a:Option Addr} {xs:List Value} (h:w.ownsRow base E k (.slice a n c) n xs) (hn:0<n) :
  ∃ g cs,a=some ⟨g,0,none⟩∧base≤g∧w.heap[g]? = some (.cells cs E (0,0))∧n≤c∧c≤maxLen∧cs.size=c*k∧cs.toList.take (n*k)=xs:=by
 rcases h.2 with ⟨e,rfl⟩|⟨g,cap,cs,e,hb,hg,h1,h2,h3,h4⟩
 ·omega
 ·injection e with e1 _ e3
  subst e1 e3;exact⟨g,cs,rfl,hb,hg,h1,h2,h3,h4⟩
section
variable {P:Program}
theorem run_copy_cellsK (w:World) (dT sT ty elem:TypeId) (k b o dLen dCap:Nat) (a:Addr) (sLen sCap:Nat) (cs:List Value)
  (hu:P.underlying dT=some (.slice elem)) (hs:(P.info? elem).map (·.size)=some k) (hn:cs.length=Nat.min sLen dLen*k)
  (hsrc:∀ j v,cs[j]? = some v→w.cell? (a.add j)=some v) (hc:∀ j,j<cs.length→(w.cell? ⟨b,o+j,none⟩).isSome=true) (hf:∀ j,j<cs.length→w.frozen? ⟨b,o+j,none⟩=false) (h1:∀ v ∈ cs,v.oneCell' = true) :
  (Builtin.copy_ #[dT,sT] ty #[.slice (some ⟨b,o,none⟩) dLen dCap,.slice (some a) sLen sCap]).run P w=.ok (goInt (Nat.min sLen dLen)) (w.setCells b o cs):=by
 have hl:=run_loadCells_list (P:=P) w a cs hsrc;have hst:=run_storeCells_cells (P:=P) b o cs 0 w (by simpa using hc) (by simpa using hf) h1
 cases hq:P.info? elem with
 | none=>simp[hq] at hs
 | some i =>
  have hi:i.size=k:=by simpa [hq] using hs
  simp[Builtin.copy_,run_underlying hu,Builtin.lenOf,Builtin.firstCells,sizeOf,typeInfo,hq,hi,← hn,hl,hst]
theorem wpList_copy_run {w w':World} {ops:Array Oper} {rest:List Oper} {o:Oper} {a:Act} {Q:Exit→Act→World→Prop} (hgd:o.guard=none) (d s:Operand) (t t':TypeId)
  (ho:o.op=.call { callee:=.builtin .copy,args:=#[d,s],argTypes:=#[t,t'] }) {v u v':Value} (hd:a.eval d=v) (hs:a.eval s=u)
  (hr:(Builtin.copy_ #[t,t'] o.type #[v,u]).run P w=.ok v' w') (h:wpList P ops Q rest (a.put o.dst v') w'):wpList P ops Q (o::rest) a w:=by
 refine wpList_plain hgd fun K hK=>?_
 unfold Oper.wp execOp;simp only[ho,resolve,invoke,builtin,Sem.run_bind,Sem.run_pure,Result.andThen_ok,List.map_toArray,List.map_cons,List.map_nil,hd,hs,hr];exact hK _ _ h
end
theorem zeroCells_size (cs:Array Value) (n:Nat):(Builtin.zeroCells cs n).size=n*cs.size:=by simp[Builtin.zeroCells]
theorem ins_flatv {α:Type} (g:α→List Value) (k:Nat) (hg:∀ x,(g x).length=k) (l:List α) (x:α) (i:Nat):(l.take i++x::l.drop i).flatMap g=(l.flatMap g).take (i*k)++(g x++(l.flatMap g).drop (i*k)):=by
 rw[List.flatMap_append,List.flatMap_cons,flatv_take g k hg,flatv_drop g k hg]
structure Ins (w w':World) (base E k:Nat) (ob:Option Nat) (v':Value) (n:Nat) (xs:List Value):Prop where
 own:w'.ownsRow base E k v' n xs
 grown:w.grownBy w' ob
 row:v'.ownBlock=ob∨∃ g,v'.ownBlock=some g∧w.heap.size≤g
end Go.Proofs.YtmkkiglcpedkiaaGreatDoor
