/- Structs of plain cells as lists of values. Plain lemmas. -/
import Derived.Test.YtmkkiglcpedkiaaGreatDoorBox
import Derived.Test.YtmkkiglcpedkiaaGreatDoorHRegister
set_option linter.unusedVariables false
set_option linter.unusedSimpArgs false
namespace Go.Proofs.YtmkkiglcpedkiaaGreatDoor
open Go.RowKit
theorem oneLits (xs:List Value) (h:∀ u ∈ xs,u.oneCell' = true) (n:Nat):∀ u ∈ xs.drop n,u.oneCell' = true:=fun u hu=>h u (List.mem_of_mem_drop hu)
theorem erase_flatv {α:Type} (g:α→List Value) (k:Nat) (hg:∀ x,(g x).length=k) (l:List α) (i:Nat):(l.eraseIdx i).flatMap g=(l.flatMap g).take (i*k)++(l.flatMap g).drop ((i+1)*k):=by
 rw[List.eraseIdx_eq_take_drop_succ,List.flatMap_append,flatv_take g k hg,flatv_drop g k hg]
def DRecord.vs (x:DRecord):List Value:=[.string x.key,.string x.value]
theorem DRecord.tr_vs (x:DRecord):x.tr=x.vs.map .lit:=rfl
theorem DRecord.vs_len (x:DRecord):x.vs.length=2:=rfl
theorem DRecord.vs_one (l:List DRecord):∀ u ∈ l.flatMap DRecord.vs,u.oneCell' = true:=by
 intro u hu;obtain⟨x,_,hx⟩:=List.mem_flatMap.1 hu;simp only[DRecord.vs,List.mem_cons,List.not_mem_nil,or_false] at hx
 rcases hx with rfl|rfl<;>rfl
theorem DRecord.sT_vs (l:List DRecord):DRecord.sT l=.sl 2 ((l.flatMap DRecord.vs).map .lit):=by
 show Tr.sl 2 (l.flatMap DRecord.tr)=_
 rw[flat_lits DRecord.tr DRecord.vs DRecord.tr_vs]
def DChange.vs (x:DChange):List Value:=[.int .i64 x.day,.string x.key,.string x.old_,.string x.new_]
theorem DChange.tr_vs (x:DChange):x.tr=x.vs.map .lit:=rfl
theorem DChange.vs_one (l:List DChange):∀ u ∈ l.flatMap DChange.vs,u.oneCell' = true:=by
 intro u hu;obtain⟨x,_,hx⟩:=List.mem_flatMap.1 hu;simp only[DChange.vs,List.mem_cons,List.not_mem_nil,or_false] at hx
 rcases hx with rfl|rfl|rfl|rfl<;>rfl
theorem DChange.sT_vs (l:List DChange):DChange.sT l=.sl 4 ((l.flatMap DChange.vs).map .lit):=by
 show Tr.sl 4 (l.flatMap DChange.tr)=_
 rw[flat_lits DChange.tr DChange.vs DChange.tr_vs]
end Go.Proofs.YtmkkiglcpedkiaaGreatDoor
