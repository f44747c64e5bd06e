/- Structs of plain cells as lists of values. Plain lemmas. -/
import Derived.Test.YtpodllefipleiaaGreatDoorBox
import Derived.Test.YtpodllefipleiaaGreatDoorHRequest
set_option linter.unusedVariables false
set_option linter.unusedSimpArgs false
namespace Go.Proofs.YtpodllefipleiaaGreatDoor
open Go.RowKit
def DRequest.vs (x:DRequest):List Value:=[.string x.id,.string x.applicant,.string x.partner,.int .i64 x.low,.int .i64 x.high,.int .i64 x.filed,.int .i64 x.deadline,.int .i64 x.state]
theorem DRequest.tr_vs (x:DRequest):x.tr=x.vs.map .lit:=rfl
theorem DRequest.vs_len (x:DRequest):x.vs.length=8:=rfl
theorem DRequest.vs_one (l:List DRequest):∀ u ∈ l.flatMap DRequest.vs,u.oneCell' = true:=by
 intro u hu;obtain⟨x,_,hx⟩:=List.mem_flatMap.1 hu;simp only[DRequest.vs,List.mem_cons,List.not_mem_nil,or_false] at hx
 rcases hx with rfl|rfl|rfl|rfl|rfl|rfl|rfl|rfl<;>rfl
theorem DRequest.sT_vs (l:List DRequest):DRequest.sT l=.sl 8 ((l.flatMap DRequest.vs).map .lit):=by
 show Tr.sl 8 (l.flatMap DRequest.tr)=_
 rw[flat_lits DRequest.tr DRequest.vs DRequest.tr_vs]
end Go.Proofs.YtpodllefipleiaaGreatDoor
