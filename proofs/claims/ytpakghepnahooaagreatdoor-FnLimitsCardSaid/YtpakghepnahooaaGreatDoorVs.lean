/- Structs of plain cells as lists of values. Plain lemmas. -/
import Derived.Test.YtpakghepnahooaaGreatDoorBox
import Derived.Test.YtpakghepnahooaaGreatDoorHProtected
set_option linter.unusedVariables false
set_option linter.unusedSimpArgs false
namespace Go.Proofs.YtpakghepnahooaaGreatDoor
open Go.RowKit
def DSite.vs (x:DSite):List Value:=[IQ x.name,IQ x.holder,J x.place.x,J x.place.y]
theorem DSite.tr_vs (x:DSite):x.tr=x.vs.map .lit:=rfl
theorem DSite.vs_len (x:DSite):x.vs.length=4:=rfl
theorem DSite.vs_one (l:List DSite):∀ u ∈ l.flatMap DSite.vs,u.oneCell' = true:=by
 intro u hu;obtain⟨x,_,hx⟩:=List.mem_flatMap.1 hu;simp only[DSite.vs,List.mem_cons,List.not_mem_nil,or_false] at hx
 rcases hx with rfl|rfl|rfl|rfl<;>rfl
theorem DSite.sT_vs (l:List DSite):DSite.sT l=.sl 4 ((l.flatMap DSite.vs).map .lit):=by
 show Tr.sl 4 (l.flatMap DSite.tr)=_
 rw[flat_lits DSite.tr DSite.vs DSite.tr_vs]
def DSector.vs (x:DSector):List Value:=[IQ x.name,IQ x.site,IQ x.antenna,IQ x.radio,IQ x.band,J x.azimuth,J x.tilt,J x.above,J x.channel]
theorem DSector.tr_vs (x:DSector):x.tr=x.vs.map .lit:=rfl
theorem DSector.vs_len (x:DSector):x.vs.length=9:=rfl
theorem DSector.vs_one (l:List DSector):∀ u ∈ l.flatMap DSector.vs,u.oneCell' = true:=by
 intro u hu;obtain⟨x,_,hx⟩:=List.mem_flatMap.1 hu;simp only[DSector.vs,List.mem_cons,List.not_mem_nil,or_false] at hx
 rcases hx with rfl|rfl|rfl|rfl|rfl|rfl|rfl|rfl|rfl<;>rfl
theorem DSector.sT_vs (l:List DSector):DSector.sT l=.sl 9 ((l.flatMap DSector.vs).map .lit):=by
 show Tr.sl 9 (l.flatMap DSector.tr)=_
 rw[flat_lits DSector.tr DSector.vs DSector.tr_vs]
end Go.Proofs.YtpakghepnahooaaGreatDoor
