/- Regions that draw their order, whose operations read and whose callees only make memory: one walk in the order of the text. Plain lemmas; no program. -/
import Derived.Test.YtmkkiglcpedkiaaGreatDoorRaw
import Derived.BigQuiet
set_option linter.unusedVariables false
set_option linter.unusedSimpArgs false
namespace Go.Proofs.YtmkkiglcpedkiaaGreatDoor
open Go.RowKit
noncomputable def over (B:Nat) (w0 X:World):World:=@ite _ (Below B w0 X) (Classical.propDecidable _) X w0
theorem over_below (B:Nat) (w0 X:World):Below B w0 (over B w0 X):=by
 unfold over
 split
 ·assumption
 ·exact Below.refl _ _
theorem over_self {B:Nat} {w0 X:World} (h:Below B w0 X):over B w0 X=X:=by unfold over;rw[if_pos h]
theorem overC {B b:Nat} {w0:World} (h:b<B):∀ (X:World) (o:Nat),(over B w0 X).cell? ⟨b,o,none⟩=w0.cell? ⟨b,o,none⟩:=fun X o=>(over_below B w0 X).cell (p:=⟨b,o,none⟩) h
section
variable {P:Program} {f:FuncId} {args:Array Value} {B:Nat} {w0 X:World} {v:Value}
theorem over_left (hB:B≤w0.heap.size) (h:Calls P f args (over B w0 X) fun e w'=>e=.returned v∧Below (over B w0 X).heap.size (over B w0 X) w') :
  Calls P f args (over B w0 X) fun e w''=>e=.returned v∧∃ X',w'' = over B w0 X' :=
 h.mono fun _ w' ⟨he,hb⟩=>⟨he,w',(over_self ((over_below B w0 X).trans (hb.mono (Nat.le_trans hB (over_below B w0 X).size)))).symm⟩
theorem over_same (h:Calls P f args (over B w0 X) fun e w'=>e=.returned v∧over B w0 X=w') :
  Calls P f args (over B w0 X) fun e w''=>e=.returned v∧∃ X',w'' = over B w0 X' :=
 h.mono fun _ w' ⟨he,hw⟩=>⟨he,X,hw.symm⟩
theorem wp_region_over {id:Nat} {Q:Exit→Act→World→Prop} {a:Act} {w:World} {l:List Oper} (B:Nat) (w0:World) (hb:Below B w0 w) (hm:P.follows .mixedOrders=true) (hB:Region.lexB .any l.toArray=true)
  (h:wpQuiet P l.toArray (fun W=>∃ X,W=over B w0 X) (fun a'=>∀ w',(∃ X,w' = over B w0 X)→Q .normal a' w') l a):(Code.region id l.toArray true).wp P Q a w :=
 wp_region_quiet (C:=fun W=>∃ X,W=over B w0 X) hm hB ⟨w.drew,(over_self hb.drew).symm⟩ (by simpa using h)
end
end Go.Proofs.YtmkkiglcpedkiaaGreatDoor
