/- Regions that draw their order, whose operations read and whose callees only make memory: one walk in the order of the text. Plain lemmas; no program. -/
import Derived.Test.YtpakghepnahooaaGreatDoorSpare
import Derived.BigQuiet
set_option linter.unusedVariables false
set_option linter.unusedSimpArgs false
namespace Go.Proofs.YtpakghepnahooaaGreatDoor
open Go.RowKit
noncomputable def over (B:Nat) (w0 X:World):World:=@ite _ (OI B w0 X) (Classical.propDecidable _) X w0
theorem zaa (B:Nat) (w0 X:World):OI B w0 (over B w0 X):=by
 unfold over
 split
 ·assumption
 ·exact Below.refl _ _
theorem over_self {B:Nat} {w0 X:World} (h:OI B w0 X):over B w0 X=X:=by unfold over;rw[if_pos h]
theorem zai {B b:Nat} {w0:World} (h:b<B):∀ (X:World) (o:Nat),(over B w0 X).cell? ⟨b,o,none⟩=w0.cell? ⟨b,o,none⟩:=fun X o=>(zaa B w0 X).cell (p:=⟨b,o,none⟩) h
section
variable {P:Program} {f:FuncId} {args:Array Value} {B:Nat} {w0 X:World} {v:Value}
theorem zah (hB:B≤w0.heap.size) (h:Calls P f args (over B w0 X) fun e w'=>e=.returned v∧OI (over B w0 X).heap.size (over B w0 X) w') :
  Calls P f args (over B w0 X) fun e w''=>e=.returned v∧∃ X',w'' = over B w0 X' :=
 h.mono fun _ w' ⟨he,hb⟩=>⟨he,w',(over_self ((zaa B w0 X).trans (hb.mono (Nat.le_trans hB (zaa B w0 X).size)))).symm⟩
theorem zd5 (h:Calls P f args (over B w0 X) fun e w'=>e=.returned v∧over B w0 X=w') :
  Calls P f args (over B w0 X) fun e w''=>e=.returned v∧∃ X',w'' = over B w0 X' :=
 h.mono fun _ w' ⟨he,hw⟩=>⟨he,X,hw.symm⟩
theorem zab {id:Nat} {Q:Exit→Act→World→Prop} {a:Act} {w:World} {l:List Oper} (B:Nat) (w0:World) (hb:OI B w0 w) (hm:P.follows .mixedOrders=true) (hB:Region.lexB .any l.toArray=true)
  (h:wpQuiet P l.toArray (fun W=>∃ X,W=over B w0 X) (fun a'=>∀ w',(∃ X,w' = over B w0 X)→Q .normal a' w') l a):(Code.region id l.toArray true).wp P Q a w :=
 wp_region_quiet (C:=fun W=>∃ X,W=over B w0 X) hm hB ⟨w.drew,(over_self hb.drew).symm⟩ (by simpa using h)
end
end Go.Proofs.YtpakghepnahooaaGreatDoor
