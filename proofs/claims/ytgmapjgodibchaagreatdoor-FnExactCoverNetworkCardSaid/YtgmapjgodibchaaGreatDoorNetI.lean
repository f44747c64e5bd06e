/- Contracts: ChannelsOf and SectorsAt, for the program and for the reference. Conditions: bounded sizes. -/
import Derived.Test.YtgmapjgodibchaaGreatDoorEirp3
import Derived.Test.YtgmapjgodibchaaGreatDoorClone
set_option linter.unusedVariables false
set_option linter.unusedSimpArgs false
namespace Go.Proofs.YtgmapjgodibchaaGreatDoor
open Go.RowKit
theorem own_nilI (w:World):Own w (zai []) (II none 0 0) []:=⟨zcf.2 ⟨none,0,0,rfl,rfl,Nat.le_refl _,by unfold maxLen;omega,Or.inl ⟨rfl,rfl⟩⟩,List.nodup_nil,fun b h=>by simp at h⟩
end Go.Proofs.YtgmapjgodibchaaGreatDoor
