/- Contracts: ChannelsOf and SectorsAt, for the program and for the reference. Conditions: bounded sizes. -/
import Derived.Test.YtdgmgchdjlfchaaGreatDoorEirp3
import Derived.Test.YtdgmgchdjlfchaaGreatDoorClone
set_option linter.unusedVariables false
set_option linter.unusedSimpArgs false
namespace Go.Proofs.YtdgmgchdjlfchaaGreatDoor
open Go.RowKit
theorem zd5 (w:World):Own w (zaj []) (.slice none 0 0) []:=⟨zcs.2 ⟨none,0,0,rfl,rfl,Nat.le_refl _,by unfold maxLen;omega,Or.inl ⟨rfl,rfl⟩⟩,List.nodup_nil,fun b h=>by simp at h⟩
end Go.Proofs.YtdgmgchdjlfchaaGreatDoor
