/- Contracts: ChannelsOf and SectorsAt, for the program and for the reference. Conditions: bounded sizes. -/
import Derived.Test.YtpakghepnahooaaGreatDoorEirp3
import Derived.Test.YtpakghepnahooaaGreatDoorNet9
set_option linter.unusedVariables false
set_option linter.unusedSimpArgs false
namespace Go.Proofs.YtpakghepnahooaaGreatDoor
open Go.RowKit
theorem zew (w:World):Own w (zam []) (IZ none 0 0) []:=⟨zb7.2 ⟨none,0,0,rfl,rfl,Nat.le_refl _,by unfold maxLen;omega,Or.inl ⟨rfl,rfl⟩⟩,List.nodup_nil,fun b h=>by simp at h⟩
end Go.Proofs.YtpakghepnahooaaGreatDoor
