/- Contracts: ChannelsOf and SectorsAt, for the program and for the reference. Conditions: bounded sizes. -/
import Derived.Test.YtdgmgchdjlfchaaGreatDoorEirp3
import Derived.Test.YtdgmgchdjlfchaaGreatDoorClone
namespace Go.Proofs.YtdgmgchdjlfchaaGreatDoor
open Go.RowKit
set_option linter.unusedVariables false
set_option linter.unusedSimpArgs false
end Go.Proofs.YtdgmgchdjlfchaaGreatDoor
