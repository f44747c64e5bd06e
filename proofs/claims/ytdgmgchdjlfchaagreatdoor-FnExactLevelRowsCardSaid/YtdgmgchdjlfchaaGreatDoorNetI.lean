/- Contracts: ChannelsOf and SectorsAt, for the program and for the reference. Conditions: bounded sizes. -/
import Derived.Test.YtdgmgchdjlfchaaGreatDoorEirp3
import Derived.Test.YtdgmgchdjlfchaaGreatDoorClone
set_option linter.unusedVariables false
set_option linter.unusedSimpArgs false
namespace Go.Proofs.YtdgmgchdjlfchaaGreatDoor
open Go.RowKit
end Go.Proofs.YtdgmgchdjlfchaaGreatDoor
