/- What the model knows of the types of records and of changes, where the laws do not copy them. Plain lemmas. -/
import Derived.Test.YtjkpadfolkniaaaGreatDoorHRecord
import Derived.Test.YtjkpadfolkniaaaGreatDoorHChange
namespace Go.Proofs.YtjkpadfolkniaaaGreatDoor
open Go.RowKit
set_option linter.unusedVariables false
theorem infoRecord : (Tryz.prog.info? 73).map (fun i => (i.zero, i.size, i.bytes)) = some (some (.agg #[.string ⟨#[]⟩, .string ⟨#[]⟩]), 2, 32) := by kernel_rfl
theorem infoChange : (Tryz.prog.info? 40).map (fun i => (i.zero, i.size, i.bytes)) = some (some (.agg #[.int .i64 0, .string ⟨#[]⟩, .string ⟨#[]⟩, .string ⟨#[]⟩]), 4, 56) := by kernel_rfl
end Go.Proofs.YtjkpadfolkniaaaGreatDoor
