/- Contracts of the laws' helpers over the type Register and slices of it. Conditions: bounded lengths. -/
import Derived.Test.YtmkkiglcpedkiaaGreatDoorProb1
import Derived.Test.YtmkkiglcpedkiaaGreatDoorOver
set_option linter.unusedVariables false
set_option linter.unusedSimpArgs false
namespace Go.Proofs.YtmkkiglcpedkiaaGreatDoor
open Go.RowKit
theorem DRecord.siz_s (l:List DRecord):siz (DRecord.sT l)=l.length+sizL (l.flatMap DRecord.tr):=siz_flat DRecord.tr 2 (by decide) DRecord.tr_len l
theorem DChange.siz_s (l:List DChange):siz (DChange.sT l)=l.length+sizL (l.flatMap DChange.tr):=siz_flat DChange.tr 4 (by decide) DChange.tr_len l
theorem infoRecord:(Tryz.prog.info? 69).map (fun i=>(i.zero,i.size,i.bytes))=some (some (.agg #[.string ⟨#[]⟩,.string ⟨#[]⟩]),2,32):=by kernel_rfl
theorem infoChange:(Tryz.prog.info? 44).map (fun i=>(i.zero,i.size,i.bytes))=some (some (.agg #[.int .i64 0,.string ⟨#[]⟩,.string ⟨#[]⟩,.string ⟨#[]⟩]),4,56):=by kernel_rfl
theorem DRegister.siz_tr (x:DRegister):sizL x.tr=siz (DRecord.sT x.records)+siz (DChange.sT x.changes):=by
 simp only[DRegister.tr,sizL];omega
end Go.Proofs.YtmkkiglcpedkiaaGreatDoor
