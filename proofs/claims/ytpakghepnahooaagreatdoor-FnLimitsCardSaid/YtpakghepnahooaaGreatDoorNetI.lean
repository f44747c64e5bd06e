/- Contracts: ChannelsOf and SectorsAt, for the program and for the reference. Conditions: bounded sizes. -/
import Derived.Test.YtpakghepnahooaaGreatDoorEirp3
import Derived.Test.YtpakghepnahooaaGreatDoorNet9
set_option linter.unusedVariables false
set_option linter.unusedSimpArgs false
namespace Go.Proofs.YtpakghepnahooaaGreatDoor
open Go.RowKit
def col {α β:Type} (f:α→β) (p:α→Bool) (l:List α):List β:=(l.filter p).map f
theorem col_take_succ {α β:Type} (f:α→β) (p:α→Bool) (l:List α) (k:Nat) (h:k<l.length):col f p (l.take (k+1))=col f p (l.take k)++(if p l[k]=true then [f l[k]] else []):=by
 unfold col;rw[List.take_succ_eq_append_getElem h,List.filter_append,List.map_append]
 congr 1
 by_cases hp:p l[k]=true<;>simp[List.filter_cons,hp]
theorem col_len {α β:Type} (f:α→β) (p:α→Bool) (l:List α):(col f p l).length≤l.length:=by
 unfold col;rw[List.length_map];exact List.length_filter_le _ _
theorem infoStr:(Tryz.prog.info? 9).map (fun i=>(i.zero,i.size,i.bytes))=some (some (IQ ⟨#[]⟩),1,16):=by kernel_rfl
theorem own_nilI (w:World):Own w (zat []) (IZ none 0 0) []:=⟨zb3.2 ⟨none,0,0,rfl,rfl,Nat.le_refl _,by unfold maxLen;omega,Or.inl ⟨rfl,rfl⟩⟩,List.nodup_nil,fun b h=>by simp at h⟩
theorem own_nilS (w:World):Own w (strsT []) (IZ none 0 0) []:=⟨zb3.2 ⟨none,0,0,rfl,rfl,Nat.le_refl _,by unfold maxLen;omega,Or.inl ⟨rfl,rfl⟩⟩,List.nodup_nil,fun b h=>by simp at h⟩
end Go.Proofs.YtpakghepnahooaaGreatDoor
