/- Contracts: ChannelsOf and SectorsAt, for the program and for the reference. Conditions: bounded sizes. -/
import Derived.Test.YtgmapjgodibchaaGreatDoorEirp3
import Derived.Test.YtgmapjgodibchaaGreatDoorClone
set_option linter.unusedVariables false
set_option linter.unusedSimpArgs false
namespace Go.Proofs.YtgmapjgodibchaaGreatDoor
open Go.RowKit
def col {α β:Type} (f:α→β) (p:α→Bool) (l:List α):List β:=(l.filter p).map f
theorem col_take_succ {α β:Type} (f:α→β) (p:α→Bool) (l:List α) (k:Nat) (h:k<l.length):col f p (l.take (k+1))=col f p (l.take k)++(if p l[k]=true then [f l[k]] else []):=by
 unfold col;rw[List.take_succ_eq_append_getElem h,List.filter_append,List.map_append]
 congr 1
 by_cases hp:p l[k]=true<;>simp[List.filter_cons,hp]
theorem col_len {α β:Type} (f:α→β) (p:α→Bool) (l:List α):(col f p l).length≤l.length:=by
 unfold col;rw[List.length_map];exact List.length_filter_le _ _
theorem infoStr:(Tryz.prog.info? 9).map (fun i=>(i.zero,i.size,i.bytes))=some (some (F ⟨#[]⟩),1,16):=by kernel_rfl
theorem zdb (w:World):Own w (zaj []) (II none 0 0) []:=⟨zc3.2 ⟨none,0,0,rfl,rfl,Nat.le_refl _,by unfold maxLen;omega,Or.inl ⟨rfl,rfl⟩⟩,List.nodup_nil,fun b h=>by simp at h⟩
theorem own_nilS (w:World):Own w (zd2 []) (II none 0 0) []:=⟨zc3.2 ⟨none,0,0,rfl,rfl,Nat.le_refl _,by unfold maxLen;omega,Or.inl ⟨rfl,rfl⟩⟩,List.nodup_nil,fun b h=>by simp at h⟩
theorem grow_empty1 (w:World) (E:Nat):Grow (w.alloc (.cells #[] E)) w.heap.size E 1 (II (some ⟨w,0,none⟩) 0 0) 0 [] []:=grow_empty w E
end Go.Proofs.YtgmapjgodibchaaGreatDoor
