/- Contracts: domains of problems, for the program and for the reference. Conditions: bounded lengths. -/
import Derived.Test.YtmkkiglcpedkiaaGreatDoorInts
import Derived.Deep.RegionHeld3
set_option linter.unusedVariables false
set_option linter.unusedSimpArgs false
namespace Go.Proofs.YtmkkiglcpedkiaaGreatDoor
open Go.RowKit
def inB (n a b:Int):Bool:=decide (a≤n)&&decide (n≤b)
theorem within_any (n a b:Int) (w:World) :
  Calls Tryz.prog 44 #[.int .i64 n,.int .i64 a,.int .i64 b] w fun e w'=>e=.returned (.bool (inB n a b))∧w=w':=by
 by_cases h1:a≤n
 ·have e:inB n a b=decide (n≤b):=by unfold inB;simp[h1]
  rw[e];clear e;go_enter Tryz.func44,Tryz.ntmps44;go_wp2;go_ret;exact⟨rfl,rfl⟩
 ·have e:inB n a b=false:=by unfold inB;simp[h1]
  rw[e];clear e;go_enter Tryz.func44,Tryz.ntmps44;go_wp2;go_ret;exact⟨rfl,rfl⟩
theorem l00In_any (n a b:Int) (w:World) :
  Calls Tryz.prog 83 #[.int .i64 n,.int .i64 a,.int .i64 b] w fun e w'=>e=.returned (.bool (inB n a b))∧w=w':=by
 by_cases h1:a≤n
 ·have e:inB n a b=decide (n≤b):=by unfold inB;simp[h1]
  rw[e];clear e;go_enter Tryz.func83,Tryz.ntmps83;go_wp2;go_ret;exact⟨rfl,rfl⟩
 ·have e:inB n a b=false:=by unfold inB;simp[h1]
  rw[e];clear e;go_enter Tryz.func83,Tryz.ntmps83;go_wp2;go_ret;exact⟨rfl,rfl⟩
def firstIdx' {α:Type} (p:α→Bool) (l:List α):Int:=match l.findIdx? p with|some i=>i|none=>-1
theorem any_take_succ {α:Type} (p:α→Bool) (l:List α) (k:Nat) (h:k<l.length):(l.take (k+1)).any p=((l.take k).any p || p l[k]):=by
 rw[List.take_succ_eq_append_getElem h,List.any_append];simp
theorem firstIdx_at {α:Type} (p:α→Bool) (l:List α) (k:Nat) (h:k<l.length) (hp:p l[k]=true) (hb:(l.take k).any p=false):firstIdx' p l=k:=by
 have:l.findIdx? p=some k:=by
  rw[List.findIdx?_eq_some_iff_getElem];refine⟨h,hp,fun j hj=>?_⟩;have hm:l[j] ∈ l.take k:=by
   rw[List.mem_take_iff_getElem];exact⟨j,by omega,rfl⟩
  have:=List.any_eq_false.1 hb l[j] hm
  simpa using this
 unfold firstIdx';rw[this]
theorem firstIdx_none {α:Type} (p:α→Bool) (l:List α) (hb:l.any p=false):firstIdx' p l = -1:=by
 have:l.findIdx? p=none:=by
  rw[List.findIdx?_eq_none_iff];intro x hx;have:=List.any_eq_false.1 hb x hx
  simpa using this
 unfold firstIdx';rw[this]
end Go.Proofs.YtmkkiglcpedkiaaGreatDoor
