/- Contracts of the laws' helpers over the type Point and slices of it. Conditions: bounded lengths. -/
import Derived.Test.YtjfmkmcefnidcaaGreatSl
import Derived.Test.YtjfmkmcefnidcaaGreatTypes
import Derived.Test.YtjfmkmcefnidcaaGreatHArea
import Derived.Test.YtjfmkmcefnidcaaGreatOver
namespace Go.Proofs.YtjfmkmcefnidcaaGreat
open Go.RowKit
set_option linter.unusedVariables false
theorem to_Point (x:DPoint) (w:World) :
  Calls Tryz.prog 210 #[.agg #[.int .i64 x.x,.int .i64 x.y]] w fun e w'=>e=.returned (.agg #[.int .i64 x.x,.int .i64 x.y])∧Below w.heap.size w w':=by
 go_enter Tryz.func210,Tryz.ntmps210
 go_wp2
 exact bodyPost_ret (v:=.agg #[.int .i64 x.x,.int .i64 x.y]) (by simp[results,Tryz.results210,go_sem]) rfl ⟨rfl,(((Below.refl _ _).alloc (Nat.le_refl _) _).alloc (by simp) _).alloc (by simp;omega) _⟩
theorem eq_Point (x:DPoint) (w:World) :
  Calls Tryz.prog 223 #[.agg #[.int .i64 x.x,.int .i64 x.y],.agg #[.int .i64 x.x,.int .i64 x.y]] w fun e w'=>e=.returned (.bool true)∧Below w.heap.size w w':=by
 go_enter Tryz.func223,Tryz.ntmps223
 go_wp2
 go_ret
 exact⟨rfl,((Below.refl _ _).alloc (Nat.le_refl _) _).alloc (by simp) _⟩
theorem DPoint.sT_eq (l:List DPoint):DPoint.sT l=.sl 2 (l.flatMap DPoint.tr):=rfl
theorem DPoint.siz_s (l:List DPoint):siz (DPoint.sT l)=l.length+sizL (l.flatMap DPoint.tr):=siz_flat DPoint.tr 2 (by decide) DPoint.tr_len l
theorem DPoint.cnt_tr (x:DPoint):cntL x.tr=2:=by simp only[DPoint.tr,cntL,cnt,intT]
theorem DPoint.mk_tr (x:DPoint) (K:Nat):mkL x.tr K = [.lit (.int .i64 ((K:Int))),.lit (.int .i64 ((K:Int)+1))]:=rfl
theorem DPoint.cntL_tr (x:DPoint):cntL x.tr=1+1:=by rfl
end Go.Proofs.YtjfmkmcefnidcaaGreat
