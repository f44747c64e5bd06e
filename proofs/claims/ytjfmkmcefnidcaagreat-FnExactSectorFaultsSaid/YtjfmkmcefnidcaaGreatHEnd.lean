/- Contracts of the laws' helpers over the type End and slices of it. Conditions: bounded lengths. -/
import Derived.Test.YtjfmkmcefnidcaaGreatSl
import Derived.Test.YtjfmkmcefnidcaaGreatTypes
import Derived.Test.YtjfmkmcefnidcaaGreatHArea
import Derived.Test.YtjfmkmcefnidcaaGreatOver
import Derived.Test.YtjfmkmcefnidcaaGreatHPoint
namespace Go.Proofs.YtjfmkmcefnidcaaGreat
set_option maxHeartbeats 2000000
open Go.RowKit
set_option linter.unusedVariables false
theorem to_End (x:DEnd) (w:World) :
  Calls Tryz.prog 162 #[.agg #[.int .i64 x.place.x,.int .i64 x.place.y,.int .i64 x.above]] w fun e w'=>e=.returned (.agg #[.int .i64 x.place.x,.int .i64 x.place.y,.int .i64 x.above])∧Below w.heap.size w w':=by
 go_enter Tryz.func162,Tryz.ntmps162
 go_wp2_with fail
 refine (to_Point x.place _).mono ?_
 rintro e w1 ⟨rfl,hb1⟩
 obtain⟨qa1,fa1,ya1⟩:=bcellAt hb1 (b:=w.heap.size) (by first|omega|(simp;done)|(simp;omega))
 obtain⟨qb1,fb1,yb1⟩:=bcellAt hb1 (b:=w.heap.size+1) (by first|omega|(simp;done)|(simp;omega))
 obtain⟨qc1,fc1,yc1⟩:=bcellAt hb1 (b:=w.heap.size+1+1) (by first|omega|(simp;done)|(simp;omega))
 go_wp2
 refine bodyPost_ret (v:=.agg #[.int .i64 x.place.x,.int .i64 x.place.y,.int .i64 x.above]) (by simp[results,Tryz.results162,go_sem, *]) rfl ⟨rfl,?_⟩
 repeat (first|exact Below.refl _ _|(refine Below.setCell ?_ (by first|omega|(simp;done)|(simp;omega)) _)|(refine Below.alloc ?_ (by first|omega|(simp;done)|(simp;omega)) _)|(refine Below.trans ?_ (hb1.mono (by first|omega|(simp;done)|(simp;omega)))))
theorem eq_End (x:DEnd) (w:World) :
  Calls Tryz.prog 183 #[.agg #[.int .i64 x.place.x,.int .i64 x.place.y,.int .i64 x.above],.agg #[.int .i64 x.place.x,.int .i64 x.place.y,.int .i64 x.above]] w fun e w'=>e=.returned (.bool true)∧Below w.heap.size w w':=by
 go_enter Tryz.func183,Tryz.ntmps183
 go_wp2_with fail
 refine (eq_Point x.place _).mono ?_
 rintro e w1 ⟨rfl,hb1⟩
 obtain⟨qa1,_,ya1⟩:=bcellAt hb1 (b:=w.heap.size) (by first|omega|(simp;done)|(simp;omega))
 obtain⟨qb1,_,yb1⟩:=bcellAt hb1 (b:=w.heap.size+1) (by first|omega|(simp;done)|(simp;omega))
 go_wp2
 go_ret
 refine⟨rfl,?_⟩
 repeat (first|exact Below.refl _ _|(refine Below.alloc ?_ (by first|omega|(simp;done)|(simp;omega)) _)|(refine Below.trans ?_ (hb1.mono (by first|omega|(simp;done)|(simp;omega)))))
theorem DEnd.sT_eq (l:List DEnd):DEnd.sT l=.sl 3 (l.flatMap DEnd.tr):=rfl
theorem DEnd.siz_s (l:List DEnd):siz (DEnd.sT l)=l.length+sizL (l.flatMap DEnd.tr):=siz_flat DEnd.tr 3 (by decide) DEnd.tr_len l
theorem DEnd.cnt_tr (x:DEnd):cntL x.tr=3:=by simp only[DEnd.tr,cntL,cnt,intT]
theorem DEnd.mk_tr (x:DEnd) (K:Nat):mkL x.tr K = [.lit (.int .i64 ((K:Int))),.lit (.int .i64 ((K:Int)+1)),.lit (.int .i64 ((K:Int)+1+1))]:=rfl
theorem DEnd.cntL_tr (x:DEnd):cntL x.tr=1+1+1:=by rfl
end Go.Proofs.YtjfmkmcefnidcaaGreat
