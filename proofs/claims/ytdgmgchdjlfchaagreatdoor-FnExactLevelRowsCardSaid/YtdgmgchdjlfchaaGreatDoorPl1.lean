/- Contracts: areas, licences, bands, protected places and requests are valid, for the program and for the reference. Conditions: bounded lengths. -/
import Derived.Test.YtdgmgchdjlfchaaGreatDoorOrdS
import Derived.Test.YtdgmgchdjlfchaaGreatDoorOver
import Derived.Test.YtdgmgchdjlfchaaGreatDoorFit
import Derived.Deep.DeepCutAuto
set_option linter.unusedVariables false
set_option linter.unusedSimpArgs false
namespace Go.Proofs.YtdgmgchdjlfchaaGreatDoor
open Go.RowKit
set_option maxHeartbeats 2000000
set_option maxRecDepth 100000
def endB (e:DEnd):Bool:=zcs e.place&&inB e.above 1 3000
theorem zcl (n:Int) (w:World):Calls Tryz.prog 57 #[.int .i64 n] w fun e w'=>e=.returned (.bool (inB n 1 100000000))∧w=w':=by
 go_enter Tryz.func57,Tryz.ntmps57;go_wp2_with (go_at_call 74;refine (zao _ _ _ _).mono ?_;rintro e w1 ⟨rfl,rfl⟩);go_ret;exact⟨rfl,rfl⟩
theorem l05Frequency_any (n:Int) (w:World):Calls Tryz.prog 42 #[.int .i64 n] w fun e w'=>e=.returned (.bool (inB n 1 100000000))∧w=w':=by
 go_enter Tryz.func42,Tryz.ntmps42;go_wp2_with (go_at_call 77;refine (zap _ _ _ _).mono ?_;rintro e w1 ⟨rfl,rfl⟩);go_ret;exact⟨rfl,rfl⟩
theorem validEnd_any (q:DEnd) (w:World) :
  Calls Tryz.prog 56 #[.agg #[.int .i64 q.place.x,.int .i64 q.place.y,.int .i64 q.above]] w fun e w'=>e=.returned (.bool (endB q))∧Below w.heap.size w w':=by
 have B0:Hid (Below w.heap.size w (w.alloc (.cells #[.int .i64 q.place.x,.int .i64 q.place.y,.int .i64 q.above] 50))):=(Below.alloc (Below.refl _ _) (by first|exact Nat.le_refl _|(simp;done)|(simp<;>omega)) _)
 have HD:Hid (∀ W:World,Below (w.alloc (.cells #[.int .i64 q.place.x,.int .i64 q.place.y,.int .i64 q.above] 50)).heap.size (w.alloc (.cells #[.int .i64 q.place.x,.int .i64 q.place.y,.int .i64 q.above] 50)) W→(W.cell? ⟨w.heap.size,0,none⟩=some (.int .i64 q.place.x)∧W.cell? ⟨w.heap.size,1,none⟩=some (.int .i64 q.place.y)∧W.cell? ⟨w.heap.size,2,none⟩=some (.int .i64 q.above))):=fun W hW=>⟨by rw[hW.cell (p:=⟨w.heap.size,0,none⟩) (by first|(simp;done)|(simp<;>omega))];simp[go_sem],by rw[hW.cell (p:=⟨w.heap.size,1,none⟩) (by first|(simp;done)|(simp<;>omega))];simp[go_sem],by rw[hW.cell (p:=⟨w.heap.size,2,none⟩) (by first|(simp;done)|(simp<;>omega))];simp[go_sem]⟩
 have HB:Hid (Below (w.alloc (.cells #[.int .i64 q.place.x,.int .i64 q.place.y,.int .i64 q.above] 50)).heap.size (w.alloc (.cells #[.int .i64 q.place.x,.int .i64 q.place.y,.int .i64 q.above] 50)) (w.alloc (.cells #[.int .i64 q.place.x,.int .i64 q.place.y,.int .i64 q.above] 50))):=Below.refl _ _
 by_cases h0:zcs q.place=true
 case neg =>
  replace h0:zcs q.place=false:=Bool.eq_false_iff.2 h0;have HE:Hid (endB q=false):=by show _=_;unfold endB;simp only[h0]<;>rfl
  go_enter Tryz.func56,Tryz.ntmps56;go_wp2_with (first|(go_at_call 108;refine (zcf q.place _).mono ?_;rintro e w2 ⟨rfl,hb2⟩;(try clear t0 t1 t2);replace HB:=Lib.hid (HB.out.trans (hb2.mono HB.out.size));clear hb2;obtain⟨t0,t1,t2⟩:=HD.out _ HB.out)|(go_at_call 74;refine (zao _ _ _ _).mono ?_;rintro e w1 ⟨rfl,rfl⟩));go_ret;exact⟨by rw[HE.out];rfl,by exact B0.out.trans (HB.out.mono (by first|exact Nat.le_refl _|(simp;done)|(simp<;>omega)))⟩
 by_cases h1:inB q.above 1 3000=true
 case neg =>
  replace h1:inB q.above 1 3000=false:=Bool.eq_false_iff.2 h1;have HE:Hid (endB q=false):=by show _=_;unfold endB;simp only[h0,h1]<;>rfl
  go_enter Tryz.func56,Tryz.ntmps56;go_wp2_with (first|(go_at_call 108;refine (zcf q.place _).mono ?_;rintro e w2 ⟨rfl,hb2⟩;(try clear t0 t1 t2);replace HB:=Lib.hid (HB.out.trans (hb2.mono HB.out.size));clear hb2;obtain⟨t0,t1,t2⟩:=HD.out _ HB.out)|(go_at_call 74;refine (zao _ _ _ _).mono ?_;rintro e w1 ⟨rfl,rfl⟩));go_ret;exact⟨by rw[HE.out];rfl,by exact B0.out.trans (HB.out.mono (by first|exact Nat.le_refl _|(simp;done)|(simp<;>omega)))⟩
 have HE:Hid (endB q=true):=by show _=_;unfold endB;simp only[h0,h1]<;>rfl
 go_enter Tryz.func56,Tryz.ntmps56;go_wp2_with (first|(go_at_call 108;refine (zcf q.place _).mono ?_;rintro e w2 ⟨rfl,hb2⟩;(try clear t0 t1 t2);replace HB:=Lib.hid (HB.out.trans (hb2.mono HB.out.size));clear hb2;obtain⟨t0,t1,t2⟩:=HD.out _ HB.out)|(go_at_call 74;refine (zao _ _ _ _).mono ?_;rintro e w1 ⟨rfl,rfl⟩));go_ret;exact⟨by rw[HE.out];rfl,by exact B0.out.trans (HB.out.mono (by first|exact Nat.le_refl _|(simp;done)|(simp<;>omega)))⟩
theorem l12End_any (q:DEnd) (w:World) :
  Calls Tryz.prog 41 #[.agg #[.int .i64 q.place.x,.int .i64 q.place.y,.int .i64 q.above]] w fun e w'=>e=.returned (.bool (endB q))∧Below w.heap.size w w':=by
 have B0:Hid (Below w.heap.size w (w.alloc (.cells #[.int .i64 q.place.x,.int .i64 q.place.y,.int .i64 q.above] 50))):=(Below.alloc (Below.refl _ _) (by first|exact Nat.le_refl _|(simp;done)|(simp<;>omega)) _)
 have HD:Hid (∀ W:World,Below (w.alloc (.cells #[.int .i64 q.place.x,.int .i64 q.place.y,.int .i64 q.above] 50)).heap.size (w.alloc (.cells #[.int .i64 q.place.x,.int .i64 q.place.y,.int .i64 q.above] 50)) W→(W.cell? ⟨w.heap.size,0,none⟩=some (.int .i64 q.place.x)∧W.cell? ⟨w.heap.size,1,none⟩=some (.int .i64 q.place.y)∧W.cell? ⟨w.heap.size,2,none⟩=some (.int .i64 q.above))):=fun W hW=>⟨by rw[hW.cell (p:=⟨w.heap.size,0,none⟩) (by first|(simp;done)|(simp<;>omega))];simp[go_sem],by rw[hW.cell (p:=⟨w.heap.size,1,none⟩) (by first|(simp;done)|(simp<;>omega))];simp[go_sem],by rw[hW.cell (p:=⟨w.heap.size,2,none⟩) (by first|(simp;done)|(simp<;>omega))];simp[go_sem]⟩
 have HB:Hid (Below (w.alloc (.cells #[.int .i64 q.place.x,.int .i64 q.place.y,.int .i64 q.above] 50)).heap.size (w.alloc (.cells #[.int .i64 q.place.x,.int .i64 q.place.y,.int .i64 q.above] 50)) (w.alloc (.cells #[.int .i64 q.place.x,.int .i64 q.place.y,.int .i64 q.above] 50))):=Below.refl _ _
 by_cases h0:zcs q.place=true
 case neg =>
  replace h0:zcs q.place=false:=Bool.eq_false_iff.2 h0;have HE:Hid (endB q=false):=by show _=_;unfold endB;simp only[h0]<;>rfl
  go_enter Tryz.func41,Tryz.ntmps41;go_wp2_with (first|(go_at_call 91;refine (zem q.place _).mono ?_;rintro e w2 ⟨rfl,hb2⟩;(try clear t0 t1 t2);replace HB:=Lib.hid (HB.out.trans (hb2.mono HB.out.size));clear hb2;obtain⟨t0,t1,t2⟩:=HD.out _ HB.out)|(go_at_call 77;refine (zap _ _ _ _).mono ?_;rintro e w1 ⟨rfl,rfl⟩));go_ret;exact⟨by rw[HE.out];rfl,by exact B0.out.trans (HB.out.mono (by first|exact Nat.le_refl _|(simp;done)|(simp<;>omega)))⟩
 by_cases h1:inB q.above 1 3000=true
 case neg =>
  replace h1:inB q.above 1 3000=false:=Bool.eq_false_iff.2 h1;have HE:Hid (endB q=false):=by show _=_;unfold endB;simp only[h0,h1]<;>rfl
  go_enter Tryz.func41,Tryz.ntmps41;go_wp2_with (first|(go_at_call 91;refine (zem q.place _).mono ?_;rintro e w2 ⟨rfl,hb2⟩;(try clear t0 t1 t2);replace HB:=Lib.hid (HB.out.trans (hb2.mono HB.out.size));clear hb2;obtain⟨t0,t1,t2⟩:=HD.out _ HB.out)|(go_at_call 77;refine (zap _ _ _ _).mono ?_;rintro e w1 ⟨rfl,rfl⟩));go_ret;exact⟨by rw[HE.out];rfl,by exact B0.out.trans (HB.out.mono (by first|exact Nat.le_refl _|(simp;done)|(simp<;>omega)))⟩
 have HE:Hid (endB q=true):=by show _=_;unfold endB;simp only[h0,h1]<;>rfl
 go_enter Tryz.func41,Tryz.ntmps41;go_wp2_with (first|(go_at_call 91;refine (zem q.place _).mono ?_;rintro e w2 ⟨rfl,hb2⟩;(try clear t0 t1 t2);replace HB:=Lib.hid (HB.out.trans (hb2.mono HB.out.size));clear hb2;obtain⟨t0,t1,t2⟩:=HD.out _ HB.out)|(go_at_call 77;refine (zap _ _ _ _).mono ?_;rintro e w1 ⟨rfl,rfl⟩));go_ret;exact⟨by rw[HE.out];rfl,by exact B0.out.trans (HB.out.mono (by first|exact Nat.le_refl _|(simp;done)|(simp<;>omega)))⟩
end Go.Proofs.YtdgmgchdjlfchaaGreatDoor
