/- Contracts: whether a licence is for a use, for the program and for the reference. Conditions: bounded sizes. -/
import Derived.Test.YtjfmkmcefnidcaaGreatPl15
import Derived.Test.YtjfmkmcefnidcaaGreatTree
namespace Go.Proofs.YtjfmkmcefnidcaaGreat
set_option maxHeartbeats 8000000
set_option maxRecDepth 100000
open Go.RowKit
set_option linter.unusedVariables false
set_option linter.unusedSimpArgs false
def hasA (a:DArea) (q:DPoint):Bool:=inB q.x a.west a.east&&inB q.y a.south a.north
def areaHasB (a:DArea) (q:DPoint):Bool:=areaB a&&(inB q.x a.west a.east&&inB q.y a.south a.north)
def isForB (x:DLicence) (h:ByteArray) (q:DPoint) (day:Int):Bool:=eqS x.holder h&&(areaHasB x.area q&&inB day x.from_ x.until_)
def allowsB (x:DLicence) (h:ByteArray) (q:DPoint) (lo hi day:Int):Bool:=eqS x.holder h&&(decide (x.low≤lo)&&(decide (hi≤x.high)&&(hasA x.area q&&inB day x.from_ x.until_)))
def forB (x:DLicence) (h:ByteArray) (q:DPoint) (lo hi day:Int):Bool:=isForB x h q day&&(decide (lo<hi)&&(decide (x.low≤lo)&&decide (hi≤x.high)))
theorem forB_eq {x:DLicence} (hx:licB x=true) (h:ByteArray) (q:DPoint) {lo hi:Int} (day:Int) (hl:lo<hi):forB x h q lo hi day=allowsB x h q lo hi day:=by
 unfold forB isForB allowsB areaHasB hasA
 rw[licB_area hx,decide_eq_true hl]
 simp only[Bool.true_and]
 generalize eqS x.holder h=x0
 generalize decide (x.low≤lo)=x1
 generalize decide (hi≤x.high)=x2
 generalize inB q.x x.area.west x.area.east=x3
 generalize inB q.y x.area.south x.area.north=x4
 generalize inB day x.from_ x.until_=x5
 cases x0<;>cases x1<;>cases x2<;>cases x3<;>cases x4<;>cases x5<;>rfl
theorem areaHas_any (a:DArea) (q:DPoint) (w:World) :
  Calls Tryz.prog 244 #[.agg #[.int .i64 a.west,.int .i64 a.south,.int .i64 a.east,.int .i64 a.north],.agg #[.int .i64 q.x,.int .i64 q.y]] w fun e w'=>e=.returned (.bool (areaHasB a q))∧Below w.heap.size w w':=by
 have B0:Hid (Below w.heap.size w ((w.alloc (.cells #[.int .i64 a.west,.int .i64 a.south,.int .i64 a.east,.int .i64 a.north] 88)).alloc (.cells #[.int .i64 q.x,.int .i64 q.y] 79))):=(Below.alloc (Below.alloc (Below.refl _ _) (by first|exact Nat.le_refl _|(simp;done)|(simp;omega)) _) (by first|exact Nat.le_refl _|(simp;done)|(simp;omega)) _)
 have HD:Hid (∀ W:World,Below ((w.alloc (.cells #[.int .i64 a.west,.int .i64 a.south,.int .i64 a.east,.int .i64 a.north] 88)).alloc (.cells #[.int .i64 q.x,.int .i64 q.y] 79)).heap.size ((w.alloc (.cells #[.int .i64 a.west,.int .i64 a.south,.int .i64 a.east,.int .i64 a.north] 88)).alloc (.cells #[.int .i64 q.x,.int .i64 q.y] 79)) W→(W.cell? ⟨w.heap.size,0,none⟩=some (.int .i64 a.west)∧W.cell? ⟨w.heap.size,1,none⟩=some (.int .i64 a.south)∧W.cell? ⟨w.heap.size,2,none⟩=some (.int .i64 a.east)∧W.cell? ⟨w.heap.size,3,none⟩=some (.int .i64 a.north)∧W.cell? ⟨w.heap.size+1,0,none⟩=some (.int .i64 q.x)∧W.cell? ⟨w.heap.size+1,1,none⟩=some (.int .i64 q.y))):=fun W hW=>⟨by rw[hW.cell (p:=⟨w.heap.size,0,none⟩) (by first|(simp;done)|(simp;omega))];simp[go_sem],by rw[hW.cell (p:=⟨w.heap.size,1,none⟩) (by first|(simp;done)|(simp;omega))];simp[go_sem],by rw[hW.cell (p:=⟨w.heap.size,2,none⟩) (by first|(simp;done)|(simp;omega))];simp[go_sem],by rw[hW.cell (p:=⟨w.heap.size,3,none⟩) (by first|(simp;done)|(simp;omega))];simp[go_sem],by rw[hW.cell (p:=⟨w.heap.size+1,0,none⟩) (by first|(simp;done)|(simp;omega))];simp[go_sem],by rw[hW.cell (p:=⟨w.heap.size+1,1,none⟩) (by first|(simp;done)|(simp;omega))];simp[go_sem]⟩
 have HB:Hid (Below ((w.alloc (.cells #[.int .i64 a.west,.int .i64 a.south,.int .i64 a.east,.int .i64 a.north] 88)).alloc (.cells #[.int .i64 q.x,.int .i64 q.y] 79)).heap.size ((w.alloc (.cells #[.int .i64 a.west,.int .i64 a.south,.int .i64 a.east,.int .i64 a.north] 88)).alloc (.cells #[.int .i64 q.x,.int .i64 q.y] 79)) ((w.alloc (.cells #[.int .i64 a.west,.int .i64 a.south,.int .i64 a.east,.int .i64 a.north] 88)).alloc (.cells #[.int .i64 q.x,.int .i64 q.y] 79))):=Below.refl _ _
 by_cases h0:areaB a=true
 case neg =>
  replace h0:areaB a=false:=Bool.eq_false_iff.2 h0
  have HE:Hid (areaHasB a q=false):=by show _=_;unfold areaHasB;simp only[h0]<;>rfl
  go_enter Tryz.func244,Tryz.ntmps244
  go_wp2_with (first|(go_at_call 217;refine (validArea_any a _).mono ?_;rintro e w2 ⟨rfl,hb2⟩;(try clear t0 t1 t2 t3 t4 t5);replace HB:=Lib.hid (HB.out.trans (hb2.mono HB.out.size));clear hb2;obtain⟨t0,t1,t2,t3,t4,t5⟩:=HD.out _ HB.out)|(go_at_call 175;refine (within_any _ _ _ _).mono ?_;rintro e w1 ⟨rfl,rfl⟩))
  go_ret
  exact⟨by rw[HE.out];rfl,by exact B0.out.trans (HB.out.mono (by first|exact Nat.le_refl _|(simp;done)|(simp;omega)))⟩
 by_cases h1:inB q.x a.west a.east=true
 case neg =>
  replace h1:inB q.x a.west a.east=false:=Bool.eq_false_iff.2 h1
  have HE:Hid (areaHasB a q=false):=by show _=_;unfold areaHasB;simp only[h0,h1]<;>rfl
  go_enter Tryz.func244,Tryz.ntmps244
  go_wp2_with (first|(go_at_call 217;refine (validArea_any a _).mono ?_;rintro e w2 ⟨rfl,hb2⟩;(try clear t0 t1 t2 t3 t4 t5);replace HB:=Lib.hid (HB.out.trans (hb2.mono HB.out.size));clear hb2;obtain⟨t0,t1,t2,t3,t4,t5⟩:=HD.out _ HB.out)|(go_at_call 175;refine (within_any _ _ _ _).mono ?_;rintro e w1 ⟨rfl,rfl⟩))
  go_ret
  exact⟨by rw[HE.out];rfl,by exact B0.out.trans (HB.out.mono (by first|exact Nat.le_refl _|(simp;done)|(simp;omega)))⟩
 by_cases h2:inB q.y a.south a.north=true
 case neg =>
  replace h2:inB q.y a.south a.north=false:=Bool.eq_false_iff.2 h2
  have HE:Hid (areaHasB a q=false):=by show _=_;unfold areaHasB;simp only[h0,h1,h2]<;>rfl
  go_enter Tryz.func244,Tryz.ntmps244
  go_wp2_with (first|(go_at_call 217;refine (validArea_any a _).mono ?_;rintro e w2 ⟨rfl,hb2⟩;(try clear t0 t1 t2 t3 t4 t5);replace HB:=Lib.hid (HB.out.trans (hb2.mono HB.out.size));clear hb2;obtain⟨t0,t1,t2,t3,t4,t5⟩:=HD.out _ HB.out)|(go_at_call 175;refine (within_any _ _ _ _).mono ?_;rintro e w1 ⟨rfl,rfl⟩))
  go_ret
  exact⟨by rw[HE.out];rfl,by exact B0.out.trans (HB.out.mono (by first|exact Nat.le_refl _|(simp;done)|(simp;omega)))⟩
 have HE:Hid (areaHasB a q=true):=by show _=_;unfold areaHasB;simp only[h0,h1,h2]<;>rfl
 go_enter Tryz.func244,Tryz.ntmps244
 go_wp2_with (first|(go_at_call 217;refine (validArea_any a _).mono ?_;rintro e w2 ⟨rfl,hb2⟩;(try clear t0 t1 t2 t3 t4 t5);replace HB:=Lib.hid (HB.out.trans (hb2.mono HB.out.size));clear hb2;obtain⟨t0,t1,t2,t3,t4,t5⟩:=HD.out _ HB.out)|(go_at_call 175;refine (within_any _ _ _ _).mono ?_;rintro e w1 ⟨rfl,rfl⟩))
 go_ret
 exact⟨by rw[HE.out];rfl,by exact B0.out.trans (HB.out.mono (by first|exact Nat.le_refl _|(simp;done)|(simp;omega)))⟩
theorem l26Has_any (a:DArea) (q:DPoint) (w:World) :
  Calls Tryz.prog 225 #[.agg #[.int .i64 a.west,.int .i64 a.south,.int .i64 a.east,.int .i64 a.north],.agg #[.int .i64 q.x,.int .i64 q.y]] w fun e w'=>e=.returned (.bool (hasA a q))∧Below w.heap.size w w':=by
 have B0:Hid (Below w.heap.size w ((w.alloc (.cells #[.int .i64 a.west,.int .i64 a.south,.int .i64 a.east,.int .i64 a.north] 88)).alloc (.cells #[.int .i64 q.x,.int .i64 q.y] 79))):=(Below.alloc (Below.alloc (Below.refl _ _) (by first|exact Nat.le_refl _|(simp;done)|(simp;omega)) _) (by first|exact Nat.le_refl _|(simp;done)|(simp;omega)) _)
 have HD:Hid (∀ W:World,Below ((w.alloc (.cells #[.int .i64 a.west,.int .i64 a.south,.int .i64 a.east,.int .i64 a.north] 88)).alloc (.cells #[.int .i64 q.x,.int .i64 q.y] 79)).heap.size ((w.alloc (.cells #[.int .i64 a.west,.int .i64 a.south,.int .i64 a.east,.int .i64 a.north] 88)).alloc (.cells #[.int .i64 q.x,.int .i64 q.y] 79)) W→(W.cell? ⟨w.heap.size,0,none⟩=some (.int .i64 a.west)∧W.cell? ⟨w.heap.size,1,none⟩=some (.int .i64 a.south)∧W.cell? ⟨w.heap.size,2,none⟩=some (.int .i64 a.east)∧W.cell? ⟨w.heap.size,3,none⟩=some (.int .i64 a.north)∧W.cell? ⟨w.heap.size+1,0,none⟩=some (.int .i64 q.x)∧W.cell? ⟨w.heap.size+1,1,none⟩=some (.int .i64 q.y))):=fun W hW=>⟨by rw[hW.cell (p:=⟨w.heap.size,0,none⟩) (by first|(simp;done)|(simp;omega))];simp[go_sem],by rw[hW.cell (p:=⟨w.heap.size,1,none⟩) (by first|(simp;done)|(simp;omega))];simp[go_sem],by rw[hW.cell (p:=⟨w.heap.size,2,none⟩) (by first|(simp;done)|(simp;omega))];simp[go_sem],by rw[hW.cell (p:=⟨w.heap.size,3,none⟩) (by first|(simp;done)|(simp;omega))];simp[go_sem],by rw[hW.cell (p:=⟨w.heap.size+1,0,none⟩) (by first|(simp;done)|(simp;omega))];simp[go_sem],by rw[hW.cell (p:=⟨w.heap.size+1,1,none⟩) (by first|(simp;done)|(simp;omega))];simp[go_sem]⟩
 have HB:Hid (Below ((w.alloc (.cells #[.int .i64 a.west,.int .i64 a.south,.int .i64 a.east,.int .i64 a.north] 88)).alloc (.cells #[.int .i64 q.x,.int .i64 q.y] 79)).heap.size ((w.alloc (.cells #[.int .i64 a.west,.int .i64 a.south,.int .i64 a.east,.int .i64 a.north] 88)).alloc (.cells #[.int .i64 q.x,.int .i64 q.y] 79)) ((w.alloc (.cells #[.int .i64 a.west,.int .i64 a.south,.int .i64 a.east,.int .i64 a.north] 88)).alloc (.cells #[.int .i64 q.x,.int .i64 q.y] 79))):=Below.refl _ _
 by_cases h0:inB q.x a.west a.east=true
 case neg =>
  replace h0:inB q.x a.west a.east=false:=Bool.eq_false_iff.2 h0
  have HE:Hid (hasA a q=false):=by show _=_;unfold hasA;simp only[h0]<;>rfl
  go_enter Tryz.func225,Tryz.ntmps225
  go_wp2_with (first|(go_at_call 148;refine (l00In_any _ _ _ _).mono ?_;rintro e w1 ⟨rfl,rfl⟩))
  go_ret
  exact⟨by rw[HE.out];rfl,by exact B0.out.trans (HB.out.mono (by first|exact Nat.le_refl _|(simp;done)|(simp;omega)))⟩
 by_cases h1:inB q.y a.south a.north=true
 case neg =>
  replace h1:inB q.y a.south a.north=false:=Bool.eq_false_iff.2 h1
  have HE:Hid (hasA a q=false):=by show _=_;unfold hasA;simp only[h0,h1]<;>rfl
  go_enter Tryz.func225,Tryz.ntmps225
  go_wp2_with (first|(go_at_call 148;refine (l00In_any _ _ _ _).mono ?_;rintro e w1 ⟨rfl,rfl⟩))
  go_ret
  exact⟨by rw[HE.out];rfl,by exact B0.out.trans (HB.out.mono (by first|exact Nat.le_refl _|(simp;done)|(simp;omega)))⟩
 have HE:Hid (hasA a q=true):=by show _=_;unfold hasA;simp only[h0,h1]<;>rfl
 go_enter Tryz.func225,Tryz.ntmps225
 go_wp2_with (first|(go_at_call 148;refine (l00In_any _ _ _ _).mono ?_;rintro e w1 ⟨rfl,rfl⟩))
 go_ret
 exact⟨by rw[HE.out];rfl,by exact B0.out.trans (HB.out.mono (by first|exact Nat.le_refl _|(simp;done)|(simp;omega)))⟩
theorem isFor_any (x:DLicence) (h:ByteArray) (q:DPoint) (day:Int) (w:World) :
  Calls Tryz.prog 230 #[.agg #[.string x.id,.string x.holder,.int .i64 x.low,.int .i64 x.high,.int .i64 x.area.west,.int .i64 x.area.south,.int .i64 x.area.east,.int .i64 x.area.north,.int .i64 x.from_,.int .i64 x.until_,.int .i64 x.power],.string h,.agg #[.int .i64 q.x,.int .i64 q.y],.int .i64 day] w fun e w'=>e=.returned (.bool (isForB x h q day))∧Below w.heap.size w w':=by
 have B0:Hid (Below w.heap.size w ((w.alloc (.cells #[.string x.id,.string x.holder,.int .i64 x.low,.int .i64 x.high,.int .i64 x.area.west,.int .i64 x.area.south,.int .i64 x.area.east,.int .i64 x.area.north,.int .i64 x.from_,.int .i64 x.until_,.int .i64 x.power] 90)).alloc (.cells #[.int .i64 q.x,.int .i64 q.y] 79))):=(Below.alloc (Below.alloc (Below.refl _ _) (by first|exact Nat.le_refl _|(simp;done)|(simp;omega)) _) (by first|exact Nat.le_refl _|(simp;done)|(simp;omega)) _)
 have HD:Hid (∀ W:World,Below ((w.alloc (.cells #[.string x.id,.string x.holder,.int .i64 x.low,.int .i64 x.high,.int .i64 x.area.west,.int .i64 x.area.south,.int .i64 x.area.east,.int .i64 x.area.north,.int .i64 x.from_,.int .i64 x.until_,.int .i64 x.power] 90)).alloc (.cells #[.int .i64 q.x,.int .i64 q.y] 79)).heap.size ((w.alloc (.cells #[.string x.id,.string x.holder,.int .i64 x.low,.int .i64 x.high,.int .i64 x.area.west,.int .i64 x.area.south,.int .i64 x.area.east,.int .i64 x.area.north,.int .i64 x.from_,.int .i64 x.until_,.int .i64 x.power] 90)).alloc (.cells #[.int .i64 q.x,.int .i64 q.y] 79)) W→(W.cell? ⟨w.heap.size,0,none⟩=some (.string x.id)∧W.cell? ⟨w.heap.size,1,none⟩=some (.string x.holder)∧W.cell? ⟨w.heap.size,2,none⟩=some (.int .i64 x.low)∧W.cell? ⟨w.heap.size,3,none⟩=some (.int .i64 x.high)∧W.cell? ⟨w.heap.size,4,none⟩=some (.int .i64 x.area.west)∧W.cell? ⟨w.heap.size,5,none⟩=some (.int .i64 x.area.south)∧W.cell? ⟨w.heap.size,6,none⟩=some (.int .i64 x.area.east)∧W.cell? ⟨w.heap.size,7,none⟩=some (.int .i64 x.area.north)∧W.cell? ⟨w.heap.size,8,none⟩=some (.int .i64 x.from_)∧W.cell? ⟨w.heap.size,9,none⟩=some (.int .i64 x.until_)∧W.cell? ⟨w.heap.size,10,none⟩=some (.int .i64 x.power)∧W.cell? ⟨w.heap.size+1,0,none⟩=some (.int .i64 q.x)∧W.cell? ⟨w.heap.size+1,1,none⟩=some (.int .i64 q.y))):=fun W hW=>⟨by rw[hW.cell (p:=⟨w.heap.size,0,none⟩) (by first|(simp;done)|(simp;omega))];simp[go_sem],by rw[hW.cell (p:=⟨w.heap.size,1,none⟩) (by first|(simp;done)|(simp;omega))];simp[go_sem],by rw[hW.cell (p:=⟨w.heap.size,2,none⟩) (by first|(simp;done)|(simp;omega))];simp[go_sem],by rw[hW.cell (p:=⟨w.heap.size,3,none⟩) (by first|(simp;done)|(simp;omega))];simp[go_sem],by rw[hW.cell (p:=⟨w.heap.size,4,none⟩) (by first|(simp;done)|(simp;omega))];simp[go_sem],by rw[hW.cell (p:=⟨w.heap.size,5,none⟩) (by first|(simp;done)|(simp;omega))];simp[go_sem],by rw[hW.cell (p:=⟨w.heap.size,6,none⟩) (by first|(simp;done)|(simp;omega))];simp[go_sem],by rw[hW.cell (p:=⟨w.heap.size,7,none⟩) (by first|(simp;done)|(simp;omega))];simp[go_sem],by rw[hW.cell (p:=⟨w.heap.size,8,none⟩) (by first|(simp;done)|(simp;omega))];simp[go_sem],by rw[hW.cell (p:=⟨w.heap.size,9,none⟩) (by first|(simp;done)|(simp;omega))];simp[go_sem],by rw[hW.cell (p:=⟨w.heap.size,10,none⟩) (by first|(simp;done)|(simp;omega))];simp[go_sem],by rw[hW.cell (p:=⟨w.heap.size+1,0,none⟩) (by first|(simp;done)|(simp;omega))];simp[go_sem],by rw[hW.cell (p:=⟨w.heap.size+1,1,none⟩) (by first|(simp;done)|(simp;omega))];simp[go_sem]⟩
 have HB:Hid (Below ((w.alloc (.cells #[.string x.id,.string x.holder,.int .i64 x.low,.int .i64 x.high,.int .i64 x.area.west,.int .i64 x.area.south,.int .i64 x.area.east,.int .i64 x.area.north,.int .i64 x.from_,.int .i64 x.until_,.int .i64 x.power] 90)).alloc (.cells #[.int .i64 q.x,.int .i64 q.y] 79)).heap.size ((w.alloc (.cells #[.string x.id,.string x.holder,.int .i64 x.low,.int .i64 x.high,.int .i64 x.area.west,.int .i64 x.area.south,.int .i64 x.area.east,.int .i64 x.area.north,.int .i64 x.from_,.int .i64 x.until_,.int .i64 x.power] 90)).alloc (.cells #[.int .i64 q.x,.int .i64 q.y] 79)) ((w.alloc (.cells #[.string x.id,.string x.holder,.int .i64 x.low,.int .i64 x.high,.int .i64 x.area.west,.int .i64 x.area.south,.int .i64 x.area.east,.int .i64 x.area.north,.int .i64 x.from_,.int .i64 x.until_,.int .i64 x.power] 90)).alloc (.cells #[.int .i64 q.x,.int .i64 q.y] 79))):=Below.refl _ _
 by_cases h0:eqS x.holder h=true
 case neg =>
  replace h0:eqS x.holder h=false:=Bool.eq_false_iff.2 h0
  have h0l:(x.holder.toList == h.toList)=false:=h0
  have HE:Hid (isForB x h q day=false):=by show _=_;unfold isForB;simp only[h0]<;>rfl
  go_enter Tryz.func230,Tryz.ntmps230
  go_wp2_with (first|(go_at_call 244;refine (areaHas_any x.area q _).mono ?_;rintro e w2 ⟨rfl,hb2⟩;(try clear t0 t1 t2 t3 t4 t5 t6 t7 t8 t9 t10 t11 t12);replace HB:=Lib.hid (HB.out.trans (hb2.mono HB.out.size));clear hb2;obtain⟨t0,t1,t2,t3,t4,t5,t6,t7,t8,t9,t10,t11,t12⟩:=HD.out _ HB.out)|(go_at_call 175;refine (within_any _ _ _ _).mono ?_;rintro e w1 ⟨rfl,rfl⟩))
  go_ret
  exact⟨by rw[HE.out];rfl,by exact B0.out.trans (HB.out.mono (by first|exact Nat.le_refl _|(simp;done)|(simp;omega)))⟩
 have h0l:(x.holder.toList == h.toList)=true:=h0
 by_cases h1:areaHasB x.area q=true
 case neg =>
  replace h1:areaHasB x.area q=false:=Bool.eq_false_iff.2 h1
  have HE:Hid (isForB x h q day=false):=by show _=_;unfold isForB;simp only[h0,h1]<;>rfl
  go_enter Tryz.func230,Tryz.ntmps230
  go_wp2_with (first|(go_at_call 244;refine (areaHas_any x.area q _).mono ?_;rintro e w2 ⟨rfl,hb2⟩;(try clear t0 t1 t2 t3 t4 t5 t6 t7 t8 t9 t10 t11 t12);replace HB:=Lib.hid (HB.out.trans (hb2.mono HB.out.size));clear hb2;obtain⟨t0,t1,t2,t3,t4,t5,t6,t7,t8,t9,t10,t11,t12⟩:=HD.out _ HB.out)|(go_at_call 175;refine (within_any _ _ _ _).mono ?_;rintro e w1 ⟨rfl,rfl⟩))
  go_ret
  exact⟨by rw[HE.out];rfl,by exact B0.out.trans (HB.out.mono (by first|exact Nat.le_refl _|(simp;done)|(simp;omega)))⟩
 by_cases h2:inB day x.from_ x.until_=true
 case neg =>
  replace h2:inB day x.from_ x.until_=false:=Bool.eq_false_iff.2 h2
  have HE:Hid (isForB x h q day=false):=by show _=_;unfold isForB;simp only[h0,h1,h2]<;>rfl
  go_enter Tryz.func230,Tryz.ntmps230
  go_wp2_with (first|(go_at_call 244;refine (areaHas_any x.area q _).mono ?_;rintro e w2 ⟨rfl,hb2⟩;(try clear t0 t1 t2 t3 t4 t5 t6 t7 t8 t9 t10 t11 t12);replace HB:=Lib.hid (HB.out.trans (hb2.mono HB.out.size));clear hb2;obtain⟨t0,t1,t2,t3,t4,t5,t6,t7,t8,t9,t10,t11,t12⟩:=HD.out _ HB.out)|(go_at_call 175;refine (within_any _ _ _ _).mono ?_;rintro e w1 ⟨rfl,rfl⟩))
  go_ret
  exact⟨by rw[HE.out];rfl,by exact B0.out.trans (HB.out.mono (by first|exact Nat.le_refl _|(simp;done)|(simp;omega)))⟩
 have HE:Hid (isForB x h q day=true):=by show _=_;unfold isForB;simp only[h0,h1,h2]<;>rfl
 go_enter Tryz.func230,Tryz.ntmps230
 go_wp2_with (first|(go_at_call 244;refine (areaHas_any x.area q _).mono ?_;rintro e w2 ⟨rfl,hb2⟩;(try clear t0 t1 t2 t3 t4 t5 t6 t7 t8 t9 t10 t11 t12);replace HB:=Lib.hid (HB.out.trans (hb2.mono HB.out.size));clear hb2;obtain⟨t0,t1,t2,t3,t4,t5,t6,t7,t8,t9,t10,t11,t12⟩:=HD.out _ HB.out)|(go_at_call 175;refine (within_any _ _ _ _).mono ?_;rintro e w1 ⟨rfl,rfl⟩))
 go_ret
 exact⟨by rw[HE.out];rfl,by exact B0.out.trans (HB.out.mono (by first|exact Nat.le_refl _|(simp;done)|(simp;omega)))⟩
theorem l26Allows_any (x:DLicence) (h:ByteArray) (q:DPoint) (lo hi day:Int) (b off:Nat) (w:World) (c0:w.cell? ⟨b,off,none⟩=some (.string x.id)) (c1:w.cell? ⟨b,off+1,none⟩=some (.string x.holder)) (c2:w.cell? ⟨b,off+2,none⟩=some (.int .i64 x.low)) (c3:w.cell? ⟨b,off+3,none⟩=some (.int .i64 x.high)) (c4:w.cell? ⟨b,off+4,none⟩=some (.int .i64 x.area.west)) (c5:w.cell? ⟨b,off+5,none⟩=some (.int .i64 x.area.south)) (c6:w.cell? ⟨b,off+6,none⟩=some (.int .i64 x.area.east)) (c7:w.cell? ⟨b,off+7,none⟩=some (.int .i64 x.area.north)) (c8:w.cell? ⟨b,off+8,none⟩=some (.int .i64 x.from_)) (c9:w.cell? ⟨b,off+9,none⟩=some (.int .i64 x.until_)) (c10:w.cell? ⟨b,off+10,none⟩=some (.int .i64 x.power)) :
  Calls Tryz.prog 188 #[.pointer (some ⟨b,off,none⟩),.string h,.agg #[.int .i64 q.x,.int .i64 q.y],.int .i64 lo,.int .i64 hi,.int .i64 day] w fun e w'=>e=.returned (.bool (allowsB x h q lo hi day))∧Below w.heap.size w w':=by
 have hbl:=cell_lt c0
 dsimp only at hbl
 have b0:=below_alloc w (.cells #[.int .i64 q.x,.int .i64 q.y] 79)
 have k0:=bkN w #[.int .i64 q.x,.int .i64 q.y] 79
 have z0:w.heap.size+1≤(w.alloc (.cells #[.int .i64 q.x,.int .i64 q.y] 79)).heap.size:=by simp
 have d0:=(bat b0 b _ hbl).trans c0
 have d1:=(bat b0 b _ hbl).trans c1
 have d2:=(bat b0 b _ hbl).trans c2
 have d3:=(bat b0 b _ hbl).trans c3
 have d4:=(bat b0 b _ hbl).trans c4
 have d5:=(bat b0 b _ hbl).trans c5
 have d6:=(bat b0 b _ hbl).trans c6
 have d7:=(bat b0 b _ hbl).trans c7
 have d8:=(bat b0 b _ hbl).trans c8
 have d9:=(bat b0 b _ hbl).trans c9
 have d10:=(bat b0 b _ hbl).trans c10
 have e0:=bkC (v:=.int .i64 q.x) k0 0 rfl
 have e1:=bkC (v:=.int .i64 q.y) k0 1 rfl
 clear k0 c0 c1 c2 c3 c4 c5 c6 c7 c8 c9 c10
 generalize hW0:(w.alloc (.cells #[.int .i64 q.x,.int .i64 q.y] 79))=W0 at *
 have HW0:=Lib.hid hW0
 have B0:=Lib.hid b0
 clear hW0 b0
 have CA:Hid (∀ W:World,Calls Tryz.prog 225 #[.agg #[.int .i64 x.area.west,.int .i64 x.area.south,.int .i64 x.area.east,.int .i64 x.area.north],.agg #[.int .i64 q.x,.int .i64 q.y]] W fun e w'=>e=.returned (.bool (hasA x.area q))∧Below W.heap.size W w'):=fun W=>l26Has_any x.area q W
 have CD:Hid (∀ W:World,Calls Tryz.prog 148 #[.int .i64 day,.int .i64 x.from_,.int .i64 x.until_] W fun e w'=>e=.returned (.bool (inB day x.from_ x.until_))∧W=w'):=fun W=>l00In_any _ _ _ _
 by_cases h0:eqS x.holder h=true
 case neg =>
  replace h0:eqS x.holder h=false:=Bool.eq_false_iff.2 h0
  have hl:(x.holder.toList == h.toList)=false:=h0
  have HE:Hid (allowsB x h q lo hi day=false):=by show _=_;unfold allowsB;rw[h0];rfl
  go_enter Tryz.func188,Tryz.ntmps188
  go_upto_region 1 with (fail)
  rw[HW0.out]
  have o0:=overC (w0:=W0) (show b<W0.heap.size by omega)
  have o1:=overC (w0:=W0) (show w.heap.size<W0.heap.size by omega)
  refine wp_region_over W0.heap.size W0 (Below.refl _ _) (by kernel_rfl) (by kernel_rfl) ?_
  repeat (go_big_quiet_step (first|(go_at_call 225;exact over_left (Nat.le_refl _) (CA.out _))|(go_at_call 148;exact over_same (CD.out _))))
  refine wpQuiet_nil ?_
  rintro _ ⟨X,rfl⟩
  have BE:=Lib.hid (B0.out.trans ((over_below W0.heap.size W0 X).mono (by omega)))
  clear o0 o1
  generalize over W0.heap.size W0 X=W9 at *
  go_wp2
  go_ret
  exact⟨by rw[HE.out];rfl,BE.out⟩
 have hl:(x.holder.toList == h.toList)=true:=h0
 by_cases h1:x.low≤lo
 case neg =>
  have hd1:decide (x.low≤lo)=false:=decide_eq_false h1
  replace h1:lo<x.low:=by omega
  have HE:Hid (allowsB x h q lo hi day=false):=by show _=_;unfold allowsB;rw[h0,hd1];rfl
  go_enter Tryz.func188,Tryz.ntmps188
  go_upto_region 1 with (fail)
  rw[HW0.out]
  have o0:=overC (w0:=W0) (show b<W0.heap.size by omega)
  have o1:=overC (w0:=W0) (show w.heap.size<W0.heap.size by omega)
  refine wp_region_over W0.heap.size W0 (Below.refl _ _) (by kernel_rfl) (by kernel_rfl) ?_
  repeat (go_big_quiet_step (first|(go_at_call 225;exact over_left (Nat.le_refl _) (CA.out _))|(go_at_call 148;exact over_same (CD.out _))))
  refine wpQuiet_nil ?_
  rintro _ ⟨X,rfl⟩
  have BE:=Lib.hid (B0.out.trans ((over_below W0.heap.size W0 X).mono (by omega)))
  clear o0 o1
  generalize over W0.heap.size W0 X=W9 at *
  go_wp2
  go_ret
  exact⟨by rw[HE.out];rfl,BE.out⟩
 have hd1:decide (x.low≤lo)=true:=decide_eq_true h1
 by_cases h2:hi≤x.high
 case neg =>
  have hd2:decide (hi≤x.high)=false:=decide_eq_false h2
  replace h2:x.high<hi:=by omega
  have HE:Hid (allowsB x h q lo hi day=false):=by show _=_;unfold allowsB;rw[h0,hd1,hd2];rfl
  go_enter Tryz.func188,Tryz.ntmps188
  go_upto_region 1 with (fail)
  rw[HW0.out]
  have o0:=overC (w0:=W0) (show b<W0.heap.size by omega)
  have o1:=overC (w0:=W0) (show w.heap.size<W0.heap.size by omega)
  refine wp_region_over W0.heap.size W0 (Below.refl _ _) (by kernel_rfl) (by kernel_rfl) ?_
  repeat (go_big_quiet_step (first|(go_at_call 225;exact over_left (Nat.le_refl _) (CA.out _))|(go_at_call 148;exact over_same (CD.out _))))
  refine wpQuiet_nil ?_
  rintro _ ⟨X,rfl⟩
  have BE:=Lib.hid (B0.out.trans ((over_below W0.heap.size W0 X).mono (by omega)))
  clear o0 o1
  generalize over W0.heap.size W0 X=W9 at *
  go_wp2
  go_ret
  exact⟨by rw[HE.out];rfl,BE.out⟩
 have hd2:decide (hi≤x.high)=true:=decide_eq_true h2
 by_cases h3:hasA x.area q=true
 case neg =>
  replace h3:hasA x.area q=false:=Bool.eq_false_iff.2 h3
  rw[h3] at CA
  have HE:Hid (allowsB x h q lo hi day=false):=by show _=_;unfold allowsB;rw[h0,hd1,hd2,h3];rfl
  go_enter Tryz.func188,Tryz.ntmps188
  go_upto_region 1 with (fail)
  rw[HW0.out]
  have o0:=overC (w0:=W0) (show b<W0.heap.size by omega)
  have o1:=overC (w0:=W0) (show w.heap.size<W0.heap.size by omega)
  refine wp_region_over W0.heap.size W0 (Below.refl _ _) (by kernel_rfl) (by kernel_rfl) ?_
  repeat (go_big_quiet_step (first|(go_at_call 225;exact over_left (Nat.le_refl _) (CA.out _))|(go_at_call 148;exact over_same (CD.out _))))
  refine wpQuiet_nil ?_
  rintro _ ⟨X,rfl⟩
  have BE:=Lib.hid (B0.out.trans ((over_below W0.heap.size W0 X).mono (by omega)))
  clear o0 o1
  generalize over W0.heap.size W0 X=W9 at *
  go_wp2
  go_ret
  exact⟨by rw[HE.out];rfl,BE.out⟩
 rw[h3] at CA
 by_cases h4:inB day x.from_ x.until_=true
 case neg =>
  replace h4:inB day x.from_ x.until_=false:=Bool.eq_false_iff.2 h4
  rw[h4] at CD
  have HE:Hid (allowsB x h q lo hi day=false):=by show _=_;unfold allowsB;rw[h0,hd1,hd2,h3,h4];rfl
  go_enter Tryz.func188,Tryz.ntmps188
  go_upto_region 1 with (fail)
  rw[HW0.out]
  have o0:=overC (w0:=W0) (show b<W0.heap.size by omega)
  have o1:=overC (w0:=W0) (show w.heap.size<W0.heap.size by omega)
  refine wp_region_over W0.heap.size W0 (Below.refl _ _) (by kernel_rfl) (by kernel_rfl) ?_
  repeat (go_big_quiet_step (first|(go_at_call 225;exact over_left (Nat.le_refl _) (CA.out _))|(go_at_call 148;exact over_same (CD.out _))))
  refine wpQuiet_nil ?_
  rintro _ ⟨X,rfl⟩
  have BE:=Lib.hid (B0.out.trans ((over_below W0.heap.size W0 X).mono (by omega)))
  clear o0 o1
  generalize over W0.heap.size W0 X=W9 at *
  go_wp2
  go_ret
  exact⟨by rw[HE.out];rfl,BE.out⟩
 rw[h4] at CD
 have HE:Hid (allowsB x h q lo hi day=true):=by show _=_;unfold allowsB;rw[h0,hd1,hd2,h3,h4];rfl
 go_enter Tryz.func188,Tryz.ntmps188
 go_upto_region 1 with (fail)
 rw[HW0.out]
 have o0:=overC (w0:=W0) (show b<W0.heap.size by omega)
 have o1:=overC (w0:=W0) (show w.heap.size<W0.heap.size by omega)
 refine wp_region_over W0.heap.size W0 (Below.refl _ _) (by kernel_rfl) (by kernel_rfl) ?_
 repeat (go_big_quiet_step (first|(go_at_call 225;exact over_left (Nat.le_refl _) (CA.out _))|(go_at_call 148;exact over_same (CD.out _))))
 refine wpQuiet_nil ?_
 rintro _ ⟨X,rfl⟩
 have BE:=Lib.hid (B0.out.trans ((over_below W0.heap.size W0 X).mono (by omega)))
 clear o0 o1
 generalize over W0.heap.size W0 X=W9 at *
 go_wp2
 go_ret
 exact⟨by rw[HE.out];rfl,BE.out⟩
theorem licenceFor_any (l:List DLicence) (h:ByteArray) (q:DPoint) (lo hi day:Int) (v:Value) (B:Nat) (w:World) (hr:Rd B w (DLicence.sT l) v) (hB:B≤w.heap.size) (hn:l.length≤1099511627776) (hv:holdB l=true) (hk:∀ x ∈ l,x.ok) :
  Calls Tryz.prog 194 #[v,.string h,.agg #[.int .i64 q.x,.int .i64 q.y],.int .i64 lo,.int .i64 hi,.int .i64 day] w fun e w'=>((∃ k,k<l.length∧firstIdx' (fun x=>forB x h q lo hi day) l=(k:Int)∧e=.returned (.tuple #[.agg #[.string (gLicence l k).id,.string (gLicence l k).holder,.int .i64 (gLicence l k).low,.int .i64 (gLicence l k).high,.int .i64 (gLicence l k).area.west,.int .i64 (gLicence l k).area.south,.int .i64 (gLicence l k).area.east,.int .i64 (gLicence l k).area.north,.int .i64 (gLicence l k).from_,.int .i64 (gLicence l k).until_,.int .i64 (gLicence l k).power],.int .i64 0]))∨(firstIdx' (fun x=>forB x h q lo hi day) l = -1∧e=.returned (.tuple #[.agg #[.string ⟨#[]⟩,.string ⟨#[]⟩,.int .i64 0,.int .i64 0,.int .i64 0,.int .i64 0,.int .i64 0,.int .i64 0,.int .i64 0,.int .i64 0,.int .i64 0],.int .i64 3])))∧Below w.heap.size w w':=by
 have HRD:=Lib.hid hr
 obtain⟨a,c,rfl,_,_,hcl⟩:=DLicence.rd hr
 have HCL:=Lib.hid hcl
 clear hcl hr
 have hni:(l.length:Int)≤1099511627776:=by omega
 obtain⟨W0,hW0,b0,z0,k0,k1⟩:=boxes2 w #[.int .i64 q.x,.int .i64 q.y] 79 #[.string ⟨#[]⟩,.string ⟨#[]⟩,.int .i64 0,.int .i64 0,.int .i64 0,.int .i64 0,.int .i64 0,.int .i64 0,.int .i64 0,.int .i64 0,.int .i64 0] 90
 have HW0:=Lib.hid hW0
 clear hW0
 have B0:=Lib.hid b0
 clear b0
 have K0:=Lib.hid k0
 clear k0
 have K1:=Lib.hid k1
 clear k1
 have HD:Hid (∀ W:World,Below W0.heap.size W0 W→(W.cell? ⟨w.heap.size,0,none⟩=some (.int .i64 q.x)∧W.cell? ⟨w.heap.size,1,none⟩=some (.int .i64 q.y)∧W.cell? ⟨w.heap.size+1,0,none⟩=some (.string ⟨#[]⟩)∧W.cell? ⟨w.heap.size+1,1,none⟩=some (.string ⟨#[]⟩)∧W.cell? ⟨w.heap.size+1,2,none⟩=some (.int .i64 0)∧W.cell? ⟨w.heap.size+1,3,none⟩=some (.int .i64 0)∧W.cell? ⟨w.heap.size+1,4,none⟩=some (.int .i64 0)∧W.cell? ⟨w.heap.size+1,5,none⟩=some (.int .i64 0)∧W.cell? ⟨w.heap.size+1,6,none⟩=some (.int .i64 0)∧W.cell? ⟨w.heap.size+1,7,none⟩=some (.int .i64 0)∧W.cell? ⟨w.heap.size+1,8,none⟩=some (.int .i64 0)∧W.cell? ⟨w.heap.size+1,9,none⟩=some (.int .i64 0)∧W.cell? ⟨w.heap.size+1,10,none⟩=some (.int .i64 0))):=fun W hW=>⟨bkC (bkB K0.out hW (by omega)) 0 rfl,bkC (bkB K0.out hW (by omega)) 1 rfl,bkC (bkB K1.out hW (by omega)) 0 rfl,bkC (bkB K1.out hW (by omega)) 1 rfl,bkC (bkB K1.out hW (by omega)) 2 rfl,bkC (bkB K1.out hW (by omega)) 3 rfl,bkC (bkB K1.out hW (by omega)) 4 rfl,bkC (bkB K1.out hW (by omega)) 5 rfl,bkC (bkB K1.out hW (by omega)) 6 rfl,bkC (bkB K1.out hW (by omega)) 7 rfl,bkC (bkB K1.out hW (by omega)) 8 rfl,bkC (bkB K1.out hW (by omega)) 9 rfl,bkC (bkB K1.out hW (by omega)) 10 rfl⟩
 have HB:Hid (Below W0.heap.size W0 W0):=Below.refl _ _
 have HH:Hid (∀ W:World,Below W0.heap.size W0 W→Below w.heap.size w W):=fun W hW=>B0.out.trans (hW.mono (by omega))
 have CV:Hid (∀ W:World,Below W0.heap.size W0 W→Calls Tryz.prog 110 #[.slice a l.length c] W fun e w'=>e=.returned (.bool true)∧Below W.heap.size W w'):=fun W hW=>by
  have t:=iValidHoldings_any l _ B W (HRD.out.below ((HH.out W hW).mono hB)) (Nat.le_trans hB (HH.out W hW).size) hk hn
  rw[hv] at t
  exact t
 have K1Z:=Lib.hid K1.out
 go_enter Tryz.func194,Tryz.ntmps194
 go_upto_region 1 with (fail)
 rw[HW0.out]
 obtain⟨t0,t1,t2,t3,t4,t5,t6,t7,t8,t9,t10,t11,t12⟩:=HD.out _ HB.out
 go_wp2_with (go_at_call 110;with_reducible refine (CV.out _ HB.out).mono ?_;rintro e w2 ⟨rfl,hb2⟩;(try clear t0 t1 t2 t3 t4 t5 t6 t7 t8 t9 t10 t11 t12);replace HB:=Lib.hid (HB.out.trans (hb2.mono HB.out.size));clear hb2;obtain⟨t0,t1,t2,t3,t4,t5,t6,t7,t8,t9,t10,t11,t12⟩:=HD.out _ HB.out)
 have HBS:=Lib.hid HB.out
 clear t0 t1 t2 t3 t4 t5 t6 t7 t8 t9 t10 t11 t12
 go_loopw [22] (fun i wr=>∃ (k:Nat),k≤l.length∧i=.int .i64 k∧(l.take k).any (fun x=>forB x h q lo hi day)=false∧Below W0.heap.size W0 wr) (fun i wr=>l.length-(intOf i).toNat)
 case atStart=>exact⟨0,Nat.zero_le _,rfl,by simp,HBS.out⟩
 case round =>
  obtain⟨k,hk1,rfl,hno,hb⟩:=hrel
  have HN:=Lib.hid hno
  have HBR:=Lib.hid hb
  have zb:=hb.size
  clear hno hb
  have hbw:=HH.out _ HBR.out
  have zw:=hbw.size
  by_cases hlt:k<l.length
  ·obtain⟨b,off,ea,hbl,hat⟩:=HCL.out (by omega)
   subst ea
   obtain⟨s0,s1,s2,s3,s4,s5,s6,s7,s8,s9,s10⟩:=hat k hlt
   rw[gLicence_eq hlt,← bat hbw b _ (by omega)] at s0 s1 s2 s3 s4 s5 s6 s7 s8 s9 s10
   have HT:Hid (forB (gLicence l k) h q lo hi day=true→firstIdx' (fun x=>forB x h q lo hi day) l=(k:Int)):=fun e=>firstIdx_at _ l k hlt (by rw[gLicence_eq hlt];exact e) HN.out
   have HF:Hid (forB (gLicence l k) h q lo hi day=false→(l.take (k+1)).any (fun x=>forB x h q lo hi day)=false):=fun e=>by rw[any_take_succ _ l k hlt,HN.out,gLicence_eq hlt,e];rfl
   have HG:Hid (gLicence l k=gLicence l k):=rfl
   generalize hA:gLicence l k=A at *
   have HA:=Lib.hid hA
   clear hA hat hbw HG
   have i1:(0:Int)≤(k:Int):=by omega
   have i2:(k:Int)<(l.length:Int):=by omega
   have CI:Hid (∀ W:World,Calls Tryz.prog 230 #[.agg #[.string A.id,.string A.holder,.int .i64 A.low,.int .i64 A.high,.int .i64 A.area.west,.int .i64 A.area.south,.int .i64 A.area.east,.int .i64 A.area.north,.int .i64 A.from_,.int .i64 A.until_,.int .i64 A.power],.string h,.agg #[.int .i64 q.x,.int .i64 q.y],.int .i64 day] W fun e w'=>e=.returned (.bool (isForB A h q day))∧Below W.heap.size W w'):=fun W=>isFor_any A h q day W
   go_upto_region 6 with (fail)
   have b1:Below wr.heap.size wr (wr.alloc (.cells #[.string A.id,.string A.holder,.int .i64 A.low,.int .i64 A.high,.int .i64 A.area.west,.int .i64 A.area.south,.int .i64 A.area.east,.int .i64 A.area.north,.int .i64 A.from_,.int .i64 A.until_,.int .i64 A.power] 90)):=(Below.refl _ _).alloc (Nat.le_refl _) _
   have k1:=bkN wr #[.string A.id,.string A.holder,.int .i64 A.low,.int .i64 A.high,.int .i64 A.area.west,.int .i64 A.area.south,.int .i64 A.area.east,.int .i64 A.area.north,.int .i64 A.from_,.int .i64 A.until_,.int .i64 A.power] 90
   have fz:wr.heap.size<(wr.alloc (.cells #[.string A.id,.string A.holder,.int .i64 A.low,.int .i64 A.high,.int .i64 A.area.west,.int .i64 A.area.south,.int .i64 A.area.east,.int .i64 A.area.north,.int .i64 A.from_,.int .i64 A.until_,.int .i64 A.power] 90)).heap.size:=by simp
   generalize (wr.alloc (.cells #[.string A.id,.string A.holder,.int .i64 A.low,.int .i64 A.high,.int .i64 A.area.west,.int .i64 A.area.south,.int .i64 A.area.east,.int .i64 A.area.north,.int .i64 A.from_,.int .i64 A.until_,.int .i64 A.power] 90))=W1 at *
   have K1:=Lib.hid k1
   have BS:=Lib.hid (HBR.out.trans (b1.mono zb))
   have zz:=b1.size
   clear b1 k1 s0 s1 s2 s3 s4 s5 s6 s7 s8 s9 s10
   have HE1:Hid (∀ W:World,Below W1.heap.size W1 W→(W.cell? ⟨wr.heap.size,0,none⟩=some (.string A.id)∧W.cell? ⟨wr.heap.size,1,none⟩=some (.string A.holder)∧W.cell? ⟨wr.heap.size,2,none⟩=some (.int .i64 A.low)∧W.cell? ⟨wr.heap.size,3,none⟩=some (.int .i64 A.high)∧W.cell? ⟨wr.heap.size,4,none⟩=some (.int .i64 A.area.west)∧W.cell? ⟨wr.heap.size,5,none⟩=some (.int .i64 A.area.south)∧W.cell? ⟨wr.heap.size,6,none⟩=some (.int .i64 A.area.east)∧W.cell? ⟨wr.heap.size,7,none⟩=some (.int .i64 A.area.north)∧W.cell? ⟨wr.heap.size,8,none⟩=some (.int .i64 A.from_)∧W.cell? ⟨wr.heap.size,9,none⟩=some (.int .i64 A.until_)∧W.cell? ⟨wr.heap.size,10,none⟩=some (.int .i64 A.power)∧W.cell? ⟨w.heap.size,0,none⟩=some (.int .i64 q.x)∧W.cell? ⟨w.heap.size,1,none⟩=some (.int .i64 q.y))):=fun W hW=>⟨bkC (bkB K1.out hW fz) 0 rfl,bkC (bkB K1.out hW fz) 1 rfl,bkC (bkB K1.out hW fz) 2 rfl,bkC (bkB K1.out hW fz) 3 rfl,bkC (bkB K1.out hW fz) 4 rfl,bkC (bkB K1.out hW fz) 5 rfl,bkC (bkB K1.out hW fz) 6 rfl,bkC (bkB K1.out hW fz) 7 rfl,bkC (bkB K1.out hW fz) 8 rfl,bkC (bkB K1.out hW fz) 9 rfl,bkC (bkB K1.out hW fz) 10 rfl,(HD.out W (BS.out.trans (hW.mono (by omega)))).1,(HD.out W (BS.out.trans (hW.mono (by omega)))).2.1⟩
   obtain⟨u0,u1,u2,u3,u4,u5,u6,u7,u8,u9,u10,u11,u12⟩:=HE1.out _ (Below.refl _ _)
   by_cases h0:isForB A h q day=true
   case neg =>
    replace h0:isForB A h q day=false:=Bool.eq_false_iff.2 h0
    rw[h0] at CI
    have HE:Hid (forB A h q lo hi day=false):=by show _=_;unfold forB;rw[h0];rfl
    go_wp2_with (go_at_call 230;with_reducible refine (CI.out _).mono ?_;rintro e w3 ⟨rfl,hb3⟩;clear u0 u1 u2 u3 u4 u5 u6 u7 u8 u9 u10 u11 u12;obtain⟨u0,u1,u2,u3,u4,u5,u6,u7,u8,u9,u10,u11,u12⟩:=HE1.out _ hb3;have HB3:=Lib.hid hb3;clear hb3)
    go_roundw
    case rel=>exact⟨k+1,by omega,by go_num,HF.out HE.out,BS.out.trans (HB3.out.mono (by omega))⟩
    case measure=>simp[intOf];omega
   rw[h0] at CI
   by_cases h1:lo<hi
   case neg =>
    have hd1:decide (lo<hi)=false:=decide_eq_false h1
    replace h1:hi≤lo:=by omega
    have HE:Hid (forB A h q lo hi day=false):=by show _=_;unfold forB;rw[h0,hd1];rfl
    go_wp2_with (go_at_call 230;with_reducible refine (CI.out _).mono ?_;rintro e w3 ⟨rfl,hb3⟩;clear u0 u1 u2 u3 u4 u5 u6 u7 u8 u9 u10 u11 u12;obtain⟨u0,u1,u2,u3,u4,u5,u6,u7,u8,u9,u10,u11,u12⟩:=HE1.out _ hb3;have HB3:=Lib.hid hb3;clear hb3)
    go_roundw
    case rel=>exact⟨k+1,by omega,by go_num,HF.out HE.out,BS.out.trans (HB3.out.mono (by omega))⟩
    case measure=>simp[intOf];omega
   have hd1:decide (lo<hi)=true:=decide_eq_true h1
   by_cases h2:A.low≤lo
   case neg =>
    have hd2:decide (A.low≤lo)=false:=decide_eq_false h2
    replace h2:lo<A.low:=by omega
    have HE:Hid (forB A h q lo hi day=false):=by show _=_;unfold forB;rw[h0,hd1,hd2];rfl
    go_wp2_with (go_at_call 230;with_reducible refine (CI.out _).mono ?_;rintro e w3 ⟨rfl,hb3⟩;clear u0 u1 u2 u3 u4 u5 u6 u7 u8 u9 u10 u11 u12;obtain⟨u0,u1,u2,u3,u4,u5,u6,u7,u8,u9,u10,u11,u12⟩:=HE1.out _ hb3;have HB3:=Lib.hid hb3;clear hb3)
    go_roundw
    case rel=>exact⟨k+1,by omega,by go_num,HF.out HE.out,BS.out.trans (HB3.out.mono (by omega))⟩
    case measure=>simp[intOf];omega
   have hd2:decide (A.low≤lo)=true:=decide_eq_true h2
   by_cases h3:hi≤A.high
   case neg =>
    have hd3:decide (hi≤A.high)=false:=decide_eq_false h3
    replace h3:A.high<hi:=by omega
    have HE:Hid (forB A h q lo hi day=false):=by show _=_;unfold forB;rw[h0,hd1,hd2,hd3];rfl
    go_wp2_with (go_at_call 230;with_reducible refine (CI.out _).mono ?_;rintro e w3 ⟨rfl,hb3⟩;clear u0 u1 u2 u3 u4 u5 u6 u7 u8 u9 u10 u11 u12;obtain⟨u0,u1,u2,u3,u4,u5,u6,u7,u8,u9,u10,u11,u12⟩:=HE1.out _ hb3;have HB3:=Lib.hid hb3;clear hb3)
    go_roundw
    case rel=>exact⟨k+1,by omega,by go_num,HF.out HE.out,BS.out.trans (HB3.out.mono (by omega))⟩
    case measure=>simp[intOf];omega
   have hd3:decide (hi≤A.high)=true:=decide_eq_true h3
   have HE:Hid (forB A h q lo hi day=true):=by show _=_;unfold forB;rw[h0,hd1,hd2,hd3];rfl
   go_upto_region 7 with (go_at_call 230;with_reducible refine (CI.out _).mono ?_;rintro e w3 ⟨rfl,hb3⟩;clear u0 u1 u2 u3 u4 u5 u6 u7 u8 u9 u10 u11 u12;obtain⟨u0,u1,u2,u3,u4,u5,u6,u7,u8,u9,u10,u11,u12⟩:=HE1.out _ hb3;have HB3:=Lib.hid hb3;clear hb3)
   have hb5:=BS.out.trans (HB3.out.mono (by omega))
   have K5:=Lib.hid (bkB K1Z.out hb5 (by omega))
   have B5:=Lib.hid (HH.out _ hb5)
   clear hb5
   have g0:=bkC (v:=.string ⟨#[]⟩) K5.out 0 rfl
   have g1:=bkC (v:=.string ⟨#[]⟩) K5.out 1 rfl
   have g2:=bkC (v:=.int .i64 0) K5.out 2 rfl
   have g3:=bkC (v:=.int .i64 0) K5.out 3 rfl
   have g4:=bkC (v:=.int .i64 0) K5.out 4 rfl
   have g5:=bkC (v:=.int .i64 0) K5.out 5 rfl
   have g6:=bkC (v:=.int .i64 0) K5.out 6 rfl
   have g7:=bkC (v:=.int .i64 0) K5.out 7 rfl
   have g8:=bkC (v:=.int .i64 0) K5.out 8 rfl
   have g9:=bkC (v:=.int .i64 0) K5.out 9 rfl
   have g10:=bkC (v:=.int .i64 0) K5.out 10 rfl
   have gz:=bkF K5.out
   go_wp2
   refine bodyPost_ret (v:=.tuple #[.agg #[.string A.id,.string A.holder,.int .i64 A.low,.int .i64 A.high,.int .i64 A.area.west,.int .i64 A.area.south,.int .i64 A.area.east,.int .i64 A.area.north,.int .i64 A.from_,.int .i64 A.until_,.int .i64 A.power],.int .i64 0]) (by simp[results,Tryz.results194,go_sem, *]) rfl ?_
   exact⟨Or.inl ⟨k,hlt,HT.out HE.out,by rw[HA.out]⟩,(bset (bset (bset (bset (bset (bset (bset (bset (bset (bset (bset B5.out (by omega) 0 _) (by omega) 1 _) (by omega) 2 _) (by omega) 3 _) (by omega) 4 _) (by omega) 5 _) (by omega) 6 _) (by omega) 7 _) (by omega) 8 _) (by omega) 9 _) (by omega) 10 _)⟩
  ·obtain rfl:k=l.length:=by omega
   have hno:=HN.out
   rw[List.take_length] at hno
   have HE:=Lib.hid (firstIdx_none _ l hno)
   have K5:=Lib.hid (bkB K1Z.out HBR.out (by omega))
   have B5:=Lib.hid hbw
   clear hno hbw
   have g0:=bkC (v:=.string ⟨#[]⟩) K5.out 0 rfl
   have g1:=bkC (v:=.string ⟨#[]⟩) K5.out 1 rfl
   have g2:=bkC (v:=.int .i64 0) K5.out 2 rfl
   have g3:=bkC (v:=.int .i64 0) K5.out 3 rfl
   have g4:=bkC (v:=.int .i64 0) K5.out 4 rfl
   have g5:=bkC (v:=.int .i64 0) K5.out 5 rfl
   have g6:=bkC (v:=.int .i64 0) K5.out 6 rfl
   have g7:=bkC (v:=.int .i64 0) K5.out 7 rfl
   have g8:=bkC (v:=.int .i64 0) K5.out 8 rfl
   have g9:=bkC (v:=.int .i64 0) K5.out 9 rfl
   have g10:=bkC (v:=.int .i64 0) K5.out 10 rfl
   have gz:=bkF K5.out
   go_wp2
   refine bodyPost_ret (v:=.tuple #[.agg #[.string ⟨#[]⟩,.string ⟨#[]⟩,.int .i64 0,.int .i64 0,.int .i64 0,.int .i64 0,.int .i64 0,.int .i64 0,.int .i64 0,.int .i64 0,.int .i64 0],.int .i64 3]) (by simp[results,Tryz.results194,go_sem, *]) rfl ?_
   exact⟨Or.inr ⟨HE.out,rfl⟩,(bset (bset (bset (bset (bset (bset (bset (bset (bset (bset (bset B5.out (by omega) 0 _) (by omega) 1 _) (by omega) 2 _) (by omega) 3 _) (by omega) 4 _) (by omega) 5 _) (by omega) 6 _) (by omega) 7 _) (by omega) 8 _) (by omega) 9 _) (by omega) 10 _)⟩
open Go.RowKit
set_option linter.unusedVariables false
set_option linter.unusedSimpArgs false
def siteN (p:DPlan) (x:DSector):DSite:=gSite p.network.sites (idxSite p.network.sites x.site).toNat
def licIdx (p:DPlan) (x:DSector):Int:=if hasB p x=true then firstIdx' (fun y=>allowsB y (siteN p x).holder (siteN p x).place (rngLow p x) (rngHigh p x) p.day) p.licences else -1
theorem refers_site {p:DPlan} {x:DSector} (h:refersB p.network x=true):(idxSite p.network.sites x.site).toNat<p.network.sites.length∧((idxSite p.network.sites x.site).toNat:Int)=idxSite p.network.sites x.site:=by
 unfold refersB at h
 simp only[Bool.and_eq_true,decide_eq_true_eq] at h
 have:=firstIdx_bounds (fun y:DSite=>eqS y.name x.site) p.network.sites
 have h1:=h.1
 unfold idxSite at h1 ⊢
 omega
theorem planB_lics {p:DPlan} (h:planB p=true):holdB p.licences=true∧∀ y ∈ p.licences,licB y=true:=by
 unfold planB at h
 simp only[Bool.and_eq_true] at h
 have h1:=h.2.2.2.1
 refine⟨h1,?_⟩
 unfold holdB at h1
 rw[Bool.and_eq_true,List.all_eq_true] at h1
 have:=okL_prev (l:=p.licences) (k:=p.licences.length) (fun j hj=>h1.2 j (by simpa using hj)) (Nat.le_refl _)
 rwa [List.take_length] at this
theorem firstIdx_congr {α:Type} {f g:α→Bool} {l:List α} (h:∀ y ∈ l,f y=g y):firstIdx' f l=firstIdx' g l:=by
 unfold firstIdx'
 have:l.findIdx? f=l.findIdx? g:=by
  induction l with
  | nil=>rfl
  | cons x l ih =>
   simp only[List.findIdx?_cons,h x (by simp),ih (fun y hy=>h y (by simp[hy]))]
 rw[this]
theorem rng_lt {p:DPlan} {x:DSector} (hv:∀ j,j<p.bands.length→bandB (gBand p.bands j)=true) (h:hasB p x=true):rngLow p x<rngHigh p x:=by
 have h1:=bandB_facts (hasB_facts hv h).2.1
 rw[rngHigh_eq]
 omega
theorem siteOf_any (p:DPlan) (x:DSector) (v3 v4 v5 v6 v7 v8 v9 v10 v11 v12:Value) (w:World) (h5:Rd w.heap.size w (DSite.sT p.network.sites) v5) (hn:p.network.sites.length≤1099511627776) (hr:refersB p.network x=true) :
  Calls Tryz.prog 136 #[.agg #[.int .i64 p.terrain.step,.int .i64 p.terrain.width,.int .i64 p.terrain.height,v3,v4,v5,v6,v7,v8,v9,v10,v11,v12,.int .i64 p.day],.agg #[.string x.name,.string x.site,.string x.antenna,.string x.radio,.string x.band,.int .i64 x.azimuth,.int .i64 x.tilt,.int .i64 x.above,.int .i64 x.channel]] w fun e w'=>e=.returned (.agg #[.string (siteN p x).name,.string (siteN p x).holder,.int .i64 (siteN p x).place.x,.int .i64 (siteN p x).place.y])∧Below w.heap.size w w':=by
 obtain⟨hl,hlc⟩:=refers_site hr
 clear hr
 have H5:=Lib.hid h5
 obtain⟨a5,k5,e5,_,_,hcl⟩:=DSite.rd h5
 subst e5
 have HS:=Lib.hid h5
 obtain⟨bs,os,es,hbs,hat⟩:=hcl (by omega)
 subst es
 obtain⟨s0,s1,s2,s3⟩:=hat _ hl
 rw[gSite_eq hl] at s0 s1 s2 s3
 clear hat h5 hcl
 have HX:Hid (siteN p x=gSite p.network.sites (idxSite p.network.sites x.site).toNat):=rfl
 rw[← HX.out] at s0 s1 s2 s3
 have m5:(p.network.sites.length:Int)≤1099511627776:=by omega
 obtain⟨W0,hW0,b0,z0,k0,k1,k2⟩:=boxes3 w #[.int .i64 p.terrain.step,.int .i64 p.terrain.width,.int .i64 p.terrain.height,v3,v4,.slice (some ⟨bs,os,none⟩) p.network.sites.length k5,v6,v7,v8,v9,v10,v11,v12,.int .i64 p.day] 53 #[.string x.name,.string x.site,.string x.antenna,.string x.radio,.string x.band,.int .i64 x.azimuth,.int .i64 x.tilt,.int .i64 x.above,.int .i64 x.channel] 128 #[.string ⟨#[]⟩,.string ⟨#[]⟩,.int .i64 0,.int .i64 0] 132
 have HW0:=Lib.hid hW0
 clear hW0
 have B0:=Lib.hid b0
 clear b0
 have K0:=Lib.hid k0
 clear k0
 have K1:=Lib.hid k1
 clear k1
 have K2:=Lib.hid k2
 clear k2
 have HD:Hid (∀ W:World,Below W0.heap.size W0 W→(W.cell? ⟨w.heap.size,0,none⟩=some (.int .i64 p.terrain.step)∧W.cell? ⟨w.heap.size,1,none⟩=some (.int .i64 p.terrain.width)∧W.cell? ⟨w.heap.size,2,none⟩=some (.int .i64 p.terrain.height)∧W.cell? ⟨w.heap.size,3,none⟩=some (v3)∧W.cell? ⟨w.heap.size,4,none⟩=some (v4)∧W.cell? ⟨w.heap.size,5,none⟩=some (.slice (some ⟨bs,os,none⟩) p.network.sites.length k5)∧W.cell? ⟨w.heap.size,6,none⟩=some (v6)∧W.cell? ⟨w.heap.size,7,none⟩=some (v7)∧W.cell? ⟨w.heap.size,8,none⟩=some (v8)∧W.cell? ⟨w.heap.size,9,none⟩=some (v9)∧W.cell? ⟨w.heap.size,10,none⟩=some (v10)∧W.cell? ⟨w.heap.size,11,none⟩=some (v11)∧W.cell? ⟨w.heap.size,12,none⟩=some (v12)∧W.cell? ⟨w.heap.size,13,none⟩=some (.int .i64 p.day)∧W.cell? ⟨w.heap.size+1,0,none⟩=some (.string x.name)∧W.cell? ⟨w.heap.size+1,1,none⟩=some (.string x.site)∧W.cell? ⟨w.heap.size+1,2,none⟩=some (.string x.antenna)∧W.cell? ⟨w.heap.size+1,3,none⟩=some (.string x.radio)∧W.cell? ⟨w.heap.size+1,4,none⟩=some (.string x.band)∧W.cell? ⟨w.heap.size+1,5,none⟩=some (.int .i64 x.azimuth)∧W.cell? ⟨w.heap.size+1,6,none⟩=some (.int .i64 x.tilt)∧W.cell? ⟨w.heap.size+1,7,none⟩=some (.int .i64 x.above)∧W.cell? ⟨w.heap.size+1,8,none⟩=some (.int .i64 x.channel)∧W.cell? ⟨w.heap.size+2,0,none⟩=some (.string ⟨#[]⟩)∧W.cell? ⟨w.heap.size+2,1,none⟩=some (.string ⟨#[]⟩)∧W.cell? ⟨w.heap.size+2,2,none⟩=some (.int .i64 0)∧W.cell? ⟨w.heap.size+2,3,none⟩=some (.int .i64 0))):=fun W hW=>⟨bkC (bkB K0.out hW (by omega)) 0 rfl,bkC (bkB K0.out hW (by omega)) 1 rfl,bkC (bkB K0.out hW (by omega)) 2 rfl,bkC (bkB K0.out hW (by omega)) 3 rfl,bkC (bkB K0.out hW (by omega)) 4 rfl,bkC (bkB K0.out hW (by omega)) 5 rfl,bkC (bkB K0.out hW (by omega)) 6 rfl,bkC (bkB K0.out hW (by omega)) 7 rfl,bkC (bkB K0.out hW (by omega)) 8 rfl,bkC (bkB K0.out hW (by omega)) 9 rfl,bkC (bkB K0.out hW (by omega)) 10 rfl,bkC (bkB K0.out hW (by omega)) 11 rfl,bkC (bkB K0.out hW (by omega)) 12 rfl,bkC (bkB K0.out hW (by omega)) 13 rfl,bkC (bkB K1.out hW (by omega)) 0 rfl,bkC (bkB K1.out hW (by omega)) 1 rfl,bkC (bkB K1.out hW (by omega)) 2 rfl,bkC (bkB K1.out hW (by omega)) 3 rfl,bkC (bkB K1.out hW (by omega)) 4 rfl,bkC (bkB K1.out hW (by omega)) 5 rfl,bkC (bkB K1.out hW (by omega)) 6 rfl,bkC (bkB K1.out hW (by omega)) 7 rfl,bkC (bkB K1.out hW (by omega)) 8 rfl,bkC (bkB K2.out hW (by omega)) 0 rfl,bkC (bkB K2.out hW (by omega)) 1 rfl,bkC (bkB K2.out hW (by omega)) 2 rfl,bkC (bkB K2.out hW (by omega)) 3 rfl⟩
 have HB:Hid (Below W0.heap.size W0 W0):=Below.refl _ _
 have HH:Hid (∀ W:World,Below W0.heap.size W0 W→Below w.heap.size w W):=fun W hW=>B0.out.trans (hW.mono (by omega))
 have CN:Hid (∀ W:World,Below W0.heap.size W0 W→Calls Tryz.prog 191 #[.agg #[.slice (some ⟨bs,os,none⟩) p.network.sites.length k5,v6,v7,v8],.string x.site] W fun e w'=>e=.returned (.int .i64 (idxSite p.network.sites x.site))∧Below W.heap.size W w'):=fun W hW=>siteNamed_any p.network.sites x.site _ v6 v7 v8 w.heap.size W (H5.out.below (HH.out W hW)) (HH.out W hW).size hn
 rw[← hlc] at CN
 generalize (idxSite p.network.sites x.site).toNat=k at *
 clear hlc
 generalize siteN p x=y at *
 clear HX
 have i1:(0:Int)≤(k:Int):=by omega
 have i2:(k:Int)<(p.network.sites.length:Int):=by omega
 rw[← bat B0.out bs _ hbs] at s0 s1 s2 s3
 go_enter Tryz.func136,Tryz.ntmps136
 go_upto_region 1 with (fail)
 rw[HW0.out]
 obtain⟨t0,t1,t2,t3,t4,t5,t6,t7,t8,t9,t10,t11,t12,t13,t14,t15,t16,t17,t18,t19,t20,t21,t22,t23,t24,t25,t26⟩:=HD.out _ HB.out
 have oP:=overC (w0:=W0) (show w.heap.size<W0.heap.size by omega)
 have oX:=overC (w0:=W0) (show w.heap.size+1<W0.heap.size by omega)
 have oB:=overC (w0:=W0) (show bs<W0.heap.size by omega)
 refine wp_region_over_tail 10 W0.heap.size W0 (Below.refl _ _) (by kernel_rfl) (by kernel_rfl) ?_
 simp only[List.take_succ_cons,List.take_zero,List.drop_succ_cons,List.drop_zero]
 repeat (go_big_quiet_step ((go_at_call 191;with_reducible exact over_left (Nat.le_refl _) (CN.out _ (over_below _ _ _)))))
 refine wpQuiet_nil ?_
 intro X
 have hX:=over_below W0.heap.size W0 X
 clear oP oX oB s0 s1 s2 s3 t0 t1 t2 t3 t4 t5 t6 t7 t8 t9 t10 t11 t12 t13 t14 t15 t16 t17 t18 t19 t20 t21 t22 t23 t24 t25 t26
 generalize over W0.heap.size W0 X=w2 at *
 have K2b:=Lib.hid (bkB K2.out hX (by omega))
 have B2:=Lib.hid (HH.out _ hX)
 clear hX
 have g0:=bkC (v:=.string ⟨#[]⟩) K2b.out 0 rfl
 have g1:=bkC (v:=.string ⟨#[]⟩) K2b.out 1 rfl
 have g2:=bkC (v:=.int .i64 0) K2b.out 2 rfl
 have g3:=bkC (v:=.int .i64 0) K2b.out 3 rfl
 have gz:=bkF K2b.out
 go_wp2
 refine bodyPost_ret (v:=.agg #[.string y.name,.string y.holder,.int .i64 y.place.x,.int .i64 y.place.y]) (by simp[results,Tryz.results136,go_sem, *]) rfl ?_
 exact⟨rfl,(bset (bset (bset (bset B2.out (by omega) 0 _) (by omega) 1 _) (by omega) 2 _) (by omega) 3 _)⟩
theorem licenceOf_any (p:DPlan) (x:DSector) (v3 v4 v5 v6 v7 v8 v9 v10 v11 v12:Value) (w:World) (h:PlanRd w.heap.size w p v3 v4 v5 v6 v7 v8 v9 v10 v11 v12) (hs:sizL p.tr≤1099511627776) (hk:p.ok) (hp:planB p=true) (hx:sectorB x=true) (hr:refersB p.network x=true) :
  Calls Tryz.prog 139 #[.agg #[.int .i64 p.terrain.step,.int .i64 p.terrain.width,.int .i64 p.terrain.height,v3,v4,v5,v6,v7,v8,v9,v10,v11,v12,.int .i64 p.day],.agg #[.string x.name,.string x.site,.string x.antenna,.string x.radio,.string x.band,.int .i64 x.azimuth,.int .i64 x.tilt,.int .i64 x.above,.int .i64 x.channel]] w fun e w'=>((0≤licIdx p x∧(licIdx p x).toNat<p.licences.length∧e=.returned (.tuple #[.agg #[.string (gLicence p.licences (licIdx p x).toNat).id,.string (gLicence p.licences (licIdx p x).toNat).holder,.int .i64 (gLicence p.licences (licIdx p x).toNat).low,.int .i64 (gLicence p.licences (licIdx p x).toNat).high,.int .i64 (gLicence p.licences (licIdx p x).toNat).area.west,.int .i64 (gLicence p.licences (licIdx p x).toNat).area.south,.int .i64 (gLicence p.licences (licIdx p x).toNat).area.east,.int .i64 (gLicence p.licences (licIdx p x).toNat).area.north,.int .i64 (gLicence p.licences (licIdx p x).toNat).from_,.int .i64 (gLicence p.licences (licIdx p x).toNat).until_,.int .i64 (gLicence p.licences (licIdx p x).toNat).power],.bool true]))∨(licIdx p x = -1∧e=.returned (.tuple #[.agg #[.string ⟨#[]⟩,.string ⟨#[]⟩,.int .i64 0,.int .i64 0,.int .i64 0,.int .i64 0,.int .i64 0,.int .i64 0,.int .i64 0,.int .i64 0,.int .i64 0],.bool false])))∧Below w.heap.size w w':=by
 have H:=Lib.hid h
 clear h
 have Z:=Lib.hid (PlanSz.of hs)
 obtain⟨hc1,hc2⟩:=sectorB_channel hx
 have hv:∀ j,j<p.bands.length→bandB (gBand p.bands j)=true:=fun j hj=>planB_bands hp hj
 obtain⟨W0,hW0,b0,z0,k0,k1,k2⟩:=boxes3 w #[.int .i64 p.terrain.step,.int .i64 p.terrain.width,.int .i64 p.terrain.height,v3,v4,v5,v6,v7,v8,v9,v10,v11,v12,.int .i64 p.day] 53 #[.string x.name,.string x.site,.string x.antenna,.string x.radio,.string x.band,.int .i64 x.azimuth,.int .i64 x.tilt,.int .i64 x.above,.int .i64 x.channel] 128 #[.string ⟨#[]⟩,.string ⟨#[]⟩,.int .i64 0,.int .i64 0,.int .i64 0,.int .i64 0,.int .i64 0,.int .i64 0,.int .i64 0,.int .i64 0,.int .i64 0] 90
 have HW0:=Lib.hid hW0
 clear hW0
 have B0:=Lib.hid b0
 clear b0
 have K0:=Lib.hid k0
 clear k0
 have K1:=Lib.hid k1
 clear k1
 have K2:=Lib.hid k2
 clear k2
 have HD:Hid (∀ W:World,Below W0.heap.size W0 W→(W.cell? ⟨w.heap.size,0,none⟩=some (.int .i64 p.terrain.step)∧W.cell? ⟨w.heap.size,1,none⟩=some (.int .i64 p.terrain.width)∧W.cell? ⟨w.heap.size,2,none⟩=some (.int .i64 p.terrain.height)∧W.cell? ⟨w.heap.size,3,none⟩=some (v3)∧W.cell? ⟨w.heap.size,4,none⟩=some (v4)∧W.cell? ⟨w.heap.size,5,none⟩=some (v5)∧W.cell? ⟨w.heap.size,6,none⟩=some (v6)∧W.cell? ⟨w.heap.size,7,none⟩=some (v7)∧W.cell? ⟨w.heap.size,8,none⟩=some (v8)∧W.cell? ⟨w.heap.size,9,none⟩=some (v9)∧W.cell? ⟨w.heap.size,10,none⟩=some (v10)∧W.cell? ⟨w.heap.size,11,none⟩=some (v11)∧W.cell? ⟨w.heap.size,12,none⟩=some (v12)∧W.cell? ⟨w.heap.size,13,none⟩=some (.int .i64 p.day)∧W.cell? ⟨w.heap.size+1,0,none⟩=some (.string x.name)∧W.cell? ⟨w.heap.size+1,1,none⟩=some (.string x.site)∧W.cell? ⟨w.heap.size+1,2,none⟩=some (.string x.antenna)∧W.cell? ⟨w.heap.size+1,3,none⟩=some (.string x.radio)∧W.cell? ⟨w.heap.size+1,4,none⟩=some (.string x.band)∧W.cell? ⟨w.heap.size+1,5,none⟩=some (.int .i64 x.azimuth)∧W.cell? ⟨w.heap.size+1,6,none⟩=some (.int .i64 x.tilt)∧W.cell? ⟨w.heap.size+1,7,none⟩=some (.int .i64 x.above)∧W.cell? ⟨w.heap.size+1,8,none⟩=some (.int .i64 x.channel)∧W.cell? ⟨w.heap.size+2,0,none⟩=some (.string ⟨#[]⟩)∧W.cell? ⟨w.heap.size+2,1,none⟩=some (.string ⟨#[]⟩)∧W.cell? ⟨w.heap.size+2,2,none⟩=some (.int .i64 0)∧W.cell? ⟨w.heap.size+2,3,none⟩=some (.int .i64 0)∧W.cell? ⟨w.heap.size+2,4,none⟩=some (.int .i64 0)∧W.cell? ⟨w.heap.size+2,5,none⟩=some (.int .i64 0)∧W.cell? ⟨w.heap.size+2,6,none⟩=some (.int .i64 0)∧W.cell? ⟨w.heap.size+2,7,none⟩=some (.int .i64 0)∧W.cell? ⟨w.heap.size+2,8,none⟩=some (.int .i64 0)∧W.cell? ⟨w.heap.size+2,9,none⟩=some (.int .i64 0)∧W.cell? ⟨w.heap.size+2,10,none⟩=some (.int .i64 0))):=fun W hW=>⟨bkC (bkB K0.out hW (by omega)) 0 rfl,bkC (bkB K0.out hW (by omega)) 1 rfl,bkC (bkB K0.out hW (by omega)) 2 rfl,bkC (bkB K0.out hW (by omega)) 3 rfl,bkC (bkB K0.out hW (by omega)) 4 rfl,bkC (bkB K0.out hW (by omega)) 5 rfl,bkC (bkB K0.out hW (by omega)) 6 rfl,bkC (bkB K0.out hW (by omega)) 7 rfl,bkC (bkB K0.out hW (by omega)) 8 rfl,bkC (bkB K0.out hW (by omega)) 9 rfl,bkC (bkB K0.out hW (by omega)) 10 rfl,bkC (bkB K0.out hW (by omega)) 11 rfl,bkC (bkB K0.out hW (by omega)) 12 rfl,bkC (bkB K0.out hW (by omega)) 13 rfl,bkC (bkB K1.out hW (by omega)) 0 rfl,bkC (bkB K1.out hW (by omega)) 1 rfl,bkC (bkB K1.out hW (by omega)) 2 rfl,bkC (bkB K1.out hW (by omega)) 3 rfl,bkC (bkB K1.out hW (by omega)) 4 rfl,bkC (bkB K1.out hW (by omega)) 5 rfl,bkC (bkB K1.out hW (by omega)) 6 rfl,bkC (bkB K1.out hW (by omega)) 7 rfl,bkC (bkB K1.out hW (by omega)) 8 rfl,bkC (bkB K2.out hW (by omega)) 0 rfl,bkC (bkB K2.out hW (by omega)) 1 rfl,bkC (bkB K2.out hW (by omega)) 2 rfl,bkC (bkB K2.out hW (by omega)) 3 rfl,bkC (bkB K2.out hW (by omega)) 4 rfl,bkC (bkB K2.out hW (by omega)) 5 rfl,bkC (bkB K2.out hW (by omega)) 6 rfl,bkC (bkB K2.out hW (by omega)) 7 rfl,bkC (bkB K2.out hW (by omega)) 8 rfl,bkC (bkB K2.out hW (by omega)) 9 rfl,bkC (bkB K2.out hW (by omega)) 10 rfl⟩
 have HB:Hid (Below W0.heap.size W0 W0):=Below.refl _ _
 have HH:Hid (∀ W:World,Below W0.heap.size W0 W→Below w.heap.size w W):=fun W hW=>B0.out.trans (hW.mono (by omega))
 have CR:Hid (∀ W:World,Below W0.heap.size W0 W→Calls Tryz.prog 138 #[.agg #[.int .i64 p.terrain.step,.int .i64 p.terrain.width,.int .i64 p.terrain.height,v3,v4,v5,v6,v7,v8,v9,v10,v11,v12,.int .i64 p.day],.agg #[.string x.name,.string x.site,.string x.antenna,.string x.radio,.string x.band,.int .i64 x.azimuth,.int .i64 x.tilt,.int .i64 x.above,.int .i64 x.channel]] W fun e w'=>e=.returned (.tuple #[.int .i64 (rngV p x).1,.int .i64 (rngV p x).2.1,.bool (rngV p x).2.2])∧Below W.heap.size W w'):=fun W hW=>rangeOf_any p x v3 v4 v5 v6 v7 v8 v9 v10 v11 v12 W ((H.out.r9.below (HH.out W hW)).mono (HH.out W hW).size) Z.out.bands hv hk.bands hc1 hc2
 have CS:Hid (∀ W:World,Below W0.heap.size W0 W→Calls Tryz.prog 136 #[.agg #[.int .i64 p.terrain.step,.int .i64 p.terrain.width,.int .i64 p.terrain.height,v3,v4,v5,v6,v7,v8,v9,v10,v11,v12,.int .i64 p.day],.agg #[.string x.name,.string x.site,.string x.antenna,.string x.radio,.string x.band,.int .i64 x.azimuth,.int .i64 x.tilt,.int .i64 x.above,.int .i64 x.channel]] W fun e w'=>e=.returned (.agg #[.string (siteN p x).name,.string (siteN p x).holder,.int .i64 (siteN p x).place.x,.int .i64 (siteN p x).place.y])∧Below W.heap.size W w'):=fun W hW=>siteOf_any p x v3 v4 v5 v6 v7 v8 v9 v10 v11 v12 W ((H.out.r5.below (HH.out W hW)).mono (HH.out W hW).size) Z.out.sites hr
 have HRV:Hid (rngV p x=if hasB p x=true then (rngLow p x,rngHigh p x,true) else (0,0,false)):=rfl
 have HLI:Hid (licIdx p x=if hasB p x=true then firstIdx' (fun y=>allowsB y (siteN p x).holder (siteN p x).place (rngLow p x) (rngHigh p x) p.day) p.licences else -1):=rfl
 by_cases hh:hasB p x=true
 case neg =>
  rw[if_neg hh] at HRV HLI
  rw[HRV.out] at CR
  clear hh HRV
  go_enter Tryz.func139,Tryz.ntmps139
  go_upto_region 1 with (fail)
  rw[HW0.out]
  obtain⟨t0,t1,t2,t3,t4,t5,t6,t7,t8,t9,t10,t11,t12,t13,t14,t15,t16,t17,t18,t19,t20,t21,t22,t23,t24,t25,t26,t27,t28,t29,t30,t31,t32,t33⟩:=HD.out _ HB.out
  go_upto_region 3 with (go_at_call 138;with_reducible refine (CR.out _ HB.out).mono ?_;rintro e w2 ⟨rfl,hb2⟩;(try clear t0 t1 t2 t3 t4 t5 t6 t7 t8 t9 t10 t11 t12 t13 t14 t15 t16 t17 t18 t19 t20 t21 t22 t23 t24 t25 t26 t27 t28 t29 t30 t31 t32 t33);replace HB:=Lib.hid (HB.out.trans (hb2.mono HB.out.size));clear hb2;obtain⟨t0,t1,t2,t3,t4,t5,t6,t7,t8,t9,t10,t11,t12,t13,t14,t15,t16,t17,t18,t19,t20,t21,t22,t23,t24,t25,t26,t27,t28,t29,t30,t31,t32,t33⟩:=HD.out _ HB.out)
  have K2b:=Lib.hid (bkB K2.out HB.out (by omega))
  have B2:=Lib.hid (HH.out _ HB.out)
  clear t23 t24 t25 t26 t27 t28 t29 t30 t31 t32 t33
  have g0:=bkC (v:=.string ⟨#[]⟩) K2b.out 0 rfl
  have g1:=bkC (v:=.string ⟨#[]⟩) K2b.out 1 rfl
  have g2:=bkC (v:=.int .i64 0) K2b.out 2 rfl
  have g3:=bkC (v:=.int .i64 0) K2b.out 3 rfl
  have g4:=bkC (v:=.int .i64 0) K2b.out 4 rfl
  have g5:=bkC (v:=.int .i64 0) K2b.out 5 rfl
  have g6:=bkC (v:=.int .i64 0) K2b.out 6 rfl
  have g7:=bkC (v:=.int .i64 0) K2b.out 7 rfl
  have g8:=bkC (v:=.int .i64 0) K2b.out 8 rfl
  have g9:=bkC (v:=.int .i64 0) K2b.out 9 rfl
  have g10:=bkC (v:=.int .i64 0) K2b.out 10 rfl
  have gz:=bkF K2b.out
  go_wp2
  refine bodyPost_ret (v:=.tuple #[.agg #[.string ⟨#[]⟩,.string ⟨#[]⟩,.int .i64 0,.int .i64 0,.int .i64 0,.int .i64 0,.int .i64 0,.int .i64 0,.int .i64 0,.int .i64 0,.int .i64 0],.bool false]) (by simp[results,Tryz.results139,go_sem, *]) rfl ?_
  exact⟨Or.inr ⟨HLI.out,rfl⟩,(bset (bset (bset (bset (bset (bset (bset (bset (bset (bset (bset B2.out (by omega) 0 _) (by omega) 1 _) (by omega) 2 _) (by omega) 3 _) (by omega) 4 _) (by omega) 5 _) (by omega) 6 _) (by omega) 7 _) (by omega) 8 _) (by omega) 9 _) (by omega) 10 _)⟩
 have hlt:=rng_lt hv hh
 obtain⟨hvl,hvv⟩:=planB_lics hp
 have HEQ:=Lib.hid (firstIdx_congr (f:=fun y=>forB y (siteN p x).holder (siteN p x).place (rngLow p x) (rngHigh p x) p.day) (fun y hy=>forB_eq (hvv y hy) (siteN p x).holder (siteN p x).place p.day hlt))
 rw[if_pos hh] at HRV HLI
 rw[HRV.out] at CR
 have CL:Hid (∀ W:World,Below W0.heap.size W0 W→Calls Tryz.prog 194 #[v10,.string (siteN p x).holder,.agg #[.int .i64 (siteN p x).place.x,.int .i64 (siteN p x).place.y],.int .i64 (rngLow p x),.int .i64 (rngHigh p x),.int .i64 p.day] W fun e w'=>((∃ k,k<p.licences.length∧licIdx p x=(k:Int)∧e=.returned (.tuple #[.agg #[.string (gLicence p.licences k).id,.string (gLicence p.licences k).holder,.int .i64 (gLicence p.licences k).low,.int .i64 (gLicence p.licences k).high,.int .i64 (gLicence p.licences k).area.west,.int .i64 (gLicence p.licences k).area.south,.int .i64 (gLicence p.licences k).area.east,.int .i64 (gLicence p.licences k).area.north,.int .i64 (gLicence p.licences k).from_,.int .i64 (gLicence p.licences k).until_,.int .i64 (gLicence p.licences k).power],.int .i64 0]))∨(licIdx p x = -1∧e=.returned (.tuple #[.agg #[.string ⟨#[]⟩,.string ⟨#[]⟩,.int .i64 0,.int .i64 0,.int .i64 0,.int .i64 0,.int .i64 0,.int .i64 0,.int .i64 0,.int .i64 0,.int .i64 0],.int .i64 3])))∧Below W.heap.size W w'):=fun W hW=>by
  rw[HLI.out,← HEQ.out]
  exact licenceFor_any p.licences (siteN p x).holder (siteN p x).place (rngLow p x) (rngHigh p x) p.day v10 w.heap.size W (H.out.r10.below (HH.out W hW)) (HH.out W hW).size Z.out.licences hvl hk.licences
 clear HRV HLI HEQ hh hlt hvl hvv
 generalize licIdx p x=li at *
 generalize rngLow p x=lo at *
 generalize rngHigh p x=hi at *
 generalize siteN p x=y at *
 go_enter Tryz.func139,Tryz.ntmps139
 go_upto_region 1 with (fail)
 rw[HW0.out]
 obtain⟨t0,t1,t2,t3,t4,t5,t6,t7,t8,t9,t10,t11,t12,t13,t14,t15,t16,t17,t18,t19,t20,t21,t22,t23,t24,t25,t26,t27,t28,t29,t30,t31,t32,t33⟩:=HD.out _ HB.out
 go_upto_region 5 with (first|(go_at_call 138;with_reducible refine (CR.out _ HB.out).mono ?_;rintro e w2 ⟨rfl,hb2⟩;(try clear t0 t1 t2 t3 t4 t5 t6 t7 t8 t9 t10 t11 t12 t13 t14 t15 t16 t17 t18 t19 t20 t21 t22 t23 t24 t25 t26 t27 t28 t29 t30 t31 t32 t33);replace HB:=Lib.hid (HB.out.trans (hb2.mono HB.out.size));clear hb2;obtain⟨t0,t1,t2,t3,t4,t5,t6,t7,t8,t9,t10,t11,t12,t13,t14,t15,t16,t17,t18,t19,t20,t21,t22,t23,t24,t25,t26,t27,t28,t29,t30,t31,t32,t33⟩:=HD.out _ HB.out)|(go_at_call 136;with_reducible refine (CS.out _ HB.out).mono ?_;rintro e w2 ⟨rfl,hb2⟩;(try clear t0 t1 t2 t3 t4 t5 t6 t7 t8 t9 t10 t11 t12 t13 t14 t15 t16 t17 t18 t19 t20 t21 t22 t23 t24 t25 t26 t27 t28 t29 t30 t31 t32 t33);replace HB:=Lib.hid (HB.out.trans (hb2.mono HB.out.size));clear hb2;obtain⟨t0,t1,t2,t3,t4,t5,t6,t7,t8,t9,t10,t11,t12,t13,t14,t15,t16,t17,t18,t19,t20,t21,t22,t23,t24,t25,t26,t27,t28,t29,t30,t31,t32,t33⟩:=HD.out _ HB.out))
 have HX:=Lib.hid (HB.out.alloc HB.out.size (.cells #[.string y.name,.string y.holder,.int .i64 y.place.x,.int .i64 y.place.y] 132))
 have kb:=bkN w2 #[.string y.name,.string y.holder,.int .i64 y.place.x,.int .i64 y.place.y] 132
 have zb:w2.heap.size<(w2.alloc (.cells #[.string y.name,.string y.holder,.int .i64 y.place.x,.int .i64 y.place.y] 132)).heap.size:=by simp
 generalize (w2.alloc (.cells #[.string y.name,.string y.holder,.int .i64 y.place.x,.int .i64 y.place.y] 132))=w3 at *
 clear t0 t1 t2 t3 t4 t5 t6 t7 t8 t9 t10 t11 t12 t13 t14 t15 t16 t17 t18 t19 t20 t21 t22 t23 t24 t25 t26 t27 t28 t29 t30 t31 t32 t33
 replace HB:=Lib.hid HX.out
 clear HX
 obtain⟨t0,t1,t2,t3,t4,t5,t6,t7,t8,t9,t10,t11,t12,t13,t14,t15,t16,t17,t18,t19,t20,t21,t22,t23,t24,t25,t26,t27,t28,t29,t30,t31,t32,t33⟩:=HD.out _ HB.out
 have q0:=bkC (v:=.string y.name) kb 0 rfl
 have q1:=bkC (v:=.string y.holder) kb 1 rfl
 have q2:=bkC (v:=.int .i64 y.place.x) kb 2 rfl
 have q3:=bkC (v:=.int .i64 y.place.y) kb 3 rfl
 go_upto_region 5 with (fail)
 go_wp2_with fail
 refine (CL.out _ HB.out).mono ?_
 rintro e w4 ⟨⟨k,hkl,hli,rfl⟩|⟨hli,rfl⟩,hb2⟩
 case inl =>
  clear t0 t1 t2 t3 t4 t5 t6 t7 t8 t9 t10 t11 t12 t13 t14 t15 t16 t17 t18 t19 t20 t21 t22 t23 t24 t25 t26 t27 t28 t29 t30 t31 t32 t33 q0 q1 q2 q3
  replace HB:=Lib.hid (HB.out.trans (hb2.mono HB.out.size))
  clear hb2
  obtain⟨t0,t1,t2,t3,t4,t5,t6,t7,t8,t9,t10,t11,t12,t13,t14,t15,t16,t17,t18,t19,t20,t21,t22,t23,t24,t25,t26,t27,t28,t29,t30,t31,t32,t33⟩:=HD.out _ HB.out
  subst hli
  have HKL:=Lib.hid hkl
  have HGK:Hid (gLicence p.licences ((k:Int)).toNat=gLicence p.licences k):=by show _=_;rw[Int.toNat_natCast]
  generalize hG:gLicence p.licences k=A at *
  clear hG
  go_upto_region 6 with (fail)
  have HX:=Lib.hid (HB.out.alloc HB.out.size (.cells #[.string A.id,.string A.holder,.int .i64 A.low,.int .i64 A.high,.int .i64 A.area.west,.int .i64 A.area.south,.int .i64 A.area.east,.int .i64 A.area.north,.int .i64 A.from_,.int .i64 A.until_,.int .i64 A.power] 90))
  have kl:=bkN w4 #[.string A.id,.string A.holder,.int .i64 A.low,.int .i64 A.high,.int .i64 A.area.west,.int .i64 A.area.south,.int .i64 A.area.east,.int .i64 A.area.north,.int .i64 A.from_,.int .i64 A.until_,.int .i64 A.power] 90
  have zl:w4.heap.size<(w4.alloc (.cells #[.string A.id,.string A.holder,.int .i64 A.low,.int .i64 A.high,.int .i64 A.area.west,.int .i64 A.area.south,.int .i64 A.area.east,.int .i64 A.area.north,.int .i64 A.from_,.int .i64 A.until_,.int .i64 A.power] 90)).heap.size:=by simp
  generalize (w4.alloc (.cells #[.string A.id,.string A.holder,.int .i64 A.low,.int .i64 A.high,.int .i64 A.area.west,.int .i64 A.area.south,.int .i64 A.area.east,.int .i64 A.area.north,.int .i64 A.from_,.int .i64 A.until_,.int .i64 A.power] 90))=w5 at *
  clear t0 t1 t2 t3 t4 t5 t6 t7 t8 t9 t10 t11 t12 t13 t14 t15 t16 t17 t18 t19 t20 t21 t22 t23 t24 t25 t26 t27 t28 t29 t30 t31 t32 t33
  replace HB:=Lib.hid HX.out
  clear HX
  obtain⟨t0,t1,t2,t3,t4,t5,t6,t7,t8,t9,t10,t11,t12,t13,t14,t15,t16,t17,t18,t19,t20,t21,t22,t23,t24,t25,t26,t27,t28,t29,t30,t31,t32,t33⟩:=HD.out _ HB.out
  have y0:=bkC (v:=.string A.id) kl 0 rfl
  have y1:=bkC (v:=.string A.holder) kl 1 rfl
  have y2:=bkC (v:=.int .i64 A.low) kl 2 rfl
  have y3:=bkC (v:=.int .i64 A.high) kl 3 rfl
  have y4:=bkC (v:=.int .i64 A.area.west) kl 4 rfl
  have y5:=bkC (v:=.int .i64 A.area.south) kl 5 rfl
  have y6:=bkC (v:=.int .i64 A.area.east) kl 6 rfl
  have y7:=bkC (v:=.int .i64 A.area.north) kl 7 rfl
  have y8:=bkC (v:=.int .i64 A.from_) kl 8 rfl
  have y9:=bkC (v:=.int .i64 A.until_) kl 9 rfl
  have y10:=bkC (v:=.int .i64 A.power) kl 10 rfl
  have K2b:=Lib.hid (bkB K2.out HB.out (by omega))
  have B2:=Lib.hid (HH.out _ HB.out)
  clear t23 t24 t25 t26 t27 t28 t29 t30 t31 t32 t33
  have g0:=bkC (v:=.string ⟨#[]⟩) K2b.out 0 rfl
  have g1:=bkC (v:=.string ⟨#[]⟩) K2b.out 1 rfl
  have g2:=bkC (v:=.int .i64 0) K2b.out 2 rfl
  have g3:=bkC (v:=.int .i64 0) K2b.out 3 rfl
  have g4:=bkC (v:=.int .i64 0) K2b.out 4 rfl
  have g5:=bkC (v:=.int .i64 0) K2b.out 5 rfl
  have g6:=bkC (v:=.int .i64 0) K2b.out 6 rfl
  have g7:=bkC (v:=.int .i64 0) K2b.out 7 rfl
  have g8:=bkC (v:=.int .i64 0) K2b.out 8 rfl
  have g9:=bkC (v:=.int .i64 0) K2b.out 9 rfl
  have g10:=bkC (v:=.int .i64 0) K2b.out 10 rfl
  have gz:=bkF K2b.out
  go_wp2
  refine bodyPost_ret (v:=.tuple #[.agg #[.string A.id,.string A.holder,.int .i64 A.low,.int .i64 A.high,.int .i64 A.area.west,.int .i64 A.area.south,.int .i64 A.area.east,.int .i64 A.area.north,.int .i64 A.from_,.int .i64 A.until_,.int .i64 A.power],.bool true]) (by simp[results,Tryz.results139,go_sem, *]) rfl ?_
  exact⟨Or.inl ⟨by omega,by rw[Int.toNat_natCast];exact HKL.out,by rw[HGK.out]⟩,(bset (bset (bset (bset (bset (bset (bset (bset (bset (bset (bset B2.out (by omega) 0 _) (by omega) 1 _) (by omega) 2 _) (by omega) 3 _) (by omega) 4 _) (by omega) 5 _) (by omega) 6 _) (by omega) 7 _) (by omega) 8 _) (by omega) 9 _) (by omega) 10 _)⟩
 clear t0 t1 t2 t3 t4 t5 t6 t7 t8 t9 t10 t11 t12 t13 t14 t15 t16 t17 t18 t19 t20 t21 t22 t23 t24 t25 t26 t27 t28 t29 t30 t31 t32 t33 q0 q1 q2 q3
 replace HB:=Lib.hid (HB.out.trans (hb2.mono HB.out.size))
 clear hb2
 obtain⟨t0,t1,t2,t3,t4,t5,t6,t7,t8,t9,t10,t11,t12,t13,t14,t15,t16,t17,t18,t19,t20,t21,t22,t23,t24,t25,t26,t27,t28,t29,t30,t31,t32,t33⟩:=HD.out _ HB.out
 have HLI:=Lib.hid hli
 clear hli
 go_upto_region 6 with (fail)
 have HX:=Lib.hid (HB.out.alloc HB.out.size (.cells #[.string ⟨#[]⟩,.string ⟨#[]⟩,.int .i64 0,.int .i64 0,.int .i64 0,.int .i64 0,.int .i64 0,.int .i64 0,.int .i64 0,.int .i64 0,.int .i64 0] 90))
 have kl:=bkN w4 #[.string ⟨#[]⟩,.string ⟨#[]⟩,.int .i64 0,.int .i64 0,.int .i64 0,.int .i64 0,.int .i64 0,.int .i64 0,.int .i64 0,.int .i64 0,.int .i64 0] 90
 have zl:w4.heap.size<(w4.alloc (.cells #[.string ⟨#[]⟩,.string ⟨#[]⟩,.int .i64 0,.int .i64 0,.int .i64 0,.int .i64 0,.int .i64 0,.int .i64 0,.int .i64 0,.int .i64 0,.int .i64 0] 90)).heap.size:=by simp
 generalize (w4.alloc (.cells #[.string ⟨#[]⟩,.string ⟨#[]⟩,.int .i64 0,.int .i64 0,.int .i64 0,.int .i64 0,.int .i64 0,.int .i64 0,.int .i64 0,.int .i64 0,.int .i64 0] 90))=w5 at *
 clear t0 t1 t2 t3 t4 t5 t6 t7 t8 t9 t10 t11 t12 t13 t14 t15 t16 t17 t18 t19 t20 t21 t22 t23 t24 t25 t26 t27 t28 t29 t30 t31 t32 t33
 replace HB:=Lib.hid HX.out
 clear HX
 obtain⟨t0,t1,t2,t3,t4,t5,t6,t7,t8,t9,t10,t11,t12,t13,t14,t15,t16,t17,t18,t19,t20,t21,t22,t23,t24,t25,t26,t27,t28,t29,t30,t31,t32,t33⟩:=HD.out _ HB.out
 have y0:=bkC (v:=.string ⟨#[]⟩) kl 0 rfl
 have y1:=bkC (v:=.string ⟨#[]⟩) kl 1 rfl
 have y2:=bkC (v:=.int .i64 0) kl 2 rfl
 have y3:=bkC (v:=.int .i64 0) kl 3 rfl
 have y4:=bkC (v:=.int .i64 0) kl 4 rfl
 have y5:=bkC (v:=.int .i64 0) kl 5 rfl
 have y6:=bkC (v:=.int .i64 0) kl 6 rfl
 have y7:=bkC (v:=.int .i64 0) kl 7 rfl
 have y8:=bkC (v:=.int .i64 0) kl 8 rfl
 have y9:=bkC (v:=.int .i64 0) kl 9 rfl
 have y10:=bkC (v:=.int .i64 0) kl 10 rfl
 have K2b:=Lib.hid (bkB K2.out HB.out (by omega))
 have B2:=Lib.hid (HH.out _ HB.out)
 clear t23 t24 t25 t26 t27 t28 t29 t30 t31 t32 t33
 have g0:=bkC (v:=.string ⟨#[]⟩) K2b.out 0 rfl
 have g1:=bkC (v:=.string ⟨#[]⟩) K2b.out 1 rfl
 have g2:=bkC (v:=.int .i64 0) K2b.out 2 rfl
 have g3:=bkC (v:=.int .i64 0) K2b.out 3 rfl
 have g4:=bkC (v:=.int .i64 0) K2b.out 4 rfl
 have g5:=bkC (v:=.int .i64 0) K2b.out 5 rfl
 have g6:=bkC (v:=.int .i64 0) K2b.out 6 rfl
 have g7:=bkC (v:=.int .i64 0) K2b.out 7 rfl
 have g8:=bkC (v:=.int .i64 0) K2b.out 8 rfl
 have g9:=bkC (v:=.int .i64 0) K2b.out 9 rfl
 have g10:=bkC (v:=.int .i64 0) K2b.out 10 rfl
 have gz:=bkF K2b.out
 go_wp2
 refine bodyPost_ret (v:=.tuple #[.agg #[.string ⟨#[]⟩,.string ⟨#[]⟩,.int .i64 0,.int .i64 0,.int .i64 0,.int .i64 0,.int .i64 0,.int .i64 0,.int .i64 0,.int .i64 0,.int .i64 0],.bool false]) (by simp[results,Tryz.results139,go_sem, *]) rfl ?_
 exact⟨Or.inr ⟨HLI.out,rfl⟩,(bset (bset (bset (bset (bset (bset (bset (bset (bset (bset (bset B2.out (by omega) 0 _) (by omega) 1 _) (by omega) 2 _) (by omega) 3 _) (by omega) 4 _) (by omega) 5 _) (by omega) 6 _) (by omega) 7 _) (by omega) 8 _) (by omega) 9 _) (by omega) 10 _)⟩
open Go.RowKit
set_option linter.unusedVariables false
set_option linter.unusedSimpArgs false
def zeroL:DLicence:=⟨⟨#[]⟩,⟨#[]⟩,0,0,⟨0,0,0,0⟩,0,0,0⟩
def licR (p:DPlan) (nm:ByteArray):DLicence × Int:=if (codeP p nm).2=0 then (if 0≤licIdx p (secN p nm) then (gLicence p.licences (licIdx p (secN p nm)).toNat,0) else (zeroL,6)) else (zeroL,(codeP p nm).2)
theorem l30Site_any (p:DPlan) (k:Nat) (b off bs os k5 b6 o6 k6:Nat) (w:World) (h5:Rd w.heap.size w (DSite.sT p.network.sites) (.slice (some ⟨bs,os,none⟩) p.network.sites.length k5)) (hn:p.network.sites.length≤1099511627776) (hn6:p.network.sectors.length≤1099511627776) (hr:refersB p.network (gSector p.network.sectors k)=true) (hkl:k<p.network.sectors.length) (hb6:b6<w.heap.size) (hbl:b<w.heap.size)
  (c5:w.cell? ⟨b,off+5,none⟩=some (.slice (some ⟨bs,os,none⟩) p.network.sites.length k5)) (c6:w.cell? ⟨b,off+6,none⟩=some (.slice (some ⟨b6,o6,none⟩) p.network.sectors.length k6)) (x1:w.cell? ⟨b6,o6+k*9+1,none⟩=some (.string (gSector p.network.sectors k).site)) :
  Calls Tryz.prog 130 #[.pointer (some ⟨b,off,none⟩),.int .i64 (k:Int)] w fun e w'=>e=.returned (.pointer (some ⟨bs,os+(idxSite p.network.sites (gSector p.network.sectors k).site).toNat*4,none⟩))∧Below w.heap.size w w':=by
 obtain⟨hl,hlc⟩:=refers_site hr
 clear hr
 have H5:=Lib.hid h5
 have HC5:Hid (∀ W:World,Below w.heap.size w W→W.cell? ⟨b,off+5,none⟩=some (.slice (some ⟨bs,os,none⟩) p.network.sites.length k5)):=fun W hW=>(hW.cell (p:=⟨b,off+5,none⟩) hbl).trans c5
 have CF:Hid (∀ W:World,Below w.heap.size w W→Calls Tryz.prog 185 #[.pointer (some ⟨b,off+5,none⟩),.string (gSector p.network.sectors k).site] W fun e w'=>e=.returned (.int .i64 (idxSite p.network.sites (gSector p.network.sectors k).site))∧W=w'):=fun W hW=>l14FindSite_off p.network.sites _ _ b (off+5) w.heap.size W (H5.out.below hW) hW.size (HC5.out W hW) hn
 rw[← hlc] at CF
 clear h5 hlc
 generalize (idxSite p.network.sites (gSector p.network.sectors k).site).toNat=m at *
 generalize gSector p.network.sectors k=x at *
 have i1:(0:Int)≤(k:Int):=by omega
 have i2:(k:Int)<(p.network.sectors.length:Int):=by omega
 have i3:(0:Int)≤(m:Int):=by omega
 have i4:(m:Int)<(p.network.sites.length:Int):=by omega
 have m5:(p.network.sites.length:Int)≤1099511627776:=by omega
 have m6:(p.network.sectors.length:Int)≤1099511627776:=by omega
 go_enter Tryz.func130,Tryz.ntmps130
 go_upto_region 1 with (fail)
 have o0:=overC (w0:=w) (show b<w.heap.size by omega)
 have o1:=overC (w0:=w) (show b6<w.heap.size by omega)
 refine wp_region_over w.heap.size w (Below.refl _ _) (by kernel_rfl) (by kernel_rfl) ?_
 repeat (go_big_quiet_step ((go_at_call 185;with_reducible exact over_same (CF.out _ (over_below _ _ _)))))
 refine wpQuiet_nil ?_
 rintro _ ⟨X,rfl⟩
 have BE:=Lib.hid (over_below w.heap.size w X)
 clear o0 o1
 generalize over w.heap.size w X=W9 at *
 go_wp2
 go_ret
 exact⟨rfl,BE.out⟩
theorem l30Licence_any (p:DPlan) (k:Nat) (v3 v4 v5 v6 v7 v8 v9 v10 v11 v12:Value) (b off:Nat) (w:World) (h:PlanRd w.heap.size w p v3 v4 v5 v6 v7 v8 v9 v10 v11 v12) (hs:sizL p.tr≤1099511627776) (hk:p.ok) (hp:planB p=true) (hkl:k<p.network.sectors.length) (c0:w.cell? ⟨b,off,none⟩=some (.int .i64 p.terrain.step)) (c1:w.cell? ⟨b,off+1,none⟩=some (.int .i64 p.terrain.width)) (c2:w.cell? ⟨b,off+2,none⟩=some (.int .i64 p.terrain.height)) (c3:w.cell? ⟨b,off+3,none⟩=some (v3)) (c4:w.cell? ⟨b,off+4,none⟩=some (v4)) (c5:w.cell? ⟨b,off+5,none⟩=some (v5)) (c6:w.cell? ⟨b,off+6,none⟩=some (v6)) (c7:w.cell? ⟨b,off+7,none⟩=some (v7)) (c8:w.cell? ⟨b,off+8,none⟩=some (v8)) (c9:w.cell? ⟨b,off+9,none⟩=some (v9)) (c10:w.cell? ⟨b,off+10,none⟩=some (v10)) (c11:w.cell? ⟨b,off+11,none⟩=some (v11)) (c12:w.cell? ⟨b,off+12,none⟩=some (v12)) (c13:w.cell? ⟨b,off+13,none⟩=some (.int .i64 p.day)) :
  Calls Tryz.prog 132 #[.pointer (some ⟨b,off,none⟩),.int .i64 (k:Int)] w fun e w'=>e=.returned (.int .i64 (licIdx p (gSector p.network.sectors k)))∧Below w.heap.size w w':=by
 have H:=Lib.hid h
 clear h
 have Z:=Lib.hid (PlanSz.of hs)
 have hbl:=cell_lt c0
 dsimp only at hbl
 have hsec:=planB_sector hp hkl
 obtain⟨hl,hlc⟩:=refers_site hsec.2
 obtain⟨a6,k6,e6,_,_,hcl6⟩:=DSector.rd H.out.r6
 subst e6
 obtain⟨b6,o6,e6,hb6,hat6⟩:=hcl6 (Nat.lt_of_le_of_lt (Nat.zero_le _) hkl)
 subst e6
 have x1:=(hat6 k hkl).2.1
 rw[gSector_eq hkl] at x1
 obtain⟨a5,k5,e5,_,_,hcl5⟩:=DSite.rd H.out.r5
 subst e5
 obtain⟨bs,os,e5,hbs,hat5⟩:=hcl5 (Nat.lt_of_le_of_lt (Nat.zero_le _) hl)
 subst e5
 obtain⟨s0,s1,s2,s3⟩:=hat5 _ hl
 rw[gSite_eq hl] at s0 s1 s2 s3
 clear hat5 hat6 hcl5 hcl6
 obtain⟨al,kl,el,_,_,hcl⟩:=DLicence.rd H.out.r10
 subst el
 have HCL:=Lib.hid hcl
 clear hcl
 have CR:Hid (∀ W:World,Below w.heap.size w W→Calls Tryz.prog 131 #[.pointer (some ⟨b,off,none⟩),.int .i64 (k:Int)] W fun e w'=>e=.returned (.tuple #[.int .i64 (rngV p (gSector p.network.sectors k)).1,.int .i64 (rngV p (gSector p.network.sectors k)).2.1,.bool (rngV p (gSector p.network.sectors k)).2.2])∧Below W.heap.size W w'):=fun W hW=>l30Range_any p k v3 v4 _ _ v7 v8 v9 _ v11 v12 b off W ((H.out.below hW).mono hW.size) hs hk hp hkl ((hW.cell (p:=⟨b,_,none⟩) hbl).trans c0) ((hW.cell (p:=⟨b,_,none⟩) hbl).trans c6) ((hW.cell (p:=⟨b,_,none⟩) hbl).trans c9)
 have CS:Hid (∀ W:World,Below w.heap.size w W→Calls Tryz.prog 130 #[.pointer (some ⟨b,off,none⟩),.int .i64 (k:Int)] W fun e w'=>e=.returned (.pointer (some ⟨bs,os+(idxSite p.network.sites (gSector p.network.sectors k).site).toNat*4,none⟩))∧Below W.heap.size W w'):=fun W hW=>l30Site_any p k b off bs os k5 b6 o6 k6 W ((H.out.r5.below hW).mono hW.size) Z.out.sites Z.out.sectors hsec.2 hkl (Nat.lt_of_lt_of_le hb6 hW.size) (Nat.lt_of_lt_of_le hbl hW.size) ((hW.cell (p:=⟨b,_,none⟩) hbl).trans c5) ((hW.cell (p:=⟨b,_,none⟩) hbl).trans c6) ((hW.cell (p:=⟨b6,_,none⟩) hb6).trans x1)
 have HX:Hid (siteN p (gSector p.network.sectors k)=gSite p.network.sites (idxSite p.network.sites (gSector p.network.sectors k).site).toNat):=rfl
 rw[← HX.out] at s0 s1 s2 s3
 clear HX hsec
 have HLI:Hid (licIdx p (gSector p.network.sectors k)=if hasB p (gSector p.network.sectors k)=true then firstIdx' (fun y=>allowsB y (siteN p (gSector p.network.sectors k)).holder (siteN p (gSector p.network.sectors k)).place (rngLow p (gSector p.network.sectors k)) (rngHigh p (gSector p.network.sectors k)) p.day) p.licences else -1):=rfl
 have HRV:Hid (rngV p (gSector p.network.sectors k)=if hasB p (gSector p.network.sectors k)=true then (rngLow p (gSector p.network.sectors k),rngHigh p (gSector p.network.sectors k),true) else (0,0,false)):=rfl
 generalize (idxSite p.network.sites (gSector p.network.sectors k).site).toNat=m at *
 generalize gSector p.network.sectors k=x at *
 generalize siteN p x=y at *
 have ml:(p.licences.length:Int)≤1099511627776:=by have:=Z.out.licences;omega
 have HC:Hid (∀ W:World,Below w.heap.size w W→(W.cell? ⟨b,off+10,none⟩=some (.slice al p.licences.length kl)∧W.cell? ⟨b,off+13,none⟩=some (.int .i64 p.day)∧W.cell? ⟨bs,os+m*4+1,none⟩=some (.string y.holder)∧W.cell? ⟨bs,os+m*4+2,none⟩=some (.int .i64 y.place.x)∧W.cell? ⟨bs,os+m*4+3,none⟩=some (.int .i64 y.place.y))):=fun W hW=>⟨(hW.cell (p:=⟨b,_,none⟩) hbl).trans c10,(hW.cell (p:=⟨b,_,none⟩) hbl).trans c13,(hW.cell (p:=⟨bs,_,none⟩) hbs).trans s1,(hW.cell (p:=⟨bs,_,none⟩) hbs).trans s2,(hW.cell (p:=⟨bs,_,none⟩) hbs).trans s3⟩
 clear c0 c1 c2 c3 c4 c5 c6 c7 c8 c9 c10 c11 c12 c13 s0 s1 s2 s3 x1 hlc
 have HB:Hid (Below w.heap.size w w):=Below.refl _ _
 by_cases hh:hasB p x=true
 case neg =>
  rw[if_neg hh] at HRV HLI
  rw[HRV.out] at CR
  clear hh HRV
  go_enter Tryz.func132,Tryz.ntmps132
  go_wp2_with (go_at_call 131;with_reducible refine (CR.out _ HB.out).mono ?_;rintro e w2 ⟨rfl,hb2⟩;replace HB:=Lib.hid (HB.out.trans (hb2.mono HB.out.size));clear hb2)
  go_ret
  exact⟨by rw[HLI.out];rfl,HB.out⟩
 rw[if_pos hh] at HRV HLI
 rw[HRV.out] at CR
 clear hh HRV
 generalize rngLow p x=lo at *
 generalize rngHigh p x=hi at *
 go_enter Tryz.func132,Tryz.ntmps132
 go_wp2_with (first|(go_at_call 131;with_reducible refine (CR.out _ HB.out).mono ?_;rintro e w2 ⟨rfl,hb2⟩;replace HB:=Lib.hid (HB.out.trans (hb2.mono HB.out.size));clear hb2)|(go_at_call 130;with_reducible refine (CS.out _ HB.out).mono ?_;rintro e w2 ⟨rfl,hb2⟩;replace HB:=Lib.hid (HB.out.trans (hb2.mono HB.out.size));clear hb2))
 have HBS:=Lib.hid HB.out
 obtain⟨d10,d13,y1,y2,y3⟩:=HC.out _ HB.out
 go_loopw [9] (fun i wr=>∃ (q:Nat),q≤p.licences.length∧i=.int .i64 q∧(p.licences.take q).any (fun z=>allowsB z y.holder y.place lo hi p.day)=false∧Below w.heap.size w wr) (fun i wr=>p.licences.length-(intOf i).toNat)
 case atStart=>exact⟨0,Nat.zero_le _,rfl,by simp,HBS.out⟩
 case round =>
  clear d10 d13 y1 y2 y3
  obtain⟨q,hq,rfl,hno,hb⟩:=hrel
  have HN:=Lib.hid hno
  have HBR:=Lib.hid hb
  have zb:=hb.size
  clear hno hb
  obtain⟨d10,d13,y1,y2,y3⟩:=HC.out _ HBR.out
  by_cases hlt:q<p.licences.length
  ·obtain⟨bL,oL,ea,hbL,hat⟩:=HCL.out (by omega)
   subst ea
   obtain⟨s0,s1,s2,s3,s4,s5,s6,s7,s8,s9,s10⟩:=hat q hlt
   rw[gLicence_eq hlt,← bat HBR.out bL _ (by omega)] at s0 s1 s2 s3 s4 s5 s6 s7 s8 s9 s10
   have HT:Hid (allowsB (gLicence p.licences q) y.holder y.place lo hi p.day=true→firstIdx' (fun z=>allowsB z y.holder y.place lo hi p.day) p.licences=(q:Int)):=fun e=>firstIdx_at _ p.licences q hlt (by rw[gLicence_eq hlt];exact e) HN.out
   have HF:Hid (allowsB (gLicence p.licences q) y.holder y.place lo hi p.day=false→(p.licences.take (q+1)).any (fun z=>allowsB z y.holder y.place lo hi p.day)=false):=fun e=>by rw[any_take_succ _ p.licences q hlt,HN.out,gLicence_eq hlt,e];rfl
   generalize gLicence p.licences q=A at *
   clear hat
   have i1:(0:Int)≤(q:Int):=by omega
   have i2:(q:Int)<(p.licences.length:Int):=by omega
   have yb:bL<wr.heap.size:=by omega
   have CA:Hid (∀ W:World,Below wr.heap.size wr W→Calls Tryz.prog 188 #[.pointer (some ⟨bL,oL+q*11,none⟩),.string y.holder,.agg #[.int .i64 y.place.x,.int .i64 y.place.y],.int .i64 lo,.int .i64 hi,.int .i64 p.day] W fun e w'=>e=.returned (.bool (allowsB A y.holder y.place lo hi p.day))∧Below W.heap.size W w'):=fun W hW=>l26Allows_any A y.holder y.place lo hi p.day bL _ W ((bat hW bL _ yb).trans s0) ((bat hW bL _ yb).trans s1) ((bat hW bL _ yb).trans s2) ((bat hW bL _ yb).trans s3) ((bat hW bL _ yb).trans s4) ((bat hW bL _ yb).trans s5) ((bat hW bL _ yb).trans s6) ((bat hW bL _ yb).trans s7) ((bat hW bL _ yb).trans s8) ((bat hW bL _ yb).trans s9) ((bat hW bL _ yb).trans s10)
   clear s0 s1 s2 s3 s4 s5 s6 s7 s8 s9 s10
   go_wp2
   by_cases c6:allowsB A y.holder y.place lo hi p.day=true
   case pos =>
    rw[c6] at CA
    have o0:=overC (w0:=wr) (show b<wr.heap.size by omega)
    have o1:=overC (w0:=wr) (show bs<wr.heap.size by omega)
    refine wp_region_over wr.heap.size wr (Below.refl _ _) (by kernel_rfl) (by kernel_rfl) ?_
    repeat (go_big_quiet_step ((go_at_call 188;with_reducible exact over_left (Nat.le_refl _) (CA.out _ (over_below _ _ _)))))
    refine wpQuiet_nil ?_
    rintro _ ⟨X,rfl⟩
    have hX:=over_below wr.heap.size wr X
    clear o0 o1
    generalize over wr.heap.size wr X=w3 at *
    have BG:=Lib.hid (HBR.out.trans (hX.mono (by omega)))
    clear hX
    have HE:=Lib.hid (HT.out c6)
    go_wp2
    go_ret
    exact⟨by rw[HLI.out,HE.out];rfl,BG.out⟩
   replace c6:allowsB A y.holder y.place lo hi p.day=false:=Bool.eq_false_iff.2 c6
   rw[c6] at CA
   have o0:=overC (w0:=wr) (show b<wr.heap.size by omega)
   have o1:=overC (w0:=wr) (show bs<wr.heap.size by omega)
   refine wp_region_over wr.heap.size wr (Below.refl _ _) (by kernel_rfl) (by kernel_rfl) ?_
   repeat (go_big_quiet_step ((go_at_call 188;with_reducible exact over_left (Nat.le_refl _) (CA.out _ (over_below _ _ _)))))
   refine wpQuiet_nil ?_
   rintro _ ⟨X,rfl⟩
   have hX:=over_below wr.heap.size wr X
   clear o0 o1
   generalize over wr.heap.size wr X=w3 at *
   have BG:=Lib.hid (HBR.out.trans (hX.mono (by omega)))
   clear hX
   have HE:=Lib.hid (HF.out c6)
   go_wp2
   go_roundw
   case rel=>exact⟨q+1,by omega,by go_num,HE.out,BG.out⟩
   case measure=>simp[intOf];omega
  ·obtain rfl:q=p.licences.length:=by omega
   have hno:=HN.out
   rw[List.take_length] at hno
   have HE:=Lib.hid (firstIdx_none _ p.licences hno)
   clear hno
   go_wp2
   go_ret
   exact⟨by rw[HLI.out,HE.out];rfl,HBR.out⟩
open Go.RowKit
set_option linter.unusedVariables false
set_option linter.unusedSimpArgs false
end Go.Proofs.YtjfmkmcefnidcaaGreat
