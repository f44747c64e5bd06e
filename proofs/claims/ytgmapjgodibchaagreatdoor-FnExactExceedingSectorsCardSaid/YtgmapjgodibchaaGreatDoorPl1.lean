/- Contracts: areas, licences, bands, protected places and requests are valid, for the program and for the reference. Conditions: bounded lengths. -/
import Derived.Test.YtgmapjgodibchaaGreatDoorOrdS
import Derived.Test.YtgmapjgodibchaaGreatDoorOver
import Derived.Test.YtgmapjgodibchaaGreatDoorFit
import Derived.Deep.DeepCutAuto
set_option linter.unusedVariables false
set_option linter.unusedSimpArgs false
namespace Go.Proofs.YtgmapjgodibchaaGreatDoor
open Go.RowKit
set_option maxHeartbeats 2000000
set_option maxRecDepth 100000
def endB (e:DEnd):Bool:=zcw e.place&&inB e.above 1 3000
def zcm (x:DProtected):Bool:=zbh x.name&&(endB x.at_&&(inB x.low 1 100000000&&(inB x.high 1 100000000&&(decide (x.low<x.high)&&inB x.limit (-300000) 300000))))
theorem zbd (n:Int) (w:World):Calls Tryz.prog 53 #[I n] w fun e w'=>e=.returned (.bool (inB n 1 100000000))∧w=w':=by
 go_enter Tryz.func53,Tryz.ntmps53;go_wp2_with (go_at_call 54;refine (zal _ _ _ _).mono ?_;rintro e w1 ⟨rfl,rfl⟩);go_ret;exact⟨rfl,rfl⟩
theorem zbi (n:Int) (w:World):Calls Tryz.prog 88 #[I n] w fun e w'=>e=.returned (.bool (inB n 1 100000000))∧w=w':=by
 go_enter Tryz.func88,Tryz.ntmps88;go_wp2_with (go_at_call 89;refine (zao _ _ _ _).mono ?_;rintro e w1 ⟨rfl,rfl⟩);go_ret;exact⟨rfl,rfl⟩
theorem zci (n:Int) (w:World):Calls Tryz.prog 55 #[I n] w fun e w'=>e=.returned (.bool (inB n (-300000) 300000))∧w=w':=by
 go_enter Tryz.func55,Tryz.ntmps55;go_wp2_with (go_at_call 54;refine (zal _ _ _ _).mono ?_;rintro e w1 ⟨rfl,rfl⟩);go_ret;exact⟨rfl,rfl⟩
theorem l02Level_any (n:Int) (w:World):Calls Tryz.prog 41 #[I n] w fun e w'=>e=.returned (.bool (inB n (-300000) 300000))∧w=w':=by
 go_enter Tryz.func41,Tryz.ntmps41;go_wp2_with (go_at_call 89;refine (zao _ _ _ _).mono ?_;rintro e w1 ⟨rfl,rfl⟩);go_ret;exact⟨rfl,rfl⟩
theorem zc4 (q:DEnd) (w:World) :
  Calls Tryz.prog 121 #[.agg #[I q.place.x,I q.place.y,I q.above]] w fun e w'=>e=.returned (.bool (endB q))∧IJ w w w':=by
 have B0:Hid (IJ w w (w.alloc (.cells #[I q.place.x,I q.place.y,I q.above] 68))):=(Below.alloc (Below.refl _ _) (by first|exact Nat.le_refl _|(simp;done)|(simp<;>omega)) _)
 have HD:Hid (∀ W:World,IJ (w.alloc (.cells #[I q.place.x,I q.place.y,I q.above] 68)).heap.size (w.alloc (.cells #[I q.place.x,I q.place.y,I q.above] 68)) W→(W.cell? ⟨w,0,none⟩=some (I q.place.x)∧W.cell? ⟨w,1,none⟩=some (I q.place.y)∧W.cell? ⟨w,2,none⟩=some (I q.above))):=fun W hW=>⟨by rw[hW.cell (p:=⟨w,0,none⟩) (by first|(simp;done)|(simp<;>omega))];simp[go_sem],by rw[hW.cell (p:=⟨w,1,none⟩) (by first|(simp;done)|(simp<;>omega))];simp[go_sem],by rw[hW.cell (p:=⟨w,2,none⟩) (by first|(simp;done)|(simp<;>omega))];simp[go_sem]⟩
 have HB:Hid (IJ (w.alloc (.cells #[I q.place.x,I q.place.y,I q.above] 68)).heap.size (w.alloc (.cells #[I q.place.x,I q.place.y,I q.above] 68)) (w.alloc (.cells #[I q.place.x,I q.place.y,I q.above] 68))):=Below.refl _ _
 by_cases h0:zcw q.place=true
 case neg =>
  replace h0:zcw q.place=false:=Bool.eq_false_iff.2 h0;have HE:Hid (endB q=false):=by show _=_;unfold endB;simp only[h0]<;>rfl
  go_enter Tryz.func121,Tryz.ntmps121;go_wp2_with (first|(go_at_call 139;refine (zch q.place _).mono ?_;rintro e w2 ⟨rfl,hb2⟩;(try clear t0 t1 t2);replace HB:=J (HB.out.trans (hb2.mono HB.out.size));clear hb2;obtain⟨t0,t1,t2⟩:=HD.out _ HB.out)|(go_at_call 54;refine (zal _ _ _ _).mono ?_;rintro e w1 ⟨rfl,rfl⟩));go_ret;exact⟨by rw[HE.out];rfl,by exact B0.out.trans (HB.out.mono (by first|exact Nat.le_refl _|(simp;done)|(simp<;>omega)))⟩
 by_cases h1:inB q.above 1 3000=true
 case neg =>
  replace h1:inB q.above 1 3000=false:=Bool.eq_false_iff.2 h1;have HE:Hid (endB q=false):=by show _=_;unfold endB;simp only[h0,h1]<;>rfl
  go_enter Tryz.func121,Tryz.ntmps121;go_wp2_with (first|(go_at_call 139;refine (zch q.place _).mono ?_;rintro e w2 ⟨rfl,hb2⟩;(try clear t0 t1 t2);replace HB:=J (HB.out.trans (hb2.mono HB.out.size));clear hb2;obtain⟨t0,t1,t2⟩:=HD.out _ HB.out)|(go_at_call 54;refine (zal _ _ _ _).mono ?_;rintro e w1 ⟨rfl,rfl⟩));go_ret;exact⟨by rw[HE.out];rfl,by exact B0.out.trans (HB.out.mono (by first|exact Nat.le_refl _|(simp;done)|(simp<;>omega)))⟩
 have HE:Hid (endB q=true):=by show _=_;unfold endB;simp only[h0,h1]<;>rfl
 go_enter Tryz.func121,Tryz.ntmps121;go_wp2_with (first|(go_at_call 139;refine (zch q.place _).mono ?_;rintro e w2 ⟨rfl,hb2⟩;(try clear t0 t1 t2);replace HB:=J (HB.out.trans (hb2.mono HB.out.size));clear hb2;obtain⟨t0,t1,t2⟩:=HD.out _ HB.out)|(go_at_call 54;refine (zal _ _ _ _).mono ?_;rintro e w1 ⟨rfl,rfl⟩));go_ret;exact⟨by rw[HE.out];rfl,by exact B0.out.trans (HB.out.mono (by first|exact Nat.le_refl _|(simp;done)|(simp<;>omega)))⟩
theorem zep (q:DEnd) (w:World) :
  Calls Tryz.prog 150 #[.agg #[I q.place.x,I q.place.y,I q.above]] w fun e w'=>e=.returned (.bool (endB q))∧IJ w w w':=by
 have B0:Hid (IJ w w (w.alloc (.cells #[I q.place.x,I q.place.y,I q.above] 68))):=(Below.alloc (Below.refl _ _) (by first|exact Nat.le_refl _|(simp;done)|(simp<;>omega)) _)
 have HD:Hid (∀ W:World,IJ (w.alloc (.cells #[I q.place.x,I q.place.y,I q.above] 68)).heap.size (w.alloc (.cells #[I q.place.x,I q.place.y,I q.above] 68)) W→(W.cell? ⟨w,0,none⟩=some (I q.place.x)∧W.cell? ⟨w,1,none⟩=some (I q.place.y)∧W.cell? ⟨w,2,none⟩=some (I q.above))):=fun W hW=>⟨by rw[hW.cell (p:=⟨w,0,none⟩) (by first|(simp;done)|(simp<;>omega))];simp[go_sem],by rw[hW.cell (p:=⟨w,1,none⟩) (by first|(simp;done)|(simp<;>omega))];simp[go_sem],by rw[hW.cell (p:=⟨w,2,none⟩) (by first|(simp;done)|(simp<;>omega))];simp[go_sem]⟩
 have HB:Hid (IJ (w.alloc (.cells #[I q.place.x,I q.place.y,I q.above] 68)).heap.size (w.alloc (.cells #[I q.place.x,I q.place.y,I q.above] 68)) (w.alloc (.cells #[I q.place.x,I q.place.y,I q.above] 68))):=Below.refl _ _
 by_cases h0:zcw q.place=true
 case neg =>
  replace h0:zcw q.place=false:=Bool.eq_false_iff.2 h0;have HE:Hid (endB q=false):=by show _=_;unfold endB;simp only[h0]<;>rfl
  go_enter Tryz.func150,Tryz.ntmps150;go_wp2_with (first|(go_at_call 169;refine (zez q.place _).mono ?_;rintro e w2 ⟨rfl,hb2⟩;(try clear t0 t1 t2);replace HB:=J (HB.out.trans (hb2.mono HB.out.size));clear hb2;obtain⟨t0,t1,t2⟩:=HD.out _ HB.out)|(go_at_call 89;refine (zao _ _ _ _).mono ?_;rintro e w1 ⟨rfl,rfl⟩));go_ret;exact⟨by rw[HE.out];rfl,by exact B0.out.trans (HB.out.mono (by first|exact Nat.le_refl _|(simp;done)|(simp<;>omega)))⟩
 by_cases h1:inB q.above 1 3000=true
 case neg =>
  replace h1:inB q.above 1 3000=false:=Bool.eq_false_iff.2 h1;have HE:Hid (endB q=false):=by show _=_;unfold endB;simp only[h0,h1]<;>rfl
  go_enter Tryz.func150,Tryz.ntmps150;go_wp2_with (first|(go_at_call 169;refine (zez q.place _).mono ?_;rintro e w2 ⟨rfl,hb2⟩;(try clear t0 t1 t2);replace HB:=J (HB.out.trans (hb2.mono HB.out.size));clear hb2;obtain⟨t0,t1,t2⟩:=HD.out _ HB.out)|(go_at_call 89;refine (zao _ _ _ _).mono ?_;rintro e w1 ⟨rfl,rfl⟩));go_ret;exact⟨by rw[HE.out];rfl,by exact B0.out.trans (HB.out.mono (by first|exact Nat.le_refl _|(simp;done)|(simp<;>omega)))⟩
 have HE:Hid (endB q=true):=by show _=_;unfold endB;simp only[h0,h1]<;>rfl
 go_enter Tryz.func150,Tryz.ntmps150;go_wp2_with (first|(go_at_call 169;refine (zez q.place _).mono ?_;rintro e w2 ⟨rfl,hb2⟩;(try clear t0 t1 t2);replace HB:=J (HB.out.trans (hb2.mono HB.out.size));clear hb2;obtain⟨t0,t1,t2⟩:=HD.out _ HB.out)|(go_at_call 89;refine (zao _ _ _ _).mono ?_;rintro e w1 ⟨rfl,rfl⟩));go_ret;exact⟨by rw[HE.out];rfl,by exact B0.out.trans (HB.out.mono (by first|exact Nat.le_refl _|(simp;done)|(simp<;>omega)))⟩
theorem protectedValid_any (x:DProtected) (k0:x.name.size≤maxLen) (w:World) :
  Calls Tryz.prog 73 #[.agg #[F x.name,I x.at_.place.x,I x.at_.place.y,I x.at_.above,I x.low,I x.high,I x.limit]] w fun e w'=>e=.returned (.bool (zcm x))∧IJ w w w':=by
 have B0:Hid (IJ w w (w.alloc (.cells #[F x.name,I x.at_.place.x,I x.at_.place.y,I x.at_.above,I x.low,I x.high,I x.limit] 70))):=(Below.alloc (Below.refl _ _) (by first|exact Nat.le_refl _|(simp;done)|(simp<;>omega)) _)
 have HD:Hid (∀ W:World,IJ (w.alloc (.cells #[F x.name,I x.at_.place.x,I x.at_.place.y,I x.at_.above,I x.low,I x.high,I x.limit] 70)).heap.size (w.alloc (.cells #[F x.name,I x.at_.place.x,I x.at_.place.y,I x.at_.above,I x.low,I x.high,I x.limit] 70)) W→(W.cell? ⟨w,0,none⟩=some (F x.name)∧W.cell? ⟨w,1,none⟩=some (I x.at_.place.x)∧W.cell? ⟨w,2,none⟩=some (I x.at_.place.y)∧W.cell? ⟨w,3,none⟩=some (I x.at_.above)∧W.cell? ⟨w,4,none⟩=some (I x.low)∧W.cell? ⟨w,5,none⟩=some (I x.high)∧W.cell? ⟨w,6,none⟩=some (I x.limit))):=fun W hW=>⟨by rw[hW.cell (p:=⟨w,0,none⟩) (by first|(simp;done)|(simp<;>omega))];simp[go_sem],by rw[hW.cell (p:=⟨w,1,none⟩) (by first|(simp;done)|(simp<;>omega))];simp[go_sem],by rw[hW.cell (p:=⟨w,2,none⟩) (by first|(simp;done)|(simp<;>omega))];simp[go_sem],by rw[hW.cell (p:=⟨w,3,none⟩) (by first|(simp;done)|(simp<;>omega))];simp[go_sem],by rw[hW.cell (p:=⟨w,4,none⟩) (by first|(simp;done)|(simp<;>omega))];simp[go_sem],by rw[hW.cell (p:=⟨w,5,none⟩) (by first|(simp;done)|(simp<;>omega))];simp[go_sem],by rw[hW.cell (p:=⟨w,6,none⟩) (by first|(simp;done)|(simp<;>omega))];simp[go_sem]⟩
 have HB:Hid (IJ (w.alloc (.cells #[F x.name,I x.at_.place.x,I x.at_.place.y,I x.at_.above,I x.low,I x.high,I x.limit] 70)).heap.size (w.alloc (.cells #[F x.name,I x.at_.place.x,I x.at_.place.y,I x.at_.above,I x.low,I x.high,I x.limit] 70)) (w.alloc (.cells #[F x.name,I x.at_.place.x,I x.at_.place.y,I x.at_.above,I x.low,I x.high,I x.limit] 70))):=Below.refl _ _
 by_cases h0:zbh x.name=true
 case neg =>
  replace h0:zbh x.name=false:=Bool.eq_false_iff.2 h0;have HE:Hid (zcm x=false):=by show _=_;unfold zcm;simp only[h0]<;>rfl
  go_enter Tryz.func73,Tryz.ntmps73;go_wp2_with (first|(go_at_call 120;refine (zar _ _ (by assumption)).mono ?_;rintro e w1 ⟨rfl,rfl⟩)|(go_at_call 53;refine (zbd _ _).mono ?_;rintro e w1 ⟨rfl,rfl⟩)|(go_at_call 121;refine (zc4 x.at_ _).mono ?_;rintro e w2 ⟨rfl,hb2⟩;(try clear t0 t1 t2 t3 t4 t5 t6);replace HB:=J (HB.out.trans (hb2.mono HB.out.size));clear hb2;obtain⟨t0,t1,t2,t3,t4,t5,t6⟩:=HD.out _ HB.out)|(go_at_call 55;refine (zci _ _).mono ?_;rintro e w1 ⟨rfl,rfl⟩));go_ret;exact⟨by rw[HE.out];rfl,by exact B0.out.trans (HB.out.mono (by first|exact Nat.le_refl _|(simp;done)|(simp<;>omega)))⟩
 by_cases h1:endB x.at_=true
 case neg =>
  replace h1:endB x.at_=false:=Bool.eq_false_iff.2 h1;have HE:Hid (zcm x=false):=by show _=_;unfold zcm;simp only[h0,h1]<;>rfl
  go_enter Tryz.func73,Tryz.ntmps73;go_wp2_with (first|(go_at_call 120;refine (zar _ _ (by assumption)).mono ?_;rintro e w1 ⟨rfl,rfl⟩)|(go_at_call 53;refine (zbd _ _).mono ?_;rintro e w1 ⟨rfl,rfl⟩)|(go_at_call 121;refine (zc4 x.at_ _).mono ?_;rintro e w2 ⟨rfl,hb2⟩;(try clear t0 t1 t2 t3 t4 t5 t6);replace HB:=J (HB.out.trans (hb2.mono HB.out.size));clear hb2;obtain⟨t0,t1,t2,t3,t4,t5,t6⟩:=HD.out _ HB.out)|(go_at_call 55;refine (zci _ _).mono ?_;rintro e w1 ⟨rfl,rfl⟩));go_ret;exact⟨by rw[HE.out];rfl,by exact B0.out.trans (HB.out.mono (by first|exact Nat.le_refl _|(simp;done)|(simp<;>omega)))⟩
 by_cases h2:inB x.low 1 100000000=true
 case neg =>
  replace h2:inB x.low 1 100000000=false:=Bool.eq_false_iff.2 h2;have HE:Hid (zcm x=false):=by show _=_;unfold zcm;simp only[h0,h1,h2]<;>rfl
  go_enter Tryz.func73,Tryz.ntmps73;go_wp2_with (first|(go_at_call 120;refine (zar _ _ (by assumption)).mono ?_;rintro e w1 ⟨rfl,rfl⟩)|(go_at_call 53;refine (zbd _ _).mono ?_;rintro e w1 ⟨rfl,rfl⟩)|(go_at_call 121;refine (zc4 x.at_ _).mono ?_;rintro e w2 ⟨rfl,hb2⟩;(try clear t0 t1 t2 t3 t4 t5 t6);replace HB:=J (HB.out.trans (hb2.mono HB.out.size));clear hb2;obtain⟨t0,t1,t2,t3,t4,t5,t6⟩:=HD.out _ HB.out)|(go_at_call 55;refine (zci _ _).mono ?_;rintro e w1 ⟨rfl,rfl⟩));go_ret;exact⟨by rw[HE.out];rfl,by exact B0.out.trans (HB.out.mono (by first|exact Nat.le_refl _|(simp;done)|(simp<;>omega)))⟩
 by_cases h3:inB x.high 1 100000000=true
 case neg =>
  replace h3:inB x.high 1 100000000=false:=Bool.eq_false_iff.2 h3;have HE:Hid (zcm x=false):=by show _=_;unfold zcm;simp only[h0,h1,h2,h3]<;>rfl
  go_enter Tryz.func73,Tryz.ntmps73;go_wp2_with (first|(go_at_call 120;refine (zar _ _ (by assumption)).mono ?_;rintro e w1 ⟨rfl,rfl⟩)|(go_at_call 53;refine (zbd _ _).mono ?_;rintro e w1 ⟨rfl,rfl⟩)|(go_at_call 121;refine (zc4 x.at_ _).mono ?_;rintro e w2 ⟨rfl,hb2⟩;(try clear t0 t1 t2 t3 t4 t5 t6);replace HB:=J (HB.out.trans (hb2.mono HB.out.size));clear hb2;obtain⟨t0,t1,t2,t3,t4,t5,t6⟩:=HD.out _ HB.out)|(go_at_call 55;refine (zci _ _).mono ?_;rintro e w1 ⟨rfl,rfl⟩));go_ret;exact⟨by rw[HE.out];rfl,by exact B0.out.trans (HB.out.mono (by first|exact Nat.le_refl _|(simp;done)|(simp<;>omega)))⟩
 by_cases h4:x.low<x.high
 case neg =>
  have hd4:decide (x.low<x.high)=false:=decide_eq_false h4;replace h4:x.high≤x.low:=O
  have HE:Hid (zcm x=false):=by show _=_;unfold zcm;simp only[h0,h1,h2,h3,hd4]<;>rfl
  go_enter Tryz.func73,Tryz.ntmps73;go_wp2_with (first|(go_at_call 120;refine (zar _ _ (by assumption)).mono ?_;rintro e w1 ⟨rfl,rfl⟩)|(go_at_call 53;refine (zbd _ _).mono ?_;rintro e w1 ⟨rfl,rfl⟩)|(go_at_call 121;refine (zc4 x.at_ _).mono ?_;rintro e w2 ⟨rfl,hb2⟩;(try clear t0 t1 t2 t3 t4 t5 t6);replace HB:=J (HB.out.trans (hb2.mono HB.out.size));clear hb2;obtain⟨t0,t1,t2,t3,t4,t5,t6⟩:=HD.out _ HB.out)|(go_at_call 55;refine (zci _ _).mono ?_;rintro e w1 ⟨rfl,rfl⟩));go_ret;exact⟨by rw[HE.out];rfl,by exact B0.out.trans (HB.out.mono (by first|exact Nat.le_refl _|(simp;done)|(simp<;>omega)))⟩
 have hd4:decide (x.low<x.high)=true:=decide_eq_true h4
 by_cases h5:inB x.limit (-300000) 300000=true
 case neg =>
  replace h5:inB x.limit (-300000) 300000=false:=Bool.eq_false_iff.2 h5;have HE:Hid (zcm x=false):=by show _=_;unfold zcm;simp only[h0,h1,h2,h3,hd4,h5]<;>rfl
  go_enter Tryz.func73,Tryz.ntmps73;go_wp2_with (first|(go_at_call 120;refine (zar _ _ (by assumption)).mono ?_;rintro e w1 ⟨rfl,rfl⟩)|(go_at_call 53;refine (zbd _ _).mono ?_;rintro e w1 ⟨rfl,rfl⟩)|(go_at_call 121;refine (zc4 x.at_ _).mono ?_;rintro e w2 ⟨rfl,hb2⟩;(try clear t0 t1 t2 t3 t4 t5 t6);replace HB:=J (HB.out.trans (hb2.mono HB.out.size));clear hb2;obtain⟨t0,t1,t2,t3,t4,t5,t6⟩:=HD.out _ HB.out)|(go_at_call 55;refine (zci _ _).mono ?_;rintro e w1 ⟨rfl,rfl⟩));go_ret;exact⟨by rw[HE.out];rfl,by exact B0.out.trans (HB.out.mono (by first|exact Nat.le_refl _|(simp;done)|(simp<;>omega)))⟩
 have HE:Hid (zcm x=true):=by show _=_;unfold zcm;simp only[h0,h1,h2,h3,hd4,h5]<;>rfl
 go_enter Tryz.func73,Tryz.ntmps73;go_wp2_with (first|(go_at_call 120;refine (zar _ _ (by assumption)).mono ?_;rintro e w1 ⟨rfl,rfl⟩)|(go_at_call 53;refine (zbd _ _).mono ?_;rintro e w1 ⟨rfl,rfl⟩)|(go_at_call 121;refine (zc4 x.at_ _).mono ?_;rintro e w2 ⟨rfl,hb2⟩;(try clear t0 t1 t2 t3 t4 t5 t6);replace HB:=J (HB.out.trans (hb2.mono HB.out.size));clear hb2;obtain⟨t0,t1,t2,t3,t4,t5,t6⟩:=HD.out _ HB.out)|(go_at_call 55;refine (zci _ _).mono ?_;rintro e w1 ⟨rfl,rfl⟩));go_ret;exact⟨by rw[HE.out];rfl,by exact B0.out.trans (HB.out.mono (by first|exact Nat.le_refl _|(simp;done)|(simp<;>omega)))⟩
theorem l27Place_any (x:DProtected) (b off:Nat) (w:World) (c0:w.cell? ⟨b,off,none⟩=some (F x.name)) (c1:w.cell? ⟨b,off+1,none⟩=some (I x.at_.place.x)) (c2:w.cell? ⟨b,off+2,none⟩=some (I x.at_.place.y)) (c3:w.cell? ⟨b,off+3,none⟩=some (I x.at_.above)) (c4:w.cell? ⟨b,off+4,none⟩=some (I x.low)) (c5:w.cell? ⟨b,off+5,none⟩=some (I x.high)) (c6:w.cell? ⟨b,off+6,none⟩=some (I x.limit)) (k0:x.name.size≤maxLen) :
  Calls Tryz.prog 115 #[.pointer (some ⟨b,off,none⟩)] w fun e w'=>e=.returned (.bool (zcm x))∧IJ w w w':=by
 have hbl:=za5 c0
 dsimp only at hbl
 by_cases h0:zbh x.name=true
 case neg =>
  replace h0:zbh x.name=false:=Bool.eq_false_iff.2 h0;have C0:Hid (∀ W:World,Calls Tryz.prog 149 #[F x.name] W fun e w'=>e=.returned (.bool false)∧W=w'):=fun W=>by
   have hh:=zam x.name W k0;rw[h0] at hh;exact hh
  have HE:Hid (zcm x=false):=by show _=_;unfold zcm;simp only[h0]<;>rfl
  go_enter Tryz.func115,Tryz.ntmps115;go_upto_region 1 with (fail);have oB0:=zak (w0:=w) (show b<w.heap.size by omega);refine zab w.heap.size w (Below.refl _ _) (by kernel_rfl) (by kernel_rfl) ?_
  repeat (go_big_quiet_step (first|(go_at_call 149;with_reducible exact zax (C0.out _))))
  refine wpQuiet_nil ?_;rintro _ ⟨X,rfl⟩;have BE:=J (zaa w.heap.size w X);clear oB0;generalize over w.heap.size w X=W9 at *;go_wp2;go_ret;exact⟨by rw[HE.out];rfl,by exact BE.out⟩
 by_cases h1:endB x.at_=true
 case neg =>
  replace h1:endB x.at_=false:=Bool.eq_false_iff.2 h1;have C0:Hid (∀ W:World,Calls Tryz.prog 149 #[F x.name] W fun e w'=>e=.returned (.bool true)∧W=w'):=fun W=>by
   have hh:=zam x.name W k0;rw[h0] at hh;exact hh
  have C1:Hid (∀ W:World,Calls Tryz.prog 150 #[.agg #[I x.at_.place.x,I x.at_.place.y,I x.at_.above]] W fun e w'=>e=.returned (.bool false)∧IJ W W w'):=fun W=>by
   have hh:=zep x.at_ W;rw[h1] at hh;exact hh
  have HE:Hid (zcm x=false):=by show _=_;unfold zcm;simp only[h0,h1]<;>rfl
  go_enter Tryz.func115,Tryz.ntmps115;go_upto_region 1 with (fail);have oB0:=zak (w0:=w) (show b<w.heap.size by omega);refine zab w.heap.size w (Below.refl _ _) (by kernel_rfl) (by kernel_rfl) ?_
  repeat (go_big_quiet_step (first|(go_at_call 149;with_reducible exact zax (C0.out _))|(go_at_call 150;with_reducible exact zai (Nat.le_refl _) (C1.out _))))
  refine wpQuiet_nil ?_;rintro _ ⟨X,rfl⟩;have BE:=J (zaa w.heap.size w X);clear oB0;generalize over w.heap.size w X=W9 at *;go_wp2;go_ret;exact⟨by rw[HE.out];rfl,by exact BE.out⟩
 by_cases h2:inB x.low 1 100000000=true
 case neg =>
  replace h2:inB x.low 1 100000000=false:=Bool.eq_false_iff.2 h2;have C0:Hid (∀ W:World,Calls Tryz.prog 149 #[F x.name] W fun e w'=>e=.returned (.bool true)∧W=w'):=fun W=>by
   have hh:=zam x.name W k0;rw[h0] at hh;exact hh
  have C1:Hid (∀ W:World,Calls Tryz.prog 150 #[.agg #[I x.at_.place.x,I x.at_.place.y,I x.at_.above]] W fun e w'=>e=.returned (.bool true)∧IJ W W w'):=fun W=>by
   have hh:=zep x.at_ W;rw[h1] at hh;exact hh
  have C2:Hid (∀ W:World,Calls Tryz.prog 88 #[I x.low] W fun e w'=>e=.returned (.bool false)∧W=w'):=fun W=>by
   have hh:=zbi x.low W;rw[h2] at hh;exact hh
  have HE:Hid (zcm x=false):=by show _=_;unfold zcm;simp only[h0,h1,h2]<;>rfl
  go_enter Tryz.func115,Tryz.ntmps115;go_upto_region 1 with (fail);have oB0:=zak (w0:=w) (show b<w.heap.size by omega);refine zab w.heap.size w (Below.refl _ _) (by kernel_rfl) (by kernel_rfl) ?_
  repeat (go_big_quiet_step (first|(go_at_call 149;with_reducible exact zax (C0.out _))|(go_at_call 150;with_reducible exact zai (Nat.le_refl _) (C1.out _))|(go_at_call 88;with_reducible exact zax (C2.out _))))
  refine wpQuiet_nil ?_;rintro _ ⟨X,rfl⟩;have BE:=J (zaa w.heap.size w X);clear oB0;generalize over w.heap.size w X=W9 at *;go_wp2;go_ret;exact⟨by rw[HE.out];rfl,by exact BE.out⟩
 by_cases h3:inB x.high 1 100000000=true
 case neg =>
  replace h3:inB x.high 1 100000000=false:=Bool.eq_false_iff.2 h3;have C0:Hid (∀ W:World,Calls Tryz.prog 149 #[F x.name] W fun e w'=>e=.returned (.bool true)∧W=w'):=fun W=>by
   have hh:=zam x.name W k0;rw[h0] at hh;exact hh
  have C1:Hid (∀ W:World,Calls Tryz.prog 150 #[.agg #[I x.at_.place.x,I x.at_.place.y,I x.at_.above]] W fun e w'=>e=.returned (.bool true)∧IJ W W w'):=fun W=>by
   have hh:=zep x.at_ W;rw[h1] at hh;exact hh
  have C2:Hid (∀ W:World,Calls Tryz.prog 88 #[I x.low] W fun e w'=>e=.returned (.bool true)∧W=w'):=fun W=>by
   have hh:=zbi x.low W;rw[h2] at hh;exact hh
  have C3:Hid (∀ W:World,Calls Tryz.prog 88 #[I x.high] W fun e w'=>e=.returned (.bool false)∧W=w'):=fun W=>by
   have hh:=zbi x.high W;rw[h3] at hh;exact hh
  have HE:Hid (zcm x=false):=by show _=_;unfold zcm;simp only[h0,h1,h2,h3]<;>rfl
  go_enter Tryz.func115,Tryz.ntmps115;go_upto_region 1 with (fail);have oB0:=zak (w0:=w) (show b<w.heap.size by omega);refine zab w.heap.size w (Below.refl _ _) (by kernel_rfl) (by kernel_rfl) ?_
  repeat (go_big_quiet_step (first|(go_at_call 149;with_reducible exact zax (C0.out _))|(go_at_call 150;with_reducible exact zai (Nat.le_refl _) (C1.out _))|(go_at_call 88;with_reducible exact zax (C2.out _))|(go_at_call 88;with_reducible exact zax (C3.out _))))
  refine wpQuiet_nil ?_;rintro _ ⟨X,rfl⟩;have BE:=J (zaa w.heap.size w X);clear oB0;generalize over w.heap.size w X=W9 at *;go_wp2;go_ret;exact⟨by rw[HE.out];rfl,by exact BE.out⟩
 by_cases h4:x.low<x.high
 case neg =>
  have hd4:decide (x.low<x.high)=false:=decide_eq_false h4;replace h4:x.high≤x.low:=O
  have C0:Hid (∀ W:World,Calls Tryz.prog 149 #[F x.name] W fun e w'=>e=.returned (.bool true)∧W=w'):=fun W=>by
   have hh:=zam x.name W k0;rw[h0] at hh;exact hh
  have C1:Hid (∀ W:World,Calls Tryz.prog 150 #[.agg #[I x.at_.place.x,I x.at_.place.y,I x.at_.above]] W fun e w'=>e=.returned (.bool true)∧IJ W W w'):=fun W=>by
   have hh:=zep x.at_ W;rw[h1] at hh;exact hh
  have C2:Hid (∀ W:World,Calls Tryz.prog 88 #[I x.low] W fun e w'=>e=.returned (.bool true)∧W=w'):=fun W=>by
   have hh:=zbi x.low W;rw[h2] at hh;exact hh
  have C3:Hid (∀ W:World,Calls Tryz.prog 88 #[I x.high] W fun e w'=>e=.returned (.bool true)∧W=w'):=fun W=>by
   have hh:=zbi x.high W;rw[h3] at hh;exact hh
  have HE:Hid (zcm x=false):=by show _=_;unfold zcm;simp only[h0,h1,h2,h3,hd4]<;>rfl
  go_enter Tryz.func115,Tryz.ntmps115;go_upto_region 1 with (fail);have oB0:=zak (w0:=w) (show b<w.heap.size by omega);refine zab w.heap.size w (Below.refl _ _) (by kernel_rfl) (by kernel_rfl) ?_
  repeat (go_big_quiet_step (first|(go_at_call 149;with_reducible exact zax (C0.out _))|(go_at_call 150;with_reducible exact zai (Nat.le_refl _) (C1.out _))|(go_at_call 88;with_reducible exact zax (C2.out _))|(go_at_call 88;with_reducible exact zax (C3.out _))))
  refine wpQuiet_nil ?_;rintro _ ⟨X,rfl⟩;have BE:=J (zaa w.heap.size w X);clear oB0;generalize over w.heap.size w X=W9 at *;go_wp2;go_ret;exact⟨by rw[HE.out];rfl,by exact BE.out⟩
 have hd4:decide (x.low<x.high)=true:=decide_eq_true h4
 by_cases h5:inB x.limit (-300000) 300000=true
 case neg =>
  replace h5:inB x.limit (-300000) 300000=false:=Bool.eq_false_iff.2 h5;have C0:Hid (∀ W:World,Calls Tryz.prog 149 #[F x.name] W fun e w'=>e=.returned (.bool true)∧W=w'):=fun W=>by
   have hh:=zam x.name W k0;rw[h0] at hh;exact hh
  have C1:Hid (∀ W:World,Calls Tryz.prog 150 #[.agg #[I x.at_.place.x,I x.at_.place.y,I x.at_.above]] W fun e w'=>e=.returned (.bool true)∧IJ W W w'):=fun W=>by
   have hh:=zep x.at_ W;rw[h1] at hh;exact hh
  have C2:Hid (∀ W:World,Calls Tryz.prog 88 #[I x.low] W fun e w'=>e=.returned (.bool true)∧W=w'):=fun W=>by
   have hh:=zbi x.low W;rw[h2] at hh;exact hh
  have C3:Hid (∀ W:World,Calls Tryz.prog 88 #[I x.high] W fun e w'=>e=.returned (.bool true)∧W=w'):=fun W=>by
   have hh:=zbi x.high W;rw[h3] at hh;exact hh
  have C4:Hid (∀ W:World,Calls Tryz.prog 41 #[I x.limit] W fun e w'=>e=.returned (.bool false)∧W=w'):=fun W=>by
   have hh:=l02Level_any x.limit W;rw[h5] at hh;exact hh
  have HE:Hid (zcm x=false):=by show _=_;unfold zcm;simp only[h0,h1,h2,h3,hd4,h5]<;>rfl
  go_enter Tryz.func115,Tryz.ntmps115;go_upto_region 1 with (fail);have oB0:=zak (w0:=w) (show b<w.heap.size by omega);refine zab w.heap.size w (Below.refl _ _) (by kernel_rfl) (by kernel_rfl) ?_
  repeat (go_big_quiet_step (first|(go_at_call 149;with_reducible exact zax (C0.out _))|(go_at_call 150;with_reducible exact zai (Nat.le_refl _) (C1.out _))|(go_at_call 88;with_reducible exact zax (C2.out _))|(go_at_call 88;with_reducible exact zax (C3.out _))|(go_at_call 41;with_reducible exact zax (C4.out _))))
  refine wpQuiet_nil ?_;rintro _ ⟨X,rfl⟩;have BE:=J (zaa w.heap.size w X);clear oB0;generalize over w.heap.size w X=W9 at *;go_wp2;go_ret;exact⟨by rw[HE.out];rfl,by exact BE.out⟩
 have C0:Hid (∀ W:World,Calls Tryz.prog 149 #[F x.name] W fun e w'=>e=.returned (.bool true)∧W=w'):=fun W=>by
  have hh:=zam x.name W k0;rw[h0] at hh;exact hh
 have C1:Hid (∀ W:World,Calls Tryz.prog 150 #[.agg #[I x.at_.place.x,I x.at_.place.y,I x.at_.above]] W fun e w'=>e=.returned (.bool true)∧IJ W W w'):=fun W=>by
  have hh:=zep x.at_ W;rw[h1] at hh;exact hh
 have C2:Hid (∀ W:World,Calls Tryz.prog 88 #[I x.low] W fun e w'=>e=.returned (.bool true)∧W=w'):=fun W=>by
  have hh:=zbi x.low W;rw[h2] at hh;exact hh
 have C3:Hid (∀ W:World,Calls Tryz.prog 88 #[I x.high] W fun e w'=>e=.returned (.bool true)∧W=w'):=fun W=>by
  have hh:=zbi x.high W;rw[h3] at hh;exact hh
 have C4:Hid (∀ W:World,Calls Tryz.prog 41 #[I x.limit] W fun e w'=>e=.returned (.bool true)∧W=w'):=fun W=>by
  have hh:=l02Level_any x.limit W;rw[h5] at hh;exact hh
 have HE:Hid (zcm x=true):=by show _=_;unfold zcm;simp only[h0,h1,h2,h3,hd4,h5]<;>rfl
 go_enter Tryz.func115,Tryz.ntmps115;go_upto_region 1 with (fail);have oB0:=zak (w0:=w) (show b<w.heap.size by omega);refine zab w.heap.size w (Below.refl _ _) (by kernel_rfl) (by kernel_rfl) ?_
 repeat (go_big_quiet_step (first|(go_at_call 149;with_reducible exact zax (C0.out _))|(go_at_call 150;with_reducible exact zai (Nat.le_refl _) (C1.out _))|(go_at_call 88;with_reducible exact zax (C2.out _))|(go_at_call 88;with_reducible exact zax (C3.out _))|(go_at_call 41;with_reducible exact zax (C4.out _))))
 refine wpQuiet_nil ?_;rintro _ ⟨X,rfl⟩;have BE:=J (zaa w.heap.size w X);clear oB0;generalize over w.heap.size w X=W9 at *;go_wp2;go_ret;exact⟨by rw[HE.out];rfl,by exact BE.out⟩
end Go.Proofs.YtgmapjgodibchaaGreatDoor
