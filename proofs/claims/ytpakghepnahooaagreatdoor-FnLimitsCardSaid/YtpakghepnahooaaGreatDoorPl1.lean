/- Contracts: areas, licences, bands, protected places and requests are valid, for the program and for the reference. Conditions: bounded lengths. -/
import Derived.Test.YtpakghepnahooaaGreatDoorOrdS
import Derived.Test.YtpakghepnahooaaGreatDoorOver
import Derived.Test.YtpakghepnahooaaGreatDoorFit
import Derived.Deep.DeepCutAuto
set_option linter.unusedVariables false
set_option linter.unusedSimpArgs false
namespace Go.Proofs.YtpakghepnahooaaGreatDoor
open Go.RowKit
set_option maxHeartbeats 2000000
set_option maxRecDepth 100000
def endB (e:DEnd):Bool:=zcl e.place&&inB e.above 1 3000
def zej (x:DProtected):Bool:=za4 x.name&&(endB x.at_&&(inB x.low 1 100000000&&(inB x.high 1 100000000&&(decide (x.low<x.high)&&inB x.limit (-300000) 300000))))
theorem zbd (n:Int) (w:World):Calls Tryz.prog 33 #[J n] w fun e w'=>e=.returned (.bool (inB n 1 100000000))∧w=w':=by
 go_enter Tryz.func33,Tryz.ntmps33;go_wp2_with (go_at_call 34;refine (zai _ _ _ _).mono ?_;rintro e w1 ⟨rfl,rfl⟩);go_ret;exact⟨rfl,rfl⟩
theorem zcf (n:Int) (w:World):Calls Tryz.prog 35 #[J n] w fun e w'=>e=.returned (.bool (inB n (-300000) 300000))∧w=w':=by
 go_enter Tryz.func35,Tryz.ntmps35;go_wp2_with (go_at_call 34;refine (zai _ _ _ _).mono ?_;rintro e w1 ⟨rfl,rfl⟩);go_ret;exact⟨rfl,rfl⟩
theorem zcy (q:DEnd) (w:World) :
  Calls Tryz.prog 60 #[.agg #[J q.place.x,J q.place.y,J q.above]] w fun e w'=>e=.returned (.bool (endB q))∧OI w w w':=by
 have B0:Hid (OI w w (w.alloc (.cells #[J q.place.x,J q.place.y,J q.above] 55))):=(Below.alloc (Below.refl _ _) (by first|exact Nat.le_refl _|(simp;done)|(simp<;>omega)) _)
 have HD:Hid (∀ W:World,OI (w.alloc (.cells #[J q.place.x,J q.place.y,J q.above] 55)).heap.size (w.alloc (.cells #[J q.place.x,J q.place.y,J q.above] 55)) W→(W.cell? ⟨w,0,none⟩=some (J q.place.x)∧W.cell? ⟨w,1,none⟩=some (J q.place.y)∧W.cell? ⟨w,2,none⟩=some (J q.above))):=fun W hW=>⟨by rw[hW.cell (p:=⟨w,0,none⟩) (by first|(simp;done)|(simp<;>omega))];simp[go_sem],by rw[hW.cell (p:=⟨w,1,none⟩) (by first|(simp;done)|(simp<;>omega))];simp[go_sem],by rw[hW.cell (p:=⟨w,2,none⟩) (by first|(simp;done)|(simp<;>omega))];simp[go_sem]⟩
 have HB:Hid (OI (w.alloc (.cells #[J q.place.x,J q.place.y,J q.above] 55)).heap.size (w.alloc (.cells #[J q.place.x,J q.place.y,J q.above] 55)) (w.alloc (.cells #[J q.place.x,J q.place.y,J q.above] 55))):=Below.refl _ _
 by_cases h0:zcl q.place=true
 case neg =>
  replace h0:zcl q.place=false:=Bool.eq_false_iff.2 h0;have HE:Hid (endB q=false):=by show _=_;unfold endB;simp only[h0]<;>rfl
  go_enter Tryz.func60,Tryz.ntmps60;go_wp2_with (first|(go_at_call 97;refine (zce q.place _).mono ?_;rintro e w2 ⟨rfl,hb2⟩;(try clear t0 t1 t2);replace HB:=IJ (HB.out.trans (hb2.mono HB.out.size));clear hb2;obtain⟨t0,t1,t2⟩:=HD.out _ HB.out)|(go_at_call 34;refine (zai _ _ _ _).mono ?_;rintro e w1 ⟨rfl,rfl⟩));go_ret;exact⟨by rw[HE.out];rfl,by exact B0.out.trans (HB.out.mono (by first|exact Nat.le_refl _|(simp;done)|(simp<;>omega)))⟩
 by_cases h1:inB q.above 1 3000=true
 case neg =>
  replace h1:inB q.above 1 3000=false:=Bool.eq_false_iff.2 h1;have HE:Hid (endB q=false):=by show _=_;unfold endB;simp only[h0,h1]<;>rfl
  go_enter Tryz.func60,Tryz.ntmps60;go_wp2_with (first|(go_at_call 97;refine (zce q.place _).mono ?_;rintro e w2 ⟨rfl,hb2⟩;(try clear t0 t1 t2);replace HB:=IJ (HB.out.trans (hb2.mono HB.out.size));clear hb2;obtain⟨t0,t1,t2⟩:=HD.out _ HB.out)|(go_at_call 34;refine (zai _ _ _ _).mono ?_;rintro e w1 ⟨rfl,rfl⟩));go_ret;exact⟨by rw[HE.out];rfl,by exact B0.out.trans (HB.out.mono (by first|exact Nat.le_refl _|(simp;done)|(simp<;>omega)))⟩
 have HE:Hid (endB q=true):=by show _=_;unfold endB;simp only[h0,h1]<;>rfl
 go_enter Tryz.func60,Tryz.ntmps60;go_wp2_with (first|(go_at_call 97;refine (zce q.place _).mono ?_;rintro e w2 ⟨rfl,hb2⟩;(try clear t0 t1 t2);replace HB:=IJ (HB.out.trans (hb2.mono HB.out.size));clear hb2;obtain⟨t0,t1,t2⟩:=HD.out _ HB.out)|(go_at_call 34;refine (zai _ _ _ _).mono ?_;rintro e w1 ⟨rfl,rfl⟩));go_ret;exact⟨by rw[HE.out];rfl,by exact B0.out.trans (HB.out.mono (by first|exact Nat.le_refl _|(simp;done)|(simp<;>omega)))⟩
theorem protectedValid_any (x:DProtected) (k0:x.name.size≤maxLen) (w:World) :
  Calls Tryz.prog 49 #[.agg #[IQ x.name,J x.at_.place.x,J x.at_.place.y,J x.at_.above,J x.low,J x.high,J x.limit]] w fun e w'=>e=.returned (.bool (zej x))∧OI w w w':=by
 have B0:Hid (OI w w (w.alloc (.cells #[IQ x.name,J x.at_.place.x,J x.at_.place.y,J x.at_.above,J x.low,J x.high,J x.limit] 57))):=(Below.alloc (Below.refl _ _) (by first|exact Nat.le_refl _|(simp;done)|(simp<;>omega)) _)
 have HD:Hid (∀ W:World,OI (w.alloc (.cells #[IQ x.name,J x.at_.place.x,J x.at_.place.y,J x.at_.above,J x.low,J x.high,J x.limit] 57)).heap.size (w.alloc (.cells #[IQ x.name,J x.at_.place.x,J x.at_.place.y,J x.at_.above,J x.low,J x.high,J x.limit] 57)) W→(W.cell? ⟨w,0,none⟩=some (IQ x.name)∧W.cell? ⟨w,1,none⟩=some (J x.at_.place.x)∧W.cell? ⟨w,2,none⟩=some (J x.at_.place.y)∧W.cell? ⟨w,3,none⟩=some (J x.at_.above)∧W.cell? ⟨w,4,none⟩=some (J x.low)∧W.cell? ⟨w,5,none⟩=some (J x.high)∧W.cell? ⟨w,6,none⟩=some (J x.limit))):=fun W hW=>⟨by rw[hW.cell (p:=⟨w,0,none⟩) (by first|(simp;done)|(simp<;>omega))];simp[go_sem],by rw[hW.cell (p:=⟨w,1,none⟩) (by first|(simp;done)|(simp<;>omega))];simp[go_sem],by rw[hW.cell (p:=⟨w,2,none⟩) (by first|(simp;done)|(simp<;>omega))];simp[go_sem],by rw[hW.cell (p:=⟨w,3,none⟩) (by first|(simp;done)|(simp<;>omega))];simp[go_sem],by rw[hW.cell (p:=⟨w,4,none⟩) (by first|(simp;done)|(simp<;>omega))];simp[go_sem],by rw[hW.cell (p:=⟨w,5,none⟩) (by first|(simp;done)|(simp<;>omega))];simp[go_sem],by rw[hW.cell (p:=⟨w,6,none⟩) (by first|(simp;done)|(simp<;>omega))];simp[go_sem]⟩
 have HB:Hid (OI (w.alloc (.cells #[IQ x.name,J x.at_.place.x,J x.at_.place.y,J x.at_.above,J x.low,J x.high,J x.limit] 57)).heap.size (w.alloc (.cells #[IQ x.name,J x.at_.place.x,J x.at_.place.y,J x.at_.above,J x.low,J x.high,J x.limit] 57)) (w.alloc (.cells #[IQ x.name,J x.at_.place.x,J x.at_.place.y,J x.at_.above,J x.low,J x.high,J x.limit] 57))):=Below.refl _ _
 by_cases h0:za4 x.name=true
 case neg =>
  replace h0:za4 x.name=false:=Bool.eq_false_iff.2 h0;have HE:Hid (zej x=false):=by show _=_;unfold zej;simp only[h0]<;>rfl
  go_enter Tryz.func49,Tryz.ntmps49;go_wp2_with (first|(go_at_call 85;refine (zal _ _ (by assumption)).mono ?_;rintro e w1 ⟨rfl,rfl⟩)|(go_at_call 33;refine (zbd _ _).mono ?_;rintro e w1 ⟨rfl,rfl⟩)|(go_at_call 60;refine (zcy x.at_ _).mono ?_;rintro e w2 ⟨rfl,hb2⟩;(try clear t0 t1 t2 t3 t4 t5 t6);replace HB:=IJ (HB.out.trans (hb2.mono HB.out.size));clear hb2;obtain⟨t0,t1,t2,t3,t4,t5,t6⟩:=HD.out _ HB.out)|(go_at_call 35;refine (zcf _ _).mono ?_;rintro e w1 ⟨rfl,rfl⟩));go_ret;exact⟨by rw[HE.out];rfl,by exact B0.out.trans (HB.out.mono (by first|exact Nat.le_refl _|(simp;done)|(simp<;>omega)))⟩
 by_cases h1:endB x.at_=true
 case neg =>
  replace h1:endB x.at_=false:=Bool.eq_false_iff.2 h1;have HE:Hid (zej x=false):=by show _=_;unfold zej;simp only[h0,h1]<;>rfl
  go_enter Tryz.func49,Tryz.ntmps49;go_wp2_with (first|(go_at_call 85;refine (zal _ _ (by assumption)).mono ?_;rintro e w1 ⟨rfl,rfl⟩)|(go_at_call 33;refine (zbd _ _).mono ?_;rintro e w1 ⟨rfl,rfl⟩)|(go_at_call 60;refine (zcy x.at_ _).mono ?_;rintro e w2 ⟨rfl,hb2⟩;(try clear t0 t1 t2 t3 t4 t5 t6);replace HB:=IJ (HB.out.trans (hb2.mono HB.out.size));clear hb2;obtain⟨t0,t1,t2,t3,t4,t5,t6⟩:=HD.out _ HB.out)|(go_at_call 35;refine (zcf _ _).mono ?_;rintro e w1 ⟨rfl,rfl⟩));go_ret;exact⟨by rw[HE.out];rfl,by exact B0.out.trans (HB.out.mono (by first|exact Nat.le_refl _|(simp;done)|(simp<;>omega)))⟩
 by_cases h2:inB x.low 1 100000000=true
 case neg =>
  replace h2:inB x.low 1 100000000=false:=Bool.eq_false_iff.2 h2;have HE:Hid (zej x=false):=by show _=_;unfold zej;simp only[h0,h1,h2]<;>rfl
  go_enter Tryz.func49,Tryz.ntmps49;go_wp2_with (first|(go_at_call 85;refine (zal _ _ (by assumption)).mono ?_;rintro e w1 ⟨rfl,rfl⟩)|(go_at_call 33;refine (zbd _ _).mono ?_;rintro e w1 ⟨rfl,rfl⟩)|(go_at_call 60;refine (zcy x.at_ _).mono ?_;rintro e w2 ⟨rfl,hb2⟩;(try clear t0 t1 t2 t3 t4 t5 t6);replace HB:=IJ (HB.out.trans (hb2.mono HB.out.size));clear hb2;obtain⟨t0,t1,t2,t3,t4,t5,t6⟩:=HD.out _ HB.out)|(go_at_call 35;refine (zcf _ _).mono ?_;rintro e w1 ⟨rfl,rfl⟩));go_ret;exact⟨by rw[HE.out];rfl,by exact B0.out.trans (HB.out.mono (by first|exact Nat.le_refl _|(simp;done)|(simp<;>omega)))⟩
 by_cases h3:inB x.high 1 100000000=true
 case neg =>
  replace h3:inB x.high 1 100000000=false:=Bool.eq_false_iff.2 h3;have HE:Hid (zej x=false):=by show _=_;unfold zej;simp only[h0,h1,h2,h3]<;>rfl
  go_enter Tryz.func49,Tryz.ntmps49;go_wp2_with (first|(go_at_call 85;refine (zal _ _ (by assumption)).mono ?_;rintro e w1 ⟨rfl,rfl⟩)|(go_at_call 33;refine (zbd _ _).mono ?_;rintro e w1 ⟨rfl,rfl⟩)|(go_at_call 60;refine (zcy x.at_ _).mono ?_;rintro e w2 ⟨rfl,hb2⟩;(try clear t0 t1 t2 t3 t4 t5 t6);replace HB:=IJ (HB.out.trans (hb2.mono HB.out.size));clear hb2;obtain⟨t0,t1,t2,t3,t4,t5,t6⟩:=HD.out _ HB.out)|(go_at_call 35;refine (zcf _ _).mono ?_;rintro e w1 ⟨rfl,rfl⟩));go_ret;exact⟨by rw[HE.out];rfl,by exact B0.out.trans (HB.out.mono (by first|exact Nat.le_refl _|(simp;done)|(simp<;>omega)))⟩
 by_cases h4:x.low<x.high
 case neg =>
  have hd4:decide (x.low<x.high)=false:=decide_eq_false h4;replace h4:x.high≤x.low:=II
  have HE:Hid (zej x=false):=by show _=_;unfold zej;simp only[h0,h1,h2,h3,hd4]<;>rfl
  go_enter Tryz.func49,Tryz.ntmps49;go_wp2_with (first|(go_at_call 85;refine (zal _ _ (by assumption)).mono ?_;rintro e w1 ⟨rfl,rfl⟩)|(go_at_call 33;refine (zbd _ _).mono ?_;rintro e w1 ⟨rfl,rfl⟩)|(go_at_call 60;refine (zcy x.at_ _).mono ?_;rintro e w2 ⟨rfl,hb2⟩;(try clear t0 t1 t2 t3 t4 t5 t6);replace HB:=IJ (HB.out.trans (hb2.mono HB.out.size));clear hb2;obtain⟨t0,t1,t2,t3,t4,t5,t6⟩:=HD.out _ HB.out)|(go_at_call 35;refine (zcf _ _).mono ?_;rintro e w1 ⟨rfl,rfl⟩));go_ret;exact⟨by rw[HE.out];rfl,by exact B0.out.trans (HB.out.mono (by first|exact Nat.le_refl _|(simp;done)|(simp<;>omega)))⟩
 have hd4:decide (x.low<x.high)=true:=decide_eq_true h4
 by_cases h5:inB x.limit (-300000) 300000=true
 case neg =>
  replace h5:inB x.limit (-300000) 300000=false:=Bool.eq_false_iff.2 h5;have HE:Hid (zej x=false):=by show _=_;unfold zej;simp only[h0,h1,h2,h3,hd4,h5]<;>rfl
  go_enter Tryz.func49,Tryz.ntmps49;go_wp2_with (first|(go_at_call 85;refine (zal _ _ (by assumption)).mono ?_;rintro e w1 ⟨rfl,rfl⟩)|(go_at_call 33;refine (zbd _ _).mono ?_;rintro e w1 ⟨rfl,rfl⟩)|(go_at_call 60;refine (zcy x.at_ _).mono ?_;rintro e w2 ⟨rfl,hb2⟩;(try clear t0 t1 t2 t3 t4 t5 t6);replace HB:=IJ (HB.out.trans (hb2.mono HB.out.size));clear hb2;obtain⟨t0,t1,t2,t3,t4,t5,t6⟩:=HD.out _ HB.out)|(go_at_call 35;refine (zcf _ _).mono ?_;rintro e w1 ⟨rfl,rfl⟩));go_ret;exact⟨by rw[HE.out];rfl,by exact B0.out.trans (HB.out.mono (by first|exact Nat.le_refl _|(simp;done)|(simp<;>omega)))⟩
 have HE:Hid (zej x=true):=by show _=_;unfold zej;simp only[h0,h1,h2,h3,hd4,h5]<;>rfl
 go_enter Tryz.func49,Tryz.ntmps49;go_wp2_with (first|(go_at_call 85;refine (zal _ _ (by assumption)).mono ?_;rintro e w1 ⟨rfl,rfl⟩)|(go_at_call 33;refine (zbd _ _).mono ?_;rintro e w1 ⟨rfl,rfl⟩)|(go_at_call 60;refine (zcy x.at_ _).mono ?_;rintro e w2 ⟨rfl,hb2⟩;(try clear t0 t1 t2 t3 t4 t5 t6);replace HB:=IJ (HB.out.trans (hb2.mono HB.out.size));clear hb2;obtain⟨t0,t1,t2,t3,t4,t5,t6⟩:=HD.out _ HB.out)|(go_at_call 35;refine (zcf _ _).mono ?_;rintro e w1 ⟨rfl,rfl⟩));go_ret;exact⟨by rw[HE.out];rfl,by exact B0.out.trans (HB.out.mono (by first|exact Nat.le_refl _|(simp;done)|(simp<;>omega)))⟩
end Go.Proofs.YtpakghepnahooaaGreatDoor
