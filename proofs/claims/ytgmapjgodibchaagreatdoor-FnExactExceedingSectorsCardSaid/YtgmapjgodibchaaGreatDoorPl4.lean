/- Contracts: bands are valid, for the program and for the reference. Conditions: bounded lengths. -/
import Derived.Test.YtgmapjgodibchaaGreatDoorPl1
import Derived.Test.YtgmapjgodibchaaGreatDoorBox
import Derived.Test.YtgmapjgodibchaaGreatDoorOverTail
import Derived.Lib.MinMax
import Derived.Test.YtgmapjgodibchaaGreatDoorNetC
set_option linter.unusedVariables false
set_option linter.unusedSimpArgs false
namespace Go.Proofs.YtgmapjgodibchaaGreatDoor
set_option maxHeartbeats 8000000
set_option maxRecDepth 100000
open Go.RowKit
def cntB (x:DBand):Int:=(x.high-x.low).tdiv x.raster
def zbo (x:DBand):Bool:=zbh x.name&&(inB x.low 1 100000000&&(inB x.high x.low 100000000&&(inB x.raster 1 100000&&(inB (cntB x) 1 1000&&((x.duplex == 0) || inB x.duplex (x.high-x.low) (100000000-x.high))))))
def ze5 (x:DBand):Bool:=zbh x.name&&(inB x.low 1 100000000&&(inB x.high 1 100000000&&(inB x.raster 1 100000&&(inB x.duplex 0 100000000&&(inB (cntB x) 1 1000&&((x.duplex == 0) || (decide (x.high-x.low≤x.duplex)&&decide (x.high+x.duplex≤100000000))))))))
theorem cntB_of {x:DBand} (h:0≤x.high-x.low):cntB x=(x.high-x.low) / x.raster:=Int.tdiv_eq_ediv_of_nonneg h
theorem bandS_eq (x:DBand):ze5 x=zbo x:=by
 unfold ze5 zbo;rw[Bool.eq_iff_iff];simp only[inB,Bool.and_eq_true,Bool.or_eq_true,decide_eq_true_eq,beq_iff_eq]
 constructor
 ·rintro⟨h0,h1,h2,h3,h4,h5,h6⟩
  have h7:x.low≤x.high:=by
   rcases Int.lt_or_le x.high x.low with hl|hl
   ·have:cntB x≤0:=by
     unfold cntB;have e:x.high-x.low = -(x.low-x.high):=O
     rw[e,Int.neg_tdiv];have:0≤(x.low-x.high).tdiv x.raster:=Int.tdiv_nonneg O O;omega
    omega
   ·exact hl
  exact⟨h0,h1,⟨h7,h2.2⟩,h3,h5,h6.imp id (fun h=>⟨h.1,O⟩)⟩
 ·rintro⟨h0,h1,h2,h3,h5,h6⟩
  refine⟨h0,h1,⟨O,h2.2⟩,h3,?_,h5,h6.imp id (fun h=>⟨h.1,O⟩)⟩
  rcases h6 with h6|h6<;>omega
theorem zdz (x:DBand) (h1:1≤x.low) (h2:x.low≤100000000) (h3:1≤x.high) (h4:x.high≤100000000) (h5:1≤x.raster) (h6:x.raster≤100000) (h7:x.low≤x.high) (w:World) :
  Calls Tryz.prog 124 #[.agg #[F x.name,I x.low,I x.high,I x.raster,I x.duplex]] w fun e w'=>e=.returned (I (cntB x))∧IJ w w w':=by
 have h8:0≤x.high-x.low:=O
 have HC:=J (cntB_of h8);go_enter Tryz.func124,Tryz.ntmps124;go_wp2;go_ret;exact⟨by rw[HC.out];rfl,(Below.refl _ _).alloc (Nat.le_refl _) _⟩
theorem zb1 (x:DBand) (h1:1≤x.low) (h2:x.low≤100000000) (h3:1≤x.high) (h4:x.high≤100000000) (h5:1≤x.raster) (h6:x.raster≤100000) (b off:Nat) (w:World) (c0:w.cell? ⟨b,off,none⟩=some (F x.name)) (c1:w.cell? ⟨b,off+1,none⟩=some (I x.low)) (c2:w.cell? ⟨b,off+2,none⟩=some (I x.high)) (c3:w.cell? ⟨b,off+3,none⟩=some (I x.raster)) (c4:w.cell? ⟨b,off+4,none⟩=some (I x.duplex)) :
  Calls Tryz.prog 189 #[.pointer (some ⟨b,off,none⟩)] w fun e w'=>e=.returned (I (cntB x))∧IJ w w w':=by
 by_cases h8:0≤x.high-x.low
 ·have HC:=J (cntB_of h8)
  have hbl:=za5 c0
  dsimp only at hbl
  go_enter Tryz.func189,Tryz.ntmps189;go_upto_region 1 with (fail)
  go_quiet (fail)
  go_wp2;go_ret;exact⟨by rw[HC.out];rfl,zbb (Below.refl _ _) _⟩
 ·have h9:x.high-x.low≤-1:=O
  have h10:-100000000≤x.high-x.low:=O
  have HC:Hid (cntB x=(x.high-x.low).tdiv x.raster):=rfl;go_enter Tryz.func189,Tryz.ntmps189;go_upto_region 1 with (fail)
  go_quiet (fail)
  go_wp2;go_ret;exact⟨by rw[HC.out];rfl,zbb (Below.refl _ _) _⟩
theorem validBand_any (x:DBand) (k0:x.name.size≤maxLen) (w:World) :
  Calls Tryz.prog 119 #[.agg #[F x.name,I x.low,I x.high,I x.raster,I x.duplex]] w fun e w'=>e=.returned (.bool (zbo x))∧IJ w w w':=by
 have B0:Hid (IJ w w (w.alloc (.cells #[F x.name,I x.low,I x.high,I x.raster,I x.duplex] 123))):=(Below.alloc (Below.refl _ _) (by first|exact Nat.le_refl _|(simp;done)|(simp<;>omega)) _)
 have HD:Hid (∀ W:World,IJ (w.alloc (.cells #[F x.name,I x.low,I x.high,I x.raster,I x.duplex] 123)).heap.size (w.alloc (.cells #[F x.name,I x.low,I x.high,I x.raster,I x.duplex] 123)) W→(W.cell? ⟨w,0,none⟩=some (F x.name)∧W.cell? ⟨w,1,none⟩=some (I x.low)∧W.cell? ⟨w,2,none⟩=some (I x.high)∧W.cell? ⟨w,3,none⟩=some (I x.raster)∧W.cell? ⟨w,4,none⟩=some (I x.duplex))):=fun W hW=>⟨by rw[hW.cell (p:=⟨w,0,none⟩) (by first|(simp;done)|(simp<;>omega))];simp[go_sem],by rw[hW.cell (p:=⟨w,1,none⟩) (by first|(simp;done)|(simp<;>omega))];simp[go_sem],by rw[hW.cell (p:=⟨w,2,none⟩) (by first|(simp;done)|(simp<;>omega))];simp[go_sem],by rw[hW.cell (p:=⟨w,3,none⟩) (by first|(simp;done)|(simp<;>omega))];simp[go_sem],by rw[hW.cell (p:=⟨w,4,none⟩) (by first|(simp;done)|(simp<;>omega))];simp[go_sem]⟩
 have HB:Hid (IJ (w.alloc (.cells #[F x.name,I x.low,I x.high,I x.raster,I x.duplex] 123)).heap.size (w.alloc (.cells #[F x.name,I x.low,I x.high,I x.raster,I x.duplex] 123)) (w.alloc (.cells #[F x.name,I x.low,I x.high,I x.raster,I x.duplex] 123))):=Below.refl _ _
 by_cases h0:zbh x.name=true
 case neg =>
  replace h0:zbh x.name=false:=Bool.eq_false_iff.2 h0;have HE:Hid (zbo x=false):=by show _=_;unfold zbo;simp only[h0]<;>rfl
  go_enter Tryz.func119,Tryz.ntmps119;go_wp2_with (first|(go_at_call 120;refine (zar _ _ (by assumption)).mono ?_;rintro e w1 ⟨rfl,rfl⟩)|(go_at_call 54;refine (zal _ _ _ _).mono ?_;rintro e w1 ⟨rfl,rfl⟩)|(go_at_call 124;refine (zdz x O O O O O O O _).mono ?_;rintro e w2 ⟨rfl,hb2⟩;(try clear t0 t1 t2 t3 t4);replace HB:=J (HB.out.trans (hb2.mono HB.out.size));clear hb2;obtain⟨t0,t1,t2,t3,t4⟩:=HD.out _ HB.out));go_ret;exact⟨by rw[HE.out];rfl,by exact B0.out.trans (HB.out.mono (by first|exact Nat.le_refl _|(simp;done)|(simp<;>omega)))⟩
 by_cases h1:inB x.low 1 100000000=true
 case neg =>
  replace h1:inB x.low 1 100000000=false:=Bool.eq_false_iff.2 h1;have HE:Hid (zbo x=false):=by show _=_;unfold zbo;simp only[h0,h1]<;>rfl
  go_enter Tryz.func119,Tryz.ntmps119;go_wp2_with (first|(go_at_call 120;refine (zar _ _ (by assumption)).mono ?_;rintro e w1 ⟨rfl,rfl⟩)|(go_at_call 54;refine (zal _ _ _ _).mono ?_;rintro e w1 ⟨rfl,rfl⟩)|(go_at_call 124;refine (zdz x O O O O O O O _).mono ?_;rintro e w2 ⟨rfl,hb2⟩;(try clear t0 t1 t2 t3 t4);replace HB:=J (HB.out.trans (hb2.mono HB.out.size));clear hb2;obtain⟨t0,t1,t2,t3,t4⟩:=HD.out _ HB.out));go_ret;exact⟨by rw[HE.out];rfl,by exact B0.out.trans (HB.out.mono (by first|exact Nat.le_refl _|(simp;done)|(simp<;>omega)))⟩
 obtain⟨hah1,hbh1⟩:=zat.1 h1
 by_cases h2:inB x.high x.low 100000000=true
 case neg =>
  replace h2:inB x.high x.low 100000000=false:=Bool.eq_false_iff.2 h2;have HE:Hid (zbo x=false):=by show _=_;unfold zbo;simp only[h0,h1,h2]<;>rfl
  go_enter Tryz.func119,Tryz.ntmps119;go_wp2_with (first|(go_at_call 120;refine (zar _ _ (by assumption)).mono ?_;rintro e w1 ⟨rfl,rfl⟩)|(go_at_call 54;refine (zal _ _ _ _).mono ?_;rintro e w1 ⟨rfl,rfl⟩)|(go_at_call 124;refine (zdz x O O O O O O O _).mono ?_;rintro e w2 ⟨rfl,hb2⟩;(try clear t0 t1 t2 t3 t4);replace HB:=J (HB.out.trans (hb2.mono HB.out.size));clear hb2;obtain⟨t0,t1,t2,t3,t4⟩:=HD.out _ HB.out));go_ret;exact⟨by rw[HE.out];rfl,by exact B0.out.trans (HB.out.mono (by first|exact Nat.le_refl _|(simp;done)|(simp<;>omega)))⟩
 obtain⟨hah2,hbh2⟩:=zat.1 h2
 by_cases h3:inB x.raster 1 100000=true
 case neg =>
  replace h3:inB x.raster 1 100000=false:=Bool.eq_false_iff.2 h3;have HE:Hid (zbo x=false):=by show _=_;unfold zbo;simp only[h0,h1,h2,h3]<;>rfl
  go_enter Tryz.func119,Tryz.ntmps119;go_wp2_with (first|(go_at_call 120;refine (zar _ _ (by assumption)).mono ?_;rintro e w1 ⟨rfl,rfl⟩)|(go_at_call 54;refine (zal _ _ _ _).mono ?_;rintro e w1 ⟨rfl,rfl⟩)|(go_at_call 124;refine (zdz x O O O O O O O _).mono ?_;rintro e w2 ⟨rfl,hb2⟩;(try clear t0 t1 t2 t3 t4);replace HB:=J (HB.out.trans (hb2.mono HB.out.size));clear hb2;obtain⟨t0,t1,t2,t3,t4⟩:=HD.out _ HB.out));go_ret;exact⟨by rw[HE.out];rfl,by exact B0.out.trans (HB.out.mono (by first|exact Nat.le_refl _|(simp;done)|(simp<;>omega)))⟩
 obtain⟨hah3,hbh3⟩:=zat.1 h3
 by_cases h4:inB (cntB x) 1 1000=true
 case neg =>
  replace h4:inB (cntB x) 1 1000=false:=Bool.eq_false_iff.2 h4;have HE:Hid (zbo x=false):=by show _=_;unfold zbo;simp only[h0,h1,h2,h3,h4]<;>rfl
  go_enter Tryz.func119,Tryz.ntmps119;go_wp2_with (first|(go_at_call 120;refine (zar _ _ (by assumption)).mono ?_;rintro e w1 ⟨rfl,rfl⟩)|(go_at_call 54;refine (zal _ _ _ _).mono ?_;rintro e w1 ⟨rfl,rfl⟩)|(go_at_call 124;refine (zdz x O O O O O O O _).mono ?_;rintro e w2 ⟨rfl,hb2⟩;(try clear t0 t1 t2 t3 t4);replace HB:=J (HB.out.trans (hb2.mono HB.out.size));clear hb2;obtain⟨t0,t1,t2,t3,t4⟩:=HD.out _ HB.out));go_ret;exact⟨by rw[HE.out];rfl,by exact B0.out.trans (HB.out.mono (by first|exact Nat.le_refl _|(simp;done)|(simp<;>omega)))⟩
 by_cases h5:(x.duplex == 0)=true
 case neg =>
  replace h5:(x.duplex == 0)=false:=Bool.eq_false_iff.2 h5
  by_cases h6:inB x.duplex (x.high-x.low) (100000000-x.high)=true
  case neg =>
   replace h6:inB x.duplex (x.high-x.low) (100000000-x.high)=false:=Bool.eq_false_iff.2 h6;have HE:Hid (zbo x=false):=by show _=_;unfold zbo;simp only[h0,h1,h2,h3,h4,h5,h6]<;>rfl
   go_enter Tryz.func119,Tryz.ntmps119;go_wp2_with (first|(go_at_call 120;refine (zar _ _ (by assumption)).mono ?_;rintro e w1 ⟨rfl,rfl⟩)|(go_at_call 54;refine (zal _ _ _ _).mono ?_;rintro e w1 ⟨rfl,rfl⟩)|(go_at_call 124;refine (zdz x O O O O O O O _).mono ?_;rintro e w2 ⟨rfl,hb2⟩;(try clear t0 t1 t2 t3 t4);replace HB:=J (HB.out.trans (hb2.mono HB.out.size));clear hb2;obtain⟨t0,t1,t2,t3,t4⟩:=HD.out _ HB.out));go_ret;exact⟨by rw[HE.out];rfl,by exact B0.out.trans (HB.out.mono (by first|exact Nat.le_refl _|(simp;done)|(simp<;>omega)))⟩
  have HE:Hid (zbo x=true):=by show _=_;unfold zbo;simp only[h0,h1,h2,h3,h4,h5,h6]<;>rfl
  go_enter Tryz.func119,Tryz.ntmps119;go_wp2_with (first|(go_at_call 120;refine (zar _ _ (by assumption)).mono ?_;rintro e w1 ⟨rfl,rfl⟩)|(go_at_call 54;refine (zal _ _ _ _).mono ?_;rintro e w1 ⟨rfl,rfl⟩)|(go_at_call 124;refine (zdz x O O O O O O O _).mono ?_;rintro e w2 ⟨rfl,hb2⟩;(try clear t0 t1 t2 t3 t4);replace HB:=J (HB.out.trans (hb2.mono HB.out.size));clear hb2;obtain⟨t0,t1,t2,t3,t4⟩:=HD.out _ HB.out));go_ret;exact⟨by rw[HE.out];rfl,by exact B0.out.trans (HB.out.mono (by first|exact Nat.le_refl _|(simp;done)|(simp<;>omega)))⟩
 have HE:Hid (zbo x=true):=by show _=_;unfold zbo;simp only[h0,h1,h2,h3,h4,h5]<;>rfl
 go_enter Tryz.func119,Tryz.ntmps119;go_wp2_with (first|(go_at_call 120;refine (zar _ _ (by assumption)).mono ?_;rintro e w1 ⟨rfl,rfl⟩)|(go_at_call 54;refine (zal _ _ _ _).mono ?_;rintro e w1 ⟨rfl,rfl⟩)|(go_at_call 124;refine (zdz x O O O O O O O _).mono ?_;rintro e w2 ⟨rfl,hb2⟩;(try clear t0 t1 t2 t3 t4);replace HB:=J (HB.out.trans (hb2.mono HB.out.size));clear hb2;obtain⟨t0,t1,t2,t3,t4⟩:=HD.out _ HB.out));go_ret;exact⟨by rw[HE.out];rfl,by exact B0.out.trans (HB.out.mono (by first|exact Nat.le_refl _|(simp;done)|(simp<;>omega)))⟩
theorem l15Ok_any (x:DBand) (b off:Nat) (w:World) (c0:w.cell? ⟨b,off,none⟩=some (F x.name)) (c1:w.cell? ⟨b,off+1,none⟩=some (I x.low)) (c2:w.cell? ⟨b,off+2,none⟩=some (I x.high)) (c3:w.cell? ⟨b,off+3,none⟩=some (I x.raster)) (c4:w.cell? ⟨b,off+4,none⟩=some (I x.duplex)) (k0:x.name.size≤maxLen) :
  Calls Tryz.prog 148 #[.pointer (some ⟨b,off,none⟩)] w fun e w'=>e=.returned (.bool (ze5 x))∧IJ w w w':=by
 have hbl:=za5 c0
 dsimp only at hbl
 have B0:Hid (IJ w w w):=Below.refl _ _;have HD:Hid (∀ W:World,IJ w w W→(W.cell? ⟨b,off,none⟩=some (F x.name)∧W.cell? ⟨b,off+1,none⟩=some (I x.low)∧W.cell? ⟨b,off+2,none⟩=some (I x.high)∧W.cell? ⟨b,off+3,none⟩=some (I x.raster)∧W.cell? ⟨b,off+4,none⟩=some (I x.duplex))):=fun W hW=>⟨(hW.cell (p:=⟨b,off,none⟩) (za5 c0)).trans c0,(hW.cell (p:=⟨b,off+1,none⟩) (za5 c1)).trans c1,(hW.cell (p:=⟨b,off+2,none⟩) (za5 c2)).trans c2,(hW.cell (p:=⟨b,off+3,none⟩) (za5 c3)).trans c3,(hW.cell (p:=⟨b,off+4,none⟩) (za5 c4)).trans c4⟩
 have HB:Hid (IJ w w w):=Below.refl _ _
 by_cases h0:zbh x.name=true
 case neg =>
  replace h0:zbh x.name=false:=Bool.eq_false_iff.2 h0;have HE:Hid (ze5 x=false):=by show _=_;unfold ze5;simp only[h0]<;>rfl
  go_enter Tryz.func148,Tryz.ntmps148;go_wp2_with (first|(go_at_call 149;refine (zam _ _ (by assumption)).mono ?_;rintro e w1 ⟨rfl,rfl⟩)|(go_at_call 89;refine (zao _ _ _ _).mono ?_;rintro e w1 ⟨rfl,rfl⟩)|(go_at_call 189;refine (zb1 x O O O O O O b off _ c0 c1 c2 c3 c4).mono ?_;rintro e w2 ⟨rfl,hb2⟩;(try clear t0 t1 t2 t3 t4);replace HB:=J (HB.out.trans (hb2.mono HB.out.size));clear hb2;obtain⟨t0,t1,t2,t3,t4⟩:=HD.out _ HB.out));have BEE:=J (B0.out.trans (HB.out.mono (Nat.le_refl _)));go_ret;exact⟨by rw[HE.out];rfl,by exact BEE.out⟩
 by_cases h1:inB x.low 1 100000000=true
 case neg =>
  replace h1:inB x.low 1 100000000=false:=Bool.eq_false_iff.2 h1;have HE:Hid (ze5 x=false):=by show _=_;unfold ze5;simp only[h0,h1]<;>rfl
  go_enter Tryz.func148,Tryz.ntmps148;go_wp2_with (first|(go_at_call 149;refine (zam _ _ (by assumption)).mono ?_;rintro e w1 ⟨rfl,rfl⟩)|(go_at_call 89;refine (zao _ _ _ _).mono ?_;rintro e w1 ⟨rfl,rfl⟩)|(go_at_call 189;refine (zb1 x O O O O O O b off _ c0 c1 c2 c3 c4).mono ?_;rintro e w2 ⟨rfl,hb2⟩;(try clear t0 t1 t2 t3 t4);replace HB:=J (HB.out.trans (hb2.mono HB.out.size));clear hb2;obtain⟨t0,t1,t2,t3,t4⟩:=HD.out _ HB.out));have BEE:=J (B0.out.trans (HB.out.mono (Nat.le_refl _)));go_ret;exact⟨by rw[HE.out];rfl,by exact BEE.out⟩
 obtain⟨hah1,hbh1⟩:=zat.1 h1
 by_cases h2:inB x.high 1 100000000=true
 case neg =>
  replace h2:inB x.high 1 100000000=false:=Bool.eq_false_iff.2 h2;have HE:Hid (ze5 x=false):=by show _=_;unfold ze5;simp only[h0,h1,h2]<;>rfl
  go_enter Tryz.func148,Tryz.ntmps148;go_wp2_with (first|(go_at_call 149;refine (zam _ _ (by assumption)).mono ?_;rintro e w1 ⟨rfl,rfl⟩)|(go_at_call 89;refine (zao _ _ _ _).mono ?_;rintro e w1 ⟨rfl,rfl⟩)|(go_at_call 189;refine (zb1 x O O O O O O b off _ c0 c1 c2 c3 c4).mono ?_;rintro e w2 ⟨rfl,hb2⟩;(try clear t0 t1 t2 t3 t4);replace HB:=J (HB.out.trans (hb2.mono HB.out.size));clear hb2;obtain⟨t0,t1,t2,t3,t4⟩:=HD.out _ HB.out));have BEE:=J (B0.out.trans (HB.out.mono (Nat.le_refl _)));go_ret;exact⟨by rw[HE.out];rfl,by exact BEE.out⟩
 obtain⟨hah2,hbh2⟩:=zat.1 h2
 by_cases h3:inB x.raster 1 100000=true
 case neg =>
  replace h3:inB x.raster 1 100000=false:=Bool.eq_false_iff.2 h3;have HE:Hid (ze5 x=false):=by show _=_;unfold ze5;simp only[h0,h1,h2,h3]<;>rfl
  go_enter Tryz.func148,Tryz.ntmps148;go_wp2_with (first|(go_at_call 149;refine (zam _ _ (by assumption)).mono ?_;rintro e w1 ⟨rfl,rfl⟩)|(go_at_call 89;refine (zao _ _ _ _).mono ?_;rintro e w1 ⟨rfl,rfl⟩)|(go_at_call 189;refine (zb1 x O O O O O O b off _ c0 c1 c2 c3 c4).mono ?_;rintro e w2 ⟨rfl,hb2⟩;(try clear t0 t1 t2 t3 t4);replace HB:=J (HB.out.trans (hb2.mono HB.out.size));clear hb2;obtain⟨t0,t1,t2,t3,t4⟩:=HD.out _ HB.out));have BEE:=J (B0.out.trans (HB.out.mono (Nat.le_refl _)));go_ret;exact⟨by rw[HE.out];rfl,by exact BEE.out⟩
 obtain⟨hah3,hbh3⟩:=zat.1 h3
 by_cases h4:inB x.duplex 0 100000000=true
 case neg =>
  replace h4:inB x.duplex 0 100000000=false:=Bool.eq_false_iff.2 h4;have HE:Hid (ze5 x=false):=by show _=_;unfold ze5;simp only[h0,h1,h2,h3,h4]<;>rfl
  go_enter Tryz.func148,Tryz.ntmps148;go_wp2_with (first|(go_at_call 149;refine (zam _ _ (by assumption)).mono ?_;rintro e w1 ⟨rfl,rfl⟩)|(go_at_call 89;refine (zao _ _ _ _).mono ?_;rintro e w1 ⟨rfl,rfl⟩)|(go_at_call 189;refine (zb1 x O O O O O O b off _ c0 c1 c2 c3 c4).mono ?_;rintro e w2 ⟨rfl,hb2⟩;(try clear t0 t1 t2 t3 t4);replace HB:=J (HB.out.trans (hb2.mono HB.out.size));clear hb2;obtain⟨t0,t1,t2,t3,t4⟩:=HD.out _ HB.out));have BEE:=J (B0.out.trans (HB.out.mono (Nat.le_refl _)));go_ret;exact⟨by rw[HE.out];rfl,by exact BEE.out⟩
 obtain⟨hah4,hbh4⟩:=zat.1 h4
 by_cases h5:inB (cntB x) 1 1000=true
 case neg =>
  replace h5:inB (cntB x) 1 1000=false:=Bool.eq_false_iff.2 h5;have HE:Hid (ze5 x=false):=by show _=_;unfold ze5;simp only[h0,h1,h2,h3,h4,h5]<;>rfl
  go_enter Tryz.func148,Tryz.ntmps148;go_wp2_with (first|(go_at_call 149;refine (zam _ _ (by assumption)).mono ?_;rintro e w1 ⟨rfl,rfl⟩)|(go_at_call 89;refine (zao _ _ _ _).mono ?_;rintro e w1 ⟨rfl,rfl⟩)|(go_at_call 189;refine (zb1 x O O O O O O b off _ c0 c1 c2 c3 c4).mono ?_;rintro e w2 ⟨rfl,hb2⟩;(try clear t0 t1 t2 t3 t4);replace HB:=J (HB.out.trans (hb2.mono HB.out.size));clear hb2;obtain⟨t0,t1,t2,t3,t4⟩:=HD.out _ HB.out));have BEE:=J (B0.out.trans (HB.out.mono (Nat.le_refl _)));go_ret;exact⟨by rw[HE.out];rfl,by exact BEE.out⟩
 by_cases h6:(x.duplex == 0)=true
 case neg =>
  replace h6:(x.duplex == 0)=false:=Bool.eq_false_iff.2 h6
  by_cases h7:x.high-x.low≤x.duplex
  case neg =>
   have hd7:decide (x.high-x.low≤x.duplex)=false:=decide_eq_false h7;replace h7:x.duplex<x.high-x.low:=O
   have HE:Hid (ze5 x=false):=by show _=_;unfold ze5;simp only[h0,h1,h2,h3,h4,h5,h6,hd7]<;>rfl
   go_enter Tryz.func148,Tryz.ntmps148;go_upto_region 5 with (first|(go_at_call 149;refine (zam _ _ (by assumption)).mono ?_;rintro e w1 ⟨rfl,rfl⟩)|(go_at_call 89;refine (zao _ _ _ _).mono ?_;rintro e w1 ⟨rfl,rfl⟩)|(go_at_call 189;refine (zb1 x O O O O O O b off _ c0 c1 c2 c3 c4).mono ?_;rintro e w2 ⟨rfl,hb2⟩;(try clear t0 t1 t2 t3 t4);replace HB:=J (HB.out.trans (hb2.mono HB.out.size));clear hb2;obtain⟨t0,t1,t2,t3,t4⟩:=HD.out _ HB.out));have zz:=HB.out.size;have hbl2:b<w2.heap.size:=O
   have oB0:=zak (w0:=w2) (show b<w2.heap.size by omega);refine zab w2.heap.size w2 (Below.refl _ _) (by kernel_rfl) (by kernel_rfl) ?_
   repeat (go_big_quiet_step (first|fail))
   refine wpQuiet_nil ?_;rintro _ ⟨X,rfl⟩;have BE:=J (zaa w2.heap.size w2 X);clear oB0;generalize over w2.heap.size w2 X=W9 at *;go_wp2;have BEE:=J (HB.out.trans (BE.out.mono HB.out.size));go_ret;exact⟨by rw[HE.out];rfl,by exact BEE.out⟩
  have hd7:decide (x.high-x.low≤x.duplex)=true:=decide_eq_true h7
  by_cases h8:x.high+x.duplex≤100000000
  case neg =>
   have hd8:decide (x.high+x.duplex≤100000000)=false:=decide_eq_false h8;replace h8:100000000<x.high+x.duplex:=O
   have HE:Hid (ze5 x=false):=by show _=_;unfold ze5;simp only[h0,h1,h2,h3,h4,h5,h6,hd7,hd8]<;>rfl
   go_enter Tryz.func148,Tryz.ntmps148;go_upto_region 5 with (first|(go_at_call 149;refine (zam _ _ (by assumption)).mono ?_;rintro e w1 ⟨rfl,rfl⟩)|(go_at_call 89;refine (zao _ _ _ _).mono ?_;rintro e w1 ⟨rfl,rfl⟩)|(go_at_call 189;refine (zb1 x O O O O O O b off _ c0 c1 c2 c3 c4).mono ?_;rintro e w2 ⟨rfl,hb2⟩;(try clear t0 t1 t2 t3 t4);replace HB:=J (HB.out.trans (hb2.mono HB.out.size));clear hb2;obtain⟨t0,t1,t2,t3,t4⟩:=HD.out _ HB.out));have zz:=HB.out.size;have hbl2:b<w2.heap.size:=O
   have oB0:=zak (w0:=w2) (show b<w2.heap.size by omega);refine zab w2.heap.size w2 (Below.refl _ _) (by kernel_rfl) (by kernel_rfl) ?_
   repeat (go_big_quiet_step (first|fail))
   refine wpQuiet_nil ?_;rintro _ ⟨X,rfl⟩;have BE:=J (zaa w2.heap.size w2 X);clear oB0;generalize over w2.heap.size w2 X=W9 at *;go_wp2;have BEE:=J (HB.out.trans (BE.out.mono HB.out.size));go_ret;exact⟨by rw[HE.out];rfl,by exact BEE.out⟩
  have hd8:decide (x.high+x.duplex≤100000000)=true:=decide_eq_true h8;have HE:Hid (ze5 x=true):=by show _=_;unfold ze5;simp only[h0,h1,h2,h3,h4,h5,h6,hd7,hd8]<;>rfl
  go_enter Tryz.func148,Tryz.ntmps148;go_upto_region 5 with (first|(go_at_call 149;refine (zam _ _ (by assumption)).mono ?_;rintro e w1 ⟨rfl,rfl⟩)|(go_at_call 89;refine (zao _ _ _ _).mono ?_;rintro e w1 ⟨rfl,rfl⟩)|(go_at_call 189;refine (zb1 x O O O O O O b off _ c0 c1 c2 c3 c4).mono ?_;rintro e w2 ⟨rfl,hb2⟩;(try clear t0 t1 t2 t3 t4);replace HB:=J (HB.out.trans (hb2.mono HB.out.size));clear hb2;obtain⟨t0,t1,t2,t3,t4⟩:=HD.out _ HB.out));have zz:=HB.out.size;have hbl2:b<w2.heap.size:=O
  have oB0:=zak (w0:=w2) (show b<w2.heap.size by omega);refine zab w2.heap.size w2 (Below.refl _ _) (by kernel_rfl) (by kernel_rfl) ?_
  repeat (go_big_quiet_step (first|fail))
  refine wpQuiet_nil ?_;rintro _ ⟨X,rfl⟩;have BE:=J (zaa w2.heap.size w2 X);clear oB0;generalize over w2.heap.size w2 X=W9 at *;go_wp2;have BEE:=J (HB.out.trans (BE.out.mono HB.out.size));go_ret;exact⟨by rw[HE.out];rfl,by exact BEE.out⟩
 have HE:Hid (ze5 x=true):=by show _=_;unfold ze5;simp only[h0,h1,h2,h3,h4,h5,h6]<;>rfl
 go_enter Tryz.func148,Tryz.ntmps148;go_upto_region 5 with (first|(go_at_call 149;refine (zam _ _ (by assumption)).mono ?_;rintro e w1 ⟨rfl,rfl⟩)|(go_at_call 89;refine (zao _ _ _ _).mono ?_;rintro e w1 ⟨rfl,rfl⟩)|(go_at_call 189;refine (zb1 x O O O O O O b off _ c0 c1 c2 c3 c4).mono ?_;rintro e w2 ⟨rfl,hb2⟩;(try clear t0 t1 t2 t3 t4);replace HB:=J (HB.out.trans (hb2.mono HB.out.size));clear hb2;obtain⟨t0,t1,t2,t3,t4⟩:=HD.out _ HB.out));have zz:=HB.out.size;have hbl2:b<w2.heap.size:=O
 have oB0:=zak (w0:=w2) (show b<w2.heap.size by omega);refine zab w2.heap.size w2 (Below.refl _ _) (by kernel_rfl) (by kernel_rfl) ?_
 repeat (go_big_quiet_step (first|fail))
 refine wpQuiet_nil ?_;rintro _ ⟨X,rfl⟩;have BE:=J (zaa w2.heap.size w2 X);clear oB0;generalize over w2.heap.size w2 X=W9 at *;go_wp2;have BEE:=J (HB.out.trans (BE.out.mono HB.out.size));go_ret;exact⟨by rw[HE.out];rfl,by exact BEE.out⟩
open Go.RowKit
open Go.RowKit
def ze2 (l:List DBand) (i:Nat):DBand:=l.getD i ⟨⟨#[]⟩,0,0,0,0⟩
theorem zcl {l:List DBand} {i:Nat} (h:i<l.length):l[i]=ze2 l i:=by simp[ze2,h]
def zc1 (p x:DBand):Bool:=ltS p.name x.name
def zcd (l:List DBand):Bool:=decide (l.length≤8)&&za6 zbo zc1 l
theorem iValidBands_any (l:List DBand) (v:Value) (B:Nat) (w:World) (h:Rd B w (DBand.sT l) v) (hB:B≤w.heap.size) (hk:∀ x ∈ l,x.ok) (hn:l.length≤1099511627776) :
  Calls Tryz.prog 72 #[v] w fun e w'=>e=.returned (.bool (zcd l))∧IJ w w w':=by
 obtain⟨a,c,rfl,hnc,hcm,hcells⟩:=DBand.rd h;clear h;have HCL:=J hcells;clear hcells
 by_cases hlim:l.length≤8
 case neg =>
  have hx:8<l.length:=O
  have hx2:(8:Int)<(l.length:Int):=O
  have HE:Hid (zcd l=false):=by show _=_;unfold zcd;rw[decide_eq_false hlim];simp
  go_enter Tryz.func72,Tryz.ntmps72;go_wp2;go_ret;exact⟨by rw[HE.out];rfl,Below.refl _ _⟩
 have hli:(l.length:Int)≤8:=O
 have HE:Hid (zcd l=za6 zbo zc1 l):=by show _=_;unfold zcd;rw[decide_eq_true hlim];simp
 go_enter Tryz.func72,Tryz.ntmps72;go_wp2;go_loopw [10] (fun i wr=>∃ (k:Nat),k≤l.length∧i=I k∧(∀ j,j<k→upOk zbo zc1 l j=true)∧IJ w w wr) (fun i wr=>l.length-(intOf i).toNat)
 case atStart=>exact⟨0,Nat.zero_le _,rfl,fun j hj=>absurd hj O,Below.refl _ _⟩
 case round =>
  obtain⟨k,hk1,rfl,hno,hb⟩:=hrel;have HN:=J hno;have HB:=J hb;have zb:=hb.size;clear hno hb
  by_cases hlt:k<l.length
  ·obtain⟨b,off,ea,hbl,hat⟩:=HCL.out O
   subst ea;obtain⟨s0,s1,s2,s3,s4⟩:=hat k hlt;have hok:=hk _ (List.getElem_mem hlt);have ks0:=hok.name;have hbw:b<w.heap.size:=O
   rw[← bat HB.out b _ hbw] at s0 s1 s2 s3 s4;have sp:0<k→wr.cell? ⟨b,off+(k-1)*5,none⟩=some (F (ze2 l (k-1)).name):=fun h=>by
    have t:=(hat (k-1) O).1;rw[← bat HB.out b _ hbw,zcl (show k-1<l.length by omega)] at t;exact t
   have SP:=J sp;clear sp hat;have HUN:Hid (zbo (ze2 l k)=false→za6 zbo zc1 l=false):=fun h=>zaz hlt (zdi hlt (by rw[zcl hlt];exact h))
   have HUZ:Hid (k=0→zbo (ze2 l k)=true→upOk zbo zc1 l k=true):=fun e h=>by subst e;rw[zcv hlt,zcl hlt];exact h
   have HUP:Hid (0<k→upOk zbo zc1 l k=(zbo (ze2 l k)&&zc1 (ze2 l (k-1)) (ze2 l k))):=fun h=>by rw[zdh h hlt,zcl hlt,zcl (show k-1<l.length by omega)]
   rw[zcl hlt] at s0 s1 s2 s3 s4 ks0;generalize hA:ze2 l k=A at *;generalize hP:ze2 l (k-1)=P at *;clear hA hP hok;have i1:(0:Int)≤(k:Int):=O
   have i2:(k:Int)<(l.length:Int):=O
   have yb:b<wr.heap.size:=O
   have HV:Hid (∀ W:World,Calls Tryz.prog 119 #[.agg #[F A.name,I A.low,I A.high,I A.raster,I A.duplex]] W fun e w'=>e=.returned (.bool (zbo A))∧IJ W W w'):=fun W=>validBand_any A ks0 W
   go_wp2;have b1:IJ wr wr (wr.alloc (.cells #[F A.name,I A.low,I A.high,I A.raster,I A.duplex] 123)):=(Below.refl _ _).alloc (Nat.le_refl _) _;have f0:(wr.alloc (.cells #[F A.name,I A.low,I A.high,I A.raster,I A.duplex] 123)).cell? ⟨wr,0,none⟩=some (F A.name):=by simp[go_sem]
   have f1:(wr.alloc (.cells #[F A.name,I A.low,I A.high,I A.raster,I A.duplex] 123)).cell? ⟨wr,1,none⟩=some (I A.low):=by simp[go_sem]
   have f2:(wr.alloc (.cells #[F A.name,I A.low,I A.high,I A.raster,I A.duplex] 123)).cell? ⟨wr,2,none⟩=some (I A.high):=by simp[go_sem]
   have f3:(wr.alloc (.cells #[F A.name,I A.low,I A.high,I A.raster,I A.duplex] 123)).cell? ⟨wr,3,none⟩=some (I A.raster):=by simp[go_sem]
   have f4:(wr.alloc (.cells #[F A.name,I A.low,I A.high,I A.raster,I A.duplex] 123)).cell? ⟨wr,4,none⟩=some (I A.duplex):=by simp[go_sem]
   have fz:wr.heap.size<(wr.alloc (.cells #[F A.name,I A.low,I A.high,I A.raster,I A.duplex] 123)).heap.size:=by simp
   generalize hW1:(wr.alloc (.cells #[F A.name,I A.low,I A.high,I A.raster,I A.duplex] 123))=W1 at *;have BH:=J (HB.out.trans (b1.mono O));have B1:=J b1;have zz:=b1.size;clear b1 hW1
   by_cases c1:zbo A=true
   case neg =>
    replace c1:zbo A=false:=Bool.eq_false_iff.2 c1;have HF:Hid (za6 zbo zc1 l=false):=HUN.out c1;have oX:=zak (w0:=W1) fz;have oB:=zak (w0:=W1) (show b<W1.heap.size by omega);rw[c1] at HV;refine zab W1.heap.size W1 (Below.refl _ _) (by kernel_rfl) (by kernel_rfl) ?_
    repeat (go_big_quiet_step ((go_at_call 119;exact zai (Nat.le_refl _) (HV.out _))))
    refine wpQuiet_nil ?_;rintro _ ⟨X,rfl⟩;have hX:=zaa W1.heap.size W1 X;clear oB oX;generalize over W1.heap.size W1 X=w2 at *;have BF:=J (BH.out.trans (hX.mono O));clear hX;have HQ:Hid (zcd l=false):=by show _=_;rw[HE.out];exact HF.out
    go_wp2;go_ret;exact⟨by rw[HQ.out];rfl,BF.out⟩
   have HM:Hid (zbo A=true):=c1
   by_cases c3:0<k
   case neg =>
    have i8:decide (0<k)=false:=by simpa using c3
    have HF:Hid (upOk zbo zc1 l k=true):=HUZ.out O HM.out;have oX:=zak (w0:=W1) fz;have oB:=zak (w0:=W1) (show b<W1.heap.size by omega);rw[c1] at HV;refine zab W1.heap.size W1 (Below.refl _ _) (by kernel_rfl) (by kernel_rfl) ?_
    repeat (go_big_quiet_step ((go_at_call 119;exact zai (Nat.le_refl _) (HV.out _))))
    refine wpQuiet_nil ?_;rintro _ ⟨X,rfl⟩;have hX:=zaa W1.heap.size W1 X;clear oB oX;generalize over W1.heap.size W1 X=w2 at *;have BF:=J (BH.out.trans (hX.mono O));clear hX;go_wp2;go_roundw
    case rel=>exact⟨k+1,O,by go_num,zbc HN.out (HF.out),BF.out⟩
    case measure=>simp[intOf];omega
   have i3:IntKind.i64.wrap ((k:Int)-1)=(k:Int)-1:=IntWalk.i64_in _ O;have i4:(0:Int)≤(k:Int)-1:=O
   have i6:(k:Int)-1<(l.length:Int):=O
   have i7:(1:Int)≤(k:Int):=O
   have i8:decide (0<k)=true:=by simpa using c3
   have i5:((k:Int)-1).toNat=k-1:=O
   by_cases c4:ltS P.name A.name=true
   case neg =>
    replace c4:ltS P.name A.name=false:=Bool.eq_false_iff.2 c4;have le4:=zfu c4;have HF:Hid (za6 zbo zc1 l=false):=zaz hlt (by rw[HUP.out c3,show zc1 P A=false from c4];simp);have fp:=(bat B1.out b _ yb).trans (SP.out c3);have oX:=zak (w0:=W1) fz;have oB:=zak (w0:=W1) (show b<W1.heap.size by omega);rw[c1] at HV;refine zab W1.heap.size W1 (Below.refl _ _) (by kernel_rfl) (by kernel_rfl) ?_
    repeat (go_big_quiet_step ((go_at_call 119;exact zai (Nat.le_refl _) (HV.out _))))
    refine wpQuiet_nil ?_;rintro _ ⟨X,rfl⟩;have hX:=zaa W1.heap.size W1 X;clear oB oX;generalize over W1.heap.size W1 X=w2 at *;have BF:=J (BH.out.trans (hX.mono O));clear hX;clear i3 i5;have HQ:Hid (zcd l=false):=by show _=_;rw[HE.out];exact HF.out
    go_wp2;go_ret;exact⟨by rw[HQ.out];rfl,BF.out⟩
   have le4:=geS_of_lt c4;have HF:Hid (upOk zbo zc1 l k=true):=by show _=_;rw[HUP.out c3,Bool.and_eq_true];exact⟨HM.out,c4⟩
   have fp:=(bat B1.out b _ yb).trans (SP.out c3);have oX:=zak (w0:=W1) fz;have oB:=zak (w0:=W1) (show b<W1.heap.size by omega);rw[c1] at HV;refine zab W1.heap.size W1 (Below.refl _ _) (by kernel_rfl) (by kernel_rfl) ?_
   repeat (go_big_quiet_step ((go_at_call 119;exact zai (Nat.le_refl _) (HV.out _))))
   refine wpQuiet_nil ?_;rintro _ ⟨X,rfl⟩;have hX:=zaa W1.heap.size W1 X;clear oB oX;generalize over W1.heap.size W1 X=w2 at *;have BF:=J (BH.out.trans (hX.mono O));clear hX;clear i3 i5;go_wp2;go_roundw
   case rel=>exact⟨k+1,O,by go_num,zbc HN.out (HF.out),BF.out⟩
   case measure=>simp[intOf];omega
  ·obtain rfl:k=l.length:=O
   have HR:Hid (za6 zbo zc1 l=true):=zce HN.out;have HQ:Hid (zcd l=true):=by show _=_;rw[HE.out];exact HR.out
   go_wp2;go_ret;exact⟨by rw[HQ.out];rfl,HB.out⟩
theorem sl15List_any (l:List DBand) (v:Value) (B:Nat) (w:World) (h:Rd B w (DBand.sT l) v) (hB:B≤w.heap.size) (hk:∀ x ∈ l,x.ok) (hn:l.length≤1099511627776) :
  Calls Tryz.prog 114 #[v] w fun e w'=>e=.returned (.bool (zcd l))∧IJ w w w':=by
 obtain⟨a,c,rfl,hnc,hcm,hcells⟩:=DBand.rd h;clear h;have HCL:=J hcells;clear hcells;have hli:(l.length:Int)≤1099511627776:=O
 go_enter Tryz.func114,Tryz.ntmps114;go_wp2;go_loopw [3] (fun i wr=>∃ (k:Nat),k≤l.length∧i=I k∧(∀ j,j<k→upOk zbo zc1 l j=true)∧IJ w w wr) (fun i wr=>l.length-(intOf i).toNat)
 case atStart=>exact⟨0,Nat.zero_le _,rfl,fun j hj=>absurd hj O,Below.refl _ _⟩
 case round =>
  obtain⟨k,hk1,rfl,hno,hb⟩:=hrel;have HN:=J hno;have HB:=J hb;have zb:=hb.size;clear hno hb
  by_cases hlt:k<l.length
  ·obtain⟨b,off,ea,hbl,hat⟩:=HCL.out O
   subst ea;obtain⟨s0,s1,s2,s3,s4⟩:=hat k hlt;have hok:=hk _ (List.getElem_mem hlt);have ks0:=hok.name;have hbw:b<w.heap.size:=O
   rw[← bat HB.out b _ hbw] at s0 s1 s2 s3 s4;have sp:0<k→wr.cell? ⟨b,off+(k-1)*5,none⟩=some (F (ze2 l (k-1)).name):=fun h=>by
    have t:=(hat (k-1) O).1;rw[← bat HB.out b _ hbw,zcl (show k-1<l.length by omega)] at t;exact t
   have SP:=J sp;clear sp hat;have HUN:Hid (zbo (ze2 l k)=false→za6 zbo zc1 l=false):=fun h=>zaz hlt (zdi hlt (by rw[zcl hlt];exact h))
   have HUZ:Hid (k=0→zbo (ze2 l k)=true→upOk zbo zc1 l k=true):=fun e h=>by subst e;rw[zcv hlt,zcl hlt];exact h
   have HUP:Hid (0<k→upOk zbo zc1 l k=(zbo (ze2 l k)&&zc1 (ze2 l (k-1)) (ze2 l k))):=fun h=>by rw[zdh h hlt,zcl hlt,zcl (show k-1<l.length by omega)]
   rw[zcl hlt] at s0 s1 s2 s3 s4 ks0;generalize hA:ze2 l k=A at *;generalize hP:ze2 l (k-1)=P at *;clear hA hP hok;have i1:(0:Int)≤(k:Int):=O
   have i2:(k:Int)<(l.length:Int):=O
   have yb:b<wr.heap.size:=O
   have HV:Hid (∀ W:World,IJ wr wr W→Calls Tryz.prog 148 #[.pointer (some ⟨b,off+k*5,none⟩)] W fun e w'=>e=.returned (.bool (zbo A))∧IJ W W w'):=fun W hW=>by have t:=l15Ok_any A b (off+k*5) W ((bat hW b _ yb).trans s0) ((bat hW b _ yb).trans s1) ((bat hW b _ yb).trans s2) ((bat hW b _ yb).trans s3) ((bat hW b _ yb).trans s4) ks0;rw[bandS_eq] at t;exact t
   by_cases c1:zbo A=true
   case neg =>
    replace c1:zbo A=false:=Bool.eq_false_iff.2 c1;have HF:Hid (za6 zbo zc1 l=false):=HUN.out c1;have oB:=zak (w0:=wr) (show b<wr.heap.size by omega);rw[c1] at HV;go_wp2;refine zab wr.heap.size wr (Below.refl _ _) (by kernel_rfl) (by kernel_rfl) ?_
    repeat (go_big_quiet_step ((go_at_call 148;exact zai (Nat.le_refl _) (HV.out _ (zaa _ _ _)))))
    refine wpQuiet_nil ?_;rintro _ ⟨X,rfl⟩;have hX:=zaa wr.heap.size wr X;clear oB;generalize over wr.heap.size wr X=w2 at *;have BF:=J (HB.out.trans (hX.mono O));clear hX;have HQ:Hid (zcd l=false):=by show _=_;unfold zcd;rw[HF.out];simp
    go_wp2;go_ret;exact⟨by rw[HQ.out];rfl,BF.out⟩
   have HM:Hid (zbo A=true):=c1
   by_cases c3:0<k
   case neg =>
    have i8:decide (0<k)=false:=by simpa using c3
    have HF:Hid (upOk zbo zc1 l k=true):=HUZ.out O HM.out;have oB:=zak (w0:=wr) (show b<wr.heap.size by omega);rw[c1] at HV;go_wp2;refine zab wr.heap.size wr (Below.refl _ _) (by kernel_rfl) (by kernel_rfl) ?_
    repeat (go_big_quiet_step ((go_at_call 148;exact zai (Nat.le_refl _) (HV.out _ (zaa _ _ _)))))
    refine wpQuiet_nil ?_;rintro _ ⟨X,rfl⟩;have hX:=zaa wr.heap.size wr X;clear oB;generalize over wr.heap.size wr X=w2 at *;have BF:=J (HB.out.trans (hX.mono O));clear hX;go_wp2;go_roundw
    case rel=>exact⟨k+1,O,by go_num,zbc HN.out (HF.out),BF.out⟩
    case measure=>simp[intOf];omega
   have i3:IntKind.i64.wrap ((k:Int)-1)=(k:Int)-1:=IntWalk.i64_in _ O;have i4:(0:Int)≤(k:Int)-1:=O
   have i6:(k:Int)-1<(l.length:Int):=O
   have i7:(1:Int)≤(k:Int):=O
   have i8:decide (0<k)=true:=by simpa using c3
   have i5:((k:Int)-1).toNat=k-1:=O
   by_cases c4:ltS P.name A.name=true
   case neg =>
    replace c4:ltS P.name A.name=false:=Bool.eq_false_iff.2 c4;have le4:Op.bytesLess P.name.toList A.name.toList=false:=c4;have HF:Hid (za6 zbo zc1 l=false):=zaz hlt (by rw[HUP.out c3,show zc1 P A=false from c4];simp);have fp:=SP.out c3;have oB:=zak (w0:=wr) (show b<wr.heap.size by omega);rw[c1] at HV;go_wp2;refine zab wr.heap.size wr (Below.refl _ _) (by kernel_rfl) (by kernel_rfl) ?_
    repeat (go_big_quiet_step ((go_at_call 148;exact zai (Nat.le_refl _) (HV.out _ (zaa _ _ _)))))
    refine wpQuiet_nil ?_;rintro _ ⟨X,rfl⟩;have hX:=zaa wr.heap.size wr X;clear oB;generalize over wr.heap.size wr X=w2 at *;have BF:=J (HB.out.trans (hX.mono O));clear hX;clear i3 i5;have HQ:Hid (zcd l=false):=by show _=_;unfold zcd;rw[HF.out];simp
    go_wp2;go_ret;exact⟨by rw[HQ.out];rfl,BF.out⟩
   have le4:Op.bytesLess P.name.toList A.name.toList=true:=c4;have HF:Hid (upOk zbo zc1 l k=true):=by show _=_;rw[HUP.out c3,Bool.and_eq_true];exact⟨HM.out,c4⟩
   have fp:=SP.out c3;have oB:=zak (w0:=wr) (show b<wr.heap.size by omega);rw[c1] at HV;go_wp2;refine zab wr.heap.size wr (Below.refl _ _) (by kernel_rfl) (by kernel_rfl) ?_
   repeat (go_big_quiet_step ((go_at_call 148;exact zai (Nat.le_refl _) (HV.out _ (zaa _ _ _)))))
   refine wpQuiet_nil ?_;rintro _ ⟨X,rfl⟩;have hX:=zaa wr.heap.size wr X;clear oB;generalize over wr.heap.size wr X=w2 at *;have BF:=J (HB.out.trans (hX.mono O));clear hX;clear i3 i5;go_wp2;go_roundw
   case rel=>exact⟨k+1,O,by go_num,zbc HN.out (HF.out),BF.out⟩
   case measure=>simp[intOf];omega
  ·obtain rfl:k=l.length:=O
   have HR:Hid (za6 zbo zc1 l=true):=zce HN.out
   by_cases hlim:l.length≤8
   ·have hlj:(l.length:Int)≤8:=O
    have HQ:Hid (zcd l=true):=by show _=_;unfold zcd;rw[HR.out,decide_eq_true hlim];rfl
    go_wp2;go_ret;exact⟨by rw[HQ.out];rfl,HB.out⟩
   ·have hlj:8<l.length:=O
    have hlk:(8:Int)<(l.length:Int):=O
    have HQ:Hid (zcd l=false):=by show _=_;unfold zcd;rw[HR.out,decide_eq_false hlim];rfl
    have HZ:Hid (decide ((l.length:Int)≤8)=false):=decide_eq_false O;go_wp2;go_ret;exact⟨by rw[HQ.out,← HZ.out];rfl,HB.out⟩
end Go.Proofs.YtgmapjgodibchaaGreatDoor
