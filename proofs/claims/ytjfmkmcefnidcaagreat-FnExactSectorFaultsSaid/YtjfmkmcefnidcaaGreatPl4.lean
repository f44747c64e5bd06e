/- Contracts: bands are valid, for the program and for the reference. Conditions: bounded lengths. -/
import Derived.Test.YtjfmkmcefnidcaaGreatPl1
import Derived.Test.YtjfmkmcefnidcaaGreatProb1
import Derived.Lib.MinMax
import Derived.Test.YtjfmkmcefnidcaaGreatNetC
namespace Go.Proofs.YtjfmkmcefnidcaaGreat
set_option maxHeartbeats 8000000
set_option maxRecDepth 100000
open Go.RowKit
set_option linter.unusedVariables false
set_option linter.unusedSimpArgs false
def cntB (x:DBand):Int:=(x.high-x.low).tdiv x.raster
def bandB (x:DBand):Bool:=nameB x.name&&(inB x.low 1 100000000&&(inB x.high x.low 100000000&&(inB x.raster 1 100000&&(inB (cntB x) 1 1000&&((x.duplex == 0) || inB x.duplex (x.high-x.low) (100000000-x.high))))))
def bandS (x:DBand):Bool:=nameB x.name&&(inB x.low 1 100000000&&(inB x.high 1 100000000&&(inB x.raster 1 100000&&(inB x.duplex 0 100000000&&(inB (cntB x) 1 1000&&((x.duplex == 0) || (decide (x.high-x.low≤x.duplex)&&decide (x.high+x.duplex≤100000000))))))))
theorem cntB_of {x:DBand} (h:0≤x.high-x.low):cntB x=(x.high-x.low) / x.raster:=Int.tdiv_eq_ediv_of_nonneg h
theorem bandS_eq (x:DBand):bandS x=bandB x:=by
 unfold bandS bandB
 rw[Bool.eq_iff_iff]
 simp only[inB,Bool.and_eq_true,Bool.or_eq_true,decide_eq_true_eq,beq_iff_eq]
 constructor
 ·rintro⟨h0,h1,h2,h3,h4,h5,h6⟩
  have h7:x.low≤x.high:=by
   rcases Int.lt_or_le x.high x.low with hl|hl
   ·have:cntB x≤0:=by
     unfold cntB
     have e:x.high-x.low = -(x.low-x.high):=by omega
     rw[e,Int.neg_tdiv]
     have:0≤(x.low-x.high).tdiv x.raster:=Int.tdiv_nonneg (by omega) (by omega)
     omega
    omega
   ·exact hl
  exact⟨h0,h1,⟨h7,h2.2⟩,h3,h5,h6.imp id (fun h=>⟨h.1,by omega⟩)⟩
 ·rintro⟨h0,h1,h2,h3,h5,h6⟩
  refine⟨h0,h1,⟨by omega,h2.2⟩,h3,?_,h5,h6.imp id (fun h=>⟨h.1,by omega⟩)⟩
  rcases h6 with h6|h6<;>omega
theorem count_any (x:DBand) (h1:1≤x.low) (h2:x.low≤100000000) (h3:1≤x.high) (h4:x.high≤100000000) (h5:1≤x.raster) (h6:x.raster≤100000) (h7:x.low≤x.high) (w:World) :
  Calls Tryz.prog 215 #[.agg #[.string x.name,.int .i64 x.low,.int .i64 x.high,.int .i64 x.raster,.int .i64 x.duplex]] w fun e w'=>e=.returned (.int .i64 (cntB x))∧Below w.heap.size w w':=by
 have h8:0≤x.high-x.low:=by omega
 have HC:=Lib.hid (cntB_of h8)
 go_enter Tryz.func215,Tryz.ntmps215
 go_wp2
 go_ret
 exact⟨by rw[HC.out];rfl,(Below.refl _ _).alloc (Nat.le_refl _) _⟩
theorem l15Count_any (x:DBand) (h1:1≤x.low) (h2:x.low≤100000000) (h3:1≤x.high) (h4:x.high≤100000000) (h5:1≤x.raster) (h6:x.raster≤100000) (b off:Nat) (w:World) (c0:w.cell? ⟨b,off,none⟩=some (.string x.name)) (c1:w.cell? ⟨b,off+1,none⟩=some (.int .i64 x.low)) (c2:w.cell? ⟨b,off+2,none⟩=some (.int .i64 x.high)) (c3:w.cell? ⟨b,off+3,none⟩=some (.int .i64 x.raster)) (c4:w.cell? ⟨b,off+4,none⟩=some (.int .i64 x.duplex)) :
  Calls Tryz.prog 203 #[.pointer (some ⟨b,off,none⟩)] w fun e w'=>e=.returned (.int .i64 (cntB x))∧Below w.heap.size w w':=by
 by_cases h8:0≤x.high-x.low
 ·have HC:=Lib.hid (cntB_of h8)
  have hbl:=cell_lt c0
  dsimp only at hbl
  go_enter Tryz.func203,Tryz.ntmps203
  go_upto_region 1 with (fail)
  go_quiet (fail)
  go_wp2
  go_ret
  exact⟨by rw[HC.out];rfl,below_drewN (Below.refl _ _) _⟩
 ·have h9:x.high-x.low≤-1:=by omega
  have h10:-100000000≤x.high-x.low:=by omega
  have HC:Hid (cntB x=(x.high-x.low).tdiv x.raster):=rfl
  go_enter Tryz.func203,Tryz.ntmps203
  go_upto_region 1 with (fail)
  go_quiet (fail)
  go_wp2
  go_ret
  exact⟨by rw[HC.out];rfl,below_drewN (Below.refl _ _) _⟩
theorem validBand_any (x:DBand) (k0:x.name.size≤maxLen) (w:World) :
  Calls Tryz.prog 169 #[.agg #[.string x.name,.int .i64 x.low,.int .i64 x.high,.int .i64 x.raster,.int .i64 x.duplex]] w fun e w'=>e=.returned (.bool (bandB x))∧Below w.heap.size w w':=by
 have B0:Hid (Below w.heap.size w (w.alloc (.cells #[.string x.name,.int .i64 x.low,.int .i64 x.high,.int .i64 x.raster,.int .i64 x.duplex] 77))):=(Below.alloc (Below.refl _ _) (by first|exact Nat.le_refl _|(simp;done)|(simp;omega)) _)
 have HD:Hid (∀ W:World,Below (w.alloc (.cells #[.string x.name,.int .i64 x.low,.int .i64 x.high,.int .i64 x.raster,.int .i64 x.duplex] 77)).heap.size (w.alloc (.cells #[.string x.name,.int .i64 x.low,.int .i64 x.high,.int .i64 x.raster,.int .i64 x.duplex] 77)) W→(W.cell? ⟨w.heap.size,0,none⟩=some (.string x.name)∧W.cell? ⟨w.heap.size,1,none⟩=some (.int .i64 x.low)∧W.cell? ⟨w.heap.size,2,none⟩=some (.int .i64 x.high)∧W.cell? ⟨w.heap.size,3,none⟩=some (.int .i64 x.raster)∧W.cell? ⟨w.heap.size,4,none⟩=some (.int .i64 x.duplex))):=fun W hW=>⟨by rw[hW.cell (p:=⟨w.heap.size,0,none⟩) (by first|(simp;done)|(simp;omega))];simp[go_sem],by rw[hW.cell (p:=⟨w.heap.size,1,none⟩) (by first|(simp;done)|(simp;omega))];simp[go_sem],by rw[hW.cell (p:=⟨w.heap.size,2,none⟩) (by first|(simp;done)|(simp;omega))];simp[go_sem],by rw[hW.cell (p:=⟨w.heap.size,3,none⟩) (by first|(simp;done)|(simp;omega))];simp[go_sem],by rw[hW.cell (p:=⟨w.heap.size,4,none⟩) (by first|(simp;done)|(simp;omega))];simp[go_sem]⟩
 have HB:Hid (Below (w.alloc (.cells #[.string x.name,.int .i64 x.low,.int .i64 x.high,.int .i64 x.raster,.int .i64 x.duplex] 77)).heap.size (w.alloc (.cells #[.string x.name,.int .i64 x.low,.int .i64 x.high,.int .i64 x.raster,.int .i64 x.duplex] 77)) (w.alloc (.cells #[.string x.name,.int .i64 x.low,.int .i64 x.high,.int .i64 x.raster,.int .i64 x.duplex] 77))):=Below.refl _ _
 by_cases h0:nameB x.name=true
 case neg =>
  replace h0:nameB x.name=false:=Bool.eq_false_iff.2 h0
  have HE:Hid (bandB x=false):=by show _=_;unfold bandB;simp only[h0]<;>rfl
  go_enter Tryz.func169,Tryz.ntmps169
  go_wp2_with (first|(go_at_call 212;refine (isName_any _ _ (by assumption)).mono ?_;rintro e w1 ⟨rfl,rfl⟩)|(go_at_call 175;refine (within_any _ _ _ _).mono ?_;rintro e w1 ⟨rfl,rfl⟩)|(go_at_call 215;refine (count_any x (by omega) (by omega) (by omega) (by omega) (by omega) (by omega) (by omega) _).mono ?_;rintro e w2 ⟨rfl,hb2⟩;(try clear t0 t1 t2 t3 t4);replace HB:=Lib.hid (HB.out.trans (hb2.mono HB.out.size));clear hb2;obtain⟨t0,t1,t2,t3,t4⟩:=HD.out _ HB.out))
  go_ret
  exact⟨by rw[HE.out];rfl,by exact B0.out.trans (HB.out.mono (by first|exact Nat.le_refl _|(simp;done)|(simp;omega)))⟩
 by_cases h1:inB x.low 1 100000000=true
 case neg =>
  replace h1:inB x.low 1 100000000=false:=Bool.eq_false_iff.2 h1
  have HE:Hid (bandB x=false):=by show _=_;unfold bandB;simp only[h0,h1]<;>rfl
  go_enter Tryz.func169,Tryz.ntmps169
  go_wp2_with (first|(go_at_call 212;refine (isName_any _ _ (by assumption)).mono ?_;rintro e w1 ⟨rfl,rfl⟩)|(go_at_call 175;refine (within_any _ _ _ _).mono ?_;rintro e w1 ⟨rfl,rfl⟩)|(go_at_call 215;refine (count_any x (by omega) (by omega) (by omega) (by omega) (by omega) (by omega) (by omega) _).mono ?_;rintro e w2 ⟨rfl,hb2⟩;(try clear t0 t1 t2 t3 t4);replace HB:=Lib.hid (HB.out.trans (hb2.mono HB.out.size));clear hb2;obtain⟨t0,t1,t2,t3,t4⟩:=HD.out _ HB.out))
  go_ret
  exact⟨by rw[HE.out];rfl,by exact B0.out.trans (HB.out.mono (by first|exact Nat.le_refl _|(simp;done)|(simp;omega)))⟩
 obtain⟨hah1,hbh1⟩:=inB_true.1 h1
 by_cases h2:inB x.high x.low 100000000=true
 case neg =>
  replace h2:inB x.high x.low 100000000=false:=Bool.eq_false_iff.2 h2
  have HE:Hid (bandB x=false):=by show _=_;unfold bandB;simp only[h0,h1,h2]<;>rfl
  go_enter Tryz.func169,Tryz.ntmps169
  go_wp2_with (first|(go_at_call 212;refine (isName_any _ _ (by assumption)).mono ?_;rintro e w1 ⟨rfl,rfl⟩)|(go_at_call 175;refine (within_any _ _ _ _).mono ?_;rintro e w1 ⟨rfl,rfl⟩)|(go_at_call 215;refine (count_any x (by omega) (by omega) (by omega) (by omega) (by omega) (by omega) (by omega) _).mono ?_;rintro e w2 ⟨rfl,hb2⟩;(try clear t0 t1 t2 t3 t4);replace HB:=Lib.hid (HB.out.trans (hb2.mono HB.out.size));clear hb2;obtain⟨t0,t1,t2,t3,t4⟩:=HD.out _ HB.out))
  go_ret
  exact⟨by rw[HE.out];rfl,by exact B0.out.trans (HB.out.mono (by first|exact Nat.le_refl _|(simp;done)|(simp;omega)))⟩
 obtain⟨hah2,hbh2⟩:=inB_true.1 h2
 by_cases h3:inB x.raster 1 100000=true
 case neg =>
  replace h3:inB x.raster 1 100000=false:=Bool.eq_false_iff.2 h3
  have HE:Hid (bandB x=false):=by show _=_;unfold bandB;simp only[h0,h1,h2,h3]<;>rfl
  go_enter Tryz.func169,Tryz.ntmps169
  go_wp2_with (first|(go_at_call 212;refine (isName_any _ _ (by assumption)).mono ?_;rintro e w1 ⟨rfl,rfl⟩)|(go_at_call 175;refine (within_any _ _ _ _).mono ?_;rintro e w1 ⟨rfl,rfl⟩)|(go_at_call 215;refine (count_any x (by omega) (by omega) (by omega) (by omega) (by omega) (by omega) (by omega) _).mono ?_;rintro e w2 ⟨rfl,hb2⟩;(try clear t0 t1 t2 t3 t4);replace HB:=Lib.hid (HB.out.trans (hb2.mono HB.out.size));clear hb2;obtain⟨t0,t1,t2,t3,t4⟩:=HD.out _ HB.out))
  go_ret
  exact⟨by rw[HE.out];rfl,by exact B0.out.trans (HB.out.mono (by first|exact Nat.le_refl _|(simp;done)|(simp;omega)))⟩
 obtain⟨hah3,hbh3⟩:=inB_true.1 h3
 by_cases h4:inB (cntB x) 1 1000=true
 case neg =>
  replace h4:inB (cntB x) 1 1000=false:=Bool.eq_false_iff.2 h4
  have HE:Hid (bandB x=false):=by show _=_;unfold bandB;simp only[h0,h1,h2,h3,h4]<;>rfl
  go_enter Tryz.func169,Tryz.ntmps169
  go_wp2_with (first|(go_at_call 212;refine (isName_any _ _ (by assumption)).mono ?_;rintro e w1 ⟨rfl,rfl⟩)|(go_at_call 175;refine (within_any _ _ _ _).mono ?_;rintro e w1 ⟨rfl,rfl⟩)|(go_at_call 215;refine (count_any x (by omega) (by omega) (by omega) (by omega) (by omega) (by omega) (by omega) _).mono ?_;rintro e w2 ⟨rfl,hb2⟩;(try clear t0 t1 t2 t3 t4);replace HB:=Lib.hid (HB.out.trans (hb2.mono HB.out.size));clear hb2;obtain⟨t0,t1,t2,t3,t4⟩:=HD.out _ HB.out))
  go_ret
  exact⟨by rw[HE.out];rfl,by exact B0.out.trans (HB.out.mono (by first|exact Nat.le_refl _|(simp;done)|(simp;omega)))⟩
 by_cases h5:(x.duplex == 0)=true
 case neg =>
  replace h5:(x.duplex == 0)=false:=Bool.eq_false_iff.2 h5
  by_cases h6:inB x.duplex (x.high-x.low) (100000000-x.high)=true
  case neg =>
   replace h6:inB x.duplex (x.high-x.low) (100000000-x.high)=false:=Bool.eq_false_iff.2 h6
   have HE:Hid (bandB x=false):=by show _=_;unfold bandB;simp only[h0,h1,h2,h3,h4,h5,h6]<;>rfl
   go_enter Tryz.func169,Tryz.ntmps169
   go_wp2_with (first|(go_at_call 212;refine (isName_any _ _ (by assumption)).mono ?_;rintro e w1 ⟨rfl,rfl⟩)|(go_at_call 175;refine (within_any _ _ _ _).mono ?_;rintro e w1 ⟨rfl,rfl⟩)|(go_at_call 215;refine (count_any x (by omega) (by omega) (by omega) (by omega) (by omega) (by omega) (by omega) _).mono ?_;rintro e w2 ⟨rfl,hb2⟩;(try clear t0 t1 t2 t3 t4);replace HB:=Lib.hid (HB.out.trans (hb2.mono HB.out.size));clear hb2;obtain⟨t0,t1,t2,t3,t4⟩:=HD.out _ HB.out))
   go_ret
   exact⟨by rw[HE.out];rfl,by exact B0.out.trans (HB.out.mono (by first|exact Nat.le_refl _|(simp;done)|(simp;omega)))⟩
  have HE:Hid (bandB x=true):=by show _=_;unfold bandB;simp only[h0,h1,h2,h3,h4,h5,h6]<;>rfl
  go_enter Tryz.func169,Tryz.ntmps169
  go_wp2_with (first|(go_at_call 212;refine (isName_any _ _ (by assumption)).mono ?_;rintro e w1 ⟨rfl,rfl⟩)|(go_at_call 175;refine (within_any _ _ _ _).mono ?_;rintro e w1 ⟨rfl,rfl⟩)|(go_at_call 215;refine (count_any x (by omega) (by omega) (by omega) (by omega) (by omega) (by omega) (by omega) _).mono ?_;rintro e w2 ⟨rfl,hb2⟩;(try clear t0 t1 t2 t3 t4);replace HB:=Lib.hid (HB.out.trans (hb2.mono HB.out.size));clear hb2;obtain⟨t0,t1,t2,t3,t4⟩:=HD.out _ HB.out))
  go_ret
  exact⟨by rw[HE.out];rfl,by exact B0.out.trans (HB.out.mono (by first|exact Nat.le_refl _|(simp;done)|(simp;omega)))⟩
 have HE:Hid (bandB x=true):=by show _=_;unfold bandB;simp only[h0,h1,h2,h3,h4,h5]<;>rfl
 go_enter Tryz.func169,Tryz.ntmps169
 go_wp2_with (first|(go_at_call 212;refine (isName_any _ _ (by assumption)).mono ?_;rintro e w1 ⟨rfl,rfl⟩)|(go_at_call 175;refine (within_any _ _ _ _).mono ?_;rintro e w1 ⟨rfl,rfl⟩)|(go_at_call 215;refine (count_any x (by omega) (by omega) (by omega) (by omega) (by omega) (by omega) (by omega) _).mono ?_;rintro e w2 ⟨rfl,hb2⟩;(try clear t0 t1 t2 t3 t4);replace HB:=Lib.hid (HB.out.trans (hb2.mono HB.out.size));clear hb2;obtain⟨t0,t1,t2,t3,t4⟩:=HD.out _ HB.out))
 go_ret
 exact⟨by rw[HE.out];rfl,by exact B0.out.trans (HB.out.mono (by first|exact Nat.le_refl _|(simp;done)|(simp;omega)))⟩
theorem l15Ok_any (x:DBand) (b off:Nat) (w:World) (c0:w.cell? ⟨b,off,none⟩=some (.string x.name)) (c1:w.cell? ⟨b,off+1,none⟩=some (.int .i64 x.low)) (c2:w.cell? ⟨b,off+2,none⟩=some (.int .i64 x.high)) (c3:w.cell? ⟨b,off+3,none⟩=some (.int .i64 x.raster)) (c4:w.cell? ⟨b,off+4,none⟩=some (.int .i64 x.duplex)) (k0:x.name.size≤maxLen) :
  Calls Tryz.prog 153 #[.pointer (some ⟨b,off,none⟩)] w fun e w'=>e=.returned (.bool (bandS x))∧Below w.heap.size w w':=by
 have hbl:=cell_lt c0
 dsimp only at hbl
 have B0:Hid (Below w.heap.size w w):=Below.refl _ _
 have HD:Hid (∀ W:World,Below w.heap.size w W→(W.cell? ⟨b,off,none⟩=some (.string x.name)∧W.cell? ⟨b,off+1,none⟩=some (.int .i64 x.low)∧W.cell? ⟨b,off+2,none⟩=some (.int .i64 x.high)∧W.cell? ⟨b,off+3,none⟩=some (.int .i64 x.raster)∧W.cell? ⟨b,off+4,none⟩=some (.int .i64 x.duplex))):=fun W hW=>⟨(hW.cell (p:=⟨b,off,none⟩) (cell_lt c0)).trans c0,(hW.cell (p:=⟨b,off+1,none⟩) (cell_lt c1)).trans c1,(hW.cell (p:=⟨b,off+2,none⟩) (cell_lt c2)).trans c2,(hW.cell (p:=⟨b,off+3,none⟩) (cell_lt c3)).trans c3,(hW.cell (p:=⟨b,off+4,none⟩) (cell_lt c4)).trans c4⟩
 have HB:Hid (Below w.heap.size w w):=Below.refl _ _
 by_cases h0:nameB x.name=true
 case neg =>
  replace h0:nameB x.name=false:=Bool.eq_false_iff.2 h0
  have HE:Hid (bandS x=false):=by show _=_;unfold bandS;simp only[h0]<;>rfl
  go_enter Tryz.func153,Tryz.ntmps153
  go_wp2_with (first|(go_at_call 201;refine (l01Name_any _ _ (by assumption)).mono ?_;rintro e w1 ⟨rfl,rfl⟩)|(go_at_call 148;refine (l00In_any _ _ _ _).mono ?_;rintro e w1 ⟨rfl,rfl⟩)|(go_at_call 203;refine (l15Count_any x (by omega) (by omega) (by omega) (by omega) (by omega) (by omega) b off _ c0 c1 c2 c3 c4).mono ?_;rintro e w2 ⟨rfl,hb2⟩;(try clear t0 t1 t2 t3 t4);replace HB:=Lib.hid (HB.out.trans (hb2.mono HB.out.size));clear hb2;obtain⟨t0,t1,t2,t3,t4⟩:=HD.out _ HB.out))
  have BEE:=Lib.hid (B0.out.trans (HB.out.mono (Nat.le_refl _)))
  go_ret
  exact⟨by rw[HE.out];rfl,by exact BEE.out⟩
 by_cases h1:inB x.low 1 100000000=true
 case neg =>
  replace h1:inB x.low 1 100000000=false:=Bool.eq_false_iff.2 h1
  have HE:Hid (bandS x=false):=by show _=_;unfold bandS;simp only[h0,h1]<;>rfl
  go_enter Tryz.func153,Tryz.ntmps153
  go_wp2_with (first|(go_at_call 201;refine (l01Name_any _ _ (by assumption)).mono ?_;rintro e w1 ⟨rfl,rfl⟩)|(go_at_call 148;refine (l00In_any _ _ _ _).mono ?_;rintro e w1 ⟨rfl,rfl⟩)|(go_at_call 203;refine (l15Count_any x (by omega) (by omega) (by omega) (by omega) (by omega) (by omega) b off _ c0 c1 c2 c3 c4).mono ?_;rintro e w2 ⟨rfl,hb2⟩;(try clear t0 t1 t2 t3 t4);replace HB:=Lib.hid (HB.out.trans (hb2.mono HB.out.size));clear hb2;obtain⟨t0,t1,t2,t3,t4⟩:=HD.out _ HB.out))
  have BEE:=Lib.hid (B0.out.trans (HB.out.mono (Nat.le_refl _)))
  go_ret
  exact⟨by rw[HE.out];rfl,by exact BEE.out⟩
 obtain⟨hah1,hbh1⟩:=inB_true.1 h1
 by_cases h2:inB x.high 1 100000000=true
 case neg =>
  replace h2:inB x.high 1 100000000=false:=Bool.eq_false_iff.2 h2
  have HE:Hid (bandS x=false):=by show _=_;unfold bandS;simp only[h0,h1,h2]<;>rfl
  go_enter Tryz.func153,Tryz.ntmps153
  go_wp2_with (first|(go_at_call 201;refine (l01Name_any _ _ (by assumption)).mono ?_;rintro e w1 ⟨rfl,rfl⟩)|(go_at_call 148;refine (l00In_any _ _ _ _).mono ?_;rintro e w1 ⟨rfl,rfl⟩)|(go_at_call 203;refine (l15Count_any x (by omega) (by omega) (by omega) (by omega) (by omega) (by omega) b off _ c0 c1 c2 c3 c4).mono ?_;rintro e w2 ⟨rfl,hb2⟩;(try clear t0 t1 t2 t3 t4);replace HB:=Lib.hid (HB.out.trans (hb2.mono HB.out.size));clear hb2;obtain⟨t0,t1,t2,t3,t4⟩:=HD.out _ HB.out))
  have BEE:=Lib.hid (B0.out.trans (HB.out.mono (Nat.le_refl _)))
  go_ret
  exact⟨by rw[HE.out];rfl,by exact BEE.out⟩
 obtain⟨hah2,hbh2⟩:=inB_true.1 h2
 by_cases h3:inB x.raster 1 100000=true
 case neg =>
  replace h3:inB x.raster 1 100000=false:=Bool.eq_false_iff.2 h3
  have HE:Hid (bandS x=false):=by show _=_;unfold bandS;simp only[h0,h1,h2,h3]<;>rfl
  go_enter Tryz.func153,Tryz.ntmps153
  go_wp2_with (first|(go_at_call 201;refine (l01Name_any _ _ (by assumption)).mono ?_;rintro e w1 ⟨rfl,rfl⟩)|(go_at_call 148;refine (l00In_any _ _ _ _).mono ?_;rintro e w1 ⟨rfl,rfl⟩)|(go_at_call 203;refine (l15Count_any x (by omega) (by omega) (by omega) (by omega) (by omega) (by omega) b off _ c0 c1 c2 c3 c4).mono ?_;rintro e w2 ⟨rfl,hb2⟩;(try clear t0 t1 t2 t3 t4);replace HB:=Lib.hid (HB.out.trans (hb2.mono HB.out.size));clear hb2;obtain⟨t0,t1,t2,t3,t4⟩:=HD.out _ HB.out))
  have BEE:=Lib.hid (B0.out.trans (HB.out.mono (Nat.le_refl _)))
  go_ret
  exact⟨by rw[HE.out];rfl,by exact BEE.out⟩
 obtain⟨hah3,hbh3⟩:=inB_true.1 h3
 by_cases h4:inB x.duplex 0 100000000=true
 case neg =>
  replace h4:inB x.duplex 0 100000000=false:=Bool.eq_false_iff.2 h4
  have HE:Hid (bandS x=false):=by show _=_;unfold bandS;simp only[h0,h1,h2,h3,h4]<;>rfl
  go_enter Tryz.func153,Tryz.ntmps153
  go_wp2_with (first|(go_at_call 201;refine (l01Name_any _ _ (by assumption)).mono ?_;rintro e w1 ⟨rfl,rfl⟩)|(go_at_call 148;refine (l00In_any _ _ _ _).mono ?_;rintro e w1 ⟨rfl,rfl⟩)|(go_at_call 203;refine (l15Count_any x (by omega) (by omega) (by omega) (by omega) (by omega) (by omega) b off _ c0 c1 c2 c3 c4).mono ?_;rintro e w2 ⟨rfl,hb2⟩;(try clear t0 t1 t2 t3 t4);replace HB:=Lib.hid (HB.out.trans (hb2.mono HB.out.size));clear hb2;obtain⟨t0,t1,t2,t3,t4⟩:=HD.out _ HB.out))
  have BEE:=Lib.hid (B0.out.trans (HB.out.mono (Nat.le_refl _)))
  go_ret
  exact⟨by rw[HE.out];rfl,by exact BEE.out⟩
 obtain⟨hah4,hbh4⟩:=inB_true.1 h4
 by_cases h5:inB (cntB x) 1 1000=true
 case neg =>
  replace h5:inB (cntB x) 1 1000=false:=Bool.eq_false_iff.2 h5
  have HE:Hid (bandS x=false):=by show _=_;unfold bandS;simp only[h0,h1,h2,h3,h4,h5]<;>rfl
  go_enter Tryz.func153,Tryz.ntmps153
  go_wp2_with (first|(go_at_call 201;refine (l01Name_any _ _ (by assumption)).mono ?_;rintro e w1 ⟨rfl,rfl⟩)|(go_at_call 148;refine (l00In_any _ _ _ _).mono ?_;rintro e w1 ⟨rfl,rfl⟩)|(go_at_call 203;refine (l15Count_any x (by omega) (by omega) (by omega) (by omega) (by omega) (by omega) b off _ c0 c1 c2 c3 c4).mono ?_;rintro e w2 ⟨rfl,hb2⟩;(try clear t0 t1 t2 t3 t4);replace HB:=Lib.hid (HB.out.trans (hb2.mono HB.out.size));clear hb2;obtain⟨t0,t1,t2,t3,t4⟩:=HD.out _ HB.out))
  have BEE:=Lib.hid (B0.out.trans (HB.out.mono (Nat.le_refl _)))
  go_ret
  exact⟨by rw[HE.out];rfl,by exact BEE.out⟩
 by_cases h6:(x.duplex == 0)=true
 case neg =>
  replace h6:(x.duplex == 0)=false:=Bool.eq_false_iff.2 h6
  by_cases h7:x.high-x.low≤x.duplex
  case neg =>
   have hd7:decide (x.high-x.low≤x.duplex)=false:=decide_eq_false h7
   replace h7:x.duplex<x.high-x.low:=by omega
   have HE:Hid (bandS x=false):=by show _=_;unfold bandS;simp only[h0,h1,h2,h3,h4,h5,h6,hd7]<;>rfl
   go_enter Tryz.func153,Tryz.ntmps153
   go_upto_region 5 with (first|(go_at_call 201;refine (l01Name_any _ _ (by assumption)).mono ?_;rintro e w1 ⟨rfl,rfl⟩)|(go_at_call 148;refine (l00In_any _ _ _ _).mono ?_;rintro e w1 ⟨rfl,rfl⟩)|(go_at_call 203;refine (l15Count_any x (by omega) (by omega) (by omega) (by omega) (by omega) (by omega) b off _ c0 c1 c2 c3 c4).mono ?_;rintro e w2 ⟨rfl,hb2⟩;(try clear t0 t1 t2 t3 t4);replace HB:=Lib.hid (HB.out.trans (hb2.mono HB.out.size));clear hb2;obtain⟨t0,t1,t2,t3,t4⟩:=HD.out _ HB.out))
   have zz:=HB.out.size
   have hbl2:b<w2.heap.size:=by omega
   have oB0:=overC (w0:=w2) (show b<w2.heap.size by omega)
   refine wp_region_over w2.heap.size w2 (Below.refl _ _) (by kernel_rfl) (by kernel_rfl) ?_
   repeat (go_big_quiet_step (first|fail))
   refine wpQuiet_nil ?_
   rintro _ ⟨X,rfl⟩
   have BE:=Lib.hid (over_below w2.heap.size w2 X)
   clear oB0
   generalize over w2.heap.size w2 X=W9 at *
   go_wp2
   have BEE:=Lib.hid (HB.out.trans (BE.out.mono HB.out.size))
   go_ret
   exact⟨by rw[HE.out];rfl,by exact BEE.out⟩
  have hd7:decide (x.high-x.low≤x.duplex)=true:=decide_eq_true h7
  by_cases h8:x.high+x.duplex≤100000000
  case neg =>
   have hd8:decide (x.high+x.duplex≤100000000)=false:=decide_eq_false h8
   replace h8:100000000<x.high+x.duplex:=by omega
   have HE:Hid (bandS x=false):=by show _=_;unfold bandS;simp only[h0,h1,h2,h3,h4,h5,h6,hd7,hd8]<;>rfl
   go_enter Tryz.func153,Tryz.ntmps153
   go_upto_region 5 with (first|(go_at_call 201;refine (l01Name_any _ _ (by assumption)).mono ?_;rintro e w1 ⟨rfl,rfl⟩)|(go_at_call 148;refine (l00In_any _ _ _ _).mono ?_;rintro e w1 ⟨rfl,rfl⟩)|(go_at_call 203;refine (l15Count_any x (by omega) (by omega) (by omega) (by omega) (by omega) (by omega) b off _ c0 c1 c2 c3 c4).mono ?_;rintro e w2 ⟨rfl,hb2⟩;(try clear t0 t1 t2 t3 t4);replace HB:=Lib.hid (HB.out.trans (hb2.mono HB.out.size));clear hb2;obtain⟨t0,t1,t2,t3,t4⟩:=HD.out _ HB.out))
   have zz:=HB.out.size
   have hbl2:b<w2.heap.size:=by omega
   have oB0:=overC (w0:=w2) (show b<w2.heap.size by omega)
   refine wp_region_over w2.heap.size w2 (Below.refl _ _) (by kernel_rfl) (by kernel_rfl) ?_
   repeat (go_big_quiet_step (first|fail))
   refine wpQuiet_nil ?_
   rintro _ ⟨X,rfl⟩
   have BE:=Lib.hid (over_below w2.heap.size w2 X)
   clear oB0
   generalize over w2.heap.size w2 X=W9 at *
   go_wp2
   have BEE:=Lib.hid (HB.out.trans (BE.out.mono HB.out.size))
   go_ret
   exact⟨by rw[HE.out];rfl,by exact BEE.out⟩
  have hd8:decide (x.high+x.duplex≤100000000)=true:=decide_eq_true h8
  have HE:Hid (bandS x=true):=by show _=_;unfold bandS;simp only[h0,h1,h2,h3,h4,h5,h6,hd7,hd8]<;>rfl
  go_enter Tryz.func153,Tryz.ntmps153
  go_upto_region 5 with (first|(go_at_call 201;refine (l01Name_any _ _ (by assumption)).mono ?_;rintro e w1 ⟨rfl,rfl⟩)|(go_at_call 148;refine (l00In_any _ _ _ _).mono ?_;rintro e w1 ⟨rfl,rfl⟩)|(go_at_call 203;refine (l15Count_any x (by omega) (by omega) (by omega) (by omega) (by omega) (by omega) b off _ c0 c1 c2 c3 c4).mono ?_;rintro e w2 ⟨rfl,hb2⟩;(try clear t0 t1 t2 t3 t4);replace HB:=Lib.hid (HB.out.trans (hb2.mono HB.out.size));clear hb2;obtain⟨t0,t1,t2,t3,t4⟩:=HD.out _ HB.out))
  have zz:=HB.out.size
  have hbl2:b<w2.heap.size:=by omega
  have oB0:=overC (w0:=w2) (show b<w2.heap.size by omega)
  refine wp_region_over w2.heap.size w2 (Below.refl _ _) (by kernel_rfl) (by kernel_rfl) ?_
  repeat (go_big_quiet_step (first|fail))
  refine wpQuiet_nil ?_
  rintro _ ⟨X,rfl⟩
  have BE:=Lib.hid (over_below w2.heap.size w2 X)
  clear oB0
  generalize over w2.heap.size w2 X=W9 at *
  go_wp2
  have BEE:=Lib.hid (HB.out.trans (BE.out.mono HB.out.size))
  go_ret
  exact⟨by rw[HE.out];rfl,by exact BEE.out⟩
 have HE:Hid (bandS x=true):=by show _=_;unfold bandS;simp only[h0,h1,h2,h3,h4,h5,h6]<;>rfl
 go_enter Tryz.func153,Tryz.ntmps153
 go_upto_region 5 with (first|(go_at_call 201;refine (l01Name_any _ _ (by assumption)).mono ?_;rintro e w1 ⟨rfl,rfl⟩)|(go_at_call 148;refine (l00In_any _ _ _ _).mono ?_;rintro e w1 ⟨rfl,rfl⟩)|(go_at_call 203;refine (l15Count_any x (by omega) (by omega) (by omega) (by omega) (by omega) (by omega) b off _ c0 c1 c2 c3 c4).mono ?_;rintro e w2 ⟨rfl,hb2⟩;(try clear t0 t1 t2 t3 t4);replace HB:=Lib.hid (HB.out.trans (hb2.mono HB.out.size));clear hb2;obtain⟨t0,t1,t2,t3,t4⟩:=HD.out _ HB.out))
 have zz:=HB.out.size
 have hbl2:b<w2.heap.size:=by omega
 have oB0:=overC (w0:=w2) (show b<w2.heap.size by omega)
 refine wp_region_over w2.heap.size w2 (Below.refl _ _) (by kernel_rfl) (by kernel_rfl) ?_
 repeat (go_big_quiet_step (first|fail))
 refine wpQuiet_nil ?_
 rintro _ ⟨X,rfl⟩
 have BE:=Lib.hid (over_below w2.heap.size w2 X)
 clear oB0
 generalize over w2.heap.size w2 X=W9 at *
 go_wp2
 have BEE:=Lib.hid (HB.out.trans (BE.out.mono HB.out.size))
 go_ret
 exact⟨by rw[HE.out];rfl,by exact BEE.out⟩
open Go.RowKit
set_option linter.unusedVariables false
set_option linter.unusedSimpArgs false
def meetA (a b:DArea):DArea:=⟨max a.west b.west,max a.south b.south,min a.east b.east,min a.north b.north⟩
def meetB (a b:DArea):Bool:=areaB a&&(areaB b&&areaB (meetA a b))
def clashB (a b:DLicence):Bool:=decide (a.low<b.high)&&(decide (b.low<a.high)&&(areaB (meetA a.area b.area)&&(decide (a.from_≤b.until_)&&decide (b.from_≤a.until_))))
def clashF (a b:DLicence):Bool:=licB a&&(licB b&&(meetB a.area b.area&&(decide (a.from_≤b.until_)&&(decide (b.from_≤a.until_)&&(decide (a.low<b.high)&&decide (b.low<a.high))))))
theorem licB_area {x:DLicence} (h:licB x=true):areaB x.area=true:=by
 unfold licB at h
 simp only[Bool.and_eq_true] at h
 exact h.2.2.2.2.2.1
theorem clashF_eq {a b:DLicence} (ha:licB a=true) (hb:licB b=true):clashF a b=clashB a b:=by
 unfold clashF clashB meetB
 rw[ha,hb,licB_area ha,licB_area hb]
 simp only[Bool.true_and]
 generalize areaB (meetA a.area b.area)=x0
 generalize decide (a.from_≤b.until_)=x1
 generalize decide (b.from_≤a.until_)=x2
 generalize decide (a.low<b.high)=x3
 generalize decide (b.low<a.high)=x4
 cases x0<;>cases x1<;>cases x2<;>cases x3<;>cases x4<;>rfl
theorem l00Max_int (a b:Int) (w:World):Calls Tryz.prog 237 #[.int .i64 a,.int .i64 b] w fun e w'=>e=.returned (.int .i64 (max a b))∧w=w':=by
 by_cases h:b<a
 ·have e:max a b=a:=by omega
  rw[e];clear e
  go_enter Tryz.func237,Tryz.ntmps237
  go_wp2
  go_ret
  exact⟨rfl,rfl⟩
 ·have e:max a b=b:=by omega
  rw[e];clear e
  go_enter Tryz.func237,Tryz.ntmps237
  go_wp2
  go_ret
  exact⟨rfl,rfl⟩
theorem l00Min_int (a b:Int) (w:World):Calls Tryz.prog 238 #[.int .i64 a,.int .i64 b] w fun e w'=>e=.returned (.int .i64 (min a b))∧w=w':=by
 by_cases h:a<b
 ·have e:min a b=a:=by omega
  rw[e];clear e
  go_enter Tryz.func238,Tryz.ntmps238
  go_wp2
  go_ret
  exact⟨rfl,rfl⟩
 ·have e:min a b=b:=by omega
  rw[e];clear e
  go_enter Tryz.func238,Tryz.ntmps238
  go_wp2
  go_ret
  exact⟨rfl,rfl⟩
theorem l26Meet_any (a b:DArea) (w:World) :
  Calls Tryz.prog 207 #[.agg #[.int .i64 a.west,.int .i64 a.south,.int .i64 a.east,.int .i64 a.north],.agg #[.int .i64 b.west,.int .i64 b.south,.int .i64 b.east,.int .i64 b.north]] w fun e w'=>e=.returned (.agg #[.int .i64 (max a.west b.west),.int .i64 (max a.south b.south),.int .i64 (min a.east b.east),.int .i64 (min a.north b.north)])∧Below w.heap.size w w':=by
 have hb0:Below w.heap.size w (((w.alloc (.cells #[.int .i64 a.west,.int .i64 a.south,.int .i64 a.east,.int .i64 a.north] 88)).alloc (.cells #[.int .i64 b.west,.int .i64 b.south,.int .i64 b.east,.int .i64 b.north] 88)).alloc (.cells #[.int .i64 0,.int .i64 0,.int .i64 0,.int .i64 0] 88)):=Below.alloc (Below.alloc (Below.alloc (Below.refl _ _) (by first|exact Nat.le_refl _|(simp;done)|(simp;omega)) _) (by first|exact Nat.le_refl _|(simp;done)|(simp;omega)) _) (by first|exact Nat.le_refl _|(simp;done)|(simp;omega)) _
 have z0:w.heap.size+3≤(((w.alloc (.cells #[.int .i64 a.west,.int .i64 a.south,.int .i64 a.east,.int .i64 a.north] 88)).alloc (.cells #[.int .i64 b.west,.int .i64 b.south,.int .i64 b.east,.int .i64 b.north] 88)).alloc (.cells #[.int .i64 0,.int .i64 0,.int .i64 0,.int .i64 0] 88)).heap.size:=by simp
 have k0:(((w.alloc (.cells #[.int .i64 a.west,.int .i64 a.south,.int .i64 a.east,.int .i64 a.north] 88)).alloc (.cells #[.int .i64 b.west,.int .i64 b.south,.int .i64 b.east,.int .i64 b.north] 88)).alloc (.cells #[.int .i64 0,.int .i64 0,.int .i64 0,.int .i64 0] 88)).heap[w.heap.size]? = some (.cells #[.int .i64 a.west,.int .i64 a.south,.int .i64 a.east,.int .i64 a.north] 88 (0,0)):=by
  have h:=bkN w #[.int .i64 a.west,.int .i64 a.south,.int .i64 a.east,.int .i64 a.north] 88
  replace h:=bkA h (by first|(simp;done)|(simp;omega)) (.cells #[.int .i64 b.west,.int .i64 b.south,.int .i64 b.east,.int .i64 b.north] 88)
  replace h:=bkA h (by first|(simp;done)|(simp;omega)) (.cells #[.int .i64 0,.int .i64 0,.int .i64 0,.int .i64 0] 88)
  exact h
 have k1:(((w.alloc (.cells #[.int .i64 a.west,.int .i64 a.south,.int .i64 a.east,.int .i64 a.north] 88)).alloc (.cells #[.int .i64 b.west,.int .i64 b.south,.int .i64 b.east,.int .i64 b.north] 88)).alloc (.cells #[.int .i64 0,.int .i64 0,.int .i64 0,.int .i64 0] 88)).heap[w.heap.size+1]? = some (.cells #[.int .i64 b.west,.int .i64 b.south,.int .i64 b.east,.int .i64 b.north] 88 (0,0)):=by
  have h:=bkN (w.alloc (.cells #[.int .i64 a.west,.int .i64 a.south,.int .i64 a.east,.int .i64 a.north] 88)) #[.int .i64 b.west,.int .i64 b.south,.int .i64 b.east,.int .i64 b.north] 88
  rw[show (w.alloc (.cells #[.int .i64 a.west,.int .i64 a.south,.int .i64 a.east,.int .i64 a.north] 88)).heap.size=w.heap.size+1 by simp] at h
  replace h:=bkA h (by first|(simp;done)|(simp;omega)) (.cells #[.int .i64 0,.int .i64 0,.int .i64 0,.int .i64 0] 88)
  exact h
 have k2:(((w.alloc (.cells #[.int .i64 a.west,.int .i64 a.south,.int .i64 a.east,.int .i64 a.north] 88)).alloc (.cells #[.int .i64 b.west,.int .i64 b.south,.int .i64 b.east,.int .i64 b.north] 88)).alloc (.cells #[.int .i64 0,.int .i64 0,.int .i64 0,.int .i64 0] 88)).heap[w.heap.size+2]? = some (.cells #[.int .i64 0,.int .i64 0,.int .i64 0,.int .i64 0] 88 (0,0)):=by
  have h:=bkN ((w.alloc (.cells #[.int .i64 a.west,.int .i64 a.south,.int .i64 a.east,.int .i64 a.north] 88)).alloc (.cells #[.int .i64 b.west,.int .i64 b.south,.int .i64 b.east,.int .i64 b.north] 88)) #[.int .i64 0,.int .i64 0,.int .i64 0,.int .i64 0] 88
  rw[show ((w.alloc (.cells #[.int .i64 a.west,.int .i64 a.south,.int .i64 a.east,.int .i64 a.north] 88)).alloc (.cells #[.int .i64 b.west,.int .i64 b.south,.int .i64 b.east,.int .i64 b.north] 88)).heap.size=w.heap.size+2 by simp] at h
  exact h
 generalize hW0:(((w.alloc (.cells #[.int .i64 a.west,.int .i64 a.south,.int .i64 a.east,.int .i64 a.north] 88)).alloc (.cells #[.int .i64 b.west,.int .i64 b.south,.int .i64 b.east,.int .i64 b.north] 88)).alloc (.cells #[.int .i64 0,.int .i64 0,.int .i64 0,.int .i64 0] 88))=W0 at hb0 z0 k0 k1 k2
 have HW0:=Lib.hid hW0
 clear hW0
 have B0:=Lib.hid hb0
 clear hb0
 have K0:=Lib.hid k0
 clear k0
 have K1:=Lib.hid k1
 clear k1
 have K2:=Lib.hid k2
 clear k2
 go_enter Tryz.func207,Tryz.ntmps207
 go_upto_region 1 with (fail)
 rw[HW0.out]
 have f0_0:=bkC (v:=.int .i64 a.west) K0.out 0 rfl
 have f0_1:=bkC (v:=.int .i64 a.south) K0.out 1 rfl
 have f0_2:=bkC (v:=.int .i64 a.east) K0.out 2 rfl
 have f0_3:=bkC (v:=.int .i64 a.north) K0.out 3 rfl
 have f1_0:=bkC (v:=.int .i64 b.west) K1.out 0 rfl
 have f1_1:=bkC (v:=.int .i64 b.south) K1.out 1 rfl
 have f1_2:=bkC (v:=.int .i64 b.east) K1.out 2 rfl
 have f1_3:=bkC (v:=.int .i64 b.north) K1.out 3 rfl
 have o0:=overC (w0:=W0) (show w.heap.size<W0.heap.size by omega)
 have o1:=overC (w0:=W0) (show w.heap.size+1<W0.heap.size by omega)
 refine wp_region_over_tail 21 W0.heap.size W0 (Below.refl _ _) (by kernel_rfl) (by kernel_rfl) ?_
 simp only[List.take_succ_cons,List.take_zero,List.drop_succ_cons,List.drop_zero]
 repeat (go_big_quiet_step (first|(go_at_call 237;exact over_same (l00Max_int _ _ _))|(go_at_call 238;exact over_same (l00Min_int _ _ _))))
 refine wpQuiet_nil ?_
 intro X
 have hX:=over_below W0.heap.size W0 X
 clear o0 o1 f0_0 f0_1 f0_2 f0_3 f1_0 f1_1 f1_2 f1_3
 generalize over W0.heap.size W0 X=w2 at *
 have K2b:=Lib.hid (bkB K2.out hX (by omega))
 have B2:=Lib.hid (B0.out.trans (hX.mono (by omega)))
 clear hX
 have g0_0:=bkC (v:=.int .i64 0) K2b.out 0 rfl
 have g0_1:=bkC (v:=.int .i64 0) K2b.out 1 rfl
 have g0_2:=bkC (v:=.int .i64 0) K2b.out 2 rfl
 have g0_3:=bkC (v:=.int .i64 0) K2b.out 3 rfl
 have gz:=bkF K2b.out
 go_wp2
 refine bodyPost_ret (v:=.agg #[.int .i64 (max a.west b.west),.int .i64 (max a.south b.south),.int .i64 (min a.east b.east),.int .i64 (min a.north b.north)]) (by simp[results,Tryz.results207,go_sem, *]) rfl ?_
 exact⟨rfl,((((B2.out.setCell (p:=⟨w.heap.size+1+1,0,none⟩) (by show w.heap.size≤w.heap.size+1+1;omega) (.int .i64 (max a.west b.west))).setCell (p:=⟨w.heap.size+1+1,1,none⟩) (by show w.heap.size≤w.heap.size+1+1;omega) (.int .i64 (max a.south b.south))).setCell (p:=⟨w.heap.size+1+1,2,none⟩) (by show w.heap.size≤w.heap.size+1+1;omega) (.int .i64 (min a.east b.east))).setCell (p:=⟨w.heap.size+1+1,3,none⟩) (by show w.heap.size≤w.heap.size+1+1;omega) (.int .i64 (min a.north b.north)))⟩
theorem meetAreas_any (a b:DArea) (w:World) :
  Calls Tryz.prog 220 #[.agg #[.int .i64 a.west,.int .i64 a.south,.int .i64 a.east,.int .i64 a.north],.agg #[.int .i64 b.west,.int .i64 b.south,.int .i64 b.east,.int .i64 b.north]] w fun e w'=>∃ c:DArea,e=.returned (.tuple #[.agg #[.int .i64 c.west,.int .i64 c.south,.int .i64 c.east,.int .i64 c.north],.bool (meetB a b)])∧Below w.heap.size w w':=by
 have hb0:Below w.heap.size w ((((w.alloc (.cells #[.int .i64 a.west,.int .i64 a.south,.int .i64 a.east,.int .i64 a.north] 88)).alloc (.cells #[.int .i64 b.west,.int .i64 b.south,.int .i64 b.east,.int .i64 b.north] 88)).alloc (.cells #[.int .i64 0,.int .i64 0,.int .i64 0,.int .i64 0] 88)).alloc (.cells #[.int .i64 (max a.west b.west),.int .i64 (max a.south b.south),.int .i64 (min a.east b.east),.int .i64 (min a.north b.north)] 88)):=Below.alloc (Below.alloc (Below.alloc (Below.alloc (Below.refl _ _) (by first|exact Nat.le_refl _|(simp;done)|(simp;omega)) _) (by first|exact Nat.le_refl _|(simp;done)|(simp;omega)) _) (by first|exact Nat.le_refl _|(simp;done)|(simp;omega)) _) (by first|exact Nat.le_refl _|(simp;done)|(simp;omega)) _
 have z0:w.heap.size+4≤((((w.alloc (.cells #[.int .i64 a.west,.int .i64 a.south,.int .i64 a.east,.int .i64 a.north] 88)).alloc (.cells #[.int .i64 b.west,.int .i64 b.south,.int .i64 b.east,.int .i64 b.north] 88)).alloc (.cells #[.int .i64 0,.int .i64 0,.int .i64 0,.int .i64 0] 88)).alloc (.cells #[.int .i64 (max a.west b.west),.int .i64 (max a.south b.south),.int .i64 (min a.east b.east),.int .i64 (min a.north b.north)] 88)).heap.size:=by simp
 have k0:((((w.alloc (.cells #[.int .i64 a.west,.int .i64 a.south,.int .i64 a.east,.int .i64 a.north] 88)).alloc (.cells #[.int .i64 b.west,.int .i64 b.south,.int .i64 b.east,.int .i64 b.north] 88)).alloc (.cells #[.int .i64 0,.int .i64 0,.int .i64 0,.int .i64 0] 88)).alloc (.cells #[.int .i64 (max a.west b.west),.int .i64 (max a.south b.south),.int .i64 (min a.east b.east),.int .i64 (min a.north b.north)] 88)).heap[w.heap.size]? = some (.cells #[.int .i64 a.west,.int .i64 a.south,.int .i64 a.east,.int .i64 a.north] 88 (0,0)):=by
  have h:=bkN w #[.int .i64 a.west,.int .i64 a.south,.int .i64 a.east,.int .i64 a.north] 88
  replace h:=bkA h (by first|(simp;done)|(simp;omega)) (.cells #[.int .i64 b.west,.int .i64 b.south,.int .i64 b.east,.int .i64 b.north] 88)
  replace h:=bkA h (by first|(simp;done)|(simp;omega)) (.cells #[.int .i64 0,.int .i64 0,.int .i64 0,.int .i64 0] 88)
  replace h:=bkA h (by first|(simp;done)|(simp;omega)) (.cells #[.int .i64 (max a.west b.west),.int .i64 (max a.south b.south),.int .i64 (min a.east b.east),.int .i64 (min a.north b.north)] 88)
  exact h
 have k1:((((w.alloc (.cells #[.int .i64 a.west,.int .i64 a.south,.int .i64 a.east,.int .i64 a.north] 88)).alloc (.cells #[.int .i64 b.west,.int .i64 b.south,.int .i64 b.east,.int .i64 b.north] 88)).alloc (.cells #[.int .i64 0,.int .i64 0,.int .i64 0,.int .i64 0] 88)).alloc (.cells #[.int .i64 (max a.west b.west),.int .i64 (max a.south b.south),.int .i64 (min a.east b.east),.int .i64 (min a.north b.north)] 88)).heap[w.heap.size+1]? = some (.cells #[.int .i64 b.west,.int .i64 b.south,.int .i64 b.east,.int .i64 b.north] 88 (0,0)):=by
  have h:=bkN (w.alloc (.cells #[.int .i64 a.west,.int .i64 a.south,.int .i64 a.east,.int .i64 a.north] 88)) #[.int .i64 b.west,.int .i64 b.south,.int .i64 b.east,.int .i64 b.north] 88
  rw[show (w.alloc (.cells #[.int .i64 a.west,.int .i64 a.south,.int .i64 a.east,.int .i64 a.north] 88)).heap.size=w.heap.size+1 by simp] at h
  replace h:=bkA h (by first|(simp;done)|(simp;omega)) (.cells #[.int .i64 0,.int .i64 0,.int .i64 0,.int .i64 0] 88)
  replace h:=bkA h (by first|(simp;done)|(simp;omega)) (.cells #[.int .i64 (max a.west b.west),.int .i64 (max a.south b.south),.int .i64 (min a.east b.east),.int .i64 (min a.north b.north)] 88)
  exact h
 have k2:((((w.alloc (.cells #[.int .i64 a.west,.int .i64 a.south,.int .i64 a.east,.int .i64 a.north] 88)).alloc (.cells #[.int .i64 b.west,.int .i64 b.south,.int .i64 b.east,.int .i64 b.north] 88)).alloc (.cells #[.int .i64 0,.int .i64 0,.int .i64 0,.int .i64 0] 88)).alloc (.cells #[.int .i64 (max a.west b.west),.int .i64 (max a.south b.south),.int .i64 (min a.east b.east),.int .i64 (min a.north b.north)] 88)).heap[w.heap.size+2]? = some (.cells #[.int .i64 0,.int .i64 0,.int .i64 0,.int .i64 0] 88 (0,0)):=by
  have h:=bkN ((w.alloc (.cells #[.int .i64 a.west,.int .i64 a.south,.int .i64 a.east,.int .i64 a.north] 88)).alloc (.cells #[.int .i64 b.west,.int .i64 b.south,.int .i64 b.east,.int .i64 b.north] 88)) #[.int .i64 0,.int .i64 0,.int .i64 0,.int .i64 0] 88
  rw[show ((w.alloc (.cells #[.int .i64 a.west,.int .i64 a.south,.int .i64 a.east,.int .i64 a.north] 88)).alloc (.cells #[.int .i64 b.west,.int .i64 b.south,.int .i64 b.east,.int .i64 b.north] 88)).heap.size=w.heap.size+2 by simp] at h
  replace h:=bkA h (by first|(simp;done)|(simp;omega)) (.cells #[.int .i64 (max a.west b.west),.int .i64 (max a.south b.south),.int .i64 (min a.east b.east),.int .i64 (min a.north b.north)] 88)
  exact h
 have k3:((((w.alloc (.cells #[.int .i64 a.west,.int .i64 a.south,.int .i64 a.east,.int .i64 a.north] 88)).alloc (.cells #[.int .i64 b.west,.int .i64 b.south,.int .i64 b.east,.int .i64 b.north] 88)).alloc (.cells #[.int .i64 0,.int .i64 0,.int .i64 0,.int .i64 0] 88)).alloc (.cells #[.int .i64 (max a.west b.west),.int .i64 (max a.south b.south),.int .i64 (min a.east b.east),.int .i64 (min a.north b.north)] 88)).heap[w.heap.size+3]? = some (.cells #[.int .i64 (max a.west b.west),.int .i64 (max a.south b.south),.int .i64 (min a.east b.east),.int .i64 (min a.north b.north)] 88 (0,0)):=by
  have h:=bkN (((w.alloc (.cells #[.int .i64 a.west,.int .i64 a.south,.int .i64 a.east,.int .i64 a.north] 88)).alloc (.cells #[.int .i64 b.west,.int .i64 b.south,.int .i64 b.east,.int .i64 b.north] 88)).alloc (.cells #[.int .i64 0,.int .i64 0,.int .i64 0,.int .i64 0] 88)) #[.int .i64 (max a.west b.west),.int .i64 (max a.south b.south),.int .i64 (min a.east b.east),.int .i64 (min a.north b.north)] 88
  rw[show (((w.alloc (.cells #[.int .i64 a.west,.int .i64 a.south,.int .i64 a.east,.int .i64 a.north] 88)).alloc (.cells #[.int .i64 b.west,.int .i64 b.south,.int .i64 b.east,.int .i64 b.north] 88)).alloc (.cells #[.int .i64 0,.int .i64 0,.int .i64 0,.int .i64 0] 88)).heap.size=w.heap.size+3 by simp] at h
  exact h
 generalize hW0:((((w.alloc (.cells #[.int .i64 a.west,.int .i64 a.south,.int .i64 a.east,.int .i64 a.north] 88)).alloc (.cells #[.int .i64 b.west,.int .i64 b.south,.int .i64 b.east,.int .i64 b.north] 88)).alloc (.cells #[.int .i64 0,.int .i64 0,.int .i64 0,.int .i64 0] 88)).alloc (.cells #[.int .i64 (max a.west b.west),.int .i64 (max a.south b.south),.int .i64 (min a.east b.east),.int .i64 (min a.north b.north)] 88))=W0 at hb0 z0 k0 k1 k2 k3
 have HW0:=Lib.hid hW0
 clear hW0
 have B0:=Lib.hid hb0
 clear hb0
 have K0:=Lib.hid k0
 clear k0
 have K1:=Lib.hid k1
 clear k1
 have K2:=Lib.hid k2
 clear k2
 have K3:=Lib.hid k3
 clear k3
 have HD:Hid (∀ W:World,Below W0.heap.size W0 W→(W.cell? ⟨w.heap.size,0,none⟩=some (.int .i64 a.west)∧W.cell? ⟨w.heap.size,1,none⟩=some (.int .i64 a.south)∧W.cell? ⟨w.heap.size,2,none⟩=some (.int .i64 a.east)∧W.cell? ⟨w.heap.size,3,none⟩=some (.int .i64 a.north)∧W.cell? ⟨w.heap.size+1,0,none⟩=some (.int .i64 b.west)∧W.cell? ⟨w.heap.size+1,1,none⟩=some (.int .i64 b.south)∧W.cell? ⟨w.heap.size+1,2,none⟩=some (.int .i64 b.east)∧W.cell? ⟨w.heap.size+1,3,none⟩=some (.int .i64 b.north)∧W.cell? ⟨w.heap.size+3,0,none⟩=some (.int .i64 (max a.west b.west))∧W.cell? ⟨w.heap.size+3,1,none⟩=some (.int .i64 (max a.south b.south))∧W.cell? ⟨w.heap.size+3,2,none⟩=some (.int .i64 (min a.east b.east))∧W.cell? ⟨w.heap.size+3,3,none⟩=some (.int .i64 (min a.north b.north)))):=fun W hW=>⟨bkC (bkB K0.out hW (by omega)) 0 rfl,bkC (bkB K0.out hW (by omega)) 1 rfl,bkC (bkB K0.out hW (by omega)) 2 rfl,bkC (bkB K0.out hW (by omega)) 3 rfl,bkC (bkB K1.out hW (by omega)) 0 rfl,bkC (bkB K1.out hW (by omega)) 1 rfl,bkC (bkB K1.out hW (by omega)) 2 rfl,bkC (bkB K1.out hW (by omega)) 3 rfl,bkC (bkB K3.out hW (by omega)) 0 rfl,bkC (bkB K3.out hW (by omega)) 1 rfl,bkC (bkB K3.out hW (by omega)) 2 rfl,bkC (bkB K3.out hW (by omega)) 3 rfl⟩
 have HB:Hid (Below W0.heap.size W0 W0):=Below.refl _ _
 have C0:Hid (∀ W:World,Calls Tryz.prog 217 #[.agg #[.int .i64 a.west,.int .i64 a.south,.int .i64 a.east,.int .i64 a.north]] W fun e w'=>e=.returned (.bool (areaB a))∧Below W.heap.size W w'):=fun W=>validArea_any a W
 have C1:Hid (∀ W:World,Calls Tryz.prog 217 #[.agg #[.int .i64 b.west,.int .i64 b.south,.int .i64 b.east,.int .i64 b.north]] W fun e w'=>e=.returned (.bool (areaB b))∧Below W.heap.size W w'):=fun W=>validArea_any b W
 have C2:Hid (∀ W:World,Calls Tryz.prog 217 #[.agg #[.int .i64 (max a.west b.west),.int .i64 (max a.south b.south),.int .i64 (min a.east b.east),.int .i64 (min a.north b.north)]] W fun e w'=>e=.returned (.bool (areaB (meetA a b)))∧Below W.heap.size W w'):=fun W=>validArea_any (meetA a b) W
 by_cases h0:areaB a=true
 case neg =>
  replace h0:areaB a=false:=Bool.eq_false_iff.2 h0
  rw[h0] at C0
  have HE:Hid (meetB a b=false):=by show _=_;unfold meetB;simp only[h0]<;>rfl
  go_enter Tryz.func220,Tryz.ntmps220
  go_upto_region 2 with (fail)
  rw[HW0.out]
  have t0_0:=bkC (v:=.int .i64 a.west) K0.out 0 rfl
  have t0_1:=bkC (v:=.int .i64 a.south) K0.out 1 rfl
  have t0_2:=bkC (v:=.int .i64 a.east) K0.out 2 rfl
  have t0_3:=bkC (v:=.int .i64 a.north) K0.out 3 rfl
  have t1_0:=bkC (v:=.int .i64 b.west) K1.out 0 rfl
  have t1_1:=bkC (v:=.int .i64 b.south) K1.out 1 rfl
  have t1_2:=bkC (v:=.int .i64 b.east) K1.out 2 rfl
  have t1_3:=bkC (v:=.int .i64 b.north) K1.out 3 rfl
  have t3_0:=bkC (v:=.int .i64 (max a.west b.west)) K3.out 0 rfl
  have t3_1:=bkC (v:=.int .i64 (max a.south b.south)) K3.out 1 rfl
  have t3_2:=bkC (v:=.int .i64 (min a.east b.east)) K3.out 2 rfl
  have t3_3:=bkC (v:=.int .i64 (min a.north b.north)) K3.out 3 rfl
  go_upto_region 3 with (first|(go_at_call 217;with_reducible refine (C0.out _).mono ?_;rintro e w2 ⟨rfl,hb2⟩;(try clear t0_0 t0_1 t0_2 t0_3 t1_0 t1_1 t1_2 t1_3 t3_0 t3_1 t3_2 t3_3);replace HB:=Lib.hid (HB.out.trans (hb2.mono HB.out.size));clear hb2;obtain⟨t0_0,t0_1,t0_2,t0_3,t1_0,t1_1,t1_2,t1_3,t3_0,t3_1,t3_2,t3_3⟩:=HD.out _ HB.out)|(go_at_call 217;with_reducible refine (C1.out _).mono ?_;rintro e w2 ⟨rfl,hb2⟩;(try clear t0_0 t0_1 t0_2 t0_3 t1_0 t1_1 t1_2 t1_3 t3_0 t3_1 t3_2 t3_3);replace HB:=Lib.hid (HB.out.trans (hb2.mono HB.out.size));clear hb2;obtain⟨t0_0,t0_1,t0_2,t0_3,t1_0,t1_1,t1_2,t1_3,t3_0,t3_1,t3_2,t3_3⟩:=HD.out _ HB.out)|(go_at_call 217;with_reducible refine (C2.out _).mono ?_;rintro e w2 ⟨rfl,hb2⟩;(try clear t0_0 t0_1 t0_2 t0_3 t1_0 t1_1 t1_2 t1_3 t3_0 t3_1 t3_2 t3_3);replace HB:=Lib.hid (HB.out.trans (hb2.mono HB.out.size));clear hb2;obtain⟨t0_0,t0_1,t0_2,t0_3,t1_0,t1_1,t1_2,t1_3,t3_0,t3_1,t3_2,t3_3⟩:=HD.out _ HB.out))
  have K2b:=Lib.hid (bkB K2.out HB.out (by omega))
  have B2:=Lib.hid (B0.out.trans (HB.out.mono (by omega)))
  have g0_0:=bkC (v:=.int .i64 0) K2b.out 0 rfl
  have g0_1:=bkC (v:=.int .i64 0) K2b.out 1 rfl
  have g0_2:=bkC (v:=.int .i64 0) K2b.out 2 rfl
  have g0_3:=bkC (v:=.int .i64 0) K2b.out 3 rfl
  have gz:=bkF K2b.out
  go_wp2
  refine bodyPost_ret (v:=.tuple #[.agg #[.int .i64 0,.int .i64 0,.int .i64 0,.int .i64 0],.bool false]) (by simp[results,Tryz.results220,go_sem, *]) rfl ?_
  exact⟨⟨0,0,0,0⟩,by rw[HE.out],((((B2.out.setCell (p:=⟨w.heap.size+1+1,0,none⟩) (by show w.heap.size≤w.heap.size+1+1;omega) (.int .i64 0)).setCell (p:=⟨w.heap.size+1+1,1,none⟩) (by show w.heap.size≤w.heap.size+1+1;omega) (.int .i64 0)).setCell (p:=⟨w.heap.size+1+1,2,none⟩) (by show w.heap.size≤w.heap.size+1+1;omega) (.int .i64 0)).setCell (p:=⟨w.heap.size+1+1,3,none⟩) (by show w.heap.size≤w.heap.size+1+1;omega) (.int .i64 0))⟩
 rw[h0] at C0
 by_cases h1:areaB b=true
 case neg =>
  replace h1:areaB b=false:=Bool.eq_false_iff.2 h1
  rw[h1] at C1
  have HE:Hid (meetB a b=false):=by show _=_;unfold meetB;simp only[h0,h1]<;>rfl
  go_enter Tryz.func220,Tryz.ntmps220
  go_upto_region 2 with (fail)
  rw[HW0.out]
  have t0_0:=bkC (v:=.int .i64 a.west) K0.out 0 rfl
  have t0_1:=bkC (v:=.int .i64 a.south) K0.out 1 rfl
  have t0_2:=bkC (v:=.int .i64 a.east) K0.out 2 rfl
  have t0_3:=bkC (v:=.int .i64 a.north) K0.out 3 rfl
  have t1_0:=bkC (v:=.int .i64 b.west) K1.out 0 rfl
  have t1_1:=bkC (v:=.int .i64 b.south) K1.out 1 rfl
  have t1_2:=bkC (v:=.int .i64 b.east) K1.out 2 rfl
  have t1_3:=bkC (v:=.int .i64 b.north) K1.out 3 rfl
  have t3_0:=bkC (v:=.int .i64 (max a.west b.west)) K3.out 0 rfl
  have t3_1:=bkC (v:=.int .i64 (max a.south b.south)) K3.out 1 rfl
  have t3_2:=bkC (v:=.int .i64 (min a.east b.east)) K3.out 2 rfl
  have t3_3:=bkC (v:=.int .i64 (min a.north b.north)) K3.out 3 rfl
  go_upto_region 3 with (first|(go_at_call 217;with_reducible refine (C0.out _).mono ?_;rintro e w2 ⟨rfl,hb2⟩;(try clear t0_0 t0_1 t0_2 t0_3 t1_0 t1_1 t1_2 t1_3 t3_0 t3_1 t3_2 t3_3);replace HB:=Lib.hid (HB.out.trans (hb2.mono HB.out.size));clear hb2;obtain⟨t0_0,t0_1,t0_2,t0_3,t1_0,t1_1,t1_2,t1_3,t3_0,t3_1,t3_2,t3_3⟩:=HD.out _ HB.out)|(go_at_call 217;with_reducible refine (C1.out _).mono ?_;rintro e w2 ⟨rfl,hb2⟩;(try clear t0_0 t0_1 t0_2 t0_3 t1_0 t1_1 t1_2 t1_3 t3_0 t3_1 t3_2 t3_3);replace HB:=Lib.hid (HB.out.trans (hb2.mono HB.out.size));clear hb2;obtain⟨t0_0,t0_1,t0_2,t0_3,t1_0,t1_1,t1_2,t1_3,t3_0,t3_1,t3_2,t3_3⟩:=HD.out _ HB.out)|(go_at_call 217;with_reducible refine (C2.out _).mono ?_;rintro e w2 ⟨rfl,hb2⟩;(try clear t0_0 t0_1 t0_2 t0_3 t1_0 t1_1 t1_2 t1_3 t3_0 t3_1 t3_2 t3_3);replace HB:=Lib.hid (HB.out.trans (hb2.mono HB.out.size));clear hb2;obtain⟨t0_0,t0_1,t0_2,t0_3,t1_0,t1_1,t1_2,t1_3,t3_0,t3_1,t3_2,t3_3⟩:=HD.out _ HB.out))
  have K2b:=Lib.hid (bkB K2.out HB.out (by omega))
  have B2:=Lib.hid (B0.out.trans (HB.out.mono (by omega)))
  have g0_0:=bkC (v:=.int .i64 0) K2b.out 0 rfl
  have g0_1:=bkC (v:=.int .i64 0) K2b.out 1 rfl
  have g0_2:=bkC (v:=.int .i64 0) K2b.out 2 rfl
  have g0_3:=bkC (v:=.int .i64 0) K2b.out 3 rfl
  have gz:=bkF K2b.out
  go_wp2
  refine bodyPost_ret (v:=.tuple #[.agg #[.int .i64 0,.int .i64 0,.int .i64 0,.int .i64 0],.bool false]) (by simp[results,Tryz.results220,go_sem, *]) rfl ?_
  exact⟨⟨0,0,0,0⟩,by rw[HE.out],((((B2.out.setCell (p:=⟨w.heap.size+1+1,0,none⟩) (by show w.heap.size≤w.heap.size+1+1;omega) (.int .i64 0)).setCell (p:=⟨w.heap.size+1+1,1,none⟩) (by show w.heap.size≤w.heap.size+1+1;omega) (.int .i64 0)).setCell (p:=⟨w.heap.size+1+1,2,none⟩) (by show w.heap.size≤w.heap.size+1+1;omega) (.int .i64 0)).setCell (p:=⟨w.heap.size+1+1,3,none⟩) (by show w.heap.size≤w.heap.size+1+1;omega) (.int .i64 0))⟩
 rw[h1] at C1
 by_cases h2:areaB (meetA a b)=true
 case neg =>
  replace h2:areaB (meetA a b)=false:=Bool.eq_false_iff.2 h2
  rw[h2] at C2
  have HE:Hid (meetB a b=false):=by show _=_;unfold meetB;simp only[h0,h1,h2]<;>rfl
  go_enter Tryz.func220,Tryz.ntmps220
  go_upto_region 2 with (fail)
  rw[HW0.out]
  have t0_0:=bkC (v:=.int .i64 a.west) K0.out 0 rfl
  have t0_1:=bkC (v:=.int .i64 a.south) K0.out 1 rfl
  have t0_2:=bkC (v:=.int .i64 a.east) K0.out 2 rfl
  have t0_3:=bkC (v:=.int .i64 a.north) K0.out 3 rfl
  have t1_0:=bkC (v:=.int .i64 b.west) K1.out 0 rfl
  have t1_1:=bkC (v:=.int .i64 b.south) K1.out 1 rfl
  have t1_2:=bkC (v:=.int .i64 b.east) K1.out 2 rfl
  have t1_3:=bkC (v:=.int .i64 b.north) K1.out 3 rfl
  have t3_0:=bkC (v:=.int .i64 (max a.west b.west)) K3.out 0 rfl
  have t3_1:=bkC (v:=.int .i64 (max a.south b.south)) K3.out 1 rfl
  have t3_2:=bkC (v:=.int .i64 (min a.east b.east)) K3.out 2 rfl
  have t3_3:=bkC (v:=.int .i64 (min a.north b.north)) K3.out 3 rfl
  go_upto_region 3 with (first|(go_at_call 217;with_reducible refine (C0.out _).mono ?_;rintro e w2 ⟨rfl,hb2⟩;(try clear t0_0 t0_1 t0_2 t0_3 t1_0 t1_1 t1_2 t1_3 t3_0 t3_1 t3_2 t3_3);replace HB:=Lib.hid (HB.out.trans (hb2.mono HB.out.size));clear hb2;obtain⟨t0_0,t0_1,t0_2,t0_3,t1_0,t1_1,t1_2,t1_3,t3_0,t3_1,t3_2,t3_3⟩:=HD.out _ HB.out)|(go_at_call 217;with_reducible refine (C1.out _).mono ?_;rintro e w2 ⟨rfl,hb2⟩;(try clear t0_0 t0_1 t0_2 t0_3 t1_0 t1_1 t1_2 t1_3 t3_0 t3_1 t3_2 t3_3);replace HB:=Lib.hid (HB.out.trans (hb2.mono HB.out.size));clear hb2;obtain⟨t0_0,t0_1,t0_2,t0_3,t1_0,t1_1,t1_2,t1_3,t3_0,t3_1,t3_2,t3_3⟩:=HD.out _ HB.out)|(go_at_call 217;with_reducible refine (C2.out _).mono ?_;rintro e w2 ⟨rfl,hb2⟩;(try clear t0_0 t0_1 t0_2 t0_3 t1_0 t1_1 t1_2 t1_3 t3_0 t3_1 t3_2 t3_3);replace HB:=Lib.hid (HB.out.trans (hb2.mono HB.out.size));clear hb2;obtain⟨t0_0,t0_1,t0_2,t0_3,t1_0,t1_1,t1_2,t1_3,t3_0,t3_1,t3_2,t3_3⟩:=HD.out _ HB.out))
  have K2b:=Lib.hid (bkB K2.out HB.out (by omega))
  have B2:=Lib.hid (B0.out.trans (HB.out.mono (by omega)))
  have g0_0:=bkC (v:=.int .i64 0) K2b.out 0 rfl
  have g0_1:=bkC (v:=.int .i64 0) K2b.out 1 rfl
  have g0_2:=bkC (v:=.int .i64 0) K2b.out 2 rfl
  have g0_3:=bkC (v:=.int .i64 0) K2b.out 3 rfl
  have gz:=bkF K2b.out
  go_wp2
  refine bodyPost_ret (v:=.tuple #[.agg #[.int .i64 0,.int .i64 0,.int .i64 0,.int .i64 0],.bool false]) (by simp[results,Tryz.results220,go_sem, *]) rfl ?_
  exact⟨⟨0,0,0,0⟩,by rw[HE.out],((((B2.out.setCell (p:=⟨w.heap.size+1+1,0,none⟩) (by show w.heap.size≤w.heap.size+1+1;omega) (.int .i64 0)).setCell (p:=⟨w.heap.size+1+1,1,none⟩) (by show w.heap.size≤w.heap.size+1+1;omega) (.int .i64 0)).setCell (p:=⟨w.heap.size+1+1,2,none⟩) (by show w.heap.size≤w.heap.size+1+1;omega) (.int .i64 0)).setCell (p:=⟨w.heap.size+1+1,3,none⟩) (by show w.heap.size≤w.heap.size+1+1;omega) (.int .i64 0))⟩
 rw[h2] at C2
 have HE:Hid (meetB a b=true):=by show _=_;unfold meetB;simp only[h0,h1,h2]<;>rfl
 go_enter Tryz.func220,Tryz.ntmps220
 go_upto_region 2 with (fail)
 rw[HW0.out]
 have t0_0:=bkC (v:=.int .i64 a.west) K0.out 0 rfl
 have t0_1:=bkC (v:=.int .i64 a.south) K0.out 1 rfl
 have t0_2:=bkC (v:=.int .i64 a.east) K0.out 2 rfl
 have t0_3:=bkC (v:=.int .i64 a.north) K0.out 3 rfl
 have t1_0:=bkC (v:=.int .i64 b.west) K1.out 0 rfl
 have t1_1:=bkC (v:=.int .i64 b.south) K1.out 1 rfl
 have t1_2:=bkC (v:=.int .i64 b.east) K1.out 2 rfl
 have t1_3:=bkC (v:=.int .i64 b.north) K1.out 3 rfl
 have t3_0:=bkC (v:=.int .i64 (max a.west b.west)) K3.out 0 rfl
 have t3_1:=bkC (v:=.int .i64 (max a.south b.south)) K3.out 1 rfl
 have t3_2:=bkC (v:=.int .i64 (min a.east b.east)) K3.out 2 rfl
 have t3_3:=bkC (v:=.int .i64 (min a.north b.north)) K3.out 3 rfl
 go_upto_region 4 with (first|(go_at_call 217;with_reducible refine (C0.out _).mono ?_;rintro e w2 ⟨rfl,hb2⟩;(try clear t0_0 t0_1 t0_2 t0_3 t1_0 t1_1 t1_2 t1_3 t3_0 t3_1 t3_2 t3_3);replace HB:=Lib.hid (HB.out.trans (hb2.mono HB.out.size));clear hb2;obtain⟨t0_0,t0_1,t0_2,t0_3,t1_0,t1_1,t1_2,t1_3,t3_0,t3_1,t3_2,t3_3⟩:=HD.out _ HB.out)|(go_at_call 217;with_reducible refine (C1.out _).mono ?_;rintro e w2 ⟨rfl,hb2⟩;(try clear t0_0 t0_1 t0_2 t0_3 t1_0 t1_1 t1_2 t1_3 t3_0 t3_1 t3_2 t3_3);replace HB:=Lib.hid (HB.out.trans (hb2.mono HB.out.size));clear hb2;obtain⟨t0_0,t0_1,t0_2,t0_3,t1_0,t1_1,t1_2,t1_3,t3_0,t3_1,t3_2,t3_3⟩:=HD.out _ HB.out)|(go_at_call 217;with_reducible refine (C2.out _).mono ?_;rintro e w2 ⟨rfl,hb2⟩;(try clear t0_0 t0_1 t0_2 t0_3 t1_0 t1_1 t1_2 t1_3 t3_0 t3_1 t3_2 t3_3);replace HB:=Lib.hid (HB.out.trans (hb2.mono HB.out.size));clear hb2;obtain⟨t0_0,t0_1,t0_2,t0_3,t1_0,t1_1,t1_2,t1_3,t3_0,t3_1,t3_2,t3_3⟩:=HD.out _ HB.out))
 have K2b:=Lib.hid (bkB K2.out HB.out (by omega))
 have B2:=Lib.hid (B0.out.trans (HB.out.mono (by omega)))
 have g0_0:=bkC (v:=.int .i64 0) K2b.out 0 rfl
 have g0_1:=bkC (v:=.int .i64 0) K2b.out 1 rfl
 have g0_2:=bkC (v:=.int .i64 0) K2b.out 2 rfl
 have g0_3:=bkC (v:=.int .i64 0) K2b.out 3 rfl
 have gz:=bkF K2b.out
 go_wp2
 refine bodyPost_ret (v:=.tuple #[.agg #[.int .i64 (max a.west b.west),.int .i64 (max a.south b.south),.int .i64 (min a.east b.east),.int .i64 (min a.north b.north)],.bool true]) (by simp[results,Tryz.results220,go_sem, *]) rfl ?_
 exact⟨meetA a b,by rw[HE.out];rfl,((((B2.out.setCell (p:=⟨w.heap.size+1+1,0,none⟩) (by show w.heap.size≤w.heap.size+1+1;omega) (.int .i64 (max a.west b.west))).setCell (p:=⟨w.heap.size+1+1,1,none⟩) (by show w.heap.size≤w.heap.size+1+1;omega) (.int .i64 (max a.south b.south))).setCell (p:=⟨w.heap.size+1+1,2,none⟩) (by show w.heap.size≤w.heap.size+1+1;omega) (.int .i64 (min a.east b.east))).setCell (p:=⟨w.heap.size+1+1,3,none⟩) (by show w.heap.size≤w.heap.size+1+1;omega) (.int .i64 (min a.north b.north)))⟩
theorem clashOf_any (a b:DLicence) (ka0:a.id.size≤maxLen) (ka1:a.holder.size≤maxLen) (kb0:b.id.size≤maxLen) (kb1:b.holder.size≤maxLen) (w:World) :
  Calls Tryz.prog 173 #[.agg #[.string a.id,.string a.holder,.int .i64 a.low,.int .i64 a.high,.int .i64 a.area.west,.int .i64 a.area.south,.int .i64 a.area.east,.int .i64 a.area.north,.int .i64 a.from_,.int .i64 a.until_,.int .i64 a.power],.agg #[.string b.id,.string b.holder,.int .i64 b.low,.int .i64 b.high,.int .i64 b.area.west,.int .i64 b.area.south,.int .i64 b.area.east,.int .i64 b.area.north,.int .i64 b.from_,.int .i64 b.until_,.int .i64 b.power]] w fun e w'=>e=.returned (.bool (clashF a b))∧Below w.heap.size w w':=by
 have hb0:Below w.heap.size w ((w.alloc (.cells #[.string a.id,.string a.holder,.int .i64 a.low,.int .i64 a.high,.int .i64 a.area.west,.int .i64 a.area.south,.int .i64 a.area.east,.int .i64 a.area.north,.int .i64 a.from_,.int .i64 a.until_,.int .i64 a.power] 90)).alloc (.cells #[.string b.id,.string b.holder,.int .i64 b.low,.int .i64 b.high,.int .i64 b.area.west,.int .i64 b.area.south,.int .i64 b.area.east,.int .i64 b.area.north,.int .i64 b.from_,.int .i64 b.until_,.int .i64 b.power] 90)):=Below.alloc (Below.alloc (Below.refl _ _) (by first|exact Nat.le_refl _|(simp;done)|(simp;omega)) _) (by first|exact Nat.le_refl _|(simp;done)|(simp;omega)) _
 have z0:w.heap.size+2≤((w.alloc (.cells #[.string a.id,.string a.holder,.int .i64 a.low,.int .i64 a.high,.int .i64 a.area.west,.int .i64 a.area.south,.int .i64 a.area.east,.int .i64 a.area.north,.int .i64 a.from_,.int .i64 a.until_,.int .i64 a.power] 90)).alloc (.cells #[.string b.id,.string b.holder,.int .i64 b.low,.int .i64 b.high,.int .i64 b.area.west,.int .i64 b.area.south,.int .i64 b.area.east,.int .i64 b.area.north,.int .i64 b.from_,.int .i64 b.until_,.int .i64 b.power] 90)).heap.size:=by simp
 have k0:((w.alloc (.cells #[.string a.id,.string a.holder,.int .i64 a.low,.int .i64 a.high,.int .i64 a.area.west,.int .i64 a.area.south,.int .i64 a.area.east,.int .i64 a.area.north,.int .i64 a.from_,.int .i64 a.until_,.int .i64 a.power] 90)).alloc (.cells #[.string b.id,.string b.holder,.int .i64 b.low,.int .i64 b.high,.int .i64 b.area.west,.int .i64 b.area.south,.int .i64 b.area.east,.int .i64 b.area.north,.int .i64 b.from_,.int .i64 b.until_,.int .i64 b.power] 90)).heap[w.heap.size]? = some (.cells #[.string a.id,.string a.holder,.int .i64 a.low,.int .i64 a.high,.int .i64 a.area.west,.int .i64 a.area.south,.int .i64 a.area.east,.int .i64 a.area.north,.int .i64 a.from_,.int .i64 a.until_,.int .i64 a.power] 90 (0,0)):=by
  have h:=bkN w #[.string a.id,.string a.holder,.int .i64 a.low,.int .i64 a.high,.int .i64 a.area.west,.int .i64 a.area.south,.int .i64 a.area.east,.int .i64 a.area.north,.int .i64 a.from_,.int .i64 a.until_,.int .i64 a.power] 90
  replace h:=bkA h (by first|(simp;done)|(simp;omega)) (.cells #[.string b.id,.string b.holder,.int .i64 b.low,.int .i64 b.high,.int .i64 b.area.west,.int .i64 b.area.south,.int .i64 b.area.east,.int .i64 b.area.north,.int .i64 b.from_,.int .i64 b.until_,.int .i64 b.power] 90)
  exact h
 have k1:((w.alloc (.cells #[.string a.id,.string a.holder,.int .i64 a.low,.int .i64 a.high,.int .i64 a.area.west,.int .i64 a.area.south,.int .i64 a.area.east,.int .i64 a.area.north,.int .i64 a.from_,.int .i64 a.until_,.int .i64 a.power] 90)).alloc (.cells #[.string b.id,.string b.holder,.int .i64 b.low,.int .i64 b.high,.int .i64 b.area.west,.int .i64 b.area.south,.int .i64 b.area.east,.int .i64 b.area.north,.int .i64 b.from_,.int .i64 b.until_,.int .i64 b.power] 90)).heap[w.heap.size+1]? = some (.cells #[.string b.id,.string b.holder,.int .i64 b.low,.int .i64 b.high,.int .i64 b.area.west,.int .i64 b.area.south,.int .i64 b.area.east,.int .i64 b.area.north,.int .i64 b.from_,.int .i64 b.until_,.int .i64 b.power] 90 (0,0)):=by
  have h:=bkN (w.alloc (.cells #[.string a.id,.string a.holder,.int .i64 a.low,.int .i64 a.high,.int .i64 a.area.west,.int .i64 a.area.south,.int .i64 a.area.east,.int .i64 a.area.north,.int .i64 a.from_,.int .i64 a.until_,.int .i64 a.power] 90)) #[.string b.id,.string b.holder,.int .i64 b.low,.int .i64 b.high,.int .i64 b.area.west,.int .i64 b.area.south,.int .i64 b.area.east,.int .i64 b.area.north,.int .i64 b.from_,.int .i64 b.until_,.int .i64 b.power] 90
  rw[show (w.alloc (.cells #[.string a.id,.string a.holder,.int .i64 a.low,.int .i64 a.high,.int .i64 a.area.west,.int .i64 a.area.south,.int .i64 a.area.east,.int .i64 a.area.north,.int .i64 a.from_,.int .i64 a.until_,.int .i64 a.power] 90)).heap.size=w.heap.size+1 by simp] at h
  exact h
 generalize hW0:((w.alloc (.cells #[.string a.id,.string a.holder,.int .i64 a.low,.int .i64 a.high,.int .i64 a.area.west,.int .i64 a.area.south,.int .i64 a.area.east,.int .i64 a.area.north,.int .i64 a.from_,.int .i64 a.until_,.int .i64 a.power] 90)).alloc (.cells #[.string b.id,.string b.holder,.int .i64 b.low,.int .i64 b.high,.int .i64 b.area.west,.int .i64 b.area.south,.int .i64 b.area.east,.int .i64 b.area.north,.int .i64 b.from_,.int .i64 b.until_,.int .i64 b.power] 90))=W0 at hb0 z0 k0 k1
 have HW0:=Lib.hid hW0
 clear hW0
 have B0:=Lib.hid hb0
 clear hb0
 have K0:=Lib.hid k0
 clear k0
 have K1:=Lib.hid k1
 clear k1
 have HD:Hid (∀ W:World,Below W0.heap.size W0 W→(W.cell? ⟨w.heap.size,0,none⟩=some (.string a.id)∧W.cell? ⟨w.heap.size,1,none⟩=some (.string a.holder)∧W.cell? ⟨w.heap.size,2,none⟩=some (.int .i64 a.low)∧W.cell? ⟨w.heap.size,3,none⟩=some (.int .i64 a.high)∧W.cell? ⟨w.heap.size,4,none⟩=some (.int .i64 a.area.west)∧W.cell? ⟨w.heap.size,5,none⟩=some (.int .i64 a.area.south)∧W.cell? ⟨w.heap.size,6,none⟩=some (.int .i64 a.area.east)∧W.cell? ⟨w.heap.size,7,none⟩=some (.int .i64 a.area.north)∧W.cell? ⟨w.heap.size,8,none⟩=some (.int .i64 a.from_)∧W.cell? ⟨w.heap.size,9,none⟩=some (.int .i64 a.until_)∧W.cell? ⟨w.heap.size,10,none⟩=some (.int .i64 a.power)∧W.cell? ⟨w.heap.size+1,0,none⟩=some (.string b.id)∧W.cell? ⟨w.heap.size+1,1,none⟩=some (.string b.holder)∧W.cell? ⟨w.heap.size+1,2,none⟩=some (.int .i64 b.low)∧W.cell? ⟨w.heap.size+1,3,none⟩=some (.int .i64 b.high)∧W.cell? ⟨w.heap.size+1,4,none⟩=some (.int .i64 b.area.west)∧W.cell? ⟨w.heap.size+1,5,none⟩=some (.int .i64 b.area.south)∧W.cell? ⟨w.heap.size+1,6,none⟩=some (.int .i64 b.area.east)∧W.cell? ⟨w.heap.size+1,7,none⟩=some (.int .i64 b.area.north)∧W.cell? ⟨w.heap.size+1,8,none⟩=some (.int .i64 b.from_)∧W.cell? ⟨w.heap.size+1,9,none⟩=some (.int .i64 b.until_)∧W.cell? ⟨w.heap.size+1,10,none⟩=some (.int .i64 b.power))):=fun W hW=>⟨bkC (bkB K0.out hW (by omega)) 0 rfl,bkC (bkB K0.out hW (by omega)) 1 rfl,bkC (bkB K0.out hW (by omega)) 2 rfl,bkC (bkB K0.out hW (by omega)) 3 rfl,bkC (bkB K0.out hW (by omega)) 4 rfl,bkC (bkB K0.out hW (by omega)) 5 rfl,bkC (bkB K0.out hW (by omega)) 6 rfl,bkC (bkB K0.out hW (by omega)) 7 rfl,bkC (bkB K0.out hW (by omega)) 8 rfl,bkC (bkB K0.out hW (by omega)) 9 rfl,bkC (bkB K0.out hW (by omega)) 10 rfl,bkC (bkB K1.out hW (by omega)) 0 rfl,bkC (bkB K1.out hW (by omega)) 1 rfl,bkC (bkB K1.out hW (by omega)) 2 rfl,bkC (bkB K1.out hW (by omega)) 3 rfl,bkC (bkB K1.out hW (by omega)) 4 rfl,bkC (bkB K1.out hW (by omega)) 5 rfl,bkC (bkB K1.out hW (by omega)) 6 rfl,bkC (bkB K1.out hW (by omega)) 7 rfl,bkC (bkB K1.out hW (by omega)) 8 rfl,bkC (bkB K1.out hW (by omega)) 9 rfl,bkC (bkB K1.out hW (by omega)) 10 rfl⟩
 have HB:Hid (Below W0.heap.size W0 W0):=Below.refl _ _
 have CM:Hid (∀ W:World,Calls Tryz.prog 220 #[.agg #[.int .i64 a.area.west,.int .i64 a.area.south,.int .i64 a.area.east,.int .i64 a.area.north],.agg #[.int .i64 b.area.west,.int .i64 b.area.south,.int .i64 b.area.east,.int .i64 b.area.north]] W fun e w'=>∃ c:DArea,e=.returned (.tuple #[.agg #[.int .i64 c.west,.int .i64 c.south,.int .i64 c.east,.int .i64 c.north],.bool (meetB a.area b.area)])∧Below W.heap.size W w'):=fun W=>meetAreas_any a.area b.area W
 have C0:Hid (∀ W:World,Calls Tryz.prog 170 #[.agg #[.string a.id,.string a.holder,.int .i64 a.low,.int .i64 a.high,.int .i64 a.area.west,.int .i64 a.area.south,.int .i64 a.area.east,.int .i64 a.area.north,.int .i64 a.from_,.int .i64 a.until_,.int .i64 a.power]] W fun e w'=>e=.returned (.bool (licB a))∧Below W.heap.size W w'):=fun W=>validLicence_any a ka0 ka1 W
 have C1:Hid (∀ W:World,Calls Tryz.prog 170 #[.agg #[.string b.id,.string b.holder,.int .i64 b.low,.int .i64 b.high,.int .i64 b.area.west,.int .i64 b.area.south,.int .i64 b.area.east,.int .i64 b.area.north,.int .i64 b.from_,.int .i64 b.until_,.int .i64 b.power]] W fun e w'=>e=.returned (.bool (licB b))∧Below W.heap.size W w'):=fun W=>validLicence_any b kb0 kb1 W
 by_cases h0:licB a=true
 case neg =>
  replace h0:licB a=false:=Bool.eq_false_iff.2 h0
  rw[h0] at C0
  have HE:Hid (clashF a b=false):=by show _=_;unfold clashF;simp only[h0]<;>rfl
  go_enter Tryz.func173,Tryz.ntmps173
  go_upto_region 1 with (fail)
  rw[HW0.out]
  have t0_0:=bkC (v:=.string a.id) K0.out 0 rfl
  have t0_1:=bkC (v:=.string a.holder) K0.out 1 rfl
  have t0_2:=bkC (v:=.int .i64 a.low) K0.out 2 rfl
  have t0_3:=bkC (v:=.int .i64 a.high) K0.out 3 rfl
  have t0_4:=bkC (v:=.int .i64 a.area.west) K0.out 4 rfl
  have t0_5:=bkC (v:=.int .i64 a.area.south) K0.out 5 rfl
  have t0_6:=bkC (v:=.int .i64 a.area.east) K0.out 6 rfl
  have t0_7:=bkC (v:=.int .i64 a.area.north) K0.out 7 rfl
  have t0_8:=bkC (v:=.int .i64 a.from_) K0.out 8 rfl
  have t0_9:=bkC (v:=.int .i64 a.until_) K0.out 9 rfl
  have t0_10:=bkC (v:=.int .i64 a.power) K0.out 10 rfl
  have t1_0:=bkC (v:=.string b.id) K1.out 0 rfl
  have t1_1:=bkC (v:=.string b.holder) K1.out 1 rfl
  have t1_2:=bkC (v:=.int .i64 b.low) K1.out 2 rfl
  have t1_3:=bkC (v:=.int .i64 b.high) K1.out 3 rfl
  have t1_4:=bkC (v:=.int .i64 b.area.west) K1.out 4 rfl
  have t1_5:=bkC (v:=.int .i64 b.area.south) K1.out 5 rfl
  have t1_6:=bkC (v:=.int .i64 b.area.east) K1.out 6 rfl
  have t1_7:=bkC (v:=.int .i64 b.area.north) K1.out 7 rfl
  have t1_8:=bkC (v:=.int .i64 b.from_) K1.out 8 rfl
  have t1_9:=bkC (v:=.int .i64 b.until_) K1.out 9 rfl
  have t1_10:=bkC (v:=.int .i64 b.power) K1.out 10 rfl
  go_upto_region 2 with (go_at_call 220;with_reducible refine (CM.out _).mono ?_;rintro e w2 ⟨c,rfl,hb2⟩;(try clear t0_0 t0_1 t0_2 t0_3 t0_4 t0_5 t0_6 t0_7 t0_8 t0_9 t0_10 t1_0 t1_1 t1_2 t1_3 t1_4 t1_5 t1_6 t1_7 t1_8 t1_9 t1_10);replace HB:=Lib.hid (HB.out.trans (hb2.mono HB.out.size));clear hb2;obtain⟨t0_0,t0_1,t0_2,t0_3,t0_4,t0_5,t0_6,t0_7,t0_8,t0_9,t0_10,t1_0,t1_1,t1_2,t1_3,t1_4,t1_5,t1_6,t1_7,t1_8,t1_9,t1_10⟩:=HD.out _ HB.out)
  have HX:Hid (Below W0.heap.size W0 (w2.alloc (.cells #[.int .i64 c.west,.int .i64 c.south,.int .i64 c.east,.int .i64 c.north] 88))):=HB.out.alloc HB.out.size _
  generalize (w2.alloc (.cells #[.int .i64 c.west,.int .i64 c.south,.int .i64 c.east,.int .i64 c.north] 88))=w3 at *
  clear t0_0 t0_1 t0_2 t0_3 t0_4 t0_5 t0_6 t0_7 t0_8 t0_9 t0_10 t1_0 t1_1 t1_2 t1_3 t1_4 t1_5 t1_6 t1_7 t1_8 t1_9 t1_10
  replace HB:=Lib.hid HX.out
  clear HX
  obtain⟨t0_0,t0_1,t0_2,t0_3,t0_4,t0_5,t0_6,t0_7,t0_8,t0_9,t0_10,t1_0,t1_1,t1_2,t1_3,t1_4,t1_5,t1_6,t1_7,t1_8,t1_9,t1_10⟩:=HD.out _ HB.out
  go_wp2_with (first|(go_at_call 170;with_reducible refine (C0.out _).mono ?_;rintro e w2 ⟨rfl,hb2⟩;(try clear t0_0 t0_1 t0_2 t0_3 t0_4 t0_5 t0_6 t0_7 t0_8 t0_9 t0_10 t1_0 t1_1 t1_2 t1_3 t1_4 t1_5 t1_6 t1_7 t1_8 t1_9 t1_10);replace HB:=Lib.hid (HB.out.trans (hb2.mono HB.out.size));clear hb2;obtain⟨t0_0,t0_1,t0_2,t0_3,t0_4,t0_5,t0_6,t0_7,t0_8,t0_9,t0_10,t1_0,t1_1,t1_2,t1_3,t1_4,t1_5,t1_6,t1_7,t1_8,t1_9,t1_10⟩:=HD.out _ HB.out)|(go_at_call 170;with_reducible refine (C1.out _).mono ?_;rintro e w2 ⟨rfl,hb2⟩;(try clear t0_0 t0_1 t0_2 t0_3 t0_4 t0_5 t0_6 t0_7 t0_8 t0_9 t0_10 t1_0 t1_1 t1_2 t1_3 t1_4 t1_5 t1_6 t1_7 t1_8 t1_9 t1_10);replace HB:=Lib.hid (HB.out.trans (hb2.mono HB.out.size));clear hb2;obtain⟨t0_0,t0_1,t0_2,t0_3,t0_4,t0_5,t0_6,t0_7,t0_8,t0_9,t0_10,t1_0,t1_1,t1_2,t1_3,t1_4,t1_5,t1_6,t1_7,t1_8,t1_9,t1_10⟩:=HD.out _ HB.out))
  go_ret
  exact⟨by rw[HE.out];rfl,B0.out.trans (HB.out.mono (by omega))⟩
 rw[h0] at C0
 by_cases h1:licB b=true
 case neg =>
  replace h1:licB b=false:=Bool.eq_false_iff.2 h1
  rw[h1] at C1
  have HE:Hid (clashF a b=false):=by show _=_;unfold clashF;simp only[h0,h1]<;>rfl
  go_enter Tryz.func173,Tryz.ntmps173
  go_upto_region 1 with (fail)
  rw[HW0.out]
  have t0_0:=bkC (v:=.string a.id) K0.out 0 rfl
  have t0_1:=bkC (v:=.string a.holder) K0.out 1 rfl
  have t0_2:=bkC (v:=.int .i64 a.low) K0.out 2 rfl
  have t0_3:=bkC (v:=.int .i64 a.high) K0.out 3 rfl
  have t0_4:=bkC (v:=.int .i64 a.area.west) K0.out 4 rfl
  have t0_5:=bkC (v:=.int .i64 a.area.south) K0.out 5 rfl
  have t0_6:=bkC (v:=.int .i64 a.area.east) K0.out 6 rfl
  have t0_7:=bkC (v:=.int .i64 a.area.north) K0.out 7 rfl
  have t0_8:=bkC (v:=.int .i64 a.from_) K0.out 8 rfl
  have t0_9:=bkC (v:=.int .i64 a.until_) K0.out 9 rfl
  have t0_10:=bkC (v:=.int .i64 a.power) K0.out 10 rfl
  have t1_0:=bkC (v:=.string b.id) K1.out 0 rfl
  have t1_1:=bkC (v:=.string b.holder) K1.out 1 rfl
  have t1_2:=bkC (v:=.int .i64 b.low) K1.out 2 rfl
  have t1_3:=bkC (v:=.int .i64 b.high) K1.out 3 rfl
  have t1_4:=bkC (v:=.int .i64 b.area.west) K1.out 4 rfl
  have t1_5:=bkC (v:=.int .i64 b.area.south) K1.out 5 rfl
  have t1_6:=bkC (v:=.int .i64 b.area.east) K1.out 6 rfl
  have t1_7:=bkC (v:=.int .i64 b.area.north) K1.out 7 rfl
  have t1_8:=bkC (v:=.int .i64 b.from_) K1.out 8 rfl
  have t1_9:=bkC (v:=.int .i64 b.until_) K1.out 9 rfl
  have t1_10:=bkC (v:=.int .i64 b.power) K1.out 10 rfl
  go_upto_region 2 with (go_at_call 220;with_reducible refine (CM.out _).mono ?_;rintro e w2 ⟨c,rfl,hb2⟩;(try clear t0_0 t0_1 t0_2 t0_3 t0_4 t0_5 t0_6 t0_7 t0_8 t0_9 t0_10 t1_0 t1_1 t1_2 t1_3 t1_4 t1_5 t1_6 t1_7 t1_8 t1_9 t1_10);replace HB:=Lib.hid (HB.out.trans (hb2.mono HB.out.size));clear hb2;obtain⟨t0_0,t0_1,t0_2,t0_3,t0_4,t0_5,t0_6,t0_7,t0_8,t0_9,t0_10,t1_0,t1_1,t1_2,t1_3,t1_4,t1_5,t1_6,t1_7,t1_8,t1_9,t1_10⟩:=HD.out _ HB.out)
  have HX:Hid (Below W0.heap.size W0 (w2.alloc (.cells #[.int .i64 c.west,.int .i64 c.south,.int .i64 c.east,.int .i64 c.north] 88))):=HB.out.alloc HB.out.size _
  generalize (w2.alloc (.cells #[.int .i64 c.west,.int .i64 c.south,.int .i64 c.east,.int .i64 c.north] 88))=w3 at *
  clear t0_0 t0_1 t0_2 t0_3 t0_4 t0_5 t0_6 t0_7 t0_8 t0_9 t0_10 t1_0 t1_1 t1_2 t1_3 t1_4 t1_5 t1_6 t1_7 t1_8 t1_9 t1_10
  replace HB:=Lib.hid HX.out
  clear HX
  obtain⟨t0_0,t0_1,t0_2,t0_3,t0_4,t0_5,t0_6,t0_7,t0_8,t0_9,t0_10,t1_0,t1_1,t1_2,t1_3,t1_4,t1_5,t1_6,t1_7,t1_8,t1_9,t1_10⟩:=HD.out _ HB.out
  go_wp2_with (first|(go_at_call 170;with_reducible refine (C0.out _).mono ?_;rintro e w2 ⟨rfl,hb2⟩;(try clear t0_0 t0_1 t0_2 t0_3 t0_4 t0_5 t0_6 t0_7 t0_8 t0_9 t0_10 t1_0 t1_1 t1_2 t1_3 t1_4 t1_5 t1_6 t1_7 t1_8 t1_9 t1_10);replace HB:=Lib.hid (HB.out.trans (hb2.mono HB.out.size));clear hb2;obtain⟨t0_0,t0_1,t0_2,t0_3,t0_4,t0_5,t0_6,t0_7,t0_8,t0_9,t0_10,t1_0,t1_1,t1_2,t1_3,t1_4,t1_5,t1_6,t1_7,t1_8,t1_9,t1_10⟩:=HD.out _ HB.out)|(go_at_call 170;with_reducible refine (C1.out _).mono ?_;rintro e w2 ⟨rfl,hb2⟩;(try clear t0_0 t0_1 t0_2 t0_3 t0_4 t0_5 t0_6 t0_7 t0_8 t0_9 t0_10 t1_0 t1_1 t1_2 t1_3 t1_4 t1_5 t1_6 t1_7 t1_8 t1_9 t1_10);replace HB:=Lib.hid (HB.out.trans (hb2.mono HB.out.size));clear hb2;obtain⟨t0_0,t0_1,t0_2,t0_3,t0_4,t0_5,t0_6,t0_7,t0_8,t0_9,t0_10,t1_0,t1_1,t1_2,t1_3,t1_4,t1_5,t1_6,t1_7,t1_8,t1_9,t1_10⟩:=HD.out _ HB.out))
  go_ret
  exact⟨by rw[HE.out];rfl,B0.out.trans (HB.out.mono (by omega))⟩
 rw[h1] at C1
 by_cases h2:meetB a.area b.area=true
 case neg =>
  replace h2:meetB a.area b.area=false:=Bool.eq_false_iff.2 h2
  rw[h2] at CM
  have HE:Hid (clashF a b=false):=by show _=_;unfold clashF;simp only[h0,h1,h2]<;>rfl
  go_enter Tryz.func173,Tryz.ntmps173
  go_upto_region 1 with (fail)
  rw[HW0.out]
  have t0_0:=bkC (v:=.string a.id) K0.out 0 rfl
  have t0_1:=bkC (v:=.string a.holder) K0.out 1 rfl
  have t0_2:=bkC (v:=.int .i64 a.low) K0.out 2 rfl
  have t0_3:=bkC (v:=.int .i64 a.high) K0.out 3 rfl
  have t0_4:=bkC (v:=.int .i64 a.area.west) K0.out 4 rfl
  have t0_5:=bkC (v:=.int .i64 a.area.south) K0.out 5 rfl
  have t0_6:=bkC (v:=.int .i64 a.area.east) K0.out 6 rfl
  have t0_7:=bkC (v:=.int .i64 a.area.north) K0.out 7 rfl
  have t0_8:=bkC (v:=.int .i64 a.from_) K0.out 8 rfl
  have t0_9:=bkC (v:=.int .i64 a.until_) K0.out 9 rfl
  have t0_10:=bkC (v:=.int .i64 a.power) K0.out 10 rfl
  have t1_0:=bkC (v:=.string b.id) K1.out 0 rfl
  have t1_1:=bkC (v:=.string b.holder) K1.out 1 rfl
  have t1_2:=bkC (v:=.int .i64 b.low) K1.out 2 rfl
  have t1_3:=bkC (v:=.int .i64 b.high) K1.out 3 rfl
  have t1_4:=bkC (v:=.int .i64 b.area.west) K1.out 4 rfl
  have t1_5:=bkC (v:=.int .i64 b.area.south) K1.out 5 rfl
  have t1_6:=bkC (v:=.int .i64 b.area.east) K1.out 6 rfl
  have t1_7:=bkC (v:=.int .i64 b.area.north) K1.out 7 rfl
  have t1_8:=bkC (v:=.int .i64 b.from_) K1.out 8 rfl
  have t1_9:=bkC (v:=.int .i64 b.until_) K1.out 9 rfl
  have t1_10:=bkC (v:=.int .i64 b.power) K1.out 10 rfl
  go_upto_region 2 with (go_at_call 220;with_reducible refine (CM.out _).mono ?_;rintro e w2 ⟨c,rfl,hb2⟩;(try clear t0_0 t0_1 t0_2 t0_3 t0_4 t0_5 t0_6 t0_7 t0_8 t0_9 t0_10 t1_0 t1_1 t1_2 t1_3 t1_4 t1_5 t1_6 t1_7 t1_8 t1_9 t1_10);replace HB:=Lib.hid (HB.out.trans (hb2.mono HB.out.size));clear hb2;obtain⟨t0_0,t0_1,t0_2,t0_3,t0_4,t0_5,t0_6,t0_7,t0_8,t0_9,t0_10,t1_0,t1_1,t1_2,t1_3,t1_4,t1_5,t1_6,t1_7,t1_8,t1_9,t1_10⟩:=HD.out _ HB.out)
  have HX:Hid (Below W0.heap.size W0 (w2.alloc (.cells #[.int .i64 c.west,.int .i64 c.south,.int .i64 c.east,.int .i64 c.north] 88))):=HB.out.alloc HB.out.size _
  generalize (w2.alloc (.cells #[.int .i64 c.west,.int .i64 c.south,.int .i64 c.east,.int .i64 c.north] 88))=w3 at *
  clear t0_0 t0_1 t0_2 t0_3 t0_4 t0_5 t0_6 t0_7 t0_8 t0_9 t0_10 t1_0 t1_1 t1_2 t1_3 t1_4 t1_5 t1_6 t1_7 t1_8 t1_9 t1_10
  replace HB:=Lib.hid HX.out
  clear HX
  obtain⟨t0_0,t0_1,t0_2,t0_3,t0_4,t0_5,t0_6,t0_7,t0_8,t0_9,t0_10,t1_0,t1_1,t1_2,t1_3,t1_4,t1_5,t1_6,t1_7,t1_8,t1_9,t1_10⟩:=HD.out _ HB.out
  go_wp2_with (first|(go_at_call 170;with_reducible refine (C0.out _).mono ?_;rintro e w2 ⟨rfl,hb2⟩;(try clear t0_0 t0_1 t0_2 t0_3 t0_4 t0_5 t0_6 t0_7 t0_8 t0_9 t0_10 t1_0 t1_1 t1_2 t1_3 t1_4 t1_5 t1_6 t1_7 t1_8 t1_9 t1_10);replace HB:=Lib.hid (HB.out.trans (hb2.mono HB.out.size));clear hb2;obtain⟨t0_0,t0_1,t0_2,t0_3,t0_4,t0_5,t0_6,t0_7,t0_8,t0_9,t0_10,t1_0,t1_1,t1_2,t1_3,t1_4,t1_5,t1_6,t1_7,t1_8,t1_9,t1_10⟩:=HD.out _ HB.out)|(go_at_call 170;with_reducible refine (C1.out _).mono ?_;rintro e w2 ⟨rfl,hb2⟩;(try clear t0_0 t0_1 t0_2 t0_3 t0_4 t0_5 t0_6 t0_7 t0_8 t0_9 t0_10 t1_0 t1_1 t1_2 t1_3 t1_4 t1_5 t1_6 t1_7 t1_8 t1_9 t1_10);replace HB:=Lib.hid (HB.out.trans (hb2.mono HB.out.size));clear hb2;obtain⟨t0_0,t0_1,t0_2,t0_3,t0_4,t0_5,t0_6,t0_7,t0_8,t0_9,t0_10,t1_0,t1_1,t1_2,t1_3,t1_4,t1_5,t1_6,t1_7,t1_8,t1_9,t1_10⟩:=HD.out _ HB.out))
  go_ret
  exact⟨by rw[HE.out];rfl,B0.out.trans (HB.out.mono (by omega))⟩
 rw[h2] at CM
 by_cases h3:a.from_≤b.until_
 case neg =>
  have hd3:decide (a.from_≤b.until_)=false:=decide_eq_false h3
  replace h3:b.until_<a.from_:=by omega
  have HE:Hid (clashF a b=false):=by show _=_;unfold clashF;simp only[h0,h1,h2,hd3]<;>rfl
  go_enter Tryz.func173,Tryz.ntmps173
  go_upto_region 1 with (fail)
  rw[HW0.out]
  have t0_0:=bkC (v:=.string a.id) K0.out 0 rfl
  have t0_1:=bkC (v:=.string a.holder) K0.out 1 rfl
  have t0_2:=bkC (v:=.int .i64 a.low) K0.out 2 rfl
  have t0_3:=bkC (v:=.int .i64 a.high) K0.out 3 rfl
  have t0_4:=bkC (v:=.int .i64 a.area.west) K0.out 4 rfl
  have t0_5:=bkC (v:=.int .i64 a.area.south) K0.out 5 rfl
  have t0_6:=bkC (v:=.int .i64 a.area.east) K0.out 6 rfl
  have t0_7:=bkC (v:=.int .i64 a.area.north) K0.out 7 rfl
  have t0_8:=bkC (v:=.int .i64 a.from_) K0.out 8 rfl
  have t0_9:=bkC (v:=.int .i64 a.until_) K0.out 9 rfl
  have t0_10:=bkC (v:=.int .i64 a.power) K0.out 10 rfl
  have t1_0:=bkC (v:=.string b.id) K1.out 0 rfl
  have t1_1:=bkC (v:=.string b.holder) K1.out 1 rfl
  have t1_2:=bkC (v:=.int .i64 b.low) K1.out 2 rfl
  have t1_3:=bkC (v:=.int .i64 b.high) K1.out 3 rfl
  have t1_4:=bkC (v:=.int .i64 b.area.west) K1.out 4 rfl
  have t1_5:=bkC (v:=.int .i64 b.area.south) K1.out 5 rfl
  have t1_6:=bkC (v:=.int .i64 b.area.east) K1.out 6 rfl
  have t1_7:=bkC (v:=.int .i64 b.area.north) K1.out 7 rfl
  have t1_8:=bkC (v:=.int .i64 b.from_) K1.out 8 rfl
  have t1_9:=bkC (v:=.int .i64 b.until_) K1.out 9 rfl
  have t1_10:=bkC (v:=.int .i64 b.power) K1.out 10 rfl
  go_upto_region 2 with (go_at_call 220;with_reducible refine (CM.out _).mono ?_;rintro e w2 ⟨c,rfl,hb2⟩;(try clear t0_0 t0_1 t0_2 t0_3 t0_4 t0_5 t0_6 t0_7 t0_8 t0_9 t0_10 t1_0 t1_1 t1_2 t1_3 t1_4 t1_5 t1_6 t1_7 t1_8 t1_9 t1_10);replace HB:=Lib.hid (HB.out.trans (hb2.mono HB.out.size));clear hb2;obtain⟨t0_0,t0_1,t0_2,t0_3,t0_4,t0_5,t0_6,t0_7,t0_8,t0_9,t0_10,t1_0,t1_1,t1_2,t1_3,t1_4,t1_5,t1_6,t1_7,t1_8,t1_9,t1_10⟩:=HD.out _ HB.out)
  have HX:Hid (Below W0.heap.size W0 (w2.alloc (.cells #[.int .i64 c.west,.int .i64 c.south,.int .i64 c.east,.int .i64 c.north] 88))):=HB.out.alloc HB.out.size _
  generalize (w2.alloc (.cells #[.int .i64 c.west,.int .i64 c.south,.int .i64 c.east,.int .i64 c.north] 88))=w3 at *
  clear t0_0 t0_1 t0_2 t0_3 t0_4 t0_5 t0_6 t0_7 t0_8 t0_9 t0_10 t1_0 t1_1 t1_2 t1_3 t1_4 t1_5 t1_6 t1_7 t1_8 t1_9 t1_10
  replace HB:=Lib.hid HX.out
  clear HX
  obtain⟨t0_0,t0_1,t0_2,t0_3,t0_4,t0_5,t0_6,t0_7,t0_8,t0_9,t0_10,t1_0,t1_1,t1_2,t1_3,t1_4,t1_5,t1_6,t1_7,t1_8,t1_9,t1_10⟩:=HD.out _ HB.out
  go_wp2_with (first|(go_at_call 170;with_reducible refine (C0.out _).mono ?_;rintro e w2 ⟨rfl,hb2⟩;(try clear t0_0 t0_1 t0_2 t0_3 t0_4 t0_5 t0_6 t0_7 t0_8 t0_9 t0_10 t1_0 t1_1 t1_2 t1_3 t1_4 t1_5 t1_6 t1_7 t1_8 t1_9 t1_10);replace HB:=Lib.hid (HB.out.trans (hb2.mono HB.out.size));clear hb2;obtain⟨t0_0,t0_1,t0_2,t0_3,t0_4,t0_5,t0_6,t0_7,t0_8,t0_9,t0_10,t1_0,t1_1,t1_2,t1_3,t1_4,t1_5,t1_6,t1_7,t1_8,t1_9,t1_10⟩:=HD.out _ HB.out)|(go_at_call 170;with_reducible refine (C1.out _).mono ?_;rintro e w2 ⟨rfl,hb2⟩;(try clear t0_0 t0_1 t0_2 t0_3 t0_4 t0_5 t0_6 t0_7 t0_8 t0_9 t0_10 t1_0 t1_1 t1_2 t1_3 t1_4 t1_5 t1_6 t1_7 t1_8 t1_9 t1_10);replace HB:=Lib.hid (HB.out.trans (hb2.mono HB.out.size));clear hb2;obtain⟨t0_0,t0_1,t0_2,t0_3,t0_4,t0_5,t0_6,t0_7,t0_8,t0_9,t0_10,t1_0,t1_1,t1_2,t1_3,t1_4,t1_5,t1_6,t1_7,t1_8,t1_9,t1_10⟩:=HD.out _ HB.out))
  go_ret
  exact⟨by rw[HE.out];rfl,B0.out.trans (HB.out.mono (by omega))⟩
 have hd3:decide (a.from_≤b.until_)=true:=decide_eq_true h3
 by_cases h4:b.from_≤a.until_
 case neg =>
  have hd4:decide (b.from_≤a.until_)=false:=decide_eq_false h4
  replace h4:a.until_<b.from_:=by omega
  have HE:Hid (clashF a b=false):=by show _=_;unfold clashF;simp only[h0,h1,h2,hd3,hd4]<;>rfl
  go_enter Tryz.func173,Tryz.ntmps173
  go_upto_region 1 with (fail)
  rw[HW0.out]
  have t0_0:=bkC (v:=.string a.id) K0.out 0 rfl
  have t0_1:=bkC (v:=.string a.holder) K0.out 1 rfl
  have t0_2:=bkC (v:=.int .i64 a.low) K0.out 2 rfl
  have t0_3:=bkC (v:=.int .i64 a.high) K0.out 3 rfl
  have t0_4:=bkC (v:=.int .i64 a.area.west) K0.out 4 rfl
  have t0_5:=bkC (v:=.int .i64 a.area.south) K0.out 5 rfl
  have t0_6:=bkC (v:=.int .i64 a.area.east) K0.out 6 rfl
  have t0_7:=bkC (v:=.int .i64 a.area.north) K0.out 7 rfl
  have t0_8:=bkC (v:=.int .i64 a.from_) K0.out 8 rfl
  have t0_9:=bkC (v:=.int .i64 a.until_) K0.out 9 rfl
  have t0_10:=bkC (v:=.int .i64 a.power) K0.out 10 rfl
  have t1_0:=bkC (v:=.string b.id) K1.out 0 rfl
  have t1_1:=bkC (v:=.string b.holder) K1.out 1 rfl
  have t1_2:=bkC (v:=.int .i64 b.low) K1.out 2 rfl
  have t1_3:=bkC (v:=.int .i64 b.high) K1.out 3 rfl
  have t1_4:=bkC (v:=.int .i64 b.area.west) K1.out 4 rfl
  have t1_5:=bkC (v:=.int .i64 b.area.south) K1.out 5 rfl
  have t1_6:=bkC (v:=.int .i64 b.area.east) K1.out 6 rfl
  have t1_7:=bkC (v:=.int .i64 b.area.north) K1.out 7 rfl
  have t1_8:=bkC (v:=.int .i64 b.from_) K1.out 8 rfl
  have t1_9:=bkC (v:=.int .i64 b.until_) K1.out 9 rfl
  have t1_10:=bkC (v:=.int .i64 b.power) K1.out 10 rfl
  go_upto_region 2 with (go_at_call 220;with_reducible refine (CM.out _).mono ?_;rintro e w2 ⟨c,rfl,hb2⟩;(try clear t0_0 t0_1 t0_2 t0_3 t0_4 t0_5 t0_6 t0_7 t0_8 t0_9 t0_10 t1_0 t1_1 t1_2 t1_3 t1_4 t1_5 t1_6 t1_7 t1_8 t1_9 t1_10);replace HB:=Lib.hid (HB.out.trans (hb2.mono HB.out.size));clear hb2;obtain⟨t0_0,t0_1,t0_2,t0_3,t0_4,t0_5,t0_6,t0_7,t0_8,t0_9,t0_10,t1_0,t1_1,t1_2,t1_3,t1_4,t1_5,t1_6,t1_7,t1_8,t1_9,t1_10⟩:=HD.out _ HB.out)
  have HX:Hid (Below W0.heap.size W0 (w2.alloc (.cells #[.int .i64 c.west,.int .i64 c.south,.int .i64 c.east,.int .i64 c.north] 88))):=HB.out.alloc HB.out.size _
  generalize (w2.alloc (.cells #[.int .i64 c.west,.int .i64 c.south,.int .i64 c.east,.int .i64 c.north] 88))=w3 at *
  clear t0_0 t0_1 t0_2 t0_3 t0_4 t0_5 t0_6 t0_7 t0_8 t0_9 t0_10 t1_0 t1_1 t1_2 t1_3 t1_4 t1_5 t1_6 t1_7 t1_8 t1_9 t1_10
  replace HB:=Lib.hid HX.out
  clear HX
  obtain⟨t0_0,t0_1,t0_2,t0_3,t0_4,t0_5,t0_6,t0_7,t0_8,t0_9,t0_10,t1_0,t1_1,t1_2,t1_3,t1_4,t1_5,t1_6,t1_7,t1_8,t1_9,t1_10⟩:=HD.out _ HB.out
  go_wp2_with (first|(go_at_call 170;with_reducible refine (C0.out _).mono ?_;rintro e w2 ⟨rfl,hb2⟩;(try clear t0_0 t0_1 t0_2 t0_3 t0_4 t0_5 t0_6 t0_7 t0_8 t0_9 t0_10 t1_0 t1_1 t1_2 t1_3 t1_4 t1_5 t1_6 t1_7 t1_8 t1_9 t1_10);replace HB:=Lib.hid (HB.out.trans (hb2.mono HB.out.size));clear hb2;obtain⟨t0_0,t0_1,t0_2,t0_3,t0_4,t0_5,t0_6,t0_7,t0_8,t0_9,t0_10,t1_0,t1_1,t1_2,t1_3,t1_4,t1_5,t1_6,t1_7,t1_8,t1_9,t1_10⟩:=HD.out _ HB.out)|(go_at_call 170;with_reducible refine (C1.out _).mono ?_;rintro e w2 ⟨rfl,hb2⟩;(try clear t0_0 t0_1 t0_2 t0_3 t0_4 t0_5 t0_6 t0_7 t0_8 t0_9 t0_10 t1_0 t1_1 t1_2 t1_3 t1_4 t1_5 t1_6 t1_7 t1_8 t1_9 t1_10);replace HB:=Lib.hid (HB.out.trans (hb2.mono HB.out.size));clear hb2;obtain⟨t0_0,t0_1,t0_2,t0_3,t0_4,t0_5,t0_6,t0_7,t0_8,t0_9,t0_10,t1_0,t1_1,t1_2,t1_3,t1_4,t1_5,t1_6,t1_7,t1_8,t1_9,t1_10⟩:=HD.out _ HB.out))
  go_ret
  exact⟨by rw[HE.out];rfl,B0.out.trans (HB.out.mono (by omega))⟩
 have hd4:decide (b.from_≤a.until_)=true:=decide_eq_true h4
 by_cases h5:a.low<b.high
 case neg =>
  have hd5:decide (a.low<b.high)=false:=decide_eq_false h5
  replace h5:b.high≤a.low:=by omega
  have HE:Hid (clashF a b=false):=by show _=_;unfold clashF;simp only[h0,h1,h2,hd3,hd4,hd5]<;>rfl
  go_enter Tryz.func173,Tryz.ntmps173
  go_upto_region 1 with (fail)
  rw[HW0.out]
  have t0_0:=bkC (v:=.string a.id) K0.out 0 rfl
  have t0_1:=bkC (v:=.string a.holder) K0.out 1 rfl
  have t0_2:=bkC (v:=.int .i64 a.low) K0.out 2 rfl
  have t0_3:=bkC (v:=.int .i64 a.high) K0.out 3 rfl
  have t0_4:=bkC (v:=.int .i64 a.area.west) K0.out 4 rfl
  have t0_5:=bkC (v:=.int .i64 a.area.south) K0.out 5 rfl
  have t0_6:=bkC (v:=.int .i64 a.area.east) K0.out 6 rfl
  have t0_7:=bkC (v:=.int .i64 a.area.north) K0.out 7 rfl
  have t0_8:=bkC (v:=.int .i64 a.from_) K0.out 8 rfl
  have t0_9:=bkC (v:=.int .i64 a.until_) K0.out 9 rfl
  have t0_10:=bkC (v:=.int .i64 a.power) K0.out 10 rfl
  have t1_0:=bkC (v:=.string b.id) K1.out 0 rfl
  have t1_1:=bkC (v:=.string b.holder) K1.out 1 rfl
  have t1_2:=bkC (v:=.int .i64 b.low) K1.out 2 rfl
  have t1_3:=bkC (v:=.int .i64 b.high) K1.out 3 rfl
  have t1_4:=bkC (v:=.int .i64 b.area.west) K1.out 4 rfl
  have t1_5:=bkC (v:=.int .i64 b.area.south) K1.out 5 rfl
  have t1_6:=bkC (v:=.int .i64 b.area.east) K1.out 6 rfl
  have t1_7:=bkC (v:=.int .i64 b.area.north) K1.out 7 rfl
  have t1_8:=bkC (v:=.int .i64 b.from_) K1.out 8 rfl
  have t1_9:=bkC (v:=.int .i64 b.until_) K1.out 9 rfl
  have t1_10:=bkC (v:=.int .i64 b.power) K1.out 10 rfl
  go_upto_region 2 with (go_at_call 220;with_reducible refine (CM.out _).mono ?_;rintro e w2 ⟨c,rfl,hb2⟩;(try clear t0_0 t0_1 t0_2 t0_3 t0_4 t0_5 t0_6 t0_7 t0_8 t0_9 t0_10 t1_0 t1_1 t1_2 t1_3 t1_4 t1_5 t1_6 t1_7 t1_8 t1_9 t1_10);replace HB:=Lib.hid (HB.out.trans (hb2.mono HB.out.size));clear hb2;obtain⟨t0_0,t0_1,t0_2,t0_3,t0_4,t0_5,t0_6,t0_7,t0_8,t0_9,t0_10,t1_0,t1_1,t1_2,t1_3,t1_4,t1_5,t1_6,t1_7,t1_8,t1_9,t1_10⟩:=HD.out _ HB.out)
  have HX:Hid (Below W0.heap.size W0 (w2.alloc (.cells #[.int .i64 c.west,.int .i64 c.south,.int .i64 c.east,.int .i64 c.north] 88))):=HB.out.alloc HB.out.size _
  generalize (w2.alloc (.cells #[.int .i64 c.west,.int .i64 c.south,.int .i64 c.east,.int .i64 c.north] 88))=w3 at *
  clear t0_0 t0_1 t0_2 t0_3 t0_4 t0_5 t0_6 t0_7 t0_8 t0_9 t0_10 t1_0 t1_1 t1_2 t1_3 t1_4 t1_5 t1_6 t1_7 t1_8 t1_9 t1_10
  replace HB:=Lib.hid HX.out
  clear HX
  obtain⟨t0_0,t0_1,t0_2,t0_3,t0_4,t0_5,t0_6,t0_7,t0_8,t0_9,t0_10,t1_0,t1_1,t1_2,t1_3,t1_4,t1_5,t1_6,t1_7,t1_8,t1_9,t1_10⟩:=HD.out _ HB.out
  go_wp2_with (first|(go_at_call 170;with_reducible refine (C0.out _).mono ?_;rintro e w2 ⟨rfl,hb2⟩;(try clear t0_0 t0_1 t0_2 t0_3 t0_4 t0_5 t0_6 t0_7 t0_8 t0_9 t0_10 t1_0 t1_1 t1_2 t1_3 t1_4 t1_5 t1_6 t1_7 t1_8 t1_9 t1_10);replace HB:=Lib.hid (HB.out.trans (hb2.mono HB.out.size));clear hb2;obtain⟨t0_0,t0_1,t0_2,t0_3,t0_4,t0_5,t0_6,t0_7,t0_8,t0_9,t0_10,t1_0,t1_1,t1_2,t1_3,t1_4,t1_5,t1_6,t1_7,t1_8,t1_9,t1_10⟩:=HD.out _ HB.out)|(go_at_call 170;with_reducible refine (C1.out _).mono ?_;rintro e w2 ⟨rfl,hb2⟩;(try clear t0_0 t0_1 t0_2 t0_3 t0_4 t0_5 t0_6 t0_7 t0_8 t0_9 t0_10 t1_0 t1_1 t1_2 t1_3 t1_4 t1_5 t1_6 t1_7 t1_8 t1_9 t1_10);replace HB:=Lib.hid (HB.out.trans (hb2.mono HB.out.size));clear hb2;obtain⟨t0_0,t0_1,t0_2,t0_3,t0_4,t0_5,t0_6,t0_7,t0_8,t0_9,t0_10,t1_0,t1_1,t1_2,t1_3,t1_4,t1_5,t1_6,t1_7,t1_8,t1_9,t1_10⟩:=HD.out _ HB.out))
  go_ret
  exact⟨by rw[HE.out];rfl,B0.out.trans (HB.out.mono (by omega))⟩
 have hd5:decide (a.low<b.high)=true:=decide_eq_true h5
 by_cases h6:b.low<a.high
 case neg =>
  have hd6:decide (b.low<a.high)=false:=decide_eq_false h6
  replace h6:a.high≤b.low:=by omega
  have HE:Hid (clashF a b=false):=by show _=_;unfold clashF;simp only[h0,h1,h2,hd3,hd4,hd5,hd6]<;>rfl
  go_enter Tryz.func173,Tryz.ntmps173
  go_upto_region 1 with (fail)
  rw[HW0.out]
  have t0_0:=bkC (v:=.string a.id) K0.out 0 rfl
  have t0_1:=bkC (v:=.string a.holder) K0.out 1 rfl
  have t0_2:=bkC (v:=.int .i64 a.low) K0.out 2 rfl
  have t0_3:=bkC (v:=.int .i64 a.high) K0.out 3 rfl
  have t0_4:=bkC (v:=.int .i64 a.area.west) K0.out 4 rfl
  have t0_5:=bkC (v:=.int .i64 a.area.south) K0.out 5 rfl
  have t0_6:=bkC (v:=.int .i64 a.area.east) K0.out 6 rfl
  have t0_7:=bkC (v:=.int .i64 a.area.north) K0.out 7 rfl
  have t0_8:=bkC (v:=.int .i64 a.from_) K0.out 8 rfl
  have t0_9:=bkC (v:=.int .i64 a.until_) K0.out 9 rfl
  have t0_10:=bkC (v:=.int .i64 a.power) K0.out 10 rfl
  have t1_0:=bkC (v:=.string b.id) K1.out 0 rfl
  have t1_1:=bkC (v:=.string b.holder) K1.out 1 rfl
  have t1_2:=bkC (v:=.int .i64 b.low) K1.out 2 rfl
  have t1_3:=bkC (v:=.int .i64 b.high) K1.out 3 rfl
  have t1_4:=bkC (v:=.int .i64 b.area.west) K1.out 4 rfl
  have t1_5:=bkC (v:=.int .i64 b.area.south) K1.out 5 rfl
  have t1_6:=bkC (v:=.int .i64 b.area.east) K1.out 6 rfl
  have t1_7:=bkC (v:=.int .i64 b.area.north) K1.out 7 rfl
  have t1_8:=bkC (v:=.int .i64 b.from_) K1.out 8 rfl
  have t1_9:=bkC (v:=.int .i64 b.until_) K1.out 9 rfl
  have t1_10:=bkC (v:=.int .i64 b.power) K1.out 10 rfl
  go_upto_region 2 with (go_at_call 220;with_reducible refine (CM.out _).mono ?_;rintro e w2 ⟨c,rfl,hb2⟩;(try clear t0_0 t0_1 t0_2 t0_3 t0_4 t0_5 t0_6 t0_7 t0_8 t0_9 t0_10 t1_0 t1_1 t1_2 t1_3 t1_4 t1_5 t1_6 t1_7 t1_8 t1_9 t1_10);replace HB:=Lib.hid (HB.out.trans (hb2.mono HB.out.size));clear hb2;obtain⟨t0_0,t0_1,t0_2,t0_3,t0_4,t0_5,t0_6,t0_7,t0_8,t0_9,t0_10,t1_0,t1_1,t1_2,t1_3,t1_4,t1_5,t1_6,t1_7,t1_8,t1_9,t1_10⟩:=HD.out _ HB.out)
  have HX:Hid (Below W0.heap.size W0 (w2.alloc (.cells #[.int .i64 c.west,.int .i64 c.south,.int .i64 c.east,.int .i64 c.north] 88))):=HB.out.alloc HB.out.size _
  generalize (w2.alloc (.cells #[.int .i64 c.west,.int .i64 c.south,.int .i64 c.east,.int .i64 c.north] 88))=w3 at *
  clear t0_0 t0_1 t0_2 t0_3 t0_4 t0_5 t0_6 t0_7 t0_8 t0_9 t0_10 t1_0 t1_1 t1_2 t1_3 t1_4 t1_5 t1_6 t1_7 t1_8 t1_9 t1_10
  replace HB:=Lib.hid HX.out
  clear HX
  obtain⟨t0_0,t0_1,t0_2,t0_3,t0_4,t0_5,t0_6,t0_7,t0_8,t0_9,t0_10,t1_0,t1_1,t1_2,t1_3,t1_4,t1_5,t1_6,t1_7,t1_8,t1_9,t1_10⟩:=HD.out _ HB.out
  go_wp2_with (first|(go_at_call 170;with_reducible refine (C0.out _).mono ?_;rintro e w2 ⟨rfl,hb2⟩;(try clear t0_0 t0_1 t0_2 t0_3 t0_4 t0_5 t0_6 t0_7 t0_8 t0_9 t0_10 t1_0 t1_1 t1_2 t1_3 t1_4 t1_5 t1_6 t1_7 t1_8 t1_9 t1_10);replace HB:=Lib.hid (HB.out.trans (hb2.mono HB.out.size));clear hb2;obtain⟨t0_0,t0_1,t0_2,t0_3,t0_4,t0_5,t0_6,t0_7,t0_8,t0_9,t0_10,t1_0,t1_1,t1_2,t1_3,t1_4,t1_5,t1_6,t1_7,t1_8,t1_9,t1_10⟩:=HD.out _ HB.out)|(go_at_call 170;with_reducible refine (C1.out _).mono ?_;rintro e w2 ⟨rfl,hb2⟩;(try clear t0_0 t0_1 t0_2 t0_3 t0_4 t0_5 t0_6 t0_7 t0_8 t0_9 t0_10 t1_0 t1_1 t1_2 t1_3 t1_4 t1_5 t1_6 t1_7 t1_8 t1_9 t1_10);replace HB:=Lib.hid (HB.out.trans (hb2.mono HB.out.size));clear hb2;obtain⟨t0_0,t0_1,t0_2,t0_3,t0_4,t0_5,t0_6,t0_7,t0_8,t0_9,t0_10,t1_0,t1_1,t1_2,t1_3,t1_4,t1_5,t1_6,t1_7,t1_8,t1_9,t1_10⟩:=HD.out _ HB.out))
  go_ret
  exact⟨by rw[HE.out];rfl,B0.out.trans (HB.out.mono (by omega))⟩
 have hd6:decide (b.low<a.high)=true:=decide_eq_true h6
 have HE:Hid (clashF a b=true):=by show _=_;unfold clashF;simp only[h0,h1,h2,hd3,hd4,hd5,hd6]<;>rfl
 go_enter Tryz.func173,Tryz.ntmps173
 go_upto_region 1 with (fail)
 rw[HW0.out]
 have t0_0:=bkC (v:=.string a.id) K0.out 0 rfl
 have t0_1:=bkC (v:=.string a.holder) K0.out 1 rfl
 have t0_2:=bkC (v:=.int .i64 a.low) K0.out 2 rfl
 have t0_3:=bkC (v:=.int .i64 a.high) K0.out 3 rfl
 have t0_4:=bkC (v:=.int .i64 a.area.west) K0.out 4 rfl
 have t0_5:=bkC (v:=.int .i64 a.area.south) K0.out 5 rfl
 have t0_6:=bkC (v:=.int .i64 a.area.east) K0.out 6 rfl
 have t0_7:=bkC (v:=.int .i64 a.area.north) K0.out 7 rfl
 have t0_8:=bkC (v:=.int .i64 a.from_) K0.out 8 rfl
 have t0_9:=bkC (v:=.int .i64 a.until_) K0.out 9 rfl
 have t0_10:=bkC (v:=.int .i64 a.power) K0.out 10 rfl
 have t1_0:=bkC (v:=.string b.id) K1.out 0 rfl
 have t1_1:=bkC (v:=.string b.holder) K1.out 1 rfl
 have t1_2:=bkC (v:=.int .i64 b.low) K1.out 2 rfl
 have t1_3:=bkC (v:=.int .i64 b.high) K1.out 3 rfl
 have t1_4:=bkC (v:=.int .i64 b.area.west) K1.out 4 rfl
 have t1_5:=bkC (v:=.int .i64 b.area.south) K1.out 5 rfl
 have t1_6:=bkC (v:=.int .i64 b.area.east) K1.out 6 rfl
 have t1_7:=bkC (v:=.int .i64 b.area.north) K1.out 7 rfl
 have t1_8:=bkC (v:=.int .i64 b.from_) K1.out 8 rfl
 have t1_9:=bkC (v:=.int .i64 b.until_) K1.out 9 rfl
 have t1_10:=bkC (v:=.int .i64 b.power) K1.out 10 rfl
 go_upto_region 2 with (go_at_call 220;with_reducible refine (CM.out _).mono ?_;rintro e w2 ⟨c,rfl,hb2⟩;(try clear t0_0 t0_1 t0_2 t0_3 t0_4 t0_5 t0_6 t0_7 t0_8 t0_9 t0_10 t1_0 t1_1 t1_2 t1_3 t1_4 t1_5 t1_6 t1_7 t1_8 t1_9 t1_10);replace HB:=Lib.hid (HB.out.trans (hb2.mono HB.out.size));clear hb2;obtain⟨t0_0,t0_1,t0_2,t0_3,t0_4,t0_5,t0_6,t0_7,t0_8,t0_9,t0_10,t1_0,t1_1,t1_2,t1_3,t1_4,t1_5,t1_6,t1_7,t1_8,t1_9,t1_10⟩:=HD.out _ HB.out)
 have HX:Hid (Below W0.heap.size W0 (w2.alloc (.cells #[.int .i64 c.west,.int .i64 c.south,.int .i64 c.east,.int .i64 c.north] 88))):=HB.out.alloc HB.out.size _
 generalize (w2.alloc (.cells #[.int .i64 c.west,.int .i64 c.south,.int .i64 c.east,.int .i64 c.north] 88))=w3 at *
 clear t0_0 t0_1 t0_2 t0_3 t0_4 t0_5 t0_6 t0_7 t0_8 t0_9 t0_10 t1_0 t1_1 t1_2 t1_3 t1_4 t1_5 t1_6 t1_7 t1_8 t1_9 t1_10
 replace HB:=Lib.hid HX.out
 clear HX
 obtain⟨t0_0,t0_1,t0_2,t0_3,t0_4,t0_5,t0_6,t0_7,t0_8,t0_9,t0_10,t1_0,t1_1,t1_2,t1_3,t1_4,t1_5,t1_6,t1_7,t1_8,t1_9,t1_10⟩:=HD.out _ HB.out
 go_wp2_with (first|(go_at_call 170;with_reducible refine (C0.out _).mono ?_;rintro e w2 ⟨rfl,hb2⟩;(try clear t0_0 t0_1 t0_2 t0_3 t0_4 t0_5 t0_6 t0_7 t0_8 t0_9 t0_10 t1_0 t1_1 t1_2 t1_3 t1_4 t1_5 t1_6 t1_7 t1_8 t1_9 t1_10);replace HB:=Lib.hid (HB.out.trans (hb2.mono HB.out.size));clear hb2;obtain⟨t0_0,t0_1,t0_2,t0_3,t0_4,t0_5,t0_6,t0_7,t0_8,t0_9,t0_10,t1_0,t1_1,t1_2,t1_3,t1_4,t1_5,t1_6,t1_7,t1_8,t1_9,t1_10⟩:=HD.out _ HB.out)|(go_at_call 170;with_reducible refine (C1.out _).mono ?_;rintro e w2 ⟨rfl,hb2⟩;(try clear t0_0 t0_1 t0_2 t0_3 t0_4 t0_5 t0_6 t0_7 t0_8 t0_9 t0_10 t1_0 t1_1 t1_2 t1_3 t1_4 t1_5 t1_6 t1_7 t1_8 t1_9 t1_10);replace HB:=Lib.hid (HB.out.trans (hb2.mono HB.out.size));clear hb2;obtain⟨t0_0,t0_1,t0_2,t0_3,t0_4,t0_5,t0_6,t0_7,t0_8,t0_9,t0_10,t1_0,t1_1,t1_2,t1_3,t1_4,t1_5,t1_6,t1_7,t1_8,t1_9,t1_10⟩:=HD.out _ HB.out))
 go_ret
 exact⟨by rw[HE.out];rfl,B0.out.trans (HB.out.mono (by omega))⟩
theorem l26Clash_any (a b:DLicence) (ba oa bb ob:Nat) (w:World) (ac0:w.cell? ⟨ba,oa,none⟩=some (.string a.id)) (ac1:w.cell? ⟨ba,oa+1,none⟩=some (.string a.holder)) (ac2:w.cell? ⟨ba,oa+2,none⟩=some (.int .i64 a.low)) (ac3:w.cell? ⟨ba,oa+3,none⟩=some (.int .i64 a.high)) (ac4:w.cell? ⟨ba,oa+4,none⟩=some (.int .i64 a.area.west)) (ac5:w.cell? ⟨ba,oa+5,none⟩=some (.int .i64 a.area.south)) (ac6:w.cell? ⟨ba,oa+6,none⟩=some (.int .i64 a.area.east)) (ac7:w.cell? ⟨ba,oa+7,none⟩=some (.int .i64 a.area.north)) (ac8:w.cell? ⟨ba,oa+8,none⟩=some (.int .i64 a.from_)) (ac9:w.cell? ⟨ba,oa+9,none⟩=some (.int .i64 a.until_)) (ac10:w.cell? ⟨ba,oa+10,none⟩=some (.int .i64 a.power)) (bc0:w.cell? ⟨bb,ob,none⟩=some (.string b.id)) (bc1:w.cell? ⟨bb,ob+1,none⟩=some (.string b.holder)) (bc2:w.cell? ⟨bb,ob+2,none⟩=some (.int .i64 b.low)) (bc3:w.cell? ⟨bb,ob+3,none⟩=some (.int .i64 b.high)) (bc4:w.cell? ⟨bb,ob+4,none⟩=some (.int .i64 b.area.west)) (bc5:w.cell? ⟨bb,ob+5,none⟩=some (.int .i64 b.area.south)) (bc6:w.cell? ⟨bb,ob+6,none⟩=some (.int .i64 b.area.east)) (bc7:w.cell? ⟨bb,ob+7,none⟩=some (.int .i64 b.area.north)) (bc8:w.cell? ⟨bb,ob+8,none⟩=some (.int .i64 b.from_)) (bc9:w.cell? ⟨bb,ob+9,none⟩=some (.int .i64 b.until_)) (bc10:w.cell? ⟨bb,ob+10,none⟩=some (.int .i64 b.power)) :
  Calls Tryz.prog 155 #[.pointer (some ⟨ba,oa,none⟩),.pointer (some ⟨bb,ob,none⟩)] w fun e w'=>e=.returned (.bool (clashB a b))∧Below w.heap.size w w':=by
 have hba:=cell_lt ac0
 have hbb:=cell_lt bc0
 dsimp only at hba hbb
 have CM:Hid (∀ W:World,Calls Tryz.prog 207 #[.agg #[.int .i64 a.area.west,.int .i64 a.area.south,.int .i64 a.area.east,.int .i64 a.area.north],.agg #[.int .i64 b.area.west,.int .i64 b.area.south,.int .i64 b.area.east,.int .i64 b.area.north]] W fun e w'=>e=.returned (.agg #[.int .i64 (max a.area.west b.area.west),.int .i64 (max a.area.south b.area.south),.int .i64 (min a.area.east b.area.east),.int .i64 (min a.area.north b.area.north)])∧Below W.heap.size W w'):=fun W=>l26Meet_any a.area b.area W
 have C0:Hid (∀ W:World,Calls Tryz.prog 205 #[.agg #[.int .i64 (max a.area.west b.area.west),.int .i64 (max a.area.south b.area.south),.int .i64 (min a.area.east b.area.east),.int .i64 (min a.area.north b.area.north)]] W fun e w'=>e=.returned (.bool (areaB (meetA a.area b.area)))∧Below W.heap.size W w'):=fun W=>l26Area_any (meetA a.area b.area) W
 by_cases h0:a.low<b.high
 case neg =>
  have hd0:decide (a.low<b.high)=false:=decide_eq_false h0
  replace h0:b.high≤a.low:=by omega
  have HE:Hid (clashB a b=false):=by show _=_;unfold clashB;simp only[hd0]<;>rfl
  go_enter Tryz.func155,Tryz.ntmps155
  go_upto_region 1 with (fail)
  have oA:=overC (w0:=w) (show ba<w.heap.size by omega)
  have oB:=overC (w0:=w) (show bb<w.heap.size by omega)
  refine wp_region_over w.heap.size w (Below.refl _ _) (by kernel_rfl) (by kernel_rfl) ?_
  repeat (go_big_quiet_step (first|(go_at_call 207;exact over_left (Nat.le_refl _) (CM.out _))|(go_at_call 205;exact over_left (Nat.le_refl _) (C0.out _))))
  refine wpQuiet_nil ?_
  rintro _ ⟨X,rfl⟩
  have BE:=Lib.hid (over_below w.heap.size w X)
  clear oA oB
  generalize over w.heap.size w X=W9 at *
  go_wp2
  go_ret
  exact⟨by rw[HE.out];rfl,BE.out⟩
 have hd0:decide (a.low<b.high)=true:=decide_eq_true h0
 by_cases h1:b.low<a.high
 case neg =>
  have hd1:decide (b.low<a.high)=false:=decide_eq_false h1
  replace h1:a.high≤b.low:=by omega
  have HE:Hid (clashB a b=false):=by show _=_;unfold clashB;simp only[hd0,hd1]<;>rfl
  go_enter Tryz.func155,Tryz.ntmps155
  go_upto_region 1 with (fail)
  have oA:=overC (w0:=w) (show ba<w.heap.size by omega)
  have oB:=overC (w0:=w) (show bb<w.heap.size by omega)
  refine wp_region_over w.heap.size w (Below.refl _ _) (by kernel_rfl) (by kernel_rfl) ?_
  repeat (go_big_quiet_step (first|(go_at_call 207;exact over_left (Nat.le_refl _) (CM.out _))|(go_at_call 205;exact over_left (Nat.le_refl _) (C0.out _))))
  refine wpQuiet_nil ?_
  rintro _ ⟨X,rfl⟩
  have BE:=Lib.hid (over_below w.heap.size w X)
  clear oA oB
  generalize over w.heap.size w X=W9 at *
  go_wp2
  go_ret
  exact⟨by rw[HE.out];rfl,BE.out⟩
 have hd1:decide (b.low<a.high)=true:=decide_eq_true h1
 by_cases h2:areaB (meetA a.area b.area)=true
 case neg =>
  replace h2:areaB (meetA a.area b.area)=false:=Bool.eq_false_iff.2 h2
  rw[h2] at C0
  have HE:Hid (clashB a b=false):=by show _=_;unfold clashB;simp only[hd0,hd1,h2]<;>rfl
  go_enter Tryz.func155,Tryz.ntmps155
  go_upto_region 1 with (fail)
  have oA:=overC (w0:=w) (show ba<w.heap.size by omega)
  have oB:=overC (w0:=w) (show bb<w.heap.size by omega)
  refine wp_region_over w.heap.size w (Below.refl _ _) (by kernel_rfl) (by kernel_rfl) ?_
  repeat (go_big_quiet_step (first|(go_at_call 207;exact over_left (Nat.le_refl _) (CM.out _))|(go_at_call 205;exact over_left (Nat.le_refl _) (C0.out _))))
  refine wpQuiet_nil ?_
  rintro _ ⟨X,rfl⟩
  have BE:=Lib.hid (over_below w.heap.size w X)
  clear oA oB
  generalize over w.heap.size w X=W9 at *
  go_wp2
  go_ret
  exact⟨by rw[HE.out];rfl,BE.out⟩
 rw[h2] at C0
 by_cases h3:a.from_≤b.until_
 case neg =>
  have hd3:decide (a.from_≤b.until_)=false:=decide_eq_false h3
  replace h3:b.until_<a.from_:=by omega
  have HE:Hid (clashB a b=false):=by show _=_;unfold clashB;simp only[hd0,hd1,h2,hd3]<;>rfl
  go_enter Tryz.func155,Tryz.ntmps155
  go_upto_region 1 with (fail)
  have oA:=overC (w0:=w) (show ba<w.heap.size by omega)
  have oB:=overC (w0:=w) (show bb<w.heap.size by omega)
  refine wp_region_over w.heap.size w (Below.refl _ _) (by kernel_rfl) (by kernel_rfl) ?_
  repeat (go_big_quiet_step (first|(go_at_call 207;exact over_left (Nat.le_refl _) (CM.out _))|(go_at_call 205;exact over_left (Nat.le_refl _) (C0.out _))))
  refine wpQuiet_nil ?_
  rintro _ ⟨X,rfl⟩
  have BE:=Lib.hid (over_below w.heap.size w X)
  clear oA oB
  generalize over w.heap.size w X=W9 at *
  go_wp2
  go_ret
  exact⟨by rw[HE.out];rfl,BE.out⟩
 have hd3:decide (a.from_≤b.until_)=true:=decide_eq_true h3
 by_cases h4:b.from_≤a.until_
 case neg =>
  have hd4:decide (b.from_≤a.until_)=false:=decide_eq_false h4
  replace h4:a.until_<b.from_:=by omega
  have HE:Hid (clashB a b=false):=by show _=_;unfold clashB;simp only[hd0,hd1,h2,hd3,hd4]<;>rfl
  go_enter Tryz.func155,Tryz.ntmps155
  go_upto_region 1 with (fail)
  have oA:=overC (w0:=w) (show ba<w.heap.size by omega)
  have oB:=overC (w0:=w) (show bb<w.heap.size by omega)
  refine wp_region_over w.heap.size w (Below.refl _ _) (by kernel_rfl) (by kernel_rfl) ?_
  repeat (go_big_quiet_step (first|(go_at_call 207;exact over_left (Nat.le_refl _) (CM.out _))|(go_at_call 205;exact over_left (Nat.le_refl _) (C0.out _))))
  refine wpQuiet_nil ?_
  rintro _ ⟨X,rfl⟩
  have BE:=Lib.hid (over_below w.heap.size w X)
  clear oA oB
  generalize over w.heap.size w X=W9 at *
  go_wp2
  go_ret
  exact⟨by rw[HE.out];rfl,BE.out⟩
 have hd4:decide (b.from_≤a.until_)=true:=decide_eq_true h4
 have HE:Hid (clashB a b=true):=by show _=_;unfold clashB;simp only[hd0,hd1,h2,hd3,hd4]<;>rfl
 go_enter Tryz.func155,Tryz.ntmps155
 go_upto_region 1 with (fail)
 have oA:=overC (w0:=w) (show ba<w.heap.size by omega)
 have oB:=overC (w0:=w) (show bb<w.heap.size by omega)
 refine wp_region_over w.heap.size w (Below.refl _ _) (by kernel_rfl) (by kernel_rfl) ?_
 repeat (go_big_quiet_step (first|(go_at_call 207;exact over_left (Nat.le_refl _) (CM.out _))|(go_at_call 205;exact over_left (Nat.le_refl _) (C0.out _))))
 refine wpQuiet_nil ?_
 rintro _ ⟨X,rfl⟩
 have BE:=Lib.hid (over_below w.heap.size w X)
 clear oA oB
 generalize over w.heap.size w X=W9 at *
 go_wp2
 go_ret
 exact⟨by rw[HE.out];rfl,BE.out⟩
open Go.RowKit
set_option linter.unusedVariables false
set_option linter.unusedSimpArgs false
def gBand (l:List DBand) (i:Nat):DBand:=l.getD i ⟨⟨#[]⟩,0,0,0,0⟩
theorem gBand_eq {l:List DBand} {i:Nat} (h:i<l.length):l[i]=gBand l i:=by simp[gBand,h]
def ltBand (p x:DBand):Bool:=ltS p.name x.name
def gProtected (l:List DProtected) (i:Nat):DProtected:=l.getD i ⟨⟨#[]⟩,⟨⟨0,0⟩,0⟩,0,0,0⟩
theorem gProtected_eq {l:List DProtected} {i:Nat} (h:i<l.length):l[i]=gProtected l i:=by simp[gProtected,h]
def ltProtected (p x:DProtected):Bool:=ltS p.name x.name
def gLicence (l:List DLicence) (i:Nat):DLicence:=l.getD i ⟨⟨#[]⟩,⟨#[]⟩,0,0,⟨0,0,0,0⟩,0,0,0⟩
theorem gLicence_eq {l:List DLicence} {i:Nat} (h:i<l.length):l[i]=gLicence l i:=by simp[gLicence,h]
def ltLicence (p x:DLicence):Bool:=ltS p.id x.id
def bandsB (l:List DBand):Bool:=decide (l.length≤8)&&rowOk bandB ltBand l
def protsB (l:List DProtected):Bool:=decide (l.length≤12)&&rowOk protB ltProtected l
theorem iValidBands_any (l:List DBand) (v:Value) (B:Nat) (w:World) (h:Rd B w (DBand.sT l) v) (hB:B≤w.heap.size) (hk:∀ x ∈ l,x.ok) (hn:l.length≤1099511627776) :
  Calls Tryz.prog 109 #[v] w fun e w'=>e=.returned (.bool (bandsB l))∧Below w.heap.size w w':=by
 obtain⟨a,c,rfl,hnc,hcm,hcells⟩:=DBand.rd h
 clear h
 have HCL:=Lib.hid hcells
 clear hcells
 by_cases hlim:l.length≤8
 case neg =>
  have hx:8<l.length:=by omega
  have hx2:(8:Int)<(l.length:Int):=by omega
  have HE:Hid (bandsB l=false):=by show _=_;unfold bandsB;rw[decide_eq_false hlim];simp
  go_enter Tryz.func109,Tryz.ntmps109
  go_wp2
  go_ret
  exact⟨by rw[HE.out];rfl,Below.refl _ _⟩
 have hli:(l.length:Int)≤8:=by omega
 have HE:Hid (bandsB l=rowOk bandB ltBand l):=by show _=_;unfold bandsB;rw[decide_eq_true hlim];simp
 go_enter Tryz.func109,Tryz.ntmps109
 go_wp2
 go_loopw [10] (fun i wr=>∃ (k:Nat),k≤l.length∧i=.int .i64 k∧(∀ j,j<k→upOk bandB ltBand l j=true)∧Below w.heap.size w wr) (fun i wr=>l.length-(intOf i).toNat)
 case atStart=>exact⟨0,Nat.zero_le _,rfl,fun j hj=>absurd hj (by omega),Below.refl _ _⟩
 case round =>
  obtain⟨k,hk1,rfl,hno,hb⟩:=hrel
  have HN:=Lib.hid hno
  have HB:=Lib.hid hb
  have zb:=hb.size
  clear hno hb
  by_cases hlt:k<l.length
  ·obtain⟨b,off,ea,hbl,hat⟩:=HCL.out (by omega)
   subst ea
   obtain⟨s0,s1,s2,s3,s4⟩:=hat k hlt
   have hok:=hk _ (List.getElem_mem hlt)
   have ks0:=hok.name
   have hbw:b<w.heap.size:=by omega
   rw[← bat HB.out b _ hbw] at s0 s1 s2 s3 s4
   have sp:0<k→wr.cell? ⟨b,off+(k-1)*5,none⟩=some (.string (gBand l (k-1)).name):=fun h=>by
    have t:=(hat (k-1) (by omega)).1
    rw[← bat HB.out b _ hbw,gBand_eq (show k-1<l.length by omega)] at t
    exact t
   have SP:=Lib.hid sp
   clear sp hat
   have HUN:Hid (bandB (gBand l k)=false→rowOk bandB ltBand l=false):=fun h=>rowOk_false hlt (upOk_not hlt (by rw[gBand_eq hlt];exact h))
   have HUZ:Hid (k=0→bandB (gBand l k)=true→upOk bandB ltBand l k=true):=fun e h=>by subst e;rw[upOk_zero hlt,gBand_eq hlt];exact h
   have HUP:Hid (0<k→upOk bandB ltBand l k=(bandB (gBand l k)&&ltBand (gBand l (k-1)) (gBand l k))):=fun h=>by rw[upOk_pos h hlt,gBand_eq hlt,gBand_eq (show k-1<l.length by omega)]
   rw[gBand_eq hlt] at s0 s1 s2 s3 s4 ks0
   generalize hA:gBand l k=A at *
   generalize hP:gBand l (k-1)=P at *
   clear hA hP hok
   have i1:(0:Int)≤(k:Int):=by omega
   have i2:(k:Int)<(l.length:Int):=by omega
   have yb:b<wr.heap.size:=by omega
   have HV:Hid (∀ W:World,Calls Tryz.prog 169 #[.agg #[.string A.name,.int .i64 A.low,.int .i64 A.high,.int .i64 A.raster,.int .i64 A.duplex]] W fun e w'=>e=.returned (.bool (bandB A))∧Below W.heap.size W w'):=fun W=>validBand_any A ks0 W
   go_wp2
   have b1:Below wr.heap.size wr (wr.alloc (.cells #[.string A.name,.int .i64 A.low,.int .i64 A.high,.int .i64 A.raster,.int .i64 A.duplex] 77)):=(Below.refl _ _).alloc (Nat.le_refl _) _
   have f0:(wr.alloc (.cells #[.string A.name,.int .i64 A.low,.int .i64 A.high,.int .i64 A.raster,.int .i64 A.duplex] 77)).cell? ⟨wr.heap.size,0,none⟩=some (.string A.name):=by simp[go_sem]
   have f1:(wr.alloc (.cells #[.string A.name,.int .i64 A.low,.int .i64 A.high,.int .i64 A.raster,.int .i64 A.duplex] 77)).cell? ⟨wr.heap.size,1,none⟩=some (.int .i64 A.low):=by simp[go_sem]
   have f2:(wr.alloc (.cells #[.string A.name,.int .i64 A.low,.int .i64 A.high,.int .i64 A.raster,.int .i64 A.duplex] 77)).cell? ⟨wr.heap.size,2,none⟩=some (.int .i64 A.high):=by simp[go_sem]
   have f3:(wr.alloc (.cells #[.string A.name,.int .i64 A.low,.int .i64 A.high,.int .i64 A.raster,.int .i64 A.duplex] 77)).cell? ⟨wr.heap.size,3,none⟩=some (.int .i64 A.raster):=by simp[go_sem]
   have f4:(wr.alloc (.cells #[.string A.name,.int .i64 A.low,.int .i64 A.high,.int .i64 A.raster,.int .i64 A.duplex] 77)).cell? ⟨wr.heap.size,4,none⟩=some (.int .i64 A.duplex):=by simp[go_sem]
   have fz:wr.heap.size<(wr.alloc (.cells #[.string A.name,.int .i64 A.low,.int .i64 A.high,.int .i64 A.raster,.int .i64 A.duplex] 77)).heap.size:=by simp
   generalize hW1:(wr.alloc (.cells #[.string A.name,.int .i64 A.low,.int .i64 A.high,.int .i64 A.raster,.int .i64 A.duplex] 77))=W1 at *
   have BH:=Lib.hid (HB.out.trans (b1.mono (by omega)))
   have B1:=Lib.hid b1
   have zz:=b1.size
   clear b1 hW1
   by_cases c1:bandB A=true
   case neg =>
    replace c1:bandB A=false:=Bool.eq_false_iff.2 c1
    have HF:Hid (rowOk bandB ltBand l=false):=HUN.out c1
    have oX:=overC (w0:=W1) fz
    have oB:=overC (w0:=W1) (show b<W1.heap.size by omega)
    rw[c1] at HV
    refine wp_region_over W1.heap.size W1 (Below.refl _ _) (by kernel_rfl) (by kernel_rfl) ?_
    repeat (go_big_quiet_step ((go_at_call 169;exact over_left (Nat.le_refl _) (HV.out _))))
    refine wpQuiet_nil ?_
    rintro _ ⟨X,rfl⟩
    have hX:=over_below W1.heap.size W1 X
    clear oB oX
    generalize over W1.heap.size W1 X=w2 at *
    have BF:=Lib.hid (BH.out.trans (hX.mono (by omega)))
    clear hX
    have HQ:Hid (bandsB l=false):=by show _=_;rw[HE.out];exact HF.out
    go_wp2
    go_ret
    exact⟨by rw[HQ.out];rfl,BF.out⟩
   have HM:Hid (bandB A=true):=c1
   by_cases c3:0<k
   case neg =>
    have i8:decide (0<k)=false:=by simpa using c3
    have HF:Hid (upOk bandB ltBand l k=true):=HUZ.out (by omega) HM.out
    have oX:=overC (w0:=W1) fz
    have oB:=overC (w0:=W1) (show b<W1.heap.size by omega)
    rw[c1] at HV
    refine wp_region_over W1.heap.size W1 (Below.refl _ _) (by kernel_rfl) (by kernel_rfl) ?_
    repeat (go_big_quiet_step ((go_at_call 169;exact over_left (Nat.le_refl _) (HV.out _))))
    refine wpQuiet_nil ?_
    rintro _ ⟨X,rfl⟩
    have hX:=over_below W1.heap.size W1 X
    clear oB oX
    generalize over W1.heap.size W1 X=w2 at *
    have BF:=Lib.hid (BH.out.trans (hX.mono (by omega)))
    clear hX
    go_wp2
    go_roundw
    case rel=>exact⟨k+1,by omega,by go_num,upTo_succ HN.out (HF.out),BF.out⟩
    case measure=>simp[intOf];omega
   have i3:IntKind.i64.wrap ((k:Int)-1)=(k:Int)-1:=IntWalk.i64_in _ (by omega)
   have i4:(0:Int)≤(k:Int)-1:=by omega
   have i6:(k:Int)-1<(l.length:Int):=by omega
   have i7:(1:Int)≤(k:Int):=by omega
   have i8:decide (0<k)=true:=by simpa using c3
   have i5:((k:Int)-1).toNat=k-1:=by omega
   by_cases c4:ltS P.name A.name=true
   case neg =>
    replace c4:ltS P.name A.name=false:=Bool.eq_false_iff.2 c4
    have le4:=geS_of_not c4
    have HF:Hid (rowOk bandB ltBand l=false):=rowOk_false hlt (by rw[HUP.out c3,show ltBand P A=false from c4];simp)
    have fp:=(bat B1.out b _ yb).trans (SP.out c3)
    have oX:=overC (w0:=W1) fz
    have oB:=overC (w0:=W1) (show b<W1.heap.size by omega)
    rw[c1] at HV
    refine wp_region_over W1.heap.size W1 (Below.refl _ _) (by kernel_rfl) (by kernel_rfl) ?_
    repeat (go_big_quiet_step ((go_at_call 169;exact over_left (Nat.le_refl _) (HV.out _))))
    refine wpQuiet_nil ?_
    rintro _ ⟨X,rfl⟩
    have hX:=over_below W1.heap.size W1 X
    clear oB oX
    generalize over W1.heap.size W1 X=w2 at *
    have BF:=Lib.hid (BH.out.trans (hX.mono (by omega)))
    clear hX
    clear i3 i5
    have HQ:Hid (bandsB l=false):=by show _=_;rw[HE.out];exact HF.out
    go_wp2
    go_ret
    exact⟨by rw[HQ.out];rfl,BF.out⟩
   have le4:=geS_of_lt c4
   have HF:Hid (upOk bandB ltBand l k=true):=by show _=_;rw[HUP.out c3,Bool.and_eq_true];exact⟨HM.out,c4⟩
   have fp:=(bat B1.out b _ yb).trans (SP.out c3)
   have oX:=overC (w0:=W1) fz
   have oB:=overC (w0:=W1) (show b<W1.heap.size by omega)
   rw[c1] at HV
   refine wp_region_over W1.heap.size W1 (Below.refl _ _) (by kernel_rfl) (by kernel_rfl) ?_
   repeat (go_big_quiet_step ((go_at_call 169;exact over_left (Nat.le_refl _) (HV.out _))))
   refine wpQuiet_nil ?_
   rintro _ ⟨X,rfl⟩
   have hX:=over_below W1.heap.size W1 X
   clear oB oX
   generalize over W1.heap.size W1 X=w2 at *
   have BF:=Lib.hid (BH.out.trans (hX.mono (by omega)))
   clear hX
   clear i3 i5
   go_wp2
   go_roundw
   case rel=>exact⟨k+1,by omega,by go_num,upTo_succ HN.out (HF.out),BF.out⟩
   case measure=>simp[intOf];omega
  ·obtain rfl:k=l.length:=by omega
   have HR:Hid (rowOk bandB ltBand l=true):=rowOk_true HN.out
   have HQ:Hid (bandsB l=true):=by show _=_;rw[HE.out];exact HR.out
   go_wp2
   go_ret
   exact⟨by rw[HQ.out];rfl,HB.out⟩
theorem sl15List_any (l:List DBand) (v:Value) (B:Nat) (w:World) (h:Rd B w (DBand.sT l) v) (hB:B≤w.heap.size) (hk:∀ x ∈ l,x.ok) (hn:l.length≤1099511627776) :
  Calls Tryz.prog 93 #[v] w fun e w'=>e=.returned (.bool (bandsB l))∧Below w.heap.size w w':=by
 obtain⟨a,c,rfl,hnc,hcm,hcells⟩:=DBand.rd h
 clear h
 have HCL:=Lib.hid hcells
 clear hcells
 have hli:(l.length:Int)≤1099511627776:=by omega
 go_enter Tryz.func93,Tryz.ntmps93
 go_wp2
 go_loopw [3] (fun i wr=>∃ (k:Nat),k≤l.length∧i=.int .i64 k∧(∀ j,j<k→upOk bandB ltBand l j=true)∧Below w.heap.size w wr) (fun i wr=>l.length-(intOf i).toNat)
 case atStart=>exact⟨0,Nat.zero_le _,rfl,fun j hj=>absurd hj (by omega),Below.refl _ _⟩
 case round =>
  obtain⟨k,hk1,rfl,hno,hb⟩:=hrel
  have HN:=Lib.hid hno
  have HB:=Lib.hid hb
  have zb:=hb.size
  clear hno hb
  by_cases hlt:k<l.length
  ·obtain⟨b,off,ea,hbl,hat⟩:=HCL.out (by omega)
   subst ea
   obtain⟨s0,s1,s2,s3,s4⟩:=hat k hlt
   have hok:=hk _ (List.getElem_mem hlt)
   have ks0:=hok.name
   have hbw:b<w.heap.size:=by omega
   rw[← bat HB.out b _ hbw] at s0 s1 s2 s3 s4
   have sp:0<k→wr.cell? ⟨b,off+(k-1)*5,none⟩=some (.string (gBand l (k-1)).name):=fun h=>by
    have t:=(hat (k-1) (by omega)).1
    rw[← bat HB.out b _ hbw,gBand_eq (show k-1<l.length by omega)] at t
    exact t
   have SP:=Lib.hid sp
   clear sp hat
   have HUN:Hid (bandB (gBand l k)=false→rowOk bandB ltBand l=false):=fun h=>rowOk_false hlt (upOk_not hlt (by rw[gBand_eq hlt];exact h))
   have HUZ:Hid (k=0→bandB (gBand l k)=true→upOk bandB ltBand l k=true):=fun e h=>by subst e;rw[upOk_zero hlt,gBand_eq hlt];exact h
   have HUP:Hid (0<k→upOk bandB ltBand l k=(bandB (gBand l k)&&ltBand (gBand l (k-1)) (gBand l k))):=fun h=>by rw[upOk_pos h hlt,gBand_eq hlt,gBand_eq (show k-1<l.length by omega)]
   rw[gBand_eq hlt] at s0 s1 s2 s3 s4 ks0
   generalize hA:gBand l k=A at *
   generalize hP:gBand l (k-1)=P at *
   clear hA hP hok
   have i1:(0:Int)≤(k:Int):=by omega
   have i2:(k:Int)<(l.length:Int):=by omega
   have yb:b<wr.heap.size:=by omega
   have HV:Hid (∀ W:World,Below wr.heap.size wr W→Calls Tryz.prog 153 #[.pointer (some ⟨b,off+k*5,none⟩)] W fun e w'=>e=.returned (.bool (bandB A))∧Below W.heap.size W w'):=fun W hW=>by have t:=l15Ok_any A b (off+k*5) W ((bat hW b _ yb).trans s0) ((bat hW b _ yb).trans s1) ((bat hW b _ yb).trans s2) ((bat hW b _ yb).trans s3) ((bat hW b _ yb).trans s4) ks0;rw[bandS_eq] at t;exact t
   by_cases c1:bandB A=true
   case neg =>
    replace c1:bandB A=false:=Bool.eq_false_iff.2 c1
    have HF:Hid (rowOk bandB ltBand l=false):=HUN.out c1
    have oB:=overC (w0:=wr) (show b<wr.heap.size by omega)
    rw[c1] at HV
    go_wp2
    refine wp_region_over wr.heap.size wr (Below.refl _ _) (by kernel_rfl) (by kernel_rfl) ?_
    repeat (go_big_quiet_step ((go_at_call 153;exact over_left (Nat.le_refl _) (HV.out _ (over_below _ _ _)))))
    refine wpQuiet_nil ?_
    rintro _ ⟨X,rfl⟩
    have hX:=over_below wr.heap.size wr X
    clear oB
    generalize over wr.heap.size wr X=w2 at *
    have BF:=Lib.hid (HB.out.trans (hX.mono (by omega)))
    clear hX
    have HQ:Hid (bandsB l=false):=by show _=_;unfold bandsB;rw[HF.out];simp
    go_wp2
    go_ret
    exact⟨by rw[HQ.out];rfl,BF.out⟩
   have HM:Hid (bandB A=true):=c1
   by_cases c3:0<k
   case neg =>
    have i8:decide (0<k)=false:=by simpa using c3
    have HF:Hid (upOk bandB ltBand l k=true):=HUZ.out (by omega) HM.out
    have oB:=overC (w0:=wr) (show b<wr.heap.size by omega)
    rw[c1] at HV
    go_wp2
    refine wp_region_over wr.heap.size wr (Below.refl _ _) (by kernel_rfl) (by kernel_rfl) ?_
    repeat (go_big_quiet_step ((go_at_call 153;exact over_left (Nat.le_refl _) (HV.out _ (over_below _ _ _)))))
    refine wpQuiet_nil ?_
    rintro _ ⟨X,rfl⟩
    have hX:=over_below wr.heap.size wr X
    clear oB
    generalize over wr.heap.size wr X=w2 at *
    have BF:=Lib.hid (HB.out.trans (hX.mono (by omega)))
    clear hX
    go_wp2
    go_roundw
    case rel=>exact⟨k+1,by omega,by go_num,upTo_succ HN.out (HF.out),BF.out⟩
    case measure=>simp[intOf];omega
   have i3:IntKind.i64.wrap ((k:Int)-1)=(k:Int)-1:=IntWalk.i64_in _ (by omega)
   have i4:(0:Int)≤(k:Int)-1:=by omega
   have i6:(k:Int)-1<(l.length:Int):=by omega
   have i7:(1:Int)≤(k:Int):=by omega
   have i8:decide (0<k)=true:=by simpa using c3
   have i5:((k:Int)-1).toNat=k-1:=by omega
   by_cases c4:ltS P.name A.name=true
   case neg =>
    replace c4:ltS P.name A.name=false:=Bool.eq_false_iff.2 c4
    have le4:Op.bytesLess P.name.toList A.name.toList=false:=c4
    have HF:Hid (rowOk bandB ltBand l=false):=rowOk_false hlt (by rw[HUP.out c3,show ltBand P A=false from c4];simp)
    have fp:=SP.out c3
    have oB:=overC (w0:=wr) (show b<wr.heap.size by omega)
    rw[c1] at HV
    go_wp2
    refine wp_region_over wr.heap.size wr (Below.refl _ _) (by kernel_rfl) (by kernel_rfl) ?_
    repeat (go_big_quiet_step ((go_at_call 153;exact over_left (Nat.le_refl _) (HV.out _ (over_below _ _ _)))))
    refine wpQuiet_nil ?_
    rintro _ ⟨X,rfl⟩
    have hX:=over_below wr.heap.size wr X
    clear oB
    generalize over wr.heap.size wr X=w2 at *
    have BF:=Lib.hid (HB.out.trans (hX.mono (by omega)))
    clear hX
    clear i3 i5
    have HQ:Hid (bandsB l=false):=by show _=_;unfold bandsB;rw[HF.out];simp
    go_wp2
    go_ret
    exact⟨by rw[HQ.out];rfl,BF.out⟩
   have le4:Op.bytesLess P.name.toList A.name.toList=true:=c4
   have HF:Hid (upOk bandB ltBand l k=true):=by show _=_;rw[HUP.out c3,Bool.and_eq_true];exact⟨HM.out,c4⟩
   have fp:=SP.out c3
   have oB:=overC (w0:=wr) (show b<wr.heap.size by omega)
   rw[c1] at HV
   go_wp2
   refine wp_region_over wr.heap.size wr (Below.refl _ _) (by kernel_rfl) (by kernel_rfl) ?_
   repeat (go_big_quiet_step ((go_at_call 153;exact over_left (Nat.le_refl _) (HV.out _ (over_below _ _ _)))))
   refine wpQuiet_nil ?_
   rintro _ ⟨X,rfl⟩
   have hX:=over_below wr.heap.size wr X
   clear oB
   generalize over wr.heap.size wr X=w2 at *
   have BF:=Lib.hid (HB.out.trans (hX.mono (by omega)))
   clear hX
   clear i3 i5
   go_wp2
   go_roundw
   case rel=>exact⟨k+1,by omega,by go_num,upTo_succ HN.out (HF.out),BF.out⟩
   case measure=>simp[intOf];omega
  ·obtain rfl:k=l.length:=by omega
   have HR:Hid (rowOk bandB ltBand l=true):=rowOk_true HN.out
   by_cases hlim:l.length≤8
   ·have hlj:(l.length:Int)≤8:=by omega
    have HQ:Hid (bandsB l=true):=by show _=_;unfold bandsB;rw[HR.out,decide_eq_true hlim];rfl
    go_wp2
    go_ret
    exact⟨by rw[HQ.out];rfl,HB.out⟩
   ·have hlj:8<l.length:=by omega
    have hlk:(8:Int)<(l.length:Int):=by omega
    have HQ:Hid (bandsB l=false):=by show _=_;unfold bandsB;rw[HR.out,decide_eq_false hlim];rfl
    have HZ:Hid (decide ((l.length:Int)≤8)=false):=decide_eq_false (by omega)
    go_wp2
    go_ret
    exact⟨by rw[HQ.out,← HZ.out];rfl,HB.out⟩
theorem iValidProtected_any (l:List DProtected) (v:Value) (B:Nat) (w:World) (h:Rd B w (DProtected.sT l) v) (hB:B≤w.heap.size) (hk:∀ x ∈ l,x.ok) (hn:l.length≤1099511627776) :
  Calls Tryz.prog 111 #[v] w fun e w'=>e=.returned (.bool (protsB l))∧Below w.heap.size w w':=by
 obtain⟨a,c,rfl,hnc,hcm,hcells⟩:=DProtected.rd h
 clear h
 have HCL:=Lib.hid hcells
 clear hcells
 by_cases hlim:l.length≤12
 case neg =>
  have hx:12<l.length:=by omega
  have hx2:(12:Int)<(l.length:Int):=by omega
  have HE:Hid (protsB l=false):=by show _=_;unfold protsB;rw[decide_eq_false hlim];simp
  go_enter Tryz.func111,Tryz.ntmps111
  go_wp2
  go_ret
  exact⟨by rw[HE.out];rfl,Below.refl _ _⟩
 have hli:(l.length:Int)≤12:=by omega
 have HE:Hid (protsB l=rowOk protB ltProtected l):=by show _=_;unfold protsB;rw[decide_eq_true hlim];simp
 go_enter Tryz.func111,Tryz.ntmps111
 go_wp2
 go_loopw [10] (fun i wr=>∃ (k:Nat),k≤l.length∧i=.int .i64 k∧(∀ j,j<k→upOk protB ltProtected l j=true)∧Below w.heap.size w wr) (fun i wr=>l.length-(intOf i).toNat)
 case atStart=>exact⟨0,Nat.zero_le _,rfl,fun j hj=>absurd hj (by omega),Below.refl _ _⟩
 case round =>
  obtain⟨k,hk1,rfl,hno,hb⟩:=hrel
  have HN:=Lib.hid hno
  have HB:=Lib.hid hb
  have zb:=hb.size
  clear hno hb
  by_cases hlt:k<l.length
  ·obtain⟨b,off,ea,hbl,hat⟩:=HCL.out (by omega)
   subst ea
   obtain⟨s0,s1,s2,s3,s4,s5,s6⟩:=hat k hlt
   have hok:=hk _ (List.getElem_mem hlt)
   have ks0:=hok.name
   have hbw:b<w.heap.size:=by omega
   rw[← bat HB.out b _ hbw] at s0 s1 s2 s3 s4 s5 s6
   have sp:0<k→wr.cell? ⟨b,off+(k-1)*7,none⟩=some (.string (gProtected l (k-1)).name):=fun h=>by
    have t:=(hat (k-1) (by omega)).1
    rw[← bat HB.out b _ hbw,gProtected_eq (show k-1<l.length by omega)] at t
    exact t
   have SP:=Lib.hid sp
   clear sp hat
   have HUN:Hid (protB (gProtected l k)=false→rowOk protB ltProtected l=false):=fun h=>rowOk_false hlt (upOk_not hlt (by rw[gProtected_eq hlt];exact h))
   have HUZ:Hid (k=0→protB (gProtected l k)=true→upOk protB ltProtected l k=true):=fun e h=>by subst e;rw[upOk_zero hlt,gProtected_eq hlt];exact h
   have HUP:Hid (0<k→upOk protB ltProtected l k=(protB (gProtected l k)&&ltProtected (gProtected l (k-1)) (gProtected l k))):=fun h=>by rw[upOk_pos h hlt,gProtected_eq hlt,gProtected_eq (show k-1<l.length by omega)]
   rw[gProtected_eq hlt] at s0 s1 s2 s3 s4 s5 s6 ks0
   generalize hA:gProtected l k=A at *
   generalize hP:gProtected l (k-1)=P at *
   clear hA hP hok
   have i1:(0:Int)≤(k:Int):=by omega
   have i2:(k:Int)<(l.length:Int):=by omega
   have yb:b<wr.heap.size:=by omega
   have HV:Hid (∀ W:World,Calls Tryz.prog 174 #[.agg #[.string A.name,.int .i64 A.at_.place.x,.int .i64 A.at_.place.y,.int .i64 A.at_.above,.int .i64 A.low,.int .i64 A.high,.int .i64 A.limit]] W fun e w'=>e=.returned (.bool (protB A))∧Below W.heap.size W w'):=fun W=>protectedValid_any A ks0 W
   go_wp2
   have b1:Below wr.heap.size wr (wr.alloc (.cells #[.string A.name,.int .i64 A.at_.place.x,.int .i64 A.at_.place.y,.int .i64 A.at_.above,.int .i64 A.low,.int .i64 A.high,.int .i64 A.limit] 83)):=(Below.refl _ _).alloc (Nat.le_refl _) _
   have f0:(wr.alloc (.cells #[.string A.name,.int .i64 A.at_.place.x,.int .i64 A.at_.place.y,.int .i64 A.at_.above,.int .i64 A.low,.int .i64 A.high,.int .i64 A.limit] 83)).cell? ⟨wr.heap.size,0,none⟩=some (.string A.name):=by simp[go_sem]
   have f1:(wr.alloc (.cells #[.string A.name,.int .i64 A.at_.place.x,.int .i64 A.at_.place.y,.int .i64 A.at_.above,.int .i64 A.low,.int .i64 A.high,.int .i64 A.limit] 83)).cell? ⟨wr.heap.size,1,none⟩=some (.int .i64 A.at_.place.x):=by simp[go_sem]
   have f2:(wr.alloc (.cells #[.string A.name,.int .i64 A.at_.place.x,.int .i64 A.at_.place.y,.int .i64 A.at_.above,.int .i64 A.low,.int .i64 A.high,.int .i64 A.limit] 83)).cell? ⟨wr.heap.size,2,none⟩=some (.int .i64 A.at_.place.y):=by simp[go_sem]
   have f3:(wr.alloc (.cells #[.string A.name,.int .i64 A.at_.place.x,.int .i64 A.at_.place.y,.int .i64 A.at_.above,.int .i64 A.low,.int .i64 A.high,.int .i64 A.limit] 83)).cell? ⟨wr.heap.size,3,none⟩=some (.int .i64 A.at_.above):=by simp[go_sem]
   have f4:(wr.alloc (.cells #[.string A.name,.int .i64 A.at_.place.x,.int .i64 A.at_.place.y,.int .i64 A.at_.above,.int .i64 A.low,.int .i64 A.high,.int .i64 A.limit] 83)).cell? ⟨wr.heap.size,4,none⟩=some (.int .i64 A.low):=by simp[go_sem]
   have f5:(wr.alloc (.cells #[.string A.name,.int .i64 A.at_.place.x,.int .i64 A.at_.place.y,.int .i64 A.at_.above,.int .i64 A.low,.int .i64 A.high,.int .i64 A.limit] 83)).cell? ⟨wr.heap.size,5,none⟩=some (.int .i64 A.high):=by simp[go_sem]
   have f6:(wr.alloc (.cells #[.string A.name,.int .i64 A.at_.place.x,.int .i64 A.at_.place.y,.int .i64 A.at_.above,.int .i64 A.low,.int .i64 A.high,.int .i64 A.limit] 83)).cell? ⟨wr.heap.size,6,none⟩=some (.int .i64 A.limit):=by simp[go_sem]
   have fz:wr.heap.size<(wr.alloc (.cells #[.string A.name,.int .i64 A.at_.place.x,.int .i64 A.at_.place.y,.int .i64 A.at_.above,.int .i64 A.low,.int .i64 A.high,.int .i64 A.limit] 83)).heap.size:=by simp
   generalize hW1:(wr.alloc (.cells #[.string A.name,.int .i64 A.at_.place.x,.int .i64 A.at_.place.y,.int .i64 A.at_.above,.int .i64 A.low,.int .i64 A.high,.int .i64 A.limit] 83))=W1 at *
   have BH:=Lib.hid (HB.out.trans (b1.mono (by omega)))
   have B1:=Lib.hid b1
   have zz:=b1.size
   clear b1 hW1
   by_cases c1:protB A=true
   case neg =>
    replace c1:protB A=false:=Bool.eq_false_iff.2 c1
    have HF:Hid (rowOk protB ltProtected l=false):=HUN.out c1
    have oX:=overC (w0:=W1) fz
    have oB:=overC (w0:=W1) (show b<W1.heap.size by omega)
    rw[c1] at HV
    refine wp_region_over W1.heap.size W1 (Below.refl _ _) (by kernel_rfl) (by kernel_rfl) ?_
    repeat (go_big_quiet_step ((go_at_call 174;exact over_left (Nat.le_refl _) (HV.out _))))
    refine wpQuiet_nil ?_
    rintro _ ⟨X,rfl⟩
    have hX:=over_below W1.heap.size W1 X
    clear oB oX
    generalize over W1.heap.size W1 X=w2 at *
    have BF:=Lib.hid (BH.out.trans (hX.mono (by omega)))
    clear hX
    have HQ:Hid (protsB l=false):=by show _=_;rw[HE.out];exact HF.out
    go_wp2
    go_ret
    exact⟨by rw[HQ.out];rfl,BF.out⟩
   have HM:Hid (protB A=true):=c1
   by_cases c3:0<k
   case neg =>
    have i8:decide (0<k)=false:=by simpa using c3
    have HF:Hid (upOk protB ltProtected l k=true):=HUZ.out (by omega) HM.out
    have oX:=overC (w0:=W1) fz
    have oB:=overC (w0:=W1) (show b<W1.heap.size by omega)
    rw[c1] at HV
    refine wp_region_over W1.heap.size W1 (Below.refl _ _) (by kernel_rfl) (by kernel_rfl) ?_
    repeat (go_big_quiet_step ((go_at_call 174;exact over_left (Nat.le_refl _) (HV.out _))))
    refine wpQuiet_nil ?_
    rintro _ ⟨X,rfl⟩
    have hX:=over_below W1.heap.size W1 X
    clear oB oX
    generalize over W1.heap.size W1 X=w2 at *
    have BF:=Lib.hid (BH.out.trans (hX.mono (by omega)))
    clear hX
    go_wp2
    go_roundw
    case rel=>exact⟨k+1,by omega,by go_num,upTo_succ HN.out (HF.out),BF.out⟩
    case measure=>simp[intOf];omega
   have i3:IntKind.i64.wrap ((k:Int)-1)=(k:Int)-1:=IntWalk.i64_in _ (by omega)
   have i4:(0:Int)≤(k:Int)-1:=by omega
   have i6:(k:Int)-1<(l.length:Int):=by omega
   have i7:(1:Int)≤(k:Int):=by omega
   have i8:decide (0<k)=true:=by simpa using c3
   have i5:((k:Int)-1).toNat=k-1:=by omega
   by_cases c4:ltS P.name A.name=true
   case neg =>
    replace c4:ltS P.name A.name=false:=Bool.eq_false_iff.2 c4
    have le4:=geS_of_not c4
    have HF:Hid (rowOk protB ltProtected l=false):=rowOk_false hlt (by rw[HUP.out c3,show ltProtected P A=false from c4];simp)
    have fp:=(bat B1.out b _ yb).trans (SP.out c3)
    have oX:=overC (w0:=W1) fz
    have oB:=overC (w0:=W1) (show b<W1.heap.size by omega)
    rw[c1] at HV
    refine wp_region_over W1.heap.size W1 (Below.refl _ _) (by kernel_rfl) (by kernel_rfl) ?_
    repeat (go_big_quiet_step ((go_at_call 174;exact over_left (Nat.le_refl _) (HV.out _))))
    refine wpQuiet_nil ?_
    rintro _ ⟨X,rfl⟩
    have hX:=over_below W1.heap.size W1 X
    clear oB oX
    generalize over W1.heap.size W1 X=w2 at *
    have BF:=Lib.hid (BH.out.trans (hX.mono (by omega)))
    clear hX
    clear i3 i5
    have HQ:Hid (protsB l=false):=by show _=_;rw[HE.out];exact HF.out
    go_wp2
    go_ret
    exact⟨by rw[HQ.out];rfl,BF.out⟩
   have le4:=geS_of_lt c4
   have HF:Hid (upOk protB ltProtected l k=true):=by show _=_;rw[HUP.out c3,Bool.and_eq_true];exact⟨HM.out,c4⟩
   have fp:=(bat B1.out b _ yb).trans (SP.out c3)
   have oX:=overC (w0:=W1) fz
   have oB:=overC (w0:=W1) (show b<W1.heap.size by omega)
   rw[c1] at HV
   refine wp_region_over W1.heap.size W1 (Below.refl _ _) (by kernel_rfl) (by kernel_rfl) ?_
   repeat (go_big_quiet_step ((go_at_call 174;exact over_left (Nat.le_refl _) (HV.out _))))
   refine wpQuiet_nil ?_
   rintro _ ⟨X,rfl⟩
   have hX:=over_below W1.heap.size W1 X
   clear oB oX
   generalize over W1.heap.size W1 X=w2 at *
   have BF:=Lib.hid (BH.out.trans (hX.mono (by omega)))
   clear hX
   clear i3 i5
   go_wp2
   go_roundw
   case rel=>exact⟨k+1,by omega,by go_num,upTo_succ HN.out (HF.out),BF.out⟩
   case measure=>simp[intOf];omega
  ·obtain rfl:k=l.length:=by omega
   have HR:Hid (rowOk protB ltProtected l=true):=rowOk_true HN.out
   have HQ:Hid (protsB l=true):=by show _=_;rw[HE.out];exact HR.out
   go_wp2
   go_ret
   exact⟨by rw[HQ.out];rfl,HB.out⟩
theorem sl27Places_any (l:List DProtected) (v:Value) (B:Nat) (w:World) (h:Rd B w (DProtected.sT l) v) (hB:B≤w.heap.size) (hk:∀ x ∈ l,x.ok) (hn:l.length≤1099511627776) :
  Calls Tryz.prog 95 #[v] w fun e w'=>e=.returned (.bool (protsB l))∧Below w.heap.size w w':=by
 obtain⟨a,c,rfl,hnc,hcm,hcells⟩:=DProtected.rd h
 clear h
 have HCL:=Lib.hid hcells
 clear hcells
 have hli:(l.length:Int)≤1099511627776:=by omega
 go_enter Tryz.func95,Tryz.ntmps95
 go_wp2
 go_loopw [3] (fun i wr=>∃ (k:Nat),k≤l.length∧i=.int .i64 k∧(∀ j,j<k→upOk protB ltProtected l j=true)∧Below w.heap.size w wr) (fun i wr=>l.length-(intOf i).toNat)
 case atStart=>exact⟨0,Nat.zero_le _,rfl,fun j hj=>absurd hj (by omega),Below.refl _ _⟩
 case round =>
  obtain⟨k,hk1,rfl,hno,hb⟩:=hrel
  have HN:=Lib.hid hno
  have HB:=Lib.hid hb
  have zb:=hb.size
  clear hno hb
  by_cases hlt:k<l.length
  ·obtain⟨b,off,ea,hbl,hat⟩:=HCL.out (by omega)
   subst ea
   obtain⟨s0,s1,s2,s3,s4,s5,s6⟩:=hat k hlt
   have hok:=hk _ (List.getElem_mem hlt)
   have ks0:=hok.name
   have hbw:b<w.heap.size:=by omega
   rw[← bat HB.out b _ hbw] at s0 s1 s2 s3 s4 s5 s6
   have sp:0<k→wr.cell? ⟨b,off+(k-1)*7,none⟩=some (.string (gProtected l (k-1)).name):=fun h=>by
    have t:=(hat (k-1) (by omega)).1
    rw[← bat HB.out b _ hbw,gProtected_eq (show k-1<l.length by omega)] at t
    exact t
   have SP:=Lib.hid sp
   clear sp hat
   have HUN:Hid (protB (gProtected l k)=false→rowOk protB ltProtected l=false):=fun h=>rowOk_false hlt (upOk_not hlt (by rw[gProtected_eq hlt];exact h))
   have HUZ:Hid (k=0→protB (gProtected l k)=true→upOk protB ltProtected l k=true):=fun e h=>by subst e;rw[upOk_zero hlt,gProtected_eq hlt];exact h
   have HUP:Hid (0<k→upOk protB ltProtected l k=(protB (gProtected l k)&&ltProtected (gProtected l (k-1)) (gProtected l k))):=fun h=>by rw[upOk_pos h hlt,gProtected_eq hlt,gProtected_eq (show k-1<l.length by omega)]
   rw[gProtected_eq hlt] at s0 s1 s2 s3 s4 s5 s6 ks0
   generalize hA:gProtected l k=A at *
   generalize hP:gProtected l (k-1)=P at *
   clear hA hP hok
   have i1:(0:Int)≤(k:Int):=by omega
   have i2:(k:Int)<(l.length:Int):=by omega
   have yb:b<wr.heap.size:=by omega
   have HV:Hid (∀ W:World,Below wr.heap.size wr W→Calls Tryz.prog 156 #[.pointer (some ⟨b,off+k*7,none⟩)] W fun e w'=>e=.returned (.bool (protB A))∧Below W.heap.size W w'):=fun W hW=>l27Place_any A b (off+k*7) W ((bat hW b _ yb).trans s0) ((bat hW b _ yb).trans s1) ((bat hW b _ yb).trans s2) ((bat hW b _ yb).trans s3) ((bat hW b _ yb).trans s4) ((bat hW b _ yb).trans s5) ((bat hW b _ yb).trans s6) ks0
   by_cases c1:protB A=true
   case neg =>
    replace c1:protB A=false:=Bool.eq_false_iff.2 c1
    have HF:Hid (rowOk protB ltProtected l=false):=HUN.out c1
    have oB:=overC (w0:=wr) (show b<wr.heap.size by omega)
    rw[c1] at HV
    go_wp2
    refine wp_region_over wr.heap.size wr (Below.refl _ _) (by kernel_rfl) (by kernel_rfl) ?_
    repeat (go_big_quiet_step ((go_at_call 156;exact over_left (Nat.le_refl _) (HV.out _ (over_below _ _ _)))))
    refine wpQuiet_nil ?_
    rintro _ ⟨X,rfl⟩
    have hX:=over_below wr.heap.size wr X
    clear oB
    generalize over wr.heap.size wr X=w2 at *
    have BF:=Lib.hid (HB.out.trans (hX.mono (by omega)))
    clear hX
    have HQ:Hid (protsB l=false):=by show _=_;unfold protsB;rw[HF.out];simp
    go_wp2
    go_ret
    exact⟨by rw[HQ.out];rfl,BF.out⟩
   have HM:Hid (protB A=true):=c1
   by_cases c3:0<k
   case neg =>
    have i8:decide (0<k)=false:=by simpa using c3
    have HF:Hid (upOk protB ltProtected l k=true):=HUZ.out (by omega) HM.out
    have oB:=overC (w0:=wr) (show b<wr.heap.size by omega)
    rw[c1] at HV
    go_wp2
    refine wp_region_over wr.heap.size wr (Below.refl _ _) (by kernel_rfl) (by kernel_rfl) ?_
    repeat (go_big_quiet_step ((go_at_call 156;exact over_left (Nat.le_refl _) (HV.out _ (over_below _ _ _)))))
    refine wpQuiet_nil ?_
    rintro _ ⟨X,rfl⟩
    have hX:=over_below wr.heap.size wr X
    clear oB
    generalize over wr.heap.size wr X=w2 at *
    have BF:=Lib.hid (HB.out.trans (hX.mono (by omega)))
    clear hX
    go_wp2
    go_roundw
    case rel=>exact⟨k+1,by omega,by go_num,upTo_succ HN.out (HF.out),BF.out⟩
    case measure=>simp[intOf];omega
   have i3:IntKind.i64.wrap ((k:Int)-1)=(k:Int)-1:=IntWalk.i64_in _ (by omega)
   have i4:(0:Int)≤(k:Int)-1:=by omega
   have i6:(k:Int)-1<(l.length:Int):=by omega
   have i7:(1:Int)≤(k:Int):=by omega
   have i8:decide (0<k)=true:=by simpa using c3
   have i5:((k:Int)-1).toNat=k-1:=by omega
   by_cases c4:ltS P.name A.name=true
   case neg =>
    replace c4:ltS P.name A.name=false:=Bool.eq_false_iff.2 c4
    have le4:Op.bytesLess P.name.toList A.name.toList=false:=c4
    have HF:Hid (rowOk protB ltProtected l=false):=rowOk_false hlt (by rw[HUP.out c3,show ltProtected P A=false from c4];simp)
    have fp:=SP.out c3
    have oB:=overC (w0:=wr) (show b<wr.heap.size by omega)
    rw[c1] at HV
    go_wp2
    refine wp_region_over wr.heap.size wr (Below.refl _ _) (by kernel_rfl) (by kernel_rfl) ?_
    repeat (go_big_quiet_step ((go_at_call 156;exact over_left (Nat.le_refl _) (HV.out _ (over_below _ _ _)))))
    refine wpQuiet_nil ?_
    rintro _ ⟨X,rfl⟩
    have hX:=over_below wr.heap.size wr X
    clear oB
    generalize over wr.heap.size wr X=w2 at *
    have BF:=Lib.hid (HB.out.trans (hX.mono (by omega)))
    clear hX
    clear i3 i5
    have HQ:Hid (protsB l=false):=by show _=_;unfold protsB;rw[HF.out];simp
    go_wp2
    go_ret
    exact⟨by rw[HQ.out];rfl,BF.out⟩
   have le4:Op.bytesLess P.name.toList A.name.toList=true:=c4
   have HF:Hid (upOk protB ltProtected l k=true):=by show _=_;rw[HUP.out c3,Bool.and_eq_true];exact⟨HM.out,c4⟩
   have fp:=SP.out c3
   have oB:=overC (w0:=wr) (show b<wr.heap.size by omega)
   rw[c1] at HV
   go_wp2
   refine wp_region_over wr.heap.size wr (Below.refl _ _) (by kernel_rfl) (by kernel_rfl) ?_
   repeat (go_big_quiet_step ((go_at_call 156;exact over_left (Nat.le_refl _) (HV.out _ (over_below _ _ _)))))
   refine wpQuiet_nil ?_
   rintro _ ⟨X,rfl⟩
   have hX:=over_below wr.heap.size wr X
   clear oB
   generalize over wr.heap.size wr X=w2 at *
   have BF:=Lib.hid (HB.out.trans (hX.mono (by omega)))
   clear hX
   clear i3 i5
   go_wp2
   go_roundw
   case rel=>exact⟨k+1,by omega,by go_num,upTo_succ HN.out (HF.out),BF.out⟩
   case measure=>simp[intOf];omega
  ·obtain rfl:k=l.length:=by omega
   have HR:Hid (rowOk protB ltProtected l=true):=rowOk_true HN.out
   by_cases hlim:l.length≤12
   ·have hlj:(l.length:Int)≤12:=by omega
    have HQ:Hid (protsB l=true):=by show _=_;unfold protsB;rw[HR.out,decide_eq_true hlim];rfl
    go_wp2
    go_ret
    exact⟨by rw[HQ.out];rfl,HB.out⟩
   ·have hlj:12<l.length:=by omega
    have hlk:(12:Int)<(l.length:Int):=by omega
    have HQ:Hid (protsB l=false):=by show _=_;unfold protsB;rw[HR.out,decide_eq_false hlim];rfl
    have HZ:Hid (decide ((l.length:Int)≤12)=false):=decide_eq_false (by omega)
    go_wp2
    go_ret
    exact⟨by rw[HQ.out,← HZ.out];rfl,HB.out⟩
end Go.Proofs.YtjfmkmcefnidcaaGreat
