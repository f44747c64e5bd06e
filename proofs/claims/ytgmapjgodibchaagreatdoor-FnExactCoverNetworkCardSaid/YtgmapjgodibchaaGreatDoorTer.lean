/- Contracts: places in a terrain, for the program and for the reference. Conditions: bounded sizes. -/
import Derived.Test.YtgmapjgodibchaaGreatDoorPl1
import Derived.Test.YtgmapjgodibchaaGreatDoorBox
import Derived.Test.YtgmapjgodibchaaGreatDoorOverTail
import Derived.Lib.MinMax
import Derived.Test.YtgmapjgodibchaaGreatDoorNetC
import Derived.Test.YtgmapjgodibchaaGreatDoorHAntenna
set_option linter.unusedVariables false
set_option linter.unusedSimpArgs false
namespace Go.Proofs.YtgmapjgodibchaaGreatDoor
open Go.RowKit
open Go.RowKit
open Go.RowKit
open Go.RowKit
theorem allR_true {f:Nat→Bool} {n:Nat} (h:∀ j,j<n→f j=true):(List.range n).all f=true:=by
 rw[List.all_eq_true];intro j hj;exact h j (by simpa using hj)
theorem allR_false {f:Nat→Bool} {n k:Nat} (hk:k<n) (h:f k=false):(List.range n).all f=false:=by
 rw[List.all_eq_false];exact⟨k,by simpa using hk,by simp[h]⟩
open Go.RowKit
set_option maxHeartbeats 8000000
set_option maxRecDepth 100000
open Go.RowKit
def zei (s w h:Int):Bool:=inB s 1 10000&&(inB w 2 24&&(inB h 2 24&&decide (max (w-1) (h-1)*s≤200000)))
def sizeS (s w h:Int):Bool:=inB s 1 10000&&(inB w 2 24&&(inB h 2 24&&(decide ((w-1)*s≤200000)&&decide ((h-1)*s≤200000))))
theorem mulB {m s:Int} (h1:0≤m) (h2:m≤23) (h3:1≤s) (h4:s≤10000):0≤m*s∧m*s≤230000:=by
 refine⟨Int.mul_nonneg h1 O,?_⟩;have:=Int.mul_le_mul h2 h4 O O;omega
theorem mulW {a b:Int} (h1:2≤a) (h2:a≤24) (h3:2≤b) (h4:b≤24):4≤a*b∧a*b≤576:=by
 have h5:=Int.mul_le_mul h2 h4 O O;have h6:=Int.mul_le_mul h1 h3 O O;omega
theorem sizeS_eq (s w h:Int):sizeS s w h=zei s w h:=by
 unfold sizeS zei;rw[Bool.eq_iff_iff];simp only[inB,Bool.and_eq_true,decide_eq_true_eq]
 constructor
 ·rintro⟨h0,h1,h2,h3,h4⟩
  refine⟨h0,h1,h2,?_⟩
  rcases Int.le_total (w-1) (h-1) with e|e
  ·rw[Int.max_eq_right e];exact h4
  ·rw[Int.max_eq_left e];exact h3
 ·rintro⟨h0,h1,h2,h3⟩
  have a1:(w-1)*s≤max (w-1) (h-1)*s:=Int.mul_le_mul_of_nonneg_right (Int.le_max_left _ _) O;have a2:(h-1)*s≤max (w-1) (h-1)*s:=Int.mul_le_mul_of_nonneg_right (Int.le_max_right _ _) O;exact⟨h0,h1,h2,O,O⟩
def zc6 (t:DTerrain):Bool:=zei t.step t.width t.height&&(((t.heights.length:Int) == t.width*t.height)&&(((t.clutter.length:Int) == (t.heights.length:Int))&&((t.heights.all fun n=>inB n 0 90000)&&(t.clutter.all fun n=>inB n 0 7))))
def terrAt (t:DTerrain) (i:Nat):Bool:=inB (gi t.heights i) 0 90000&&inB (gi t.clutter i) 0 7
def terrS (t:DTerrain):Bool:=zei t.step t.width t.height&&(((t.heights.length:Int) == t.width*t.height)&&(((t.clutter.length:Int) == (t.heights.length:Int))&&(List.range t.heights.length).all (terrAt t)))
theorem all_range (l:List Int) (lo hi:Int):(l.all fun n=>inB n lo hi)=(List.range l.length).all (fun i=>inB (gi l i) lo hi):=by
 rw[Bool.eq_iff_iff,all_iff,List.all_eq_true]
 constructor
 ·intro h i hi;exact h i (by simpa using hi)
 ·intro h i hi;exact h i (by simpa using hi)
theorem all_and (f g:Nat→Bool) (n:Nat):(List.range n).all (fun i=>f i&&g i)=((List.range n).all f&&(List.range n).all g):=by
 rw[Bool.eq_iff_iff,Bool.and_eq_true,List.all_eq_true,List.all_eq_true,List.all_eq_true]
 constructor
 ·intro h;exact⟨fun i hi=>by have:=h i hi;simp only[Bool.and_eq_true] at this;exact this.1,fun i hi=>by have:=h i hi;simp only[Bool.and_eq_true] at this;exact this.2⟩
 ·rintro⟨h1,h2⟩ i hi;rw[h1 i hi,h2 i hi];rfl
theorem terrS_eq (t:DTerrain):terrS t=zc6 t:=by
 unfold terrS zc6
 by_cases h:((t.clutter.length:Int) == (t.heights.length:Int))=true
 ·have e:t.clutter.length=t.heights.length:=by have:=eq_of_beq h;omega
  rw[all_range t.heights,all_range t.clutter,e,← all_and]
  rfl
 ·have h2:((t.clutter.length:Int) == (t.heights.length:Int))=false:=Bool.eq_false_iff.2 h
  rw[h2];simp
theorem zee (s w h:Int) (W:World) :
  Calls Tryz.prog 99 #[I s,I w,I h] W fun e w'=>e=.returned (.bool (zei s w h))∧W=w':=by
 by_cases h0:inB s 1 10000=true
 case neg =>
  replace h0:inB s 1 10000=false:=Bool.eq_false_iff.2 h0;have HE:Hid (zei s w h=false):=by show _=_;unfold zei;simp only[h0]<;>rfl
  go_enter Tryz.func99,Tryz.ntmps99;go_wp2_with (first|(go_at_call 54;refine (zao _ _ _ _).mono ?_;rintro e w1 ⟨rfl,rfl⟩));go_ret;exact⟨by rw[HE.out];rfl,by rfl⟩
 obtain⟨hah0,hbh0⟩:=zat.1 h0
 by_cases h1:inB w 2 24=true
 case neg =>
  replace h1:inB w 2 24=false:=Bool.eq_false_iff.2 h1;have HE:Hid (zei s w h=false):=by show _=_;unfold zei;simp only[h0,h1]<;>rfl
  go_enter Tryz.func99,Tryz.ntmps99;go_wp2_with (first|(go_at_call 54;refine (zao _ _ _ _).mono ?_;rintro e w1 ⟨rfl,rfl⟩));go_ret;exact⟨by rw[HE.out];rfl,by rfl⟩
 obtain⟨hah1,hbh1⟩:=zat.1 h1
 by_cases h2:inB h 2 24=true
 case neg =>
  replace h2:inB h 2 24=false:=Bool.eq_false_iff.2 h2;have HE:Hid (zei s w h=false):=by show _=_;unfold zei;simp only[h0,h1,h2]<;>rfl
  go_enter Tryz.func99,Tryz.ntmps99;go_wp2_with (first|(go_at_call 54;refine (zao _ _ _ _).mono ?_;rintro e w1 ⟨rfl,rfl⟩));go_ret;exact⟨by rw[HE.out];rfl,by rfl⟩
 obtain⟨hah2,hbh2⟩:=zat.1 h2
 by_cases h3:max (w-1) (h-1)*s≤200000
 case neg =>
  have hd3:decide (max (w-1) (h-1)*s≤200000)=false:=decide_eq_false h3;replace h3:200000<max (w-1) (h-1)*s:=O
  have hm0:0≤max (w-1) (h-1):=O
  have hm1:max (w-1) (h-1)≤23:=O
  obtain⟨hm2,hm3⟩:=mulB hm0 hm1 hah0 hbh0;have HE:Hid (zei s w h=false):=by show _=_;unfold zei;simp only[h0,h1,h2,hd3]<;>rfl
  go_enter Tryz.func99,Tryz.ntmps99;go_wp2_with (first|(go_at_call 54;refine (zao _ _ _ _).mono ?_;rintro e w1 ⟨rfl,rfl⟩));go_ret;exact⟨by rw[HE.out];rfl,by rfl⟩
 have hd3:decide (max (w-1) (h-1)*s≤200000)=true:=decide_eq_true h3;have hm0:0≤max (w-1) (h-1):=O
 have hm1:max (w-1) (h-1)≤23:=O
 obtain⟨hm2,hm3⟩:=mulB hm0 hm1 hah0 hbh0;have HE:Hid (zei s w h=true):=by show _=_;unfold zei;simp only[h0,h1,h2,hd3]<;>rfl
 go_enter Tryz.func99,Tryz.ntmps99;go_wp2_with (first|(go_at_call 54;refine (zao _ _ _ _).mono ?_;rintro e w1 ⟨rfl,rfl⟩));go_ret;exact⟨by rw[HE.out];rfl,by rfl⟩
theorem l04Size_any (s w h:Int) (W:World) :
  Calls Tryz.prog 128 #[I s,I w,I h] W fun e w'=>e=.returned (.bool (sizeS s w h))∧W=w':=by
 by_cases h0:inB s 1 10000=true
 case neg =>
  replace h0:inB s 1 10000=false:=Bool.eq_false_iff.2 h0;have HE:Hid (sizeS s w h=false):=by show _=_;unfold sizeS;simp only[h0]<;>rfl
  go_enter Tryz.func128,Tryz.ntmps128;go_wp2_with (first|(go_at_call 89;refine (zaq _ _ _ _).mono ?_;rintro e w1 ⟨rfl,rfl⟩));go_ret;exact⟨by rw[HE.out];rfl,by rfl⟩
 obtain⟨hah0,hbh0⟩:=zat.1 h0
 by_cases h1:inB w 2 24=true
 case neg =>
  replace h1:inB w 2 24=false:=Bool.eq_false_iff.2 h1;have HE:Hid (sizeS s w h=false):=by show _=_;unfold sizeS;simp only[h0,h1]<;>rfl
  go_enter Tryz.func128,Tryz.ntmps128;go_wp2_with (first|(go_at_call 89;refine (zaq _ _ _ _).mono ?_;rintro e w1 ⟨rfl,rfl⟩));go_ret;exact⟨by rw[HE.out];rfl,by rfl⟩
 obtain⟨hah1,hbh1⟩:=zat.1 h1
 by_cases h2:inB h 2 24=true
 case neg =>
  replace h2:inB h 2 24=false:=Bool.eq_false_iff.2 h2;have HE:Hid (sizeS s w h=false):=by show _=_;unfold sizeS;simp only[h0,h1,h2]<;>rfl
  go_enter Tryz.func128,Tryz.ntmps128;go_wp2_with (first|(go_at_call 89;refine (zaq _ _ _ _).mono ?_;rintro e w1 ⟨rfl,rfl⟩));go_ret;exact⟨by rw[HE.out];rfl,by rfl⟩
 obtain⟨hah2,hbh2⟩:=zat.1 h2
 by_cases h3:(w-1)*s≤200000
 case neg =>
  have hd3:decide ((w-1)*s≤200000)=false:=decide_eq_false h3;replace h3:200000<(w-1)*s:=O
  obtain⟨hm2,hm3⟩:=mulB (m:=w-1) O O hah0 hbh0;obtain⟨hm4,hm5⟩:=mulB (m:=h-1) O O hah0 hbh0;have HE:Hid (sizeS s w h=false):=by show _=_;unfold sizeS;simp only[h0,h1,h2,hd3]<;>rfl
  go_enter Tryz.func128,Tryz.ntmps128;go_wp2_with (first|(go_at_call 89;refine (zaq _ _ _ _).mono ?_;rintro e w1 ⟨rfl,rfl⟩));go_ret;exact⟨by rw[HE.out];rfl,by rfl⟩
 have hd3:decide ((w-1)*s≤200000)=true:=decide_eq_true h3
 by_cases h4:(h-1)*s≤200000
 case neg =>
  have hd4:decide ((h-1)*s≤200000)=false:=decide_eq_false h4;replace h4:200000<(h-1)*s:=O
  obtain⟨hm2,hm3⟩:=mulB (m:=w-1) O O hah0 hbh0;obtain⟨hm4,hm5⟩:=mulB (m:=h-1) O O hah0 hbh0;have HE:Hid (sizeS s w h=false):=by show _=_;unfold sizeS;simp only[h0,h1,h2,hd3,hd4]<;>rfl
  go_enter Tryz.func128,Tryz.ntmps128;go_wp2_with (first|(go_at_call 89;refine (zaq _ _ _ _).mono ?_;rintro e w1 ⟨rfl,rfl⟩));go_ret;exact⟨by rw[HE.out];rfl,by rfl⟩
 have hd4:decide ((h-1)*s≤200000)=true:=decide_eq_true h4;obtain⟨hm2,hm3⟩:=mulB (m:=w-1) O O hah0 hbh0;obtain⟨hm4,hm5⟩:=mulB (m:=h-1) O O hah0 hbh0;have HE:Hid (sizeS s w h=true):=by show _=_;unfold sizeS;simp only[h0,h1,h2,hd3,hd4]<;>rfl
 go_enter Tryz.func128,Tryz.ntmps128;go_wp2_with (first|(go_at_call 89;refine (zaq _ _ _ _).mono ?_;rintro e w1 ⟨rfl,rfl⟩));go_ret;exact⟨by rw[HE.out];rfl,by rfl⟩
theorem sizeB_bounds {s w h:Int} (e:zei s w h=true):2≤w∧w≤24∧2≤h∧h≤24:=by
 unfold zei at e;simp only[inB,Bool.and_eq_true,decide_eq_true_eq] at e;omega
theorem validTerrain_any (t:DTerrain) (vh vc:Value) (B:Nat) (w:World) (hh:Rd B w (zai t.heights) vh) (hc:Rd B w (zai t.clutter) vc) (hB:B≤w.heap.size) (m0:t.heights.length≤1099511627776) (m1:t.clutter.length≤1099511627776) :
  Calls Tryz.prog 51 #[.agg #[I t.step,I t.width,I t.height,vh,vc]] w fun e w'=>e=.returned (.bool (zc6 t))∧IJ w w w':=by
 obtain⟨ah,ch,eh,_,_,_⟩:=Rd.ints hh;obtain⟨ac,cc,ec,_,_,_⟩:=Rd.ints hc;subst eh ec;have HH:=J hh;have HC:=J hc;clear hh hc;have mz0:(t.heights.length:Int)≤1099511627776:=O
 have mz1:(t.clutter.length:Int)≤1099511627776:=O
 have B0:Hid (IJ w w (w.alloc (.cells #[I t.step,I t.width,I t.height,II ah t.heights.length ch,II ac t.clutter.length cc] 37))):=(Below.alloc (Below.refl _ _) (by first|exact Nat.le_refl _|(simp;done)|(simp<;>omega)) _)
 have HD:Hid (∀ W:World,IJ (w.alloc (.cells #[I t.step,I t.width,I t.height,II ah t.heights.length ch,II ac t.clutter.length cc] 37)).heap.size (w.alloc (.cells #[I t.step,I t.width,I t.height,II ah t.heights.length ch,II ac t.clutter.length cc] 37)) W→(W.cell? ⟨w,0,none⟩=some (I t.step)∧W.cell? ⟨w,1,none⟩=some (I t.width)∧W.cell? ⟨w,2,none⟩=some (I t.height)∧W.cell? ⟨w,3,none⟩=some (II ah t.heights.length ch)∧W.cell? ⟨w,4,none⟩=some (II ac t.clutter.length cc))):=fun W hW=>⟨by rw[hW.cell (p:=⟨w,0,none⟩) (by first|(simp;done)|(simp<;>omega))];simp[go_sem],by rw[hW.cell (p:=⟨w,1,none⟩) (by first|(simp;done)|(simp<;>omega))];simp[go_sem],by rw[hW.cell (p:=⟨w,2,none⟩) (by first|(simp;done)|(simp<;>omega))];simp[go_sem],by rw[hW.cell (p:=⟨w,3,none⟩) (by first|(simp;done)|(simp<;>omega))];simp[go_sem],by rw[hW.cell (p:=⟨w,4,none⟩) (by first|(simp;done)|(simp<;>omega))];simp[go_sem]⟩
 have HB:Hid (IJ (w.alloc (.cells #[I t.step,I t.width,I t.height,II ah t.heights.length ch,II ac t.clutter.length cc] 37)).heap.size (w.alloc (.cells #[I t.step,I t.width,I t.height,II ah t.heights.length ch,II ac t.clutter.length cc] 37)) (w.alloc (.cells #[I t.step,I t.width,I t.height,II ah t.heights.length ch,II ac t.clutter.length cc] 37))):=Below.refl _ _;have C0:Hid (∀ W:World,IJ (w.alloc (.cells #[I t.step,I t.width,I t.height,II ah t.heights.length ch,II ac t.clutter.length cc] 37)).heap.size (w.alloc (.cells #[I t.step,I t.width,I t.height,II ah t.heights.length ch,II ac t.clutter.length cc] 37)) W→Calls Tryz.prog 100 #[II ah t.heights.length ch,I 0,I 90000] W fun e w'=>e=.returned (.bool (t.heights.all fun n=>inB n 0 90000))∧IJ W W w'):=fun W hW=>zdo _ _ _ _ B W (HH.out.below ((B0.out.trans (hW.mono (by simp))).mono hB)) (by have:=hW.size;simp at this;omega) O
 have C1:Hid (∀ W:World,IJ (w.alloc (.cells #[I t.step,I t.width,I t.height,II ah t.heights.length ch,II ac t.clutter.length cc] 37)).heap.size (w.alloc (.cells #[I t.step,I t.width,I t.height,II ah t.heights.length ch,II ac t.clutter.length cc] 37)) W→Calls Tryz.prog 100 #[II ac t.clutter.length cc,I 0,I 7] W fun e w'=>e=.returned (.bool (t.clutter.all fun n=>inB n 0 7))∧IJ W W w'):=fun W hW=>zdo _ _ _ _ B W (HC.out.below ((B0.out.trans (hW.mono (by simp))).mono hB)) (by have:=hW.size;simp at this;omega) O
 by_cases h0:zei t.step t.width t.height=true
 case neg =>
  replace h0:zei t.step t.width t.height=false:=Bool.eq_false_iff.2 h0;have HE:Hid (zc6 t=false):=by show _=_;unfold zc6;simp only[h0]<;>rfl
  go_enter Tryz.func51,Tryz.ntmps51;go_wp2_with (first|(go_at_call 99;refine (zee _ _ _ _).mono ?_;rintro e w1 ⟨rfl,rfl⟩)|(go_at_call 100;with_reducible refine (C0.out _ HB.out).mono ?_;rintro e w2 ⟨rfl,hb2⟩;(try clear t0 t1 t2 t3 t4);replace HB:=J (HB.out.trans (hb2.mono HB.out.size));clear hb2;obtain⟨t0,t1,t2,t3,t4⟩:=HD.out _ HB.out)|(go_at_call 100;with_reducible refine (C1.out _ HB.out).mono ?_;rintro e w2 ⟨rfl,hb2⟩;(try clear t0 t1 t2 t3 t4);replace HB:=J (HB.out.trans (hb2.mono HB.out.size));clear hb2;obtain⟨t0,t1,t2,t3,t4⟩:=HD.out _ HB.out));go_ret;exact⟨by rw[HE.out];rfl,by exact B0.out.trans (HB.out.mono (by first|exact Nat.le_refl _|(simp;done)|(simp<;>omega)))⟩
 obtain⟨hw1,hw2,hg1,hg2⟩:=sizeB_bounds h0;obtain⟨hq1,hq2⟩:=mulW hw1 hw2 hg1 hg2
 by_cases h1:((t.heights.length:Int) == t.width*t.height)=true
 case neg =>
  replace h1:((t.heights.length:Int) == t.width*t.height)=false:=Bool.eq_false_iff.2 h1;have HE:Hid (zc6 t=false):=by show _=_;unfold zc6;simp only[h0,h1]<;>rfl
  go_enter Tryz.func51,Tryz.ntmps51;go_wp2_with (first|(go_at_call 99;refine (zee _ _ _ _).mono ?_;rintro e w1 ⟨rfl,rfl⟩)|(go_at_call 100;with_reducible refine (C0.out _ HB.out).mono ?_;rintro e w2 ⟨rfl,hb2⟩;(try clear t0 t1 t2 t3 t4);replace HB:=J (HB.out.trans (hb2.mono HB.out.size));clear hb2;obtain⟨t0,t1,t2,t3,t4⟩:=HD.out _ HB.out)|(go_at_call 100;with_reducible refine (C1.out _ HB.out).mono ?_;rintro e w2 ⟨rfl,hb2⟩;(try clear t0 t1 t2 t3 t4);replace HB:=J (HB.out.trans (hb2.mono HB.out.size));clear hb2;obtain⟨t0,t1,t2,t3,t4⟩:=HD.out _ HB.out));go_ret;exact⟨by rw[HE.out];rfl,by exact B0.out.trans (HB.out.mono (by first|exact Nat.le_refl _|(simp;done)|(simp<;>omega)))⟩
 by_cases h2:((t.clutter.length:Int) == (t.heights.length:Int))=true
 case neg =>
  replace h2:((t.clutter.length:Int) == (t.heights.length:Int))=false:=Bool.eq_false_iff.2 h2;have HE:Hid (zc6 t=false):=by show _=_;unfold zc6;simp only[h0,h1,h2]<;>rfl
  go_enter Tryz.func51,Tryz.ntmps51;go_wp2_with (first|(go_at_call 99;refine (zee _ _ _ _).mono ?_;rintro e w1 ⟨rfl,rfl⟩)|(go_at_call 100;with_reducible refine (C0.out _ HB.out).mono ?_;rintro e w2 ⟨rfl,hb2⟩;(try clear t0 t1 t2 t3 t4);replace HB:=J (HB.out.trans (hb2.mono HB.out.size));clear hb2;obtain⟨t0,t1,t2,t3,t4⟩:=HD.out _ HB.out)|(go_at_call 100;with_reducible refine (C1.out _ HB.out).mono ?_;rintro e w2 ⟨rfl,hb2⟩;(try clear t0 t1 t2 t3 t4);replace HB:=J (HB.out.trans (hb2.mono HB.out.size));clear hb2;obtain⟨t0,t1,t2,t3,t4⟩:=HD.out _ HB.out));go_ret;exact⟨by rw[HE.out];rfl,by exact B0.out.trans (HB.out.mono (by first|exact Nat.le_refl _|(simp;done)|(simp<;>omega)))⟩
 by_cases h3:(t.heights.all fun n=>inB n 0 90000)=true
 case neg =>
  replace h3:(t.heights.all fun n=>inB n 0 90000)=false:=Bool.eq_false_iff.2 h3;have HE:Hid (zc6 t=false):=by show _=_;unfold zc6;simp only[h0,h1,h2,h3]<;>rfl
  go_enter Tryz.func51,Tryz.ntmps51;go_wp2_with (first|(go_at_call 99;refine (zee _ _ _ _).mono ?_;rintro e w1 ⟨rfl,rfl⟩)|(go_at_call 100;with_reducible refine (C0.out _ HB.out).mono ?_;rintro e w2 ⟨rfl,hb2⟩;(try clear t0 t1 t2 t3 t4);replace HB:=J (HB.out.trans (hb2.mono HB.out.size));clear hb2;obtain⟨t0,t1,t2,t3,t4⟩:=HD.out _ HB.out)|(go_at_call 100;with_reducible refine (C1.out _ HB.out).mono ?_;rintro e w2 ⟨rfl,hb2⟩;(try clear t0 t1 t2 t3 t4);replace HB:=J (HB.out.trans (hb2.mono HB.out.size));clear hb2;obtain⟨t0,t1,t2,t3,t4⟩:=HD.out _ HB.out));go_ret;exact⟨by rw[HE.out];rfl,by exact B0.out.trans (HB.out.mono (by first|exact Nat.le_refl _|(simp;done)|(simp<;>omega)))⟩
 by_cases h4:(t.clutter.all fun n=>inB n 0 7)=true
 case neg =>
  replace h4:(t.clutter.all fun n=>inB n 0 7)=false:=Bool.eq_false_iff.2 h4;have HE:Hid (zc6 t=false):=by show _=_;unfold zc6;simp only[h0,h1,h2,h3,h4]<;>rfl
  go_enter Tryz.func51,Tryz.ntmps51;go_wp2_with (first|(go_at_call 99;refine (zee _ _ _ _).mono ?_;rintro e w1 ⟨rfl,rfl⟩)|(go_at_call 100;with_reducible refine (C0.out _ HB.out).mono ?_;rintro e w2 ⟨rfl,hb2⟩;(try clear t0 t1 t2 t3 t4);replace HB:=J (HB.out.trans (hb2.mono HB.out.size));clear hb2;obtain⟨t0,t1,t2,t3,t4⟩:=HD.out _ HB.out)|(go_at_call 100;with_reducible refine (C1.out _ HB.out).mono ?_;rintro e w2 ⟨rfl,hb2⟩;(try clear t0 t1 t2 t3 t4);replace HB:=J (HB.out.trans (hb2.mono HB.out.size));clear hb2;obtain⟨t0,t1,t2,t3,t4⟩:=HD.out _ HB.out));go_ret;exact⟨by rw[HE.out];rfl,by exact B0.out.trans (HB.out.mono (by first|exact Nat.le_refl _|(simp;done)|(simp<;>omega)))⟩
 have HE:Hid (zc6 t=true):=by show _=_;unfold zc6;simp only[h0,h1,h2,h3,h4]<;>rfl
 go_enter Tryz.func51,Tryz.ntmps51;go_wp2_with (first|(go_at_call 99;refine (zee _ _ _ _).mono ?_;rintro e w1 ⟨rfl,rfl⟩)|(go_at_call 100;with_reducible refine (C0.out _ HB.out).mono ?_;rintro e w2 ⟨rfl,hb2⟩;(try clear t0 t1 t2 t3 t4);replace HB:=J (HB.out.trans (hb2.mono HB.out.size));clear hb2;obtain⟨t0,t1,t2,t3,t4⟩:=HD.out _ HB.out)|(go_at_call 100;with_reducible refine (C1.out _ HB.out).mono ?_;rintro e w2 ⟨rfl,hb2⟩;(try clear t0 t1 t2 t3 t4);replace HB:=J (HB.out.trans (hb2.mono HB.out.size));clear hb2;obtain⟨t0,t1,t2,t3,t4⟩:=HD.out _ HB.out));go_ret;exact⟨by rw[HE.out];rfl,by exact B0.out.trans (HB.out.mono (by first|exact Nat.le_refl _|(simp;done)|(simp<;>omega)))⟩
theorem l04Ok_any (t:DTerrain) (vh vc:Value) (b off B:Nat) (w:World) (hh:Rd B w (zai t.heights) vh) (hc:Rd B w (zai t.clutter) vc) (hB:B≤w.heap.size) (c0:w.cell? ⟨b,off,none⟩=some (I t.step)) (c1:w.cell? ⟨b,off+1,none⟩=some (I t.width)) (c2:w.cell? ⟨b,off+2,none⟩=some (I t.height)) (c3:w.cell? ⟨b,off+3,none⟩=some vh) (c4:w.cell? ⟨b,off+4,none⟩=some vc) (m0:t.heights.length≤1099511627776) (m1:t.clutter.length≤1099511627776) :
  Calls Tryz.prog 86 #[.pointer (some ⟨b,off,none⟩)] w fun e w'=>e=.returned (.bool (zc6 t))∧IJ w w w':=by
 rw[← terrS_eq];obtain⟨ah,ch,eh,_,_,_⟩:=Rd.ints hh;obtain⟨ac,cc,ec,_,_,_⟩:=Rd.ints hc;subst eh ec;have HH:=J hh;have HC:=J hc;clear hh hc;have mz0:(t.heights.length:Int)≤1099511627776:=O
 have mz1:(t.clutter.length:Int)≤1099511627776:=O
 have hbl:=zbh c0
 dsimp only at hbl
 have CZ:Hid (∀ W:World,Calls Tryz.prog 128 #[I t.step,I t.width,I t.height] W fun e w'=>e=.returned (.bool (zei t.step t.width t.height))∧W=w'):=fun W=>by rw[← sizeS_eq];exact l04Size_any _ _ _ W
 by_cases h0:zei t.step t.width t.height=true
 case neg =>
  replace h0:zei t.step t.width t.height=false:=Bool.eq_false_iff.2 h0;rw[h0] at CZ;have HE:Hid (terrS t=false):=by show _=_;unfold terrS;simp only[h0]<;>rfl
  go_enter Tryz.func86,Tryz.ntmps86;go_upto_region 1 with (fail);have oB:=zal (w0:=w) (show b<w.heap.size by omega);refine zad w.heap.size w (Below.refl _ _) OJ OJ ?_
  repeat (go_big_quiet_step ((go_at_call 128;exact zbm (CZ.out _))))
  refine wpQuiet_nil ?_;rintro _ ⟨X,rfl⟩;have BE:=J (zaa w.heap.size w X);clear oB;generalize over w.heap.size w X=W9 at *;go_wp2;go_ret;exact⟨by rw[HE.out];rfl,BE.out⟩
 rw[h0] at CZ;obtain⟨hw1,hw2,hg1,hg2⟩:=sizeB_bounds h0;obtain⟨hq1,hq2⟩:=mulW hw1 hw2 hg1 hg2
 by_cases h1:((t.heights.length:Int) == t.width*t.height)=true
 case neg =>
  replace h1:((t.heights.length:Int) == t.width*t.height)=false:=Bool.eq_false_iff.2 h1;have hn1:((t.heights.length:Int) != t.width*t.height)=true:=by rw[bne,h1];rfl
  have HE:Hid (terrS t=false):=by show _=_;unfold terrS;simp only[h0,h1]<;>rfl
  go_enter Tryz.func86,Tryz.ntmps86;go_upto_region 1 with (fail);have oB:=zal (w0:=w) (show b<w.heap.size by omega);refine zad w.heap.size w (Below.refl _ _) OJ OJ ?_
  repeat (go_big_quiet_step ((go_at_call 128;exact zbm (CZ.out _))))
  refine wpQuiet_nil ?_;rintro _ ⟨X,rfl⟩;have BE:=J (zaa w.heap.size w X);clear oB;generalize over w.heap.size w X=W9 at *;go_wp2;go_ret;exact⟨by rw[HE.out];rfl,BE.out⟩
 have hn1:((t.heights.length:Int) != t.width*t.height)=false:=by rw[bne,h1];rfl
 by_cases h2:((t.clutter.length:Int) == (t.heights.length:Int))=true
 case neg =>
  replace h2:((t.clutter.length:Int) == (t.heights.length:Int))=false:=Bool.eq_false_iff.2 h2;have hn2:((t.clutter.length:Int) != (t.heights.length:Int))=true:=by rw[bne,h2];rfl
  have HE:Hid (terrS t=false):=by show _=_;unfold terrS;simp only[h0,h1,h2]<;>rfl
  go_enter Tryz.func86,Tryz.ntmps86;go_upto_region 1 with (fail);have oB:=zal (w0:=w) (show b<w.heap.size by omega);refine zad w.heap.size w (Below.refl _ _) OJ OJ ?_
  repeat (go_big_quiet_step ((go_at_call 128;exact zbm (CZ.out _))))
  refine wpQuiet_nil ?_;rintro _ ⟨X,rfl⟩;have BE:=J (zaa w.heap.size w X);clear oB;generalize over w.heap.size w X=W9 at *;go_wp2;go_ret;exact⟨by rw[HE.out];rfl,BE.out⟩
 have hn2:((t.clutter.length:Int) != (t.heights.length:Int))=false:=by rw[bne,h2];rfl
 have HE:Hid (terrS t=(List.range t.heights.length).all (terrAt t)):=by show _=_;unfold terrS;simp only[h0,h1,h2,Bool.true_and]
 have hlen:t.clutter.length=t.heights.length:=by have:=eq_of_beq h2;omega
 go_enter Tryz.func86,Tryz.ntmps86;go_upto_region 1 with (fail);have oB:=zal (w0:=w) (show b<w.heap.size by omega);refine zad w.heap.size w (Below.refl _ _) OJ OJ ?_
 repeat (go_big_quiet_step ((go_at_call 128;exact zbm (CZ.out _))))
 refine wpQuiet_nil ?_;rintro _ ⟨X,rfl⟩;have BE:=J (zaa w.heap.size w X);clear oB;generalize over w.heap.size w X=W9 at *;have d0:=(BE.out.cell (p:=⟨b,off,none⟩) hbl).trans c0;have d3:=(BE.out.cell (p:=⟨b,off+3,none⟩) hbl).trans c3;have d4:=(BE.out.cell (p:=⟨b,off+4,none⟩) hbl).trans c4;obtain⟨ah2,ch2,eh2,_,_,hch⟩:=Rd.ints (HH.out.below (BE.out.mono hB));injection eh2 with e1 _ e3;subst e1 e3;obtain⟨ac2,cc2,ec2,_,_,hcc⟩:=Rd.ints (HC.out.below (BE.out.mono hB));injection ec2 with e1 _ e3;subst e1 e3;have HCH:=J hch;have HCC:=J hcc;clear hch hcc c0 c1 c2 c3 c4 h1 h2 hn1 hn2 d0;go_wp2
 go_loop [3] (fun i=>∃ (k:Nat),k≤t.heights.length∧i=I k∧(∀ j,j<k→terrAt t j=true)) (fun i=>t.heights.length-(intOf i).toNat)
 case atStart=>exact⟨0,Nat.zero_le _,rfl,fun j hj=>absurd hj O⟩
 case round =>
  obtain⟨k,hk,rfl,hno⟩:=hrel;have HN:=J hno;clear hno
  by_cases hlt:k<t.heights.length
  ·obtain⟨bh,oh,eh,hbh,hath⟩:=HCH.out O
   obtain⟨bc,oc,ec,hbc,hatc⟩:=HCC.out O;subst eh ec;have s0:=hath k hlt;have s1:=hatc k O;clear hath hatc;rw[gi_eq hlt] at s0;rw[gi_eq (show k<t.clutter.length by omega)] at s1;have j0:(0:Int)≤(k:Int):=O
   have j1:(k:Int)<(t.heights.length:Int):=O
   have j2:(k:Int)<(t.clutter.length:Int):=O
   have HA:Hid (terrAt t k=(inB (gi t.heights k) 0 90000&&inB (gi t.clutter k) 0 7)):=rfl;generalize gi t.heights k=x at *;generalize gi t.clutter k=y at *
   by_cases a0:inB x 0 90000=true
   case neg =>
    replace a0:inB x 0 90000=false:=Bool.eq_false_iff.2 a0;have HQ:Hid (terrS t=false):=by show _=_;rw[HE.out];exact allR_false hlt (by rw[HA.out,a0];rfl)
    go_wp2_with (go_at_call 89;refine (zaq _ _ _ _).mono ?_;rintro e w1 ⟨rfl,rfl⟩);go_ret;exact⟨by rw[HQ.out];rfl,BE.out⟩
   by_cases a1:inB y 0 7=true
   case neg =>
    replace a1:inB y 0 7=false:=Bool.eq_false_iff.2 a1;have HQ:Hid (terrS t=false):=by show _=_;rw[HE.out];exact allR_false hlt (by rw[HA.out,a0,a1];rfl)
    go_wp2_with (go_at_call 89;refine (zaq _ _ _ _).mono ?_;rintro e w1 ⟨rfl,rfl⟩);go_ret;exact⟨by rw[HQ.out];rfl,BE.out⟩
   have HQ:Hid (terrAt t k=true):=by show _=_;rw[HA.out,a0,a1];rfl
   go_wp2_with (go_at_call 89;refine (zaq _ _ _ _).mono ?_;rintro e w1 ⟨rfl,rfl⟩)
   go_round
   case rel=>exact⟨k+1,O,by go_num,zbj HN.out HQ.out⟩
   case measure=>simp[intOf];omega
  ·obtain rfl:k=t.heights.length:=O
   have HQ:Hid (terrS t=true):=by show _=_;rw[HE.out];exact allR_true HN.out
   go_wp2;go_ret;exact⟨by rw[HQ.out];rfl,BE.out⟩
open Go.RowKit
def rowI (m:List (List Int)) (i:Nat):List Int:=m.getD i []
theorem rowI_eq {m:List (List Int)} {i:Nat} (h:i<m.length):m[i]=rowI m i:=by simp[rowI,h]
theorem Rd.rows {B:Nat} {w:World} {m:List (List Int)} {a:Option Addr} {c:Nat} (h:Rd B w (intssT m) (II a m.length c)) (hm:0<m.length) :
  ∃ b off,a=some ⟨b,off,none⟩∧b<B∧∀ i,i<m.length→∃ ai ci,w.cell? ⟨b,off+i,none⟩=some (II ai (rowI m i).length ci)∧Rd B w (zai (rowI m i)) (II ai (rowI m i).length ci)∧(0<(rowI m i).length→∃ bi oi,ai=some ⟨bi,oi,none⟩∧bi<B ∧
   ∀ j,j<(rowI m i).length→w.cell? ⟨bi,oi+j,none⟩=some (I (gi (rowI m i) j))):=by
 obtain⟨a',c',he,_,_,hcl⟩:=Rd.intss h;injection he with e1 _ e3;subst e1 e3;obtain⟨b,off,ha,hb,hat⟩:=hcl hm;refine⟨b,off,ha,hb,fun i hi=>?_⟩;obtain⟨u,hu,hr⟩:=hat i hi;rw[rowI_eq hi] at hr;obtain⟨ai,ci,rfl,_,_,hci⟩:=Rd.ints hr;refine⟨ai,ci,hu,hr,fun hp=>?_⟩;obtain⟨bi,oi,e,hbi,hc⟩:=hci hp;exact⟨bi,oi,e,hbi,fun j hj=>by rw[hc j hj,gi_eq hj]⟩
end Go.Proofs.YtgmapjgodibchaaGreatDoor
namespace Go.Proofs.YtgmapjgodibchaaGreatDoor
open Go.RowKit
set_option maxHeartbeats 8000000
set_option maxRecDepth 100000
def zc9 (t:DTerrain) (q:DPoint):Bool:=inB q.x 0 ((t.width-1)*t.step)&&inB q.y 0 ((t.height-1)*t.step)
theorem has_any (t:DTerrain) (q:DPoint) (v3 v4:Value) (hw:2≤t.width∧t.width≤24) (hh:2≤t.height∧t.height≤24) (m1:0≤(t.width-1)*t.step∧(t.width-1)*t.step≤230000) (m2:0≤(t.height-1)*t.step∧(t.height-1)*t.step≤230000) (w:World) :
  Calls Tryz.prog 56 #[.agg #[I t.step,I t.width,I t.height,v3,v4],.agg #[I q.x,I q.y]] w fun e w'=>e=.returned (.bool (zc9 t q))∧IJ w w w':=by
 obtain⟨w1_,w2_⟩:=hw;obtain⟨h1_,h2_⟩:=hh;obtain⟨m11,m12⟩:=m1;obtain⟨m21,m22⟩:=m2;have B0:Hid (IJ w w ((w.alloc (.cells #[I t.step,I t.width,I t.height,v3,v4] 37)).alloc (.cells #[I q.x,I q.y] 66))):=(Below.alloc (Below.alloc (Below.refl _ _) (by first|exact Nat.le_refl _|(simp;done)|(simp<;>omega)) _) (by first|exact Nat.le_refl _|(simp;done)|(simp<;>omega)) _)
 have HD:Hid (∀ W:World,IJ ((w.alloc (.cells #[I t.step,I t.width,I t.height,v3,v4] 37)).alloc (.cells #[I q.x,I q.y] 66)).heap.size ((w.alloc (.cells #[I t.step,I t.width,I t.height,v3,v4] 37)).alloc (.cells #[I q.x,I q.y] 66)) W→(W.cell? ⟨w,0,none⟩=some (I t.step)∧W.cell? ⟨w,1,none⟩=some (I t.width)∧W.cell? ⟨w,2,none⟩=some (I t.height)∧W.cell? ⟨w,3,none⟩=some (v3)∧W.cell? ⟨w,4,none⟩=some (v4)∧W.cell? ⟨w.heap.size+1,0,none⟩=some (I q.x)∧W.cell? ⟨w.heap.size+1,1,none⟩=some (I q.y))):=fun W hW=>⟨by rw[hW.cell (p:=⟨w,0,none⟩) (by first|(simp;done)|(simp<;>omega))];simp[go_sem],by rw[hW.cell (p:=⟨w,1,none⟩) (by first|(simp;done)|(simp<;>omega))];simp[go_sem],by rw[hW.cell (p:=⟨w,2,none⟩) (by first|(simp;done)|(simp<;>omega))];simp[go_sem],by rw[hW.cell (p:=⟨w,3,none⟩) (by first|(simp;done)|(simp<;>omega))];simp[go_sem],by rw[hW.cell (p:=⟨w,4,none⟩) (by first|(simp;done)|(simp<;>omega))];simp[go_sem],by rw[hW.cell (p:=⟨w.heap.size+1,0,none⟩) (by first|(simp;done)|(simp<;>omega))];simp[go_sem],by rw[hW.cell (p:=⟨w.heap.size+1,1,none⟩) (by first|(simp;done)|(simp<;>omega))];simp[go_sem]⟩
 have HB:Hid (IJ ((w.alloc (.cells #[I t.step,I t.width,I t.height,v3,v4] 37)).alloc (.cells #[I q.x,I q.y] 66)).heap.size ((w.alloc (.cells #[I t.step,I t.width,I t.height,v3,v4] 37)).alloc (.cells #[I q.x,I q.y] 66)) ((w.alloc (.cells #[I t.step,I t.width,I t.height,v3,v4] 37)).alloc (.cells #[I q.x,I q.y] 66))):=Below.refl _ _
 by_cases h0:inB q.x 0 ((t.width-1)*t.step)=true
 case neg =>
  replace h0:inB q.x 0 ((t.width-1)*t.step)=false:=Bool.eq_false_iff.2 h0;have HE:Hid (zc9 t q=false):=by show _=_;unfold zc9;simp only[h0]<;>rfl
  go_enter Tryz.func56,Tryz.ntmps56;go_wp2_with (first|(go_at_call 54;refine (zao _ _ _ _).mono ?_;rintro e w1 ⟨rfl,rfl⟩));go_ret;exact⟨by rw[HE.out];rfl,by exact B0.out.trans (HB.out.mono (by first|exact Nat.le_refl _|(simp;done)|(simp<;>omega)))⟩
 by_cases h1:inB q.y 0 ((t.height-1)*t.step)=true
 case neg =>
  replace h1:inB q.y 0 ((t.height-1)*t.step)=false:=Bool.eq_false_iff.2 h1;have HE:Hid (zc9 t q=false):=by show _=_;unfold zc9;simp only[h0,h1]<;>rfl
  go_enter Tryz.func56,Tryz.ntmps56;go_wp2_with (first|(go_at_call 54;refine (zao _ _ _ _).mono ?_;rintro e w1 ⟨rfl,rfl⟩));go_ret;exact⟨by rw[HE.out];rfl,by exact B0.out.trans (HB.out.mono (by first|exact Nat.le_refl _|(simp;done)|(simp<;>omega)))⟩
 have HE:Hid (zc9 t q=true):=by show _=_;unfold zc9;simp only[h0,h1]<;>rfl
 go_enter Tryz.func56,Tryz.ntmps56;go_wp2_with (first|(go_at_call 54;refine (zao _ _ _ _).mono ?_;rintro e w1 ⟨rfl,rfl⟩));go_ret;exact⟨by rw[HE.out];rfl,by exact B0.out.trans (HB.out.mono (by first|exact Nat.le_refl _|(simp;done)|(simp<;>omega)))⟩
theorem l04In_any (t:DTerrain) (q:DPoint) (b off:Nat) (hw:2≤t.width∧t.width≤24) (hh:2≤t.height∧t.height≤24) (m1:0≤(t.width-1)*t.step∧(t.width-1)*t.step≤230000) (m2:0≤(t.height-1)*t.step∧(t.height-1)*t.step≤230000) (w:World) (c0:w.cell? ⟨b,off,none⟩=some (I t.step)) (c1:w.cell? ⟨b,off+1,none⟩=some (I t.width)) (c2:w.cell? ⟨b,off+2,none⟩=some (I t.height)) :
  Calls Tryz.prog 91 #[.pointer (some ⟨b,off,none⟩),.agg #[I q.x,I q.y]] w fun e w'=>e=.returned (.bool (zc9 t q))∧IJ w w w':=by
 obtain⟨w1_,w2_⟩:=hw;obtain⟨h1_,h2_⟩:=hh;obtain⟨m11,m12⟩:=m1;obtain⟨m21,m22⟩:=m2;have hbl:=zbh c0
 dsimp only at hbl
 have b0:=za2 w (.cells #[I q.x,I q.y] 66);have k0:=bkN w #[I q.x,I q.y] 66;have z0:w.heap.size+1≤(w.alloc (.cells #[I q.x,I q.y] 66)).heap.size:=by simp
 have d0:=(bat b0 b _ hbl).trans c0;have d1:=(bat b0 b _ hbl).trans c1;have d2:=(bat b0 b _ hbl).trans c2;have e0:=bkC (v:=I q.x) k0 0 rfl;have e1:=bkC (v:=I q.y) k0 1 rfl;clear k0 c0 c1 c2;generalize hW0:(w.alloc (.cells #[I q.x,I q.y] 66))=W0 at *;have HW0:=J hW0;have B0:=J b0;clear hW0 b0;have CD:Hid (∀ (n lo hi:Int) (W:World),Calls Tryz.prog 89 #[I n,I lo,I hi] W fun e w'=>e=.returned (.bool (inB n lo hi))∧W=w'):=fun _ _ _ W=>zaq _ _ _ _
 have C1:Hid (∀ (W:World),Calls Tryz.prog 89 #[I q.x,I 0,I ((t.width-1)*t.step)] W fun e w'=>e=.returned (.bool (inB q.x 0 ((t.width-1)*t.step)))∧W=w'):=fun W=>zaq _ _ _ _
 have C2:Hid (∀ (W:World),Calls Tryz.prog 89 #[I q.y,I 0,I ((t.height-1)*t.step)] W fun e w'=>e=.returned (.bool (inB q.y 0 ((t.height-1)*t.step)))∧W=w'):=fun W=>zaq _ _ _ _
 by_cases h0:inB q.x 0 ((t.width-1)*t.step)=true
 case neg =>
  replace h0:inB q.x 0 ((t.width-1)*t.step)=false:=Bool.eq_false_iff.2 h0;have HE:Hid (zc9 t q=false):=by show _=_;unfold zc9;rw[h0];rfl
  rw[h0] at C1;go_enter Tryz.func91,Tryz.ntmps91;go_upto_region 1 with (fail);rw[HW0.out];have o0:=zal (w0:=W0) (show b<W0.heap.size by omega);have o1:=zal (w0:=W0) (show w.heap.size<W0.heap.size by omega);refine zad W0.heap.size W0 (Below.refl _ _) OJ OJ ?_
  repeat (go_big_quiet_step (first|(go_at_call 89;with_reducible exact zbm (C1.out _))|(go_at_call 89;with_reducible exact zbm (C2.out _))))
  refine wpQuiet_nil ?_;rintro _ ⟨X,rfl⟩;have BE:=J (B0.out.trans ((zaa W0.heap.size W0 X).mono O));clear o0 o1;generalize over W0.heap.size W0 X=W9 at *;go_wp2;go_ret;exact⟨by rw[HE.out];rfl,BE.out⟩
 rw[h0] at C1
 by_cases h1:inB q.y 0 ((t.height-1)*t.step)=true
 case neg =>
  replace h1:inB q.y 0 ((t.height-1)*t.step)=false:=Bool.eq_false_iff.2 h1;have HE:Hid (zc9 t q=false):=by show _=_;unfold zc9;rw[h0,h1];rfl
  rw[h1] at C2;go_enter Tryz.func91,Tryz.ntmps91;go_upto_region 1 with (fail);rw[HW0.out];have o0:=zal (w0:=W0) (show b<W0.heap.size by omega);have o1:=zal (w0:=W0) (show w.heap.size<W0.heap.size by omega);refine zad W0.heap.size W0 (Below.refl _ _) OJ OJ ?_
  repeat (go_big_quiet_step (first|(go_at_call 89;with_reducible exact zbm (C1.out _))|(go_at_call 89;with_reducible exact zbm (C2.out _))))
  refine wpQuiet_nil ?_;rintro _ ⟨X,rfl⟩;have BE:=J (B0.out.trans ((zaa W0.heap.size W0 X).mono O));clear o0 o1;generalize over W0.heap.size W0 X=W9 at *;go_wp2;go_ret;exact⟨by rw[HE.out];rfl,BE.out⟩
 have HE:Hid (zc9 t q=true):=by show _=_;unfold zc9;rw[h0,h1];rfl
 rw[h1] at C2;go_enter Tryz.func91,Tryz.ntmps91;go_upto_region 1 with (fail);rw[HW0.out];have o0:=zal (w0:=W0) (show b<W0.heap.size by omega);have o1:=zal (w0:=W0) (show w.heap.size<W0.heap.size by omega);refine zad W0.heap.size W0 (Below.refl _ _) OJ OJ ?_
 repeat (go_big_quiet_step (first|(go_at_call 89;with_reducible exact zbm (C1.out _))|(go_at_call 89;with_reducible exact zbm (C2.out _))))
 refine wpQuiet_nil ?_;rintro _ ⟨X,rfl⟩;have BE:=J (B0.out.trans ((zaa W0.heap.size W0 X).mono O));clear o0 o1;generalize over W0.heap.size W0 X=W9 at *;go_wp2;go_ret;exact⟨by rw[HE.out];rfl,BE.out⟩
end Go.Proofs.YtgmapjgodibchaaGreatDoor
