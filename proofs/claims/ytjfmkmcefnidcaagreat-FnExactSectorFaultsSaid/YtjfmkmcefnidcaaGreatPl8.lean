/- Contracts: terrains are valid, for the program and for the reference. Conditions: bounded lengths. -/
import Derived.Test.YtjfmkmcefnidcaaGreatPl6
import Derived.Test.YtjfmkmcefnidcaaGreatHTerrain
import Derived.Test.YtjfmkmcefnidcaaGreatProb1
namespace Go.Proofs.YtjfmkmcefnidcaaGreat
set_option maxHeartbeats 8000000
set_option maxRecDepth 100000
open Go.RowKit
set_option linter.unusedVariables false
set_option linter.unusedSimpArgs false
def sizeB (s w h:Int):Bool:=inB s 1 10000&&(inB w 2 24&&(inB h 2 24&&decide (max (w-1) (h-1)*s≤200000)))
def sizeS (s w h:Int):Bool:=inB s 1 10000&&(inB w 2 24&&(inB h 2 24&&(decide ((w-1)*s≤200000)&&decide ((h-1)*s≤200000))))
theorem mulB {m s:Int} (h1:0≤m) (h2:m≤23) (h3:1≤s) (h4:s≤10000):0≤m*s∧m*s≤230000:=by
 refine⟨Int.mul_nonneg h1 (by omega),?_⟩
 have:=Int.mul_le_mul h2 h4 (by omega) (by omega)
 omega
theorem mulW {a b:Int} (h1:2≤a) (h2:a≤24) (h3:2≤b) (h4:b≤24):4≤a*b∧a*b≤576:=by
 have h5:=Int.mul_le_mul h2 h4 (by omega) (by omega)
 have h6:=Int.mul_le_mul h1 h3 (by omega) (by omega)
 omega
theorem sizeS_eq (s w h:Int):sizeS s w h=sizeB s w h:=by
 unfold sizeS sizeB
 rw[Bool.eq_iff_iff]
 simp only[inB,Bool.and_eq_true,decide_eq_true_eq]
 constructor
 ·rintro⟨h0,h1,h2,h3,h4⟩
  refine⟨h0,h1,h2,?_⟩
  rcases Int.le_total (w-1) (h-1) with e|e
  ·rw[Int.max_eq_right e];exact h4
  ·rw[Int.max_eq_left e];exact h3
 ·rintro⟨h0,h1,h2,h3⟩
  have a1:(w-1)*s≤max (w-1) (h-1)*s:=Int.mul_le_mul_of_nonneg_right (Int.le_max_left _ _) (by omega)
  have a2:(h-1)*s≤max (w-1) (h-1)*s:=Int.mul_le_mul_of_nonneg_right (Int.le_max_right _ _) (by omega)
  exact⟨h0,h1,h2,by omega,by omega⟩
def terrB (t:DTerrain):Bool:=sizeB t.step t.width t.height&&(((t.heights.length:Int) == t.width*t.height)&&(((t.clutter.length:Int) == (t.heights.length:Int))&&((t.heights.all fun n=>inB n 0 90000)&&(t.clutter.all fun n=>inB n 0 7))))
def terrAt (t:DTerrain) (i:Nat):Bool:=inB (gi t.heights i) 0 90000&&inB (gi t.clutter i) 0 7
def terrS (t:DTerrain):Bool:=sizeB t.step t.width t.height&&(((t.heights.length:Int) == t.width*t.height)&&(((t.clutter.length:Int) == (t.heights.length:Int))&&(List.range t.heights.length).all (terrAt t)))
theorem all_range (l:List Int) (lo hi:Int):(l.all fun n=>inB n lo hi)=(List.range l.length).all (fun i=>inB (gi l i) lo hi):=by
 rw[Bool.eq_iff_iff,all_iff,List.all_eq_true]
 constructor
 ·intro h i hi;exact h i (by simpa using hi)
 ·intro h i hi;exact h i (by simpa using hi)
theorem all_and (f g:Nat→Bool) (n:Nat):(List.range n).all (fun i=>f i&&g i)=((List.range n).all f&&(List.range n).all g):=by
 rw[Bool.eq_iff_iff,Bool.and_eq_true,List.all_eq_true,List.all_eq_true,List.all_eq_true]
 constructor
 ·intro h;exact⟨fun i hi=>by have:=h i hi;simp only[Bool.and_eq_true] at this;exact this.1,fun i hi=>by have:=h i hi;simp only[Bool.and_eq_true] at this;exact this.2⟩
 ·rintro⟨h1,h2⟩ i hi;rw[h1 i hi,h2 i hi];rfl
theorem terrS_eq (t:DTerrain):terrS t=terrB t:=by
 unfold terrS terrB
 by_cases h:((t.clutter.length:Int) == (t.heights.length:Int))=true
 ·have e:t.clutter.length=t.heights.length:=by have:=eq_of_beq h;omega
  rw[all_range t.heights,all_range t.clutter,e,← all_and]
  rfl
 ·have h2:((t.clutter.length:Int) == (t.heights.length:Int))=false:=Bool.eq_false_iff.2 h
  rw[h2];simp
theorem sizeOk_any (s w h:Int) (W:World) :
  Calls Tryz.prog 163 #[.int .i64 s,.int .i64 w,.int .i64 h] W fun e w'=>e=.returned (.bool (sizeB s w h))∧W=w':=by
 by_cases h0:inB s 1 10000=true
 case neg =>
  replace h0:inB s 1 10000=false:=Bool.eq_false_iff.2 h0
  have HE:Hid (sizeB s w h=false):=by show _=_;unfold sizeB;simp only[h0]<;>rfl
  go_enter Tryz.func163,Tryz.ntmps163
  go_wp2_with (first|(go_at_call 175;refine (within_any _ _ _ _).mono ?_;rintro e w1 ⟨rfl,rfl⟩))
  go_ret
  exact⟨by rw[HE.out];rfl,by rfl⟩
 obtain⟨hah0,hbh0⟩:=inB_true.1 h0
 by_cases h1:inB w 2 24=true
 case neg =>
  replace h1:inB w 2 24=false:=Bool.eq_false_iff.2 h1
  have HE:Hid (sizeB s w h=false):=by show _=_;unfold sizeB;simp only[h0,h1]<;>rfl
  go_enter Tryz.func163,Tryz.ntmps163
  go_wp2_with (first|(go_at_call 175;refine (within_any _ _ _ _).mono ?_;rintro e w1 ⟨rfl,rfl⟩))
  go_ret
  exact⟨by rw[HE.out];rfl,by rfl⟩
 obtain⟨hah1,hbh1⟩:=inB_true.1 h1
 by_cases h2:inB h 2 24=true
 case neg =>
  replace h2:inB h 2 24=false:=Bool.eq_false_iff.2 h2
  have HE:Hid (sizeB s w h=false):=by show _=_;unfold sizeB;simp only[h0,h1,h2]<;>rfl
  go_enter Tryz.func163,Tryz.ntmps163
  go_wp2_with (first|(go_at_call 175;refine (within_any _ _ _ _).mono ?_;rintro e w1 ⟨rfl,rfl⟩))
  go_ret
  exact⟨by rw[HE.out];rfl,by rfl⟩
 obtain⟨hah2,hbh2⟩:=inB_true.1 h2
 by_cases h3:max (w-1) (h-1)*s≤200000
 case neg =>
  have hd3:decide (max (w-1) (h-1)*s≤200000)=false:=decide_eq_false h3
  replace h3:200000<max (w-1) (h-1)*s:=by omega
  have hm0:0≤max (w-1) (h-1):=by omega
  have hm1:max (w-1) (h-1)≤23:=by omega
  obtain⟨hm2,hm3⟩:=mulB hm0 hm1 hah0 hbh0
  have HE:Hid (sizeB s w h=false):=by show _=_;unfold sizeB;simp only[h0,h1,h2,hd3]<;>rfl
  go_enter Tryz.func163,Tryz.ntmps163
  go_wp2_with (first|(go_at_call 175;refine (within_any _ _ _ _).mono ?_;rintro e w1 ⟨rfl,rfl⟩))
  go_ret
  exact⟨by rw[HE.out];rfl,by rfl⟩
 have hd3:decide (max (w-1) (h-1)*s≤200000)=true:=decide_eq_true h3
 have hm0:0≤max (w-1) (h-1):=by omega
 have hm1:max (w-1) (h-1)≤23:=by omega
 obtain⟨hm2,hm3⟩:=mulB hm0 hm1 hah0 hbh0
 have HE:Hid (sizeB s w h=true):=by show _=_;unfold sizeB;simp only[h0,h1,h2,hd3]<;>rfl
 go_enter Tryz.func163,Tryz.ntmps163
 go_wp2_with (first|(go_at_call 175;refine (within_any _ _ _ _).mono ?_;rintro e w1 ⟨rfl,rfl⟩))
 go_ret
 exact⟨by rw[HE.out];rfl,by rfl⟩
theorem l04Size_any (s w h:Int) (W:World) :
  Calls Tryz.prog 147 #[.int .i64 s,.int .i64 w,.int .i64 h] W fun e w'=>e=.returned (.bool (sizeS s w h))∧W=w':=by
 by_cases h0:inB s 1 10000=true
 case neg =>
  replace h0:inB s 1 10000=false:=Bool.eq_false_iff.2 h0
  have HE:Hid (sizeS s w h=false):=by show _=_;unfold sizeS;simp only[h0]<;>rfl
  go_enter Tryz.func147,Tryz.ntmps147
  go_wp2_with (first|(go_at_call 148;refine (l00In_any _ _ _ _).mono ?_;rintro e w1 ⟨rfl,rfl⟩))
  go_ret
  exact⟨by rw[HE.out];rfl,by rfl⟩
 obtain⟨hah0,hbh0⟩:=inB_true.1 h0
 by_cases h1:inB w 2 24=true
 case neg =>
  replace h1:inB w 2 24=false:=Bool.eq_false_iff.2 h1
  have HE:Hid (sizeS s w h=false):=by show _=_;unfold sizeS;simp only[h0,h1]<;>rfl
  go_enter Tryz.func147,Tryz.ntmps147
  go_wp2_with (first|(go_at_call 148;refine (l00In_any _ _ _ _).mono ?_;rintro e w1 ⟨rfl,rfl⟩))
  go_ret
  exact⟨by rw[HE.out];rfl,by rfl⟩
 obtain⟨hah1,hbh1⟩:=inB_true.1 h1
 by_cases h2:inB h 2 24=true
 case neg =>
  replace h2:inB h 2 24=false:=Bool.eq_false_iff.2 h2
  have HE:Hid (sizeS s w h=false):=by show _=_;unfold sizeS;simp only[h0,h1,h2]<;>rfl
  go_enter Tryz.func147,Tryz.ntmps147
  go_wp2_with (first|(go_at_call 148;refine (l00In_any _ _ _ _).mono ?_;rintro e w1 ⟨rfl,rfl⟩))
  go_ret
  exact⟨by rw[HE.out];rfl,by rfl⟩
 obtain⟨hah2,hbh2⟩:=inB_true.1 h2
 by_cases h3:(w-1)*s≤200000
 case neg =>
  have hd3:decide ((w-1)*s≤200000)=false:=decide_eq_false h3
  replace h3:200000<(w-1)*s:=by omega
  obtain⟨hm2,hm3⟩:=mulB (m:=w-1) (by omega) (by omega) hah0 hbh0
  obtain⟨hm4,hm5⟩:=mulB (m:=h-1) (by omega) (by omega) hah0 hbh0
  have HE:Hid (sizeS s w h=false):=by show _=_;unfold sizeS;simp only[h0,h1,h2,hd3]<;>rfl
  go_enter Tryz.func147,Tryz.ntmps147
  go_wp2_with (first|(go_at_call 148;refine (l00In_any _ _ _ _).mono ?_;rintro e w1 ⟨rfl,rfl⟩))
  go_ret
  exact⟨by rw[HE.out];rfl,by rfl⟩
 have hd3:decide ((w-1)*s≤200000)=true:=decide_eq_true h3
 by_cases h4:(h-1)*s≤200000
 case neg =>
  have hd4:decide ((h-1)*s≤200000)=false:=decide_eq_false h4
  replace h4:200000<(h-1)*s:=by omega
  obtain⟨hm2,hm3⟩:=mulB (m:=w-1) (by omega) (by omega) hah0 hbh0
  obtain⟨hm4,hm5⟩:=mulB (m:=h-1) (by omega) (by omega) hah0 hbh0
  have HE:Hid (sizeS s w h=false):=by show _=_;unfold sizeS;simp only[h0,h1,h2,hd3,hd4]<;>rfl
  go_enter Tryz.func147,Tryz.ntmps147
  go_wp2_with (first|(go_at_call 148;refine (l00In_any _ _ _ _).mono ?_;rintro e w1 ⟨rfl,rfl⟩))
  go_ret
  exact⟨by rw[HE.out];rfl,by rfl⟩
 have hd4:decide ((h-1)*s≤200000)=true:=decide_eq_true h4
 obtain⟨hm2,hm3⟩:=mulB (m:=w-1) (by omega) (by omega) hah0 hbh0
 obtain⟨hm4,hm5⟩:=mulB (m:=h-1) (by omega) (by omega) hah0 hbh0
 have HE:Hid (sizeS s w h=true):=by show _=_;unfold sizeS;simp only[h0,h1,h2,hd3,hd4]<;>rfl
 go_enter Tryz.func147,Tryz.ntmps147
 go_wp2_with (first|(go_at_call 148;refine (l00In_any _ _ _ _).mono ?_;rintro e w1 ⟨rfl,rfl⟩))
 go_ret
 exact⟨by rw[HE.out];rfl,by rfl⟩
theorem sizeB_bounds {s w h:Int} (e:sizeB s w h=true):2≤w∧w≤24∧2≤h∧h≤24:=by
 unfold sizeB at e
 simp only[inB,Bool.and_eq_true,decide_eq_true_eq] at e
 omega
theorem validTerrain_any (t:DTerrain) (vh vc:Value) (B:Nat) (w:World) (hh:Rd B w (intsT t.heights) vh) (hc:Rd B w (intsT t.clutter) vc) (hB:B≤w.heap.size) (m0:t.heights.length≤1099511627776) (m1:t.clutter.length≤1099511627776) :
  Calls Tryz.prog 107 #[.agg #[.int .i64 t.step,.int .i64 t.width,.int .i64 t.height,vh,vc]] w fun e w'=>e=.returned (.bool (terrB t))∧Below w.heap.size w w':=by
 obtain⟨ah,ch,eh,_,_,_⟩:=Rd.ints hh
 obtain⟨ac,cc,ec,_,_,_⟩:=Rd.ints hc
 subst eh ec
 have HH:=Lib.hid hh
 have HC:=Lib.hid hc
 clear hh hc
 have mz0:(t.heights.length:Int)≤1099511627776:=by omega
 have mz1:(t.clutter.length:Int)≤1099511627776:=by omega
 have B0:Hid (Below w.heap.size w (w.alloc (.cells #[.int .i64 t.step,.int .i64 t.width,.int .i64 t.height,.slice ah t.heights.length ch,.slice ac t.clutter.length cc] 42))):=(Below.alloc (Below.refl _ _) (by first|exact Nat.le_refl _|(simp;done)|(simp;omega)) _)
 have HD:Hid (∀ W:World,Below (w.alloc (.cells #[.int .i64 t.step,.int .i64 t.width,.int .i64 t.height,.slice ah t.heights.length ch,.slice ac t.clutter.length cc] 42)).heap.size (w.alloc (.cells #[.int .i64 t.step,.int .i64 t.width,.int .i64 t.height,.slice ah t.heights.length ch,.slice ac t.clutter.length cc] 42)) W→(W.cell? ⟨w.heap.size,0,none⟩=some (.int .i64 t.step)∧W.cell? ⟨w.heap.size,1,none⟩=some (.int .i64 t.width)∧W.cell? ⟨w.heap.size,2,none⟩=some (.int .i64 t.height)∧W.cell? ⟨w.heap.size,3,none⟩=some (.slice ah t.heights.length ch)∧W.cell? ⟨w.heap.size,4,none⟩=some (.slice ac t.clutter.length cc))):=fun W hW=>⟨by rw[hW.cell (p:=⟨w.heap.size,0,none⟩) (by first|(simp;done)|(simp;omega))];simp[go_sem],by rw[hW.cell (p:=⟨w.heap.size,1,none⟩) (by first|(simp;done)|(simp;omega))];simp[go_sem],by rw[hW.cell (p:=⟨w.heap.size,2,none⟩) (by first|(simp;done)|(simp;omega))];simp[go_sem],by rw[hW.cell (p:=⟨w.heap.size,3,none⟩) (by first|(simp;done)|(simp;omega))];simp[go_sem],by rw[hW.cell (p:=⟨w.heap.size,4,none⟩) (by first|(simp;done)|(simp;omega))];simp[go_sem]⟩
 have HB:Hid (Below (w.alloc (.cells #[.int .i64 t.step,.int .i64 t.width,.int .i64 t.height,.slice ah t.heights.length ch,.slice ac t.clutter.length cc] 42)).heap.size (w.alloc (.cells #[.int .i64 t.step,.int .i64 t.width,.int .i64 t.height,.slice ah t.heights.length ch,.slice ac t.clutter.length cc] 42)) (w.alloc (.cells #[.int .i64 t.step,.int .i64 t.width,.int .i64 t.height,.slice ah t.heights.length ch,.slice ac t.clutter.length cc] 42))):=Below.refl _ _
 have C0:Hid (∀ W:World,Below (w.alloc (.cells #[.int .i64 t.step,.int .i64 t.width,.int .i64 t.height,.slice ah t.heights.length ch,.slice ac t.clutter.length cc] 42)).heap.size (w.alloc (.cells #[.int .i64 t.step,.int .i64 t.width,.int .i64 t.height,.slice ah t.heights.length ch,.slice ac t.clutter.length cc] 42)) W→Calls Tryz.prog 113 #[.slice ah t.heights.length ch,.int .i64 0,.int .i64 90000] W fun e w'=>e=.returned (.bool (t.heights.all fun n=>inB n 0 90000))∧Below W.heap.size W w'):=fun W hW=>allWithin_any _ _ _ _ B W (HH.out.below ((B0.out.trans (hW.mono (by simp))).mono hB)) (by have:=hW.size;simp at this;omega) (by omega)
 have C1:Hid (∀ W:World,Below (w.alloc (.cells #[.int .i64 t.step,.int .i64 t.width,.int .i64 t.height,.slice ah t.heights.length ch,.slice ac t.clutter.length cc] 42)).heap.size (w.alloc (.cells #[.int .i64 t.step,.int .i64 t.width,.int .i64 t.height,.slice ah t.heights.length ch,.slice ac t.clutter.length cc] 42)) W→Calls Tryz.prog 113 #[.slice ac t.clutter.length cc,.int .i64 0,.int .i64 7] W fun e w'=>e=.returned (.bool (t.clutter.all fun n=>inB n 0 7))∧Below W.heap.size W w'):=fun W hW=>allWithin_any _ _ _ _ B W (HC.out.below ((B0.out.trans (hW.mono (by simp))).mono hB)) (by have:=hW.size;simp at this;omega) (by omega)
 by_cases h0:sizeB t.step t.width t.height=true
 case neg =>
  replace h0:sizeB t.step t.width t.height=false:=Bool.eq_false_iff.2 h0
  have HE:Hid (terrB t=false):=by show _=_;unfold terrB;simp only[h0]<;>rfl
  go_enter Tryz.func107,Tryz.ntmps107
  go_wp2_with (first|(go_at_call 163;refine (sizeOk_any _ _ _ _).mono ?_;rintro e w1 ⟨rfl,rfl⟩)|(go_at_call 113;with_reducible refine (C0.out _ HB.out).mono ?_;rintro e w2 ⟨rfl,hb2⟩;(try clear t0 t1 t2 t3 t4);replace HB:=Lib.hid (HB.out.trans (hb2.mono HB.out.size));clear hb2;obtain⟨t0,t1,t2,t3,t4⟩:=HD.out _ HB.out)|(go_at_call 113;with_reducible refine (C1.out _ HB.out).mono ?_;rintro e w2 ⟨rfl,hb2⟩;(try clear t0 t1 t2 t3 t4);replace HB:=Lib.hid (HB.out.trans (hb2.mono HB.out.size));clear hb2;obtain⟨t0,t1,t2,t3,t4⟩:=HD.out _ HB.out))
  go_ret
  exact⟨by rw[HE.out];rfl,by exact B0.out.trans (HB.out.mono (by first|exact Nat.le_refl _|(simp;done)|(simp;omega)))⟩
 obtain⟨hw1,hw2,hg1,hg2⟩:=sizeB_bounds h0
 obtain⟨hq1,hq2⟩:=mulW hw1 hw2 hg1 hg2
 by_cases h1:((t.heights.length:Int) == t.width*t.height)=true
 case neg =>
  replace h1:((t.heights.length:Int) == t.width*t.height)=false:=Bool.eq_false_iff.2 h1
  have HE:Hid (terrB t=false):=by show _=_;unfold terrB;simp only[h0,h1]<;>rfl
  go_enter Tryz.func107,Tryz.ntmps107
  go_wp2_with (first|(go_at_call 163;refine (sizeOk_any _ _ _ _).mono ?_;rintro e w1 ⟨rfl,rfl⟩)|(go_at_call 113;with_reducible refine (C0.out _ HB.out).mono ?_;rintro e w2 ⟨rfl,hb2⟩;(try clear t0 t1 t2 t3 t4);replace HB:=Lib.hid (HB.out.trans (hb2.mono HB.out.size));clear hb2;obtain⟨t0,t1,t2,t3,t4⟩:=HD.out _ HB.out)|(go_at_call 113;with_reducible refine (C1.out _ HB.out).mono ?_;rintro e w2 ⟨rfl,hb2⟩;(try clear t0 t1 t2 t3 t4);replace HB:=Lib.hid (HB.out.trans (hb2.mono HB.out.size));clear hb2;obtain⟨t0,t1,t2,t3,t4⟩:=HD.out _ HB.out))
  go_ret
  exact⟨by rw[HE.out];rfl,by exact B0.out.trans (HB.out.mono (by first|exact Nat.le_refl _|(simp;done)|(simp;omega)))⟩
 by_cases h2:((t.clutter.length:Int) == (t.heights.length:Int))=true
 case neg =>
  replace h2:((t.clutter.length:Int) == (t.heights.length:Int))=false:=Bool.eq_false_iff.2 h2
  have HE:Hid (terrB t=false):=by show _=_;unfold terrB;simp only[h0,h1,h2]<;>rfl
  go_enter Tryz.func107,Tryz.ntmps107
  go_wp2_with (first|(go_at_call 163;refine (sizeOk_any _ _ _ _).mono ?_;rintro e w1 ⟨rfl,rfl⟩)|(go_at_call 113;with_reducible refine (C0.out _ HB.out).mono ?_;rintro e w2 ⟨rfl,hb2⟩;(try clear t0 t1 t2 t3 t4);replace HB:=Lib.hid (HB.out.trans (hb2.mono HB.out.size));clear hb2;obtain⟨t0,t1,t2,t3,t4⟩:=HD.out _ HB.out)|(go_at_call 113;with_reducible refine (C1.out _ HB.out).mono ?_;rintro e w2 ⟨rfl,hb2⟩;(try clear t0 t1 t2 t3 t4);replace HB:=Lib.hid (HB.out.trans (hb2.mono HB.out.size));clear hb2;obtain⟨t0,t1,t2,t3,t4⟩:=HD.out _ HB.out))
  go_ret
  exact⟨by rw[HE.out];rfl,by exact B0.out.trans (HB.out.mono (by first|exact Nat.le_refl _|(simp;done)|(simp;omega)))⟩
 by_cases h3:(t.heights.all fun n=>inB n 0 90000)=true
 case neg =>
  replace h3:(t.heights.all fun n=>inB n 0 90000)=false:=Bool.eq_false_iff.2 h3
  have HE:Hid (terrB t=false):=by show _=_;unfold terrB;simp only[h0,h1,h2,h3]<;>rfl
  go_enter Tryz.func107,Tryz.ntmps107
  go_wp2_with (first|(go_at_call 163;refine (sizeOk_any _ _ _ _).mono ?_;rintro e w1 ⟨rfl,rfl⟩)|(go_at_call 113;with_reducible refine (C0.out _ HB.out).mono ?_;rintro e w2 ⟨rfl,hb2⟩;(try clear t0 t1 t2 t3 t4);replace HB:=Lib.hid (HB.out.trans (hb2.mono HB.out.size));clear hb2;obtain⟨t0,t1,t2,t3,t4⟩:=HD.out _ HB.out)|(go_at_call 113;with_reducible refine (C1.out _ HB.out).mono ?_;rintro e w2 ⟨rfl,hb2⟩;(try clear t0 t1 t2 t3 t4);replace HB:=Lib.hid (HB.out.trans (hb2.mono HB.out.size));clear hb2;obtain⟨t0,t1,t2,t3,t4⟩:=HD.out _ HB.out))
  go_ret
  exact⟨by rw[HE.out];rfl,by exact B0.out.trans (HB.out.mono (by first|exact Nat.le_refl _|(simp;done)|(simp;omega)))⟩
 by_cases h4:(t.clutter.all fun n=>inB n 0 7)=true
 case neg =>
  replace h4:(t.clutter.all fun n=>inB n 0 7)=false:=Bool.eq_false_iff.2 h4
  have HE:Hid (terrB t=false):=by show _=_;unfold terrB;simp only[h0,h1,h2,h3,h4]<;>rfl
  go_enter Tryz.func107,Tryz.ntmps107
  go_wp2_with (first|(go_at_call 163;refine (sizeOk_any _ _ _ _).mono ?_;rintro e w1 ⟨rfl,rfl⟩)|(go_at_call 113;with_reducible refine (C0.out _ HB.out).mono ?_;rintro e w2 ⟨rfl,hb2⟩;(try clear t0 t1 t2 t3 t4);replace HB:=Lib.hid (HB.out.trans (hb2.mono HB.out.size));clear hb2;obtain⟨t0,t1,t2,t3,t4⟩:=HD.out _ HB.out)|(go_at_call 113;with_reducible refine (C1.out _ HB.out).mono ?_;rintro e w2 ⟨rfl,hb2⟩;(try clear t0 t1 t2 t3 t4);replace HB:=Lib.hid (HB.out.trans (hb2.mono HB.out.size));clear hb2;obtain⟨t0,t1,t2,t3,t4⟩:=HD.out _ HB.out))
  go_ret
  exact⟨by rw[HE.out];rfl,by exact B0.out.trans (HB.out.mono (by first|exact Nat.le_refl _|(simp;done)|(simp;omega)))⟩
 have HE:Hid (terrB t=true):=by show _=_;unfold terrB;simp only[h0,h1,h2,h3,h4]<;>rfl
 go_enter Tryz.func107,Tryz.ntmps107
 go_wp2_with (first|(go_at_call 163;refine (sizeOk_any _ _ _ _).mono ?_;rintro e w1 ⟨rfl,rfl⟩)|(go_at_call 113;with_reducible refine (C0.out _ HB.out).mono ?_;rintro e w2 ⟨rfl,hb2⟩;(try clear t0 t1 t2 t3 t4);replace HB:=Lib.hid (HB.out.trans (hb2.mono HB.out.size));clear hb2;obtain⟨t0,t1,t2,t3,t4⟩:=HD.out _ HB.out)|(go_at_call 113;with_reducible refine (C1.out _ HB.out).mono ?_;rintro e w2 ⟨rfl,hb2⟩;(try clear t0 t1 t2 t3 t4);replace HB:=Lib.hid (HB.out.trans (hb2.mono HB.out.size));clear hb2;obtain⟨t0,t1,t2,t3,t4⟩:=HD.out _ HB.out))
 go_ret
 exact⟨by rw[HE.out];rfl,by exact B0.out.trans (HB.out.mono (by first|exact Nat.le_refl _|(simp;done)|(simp;omega)))⟩
theorem l04Ok_any (t:DTerrain) (vh vc:Value) (b off B:Nat) (w:World) (hh:Rd B w (intsT t.heights) vh) (hc:Rd B w (intsT t.clutter) vc) (hB:B≤w.heap.size) (c0:w.cell? ⟨b,off,none⟩=some (.int .i64 t.step)) (c1:w.cell? ⟨b,off+1,none⟩=some (.int .i64 t.width)) (c2:w.cell? ⟨b,off+2,none⟩=some (.int .i64 t.height)) (c3:w.cell? ⟨b,off+3,none⟩=some vh) (c4:w.cell? ⟨b,off+4,none⟩=some vc) (m0:t.heights.length≤1099511627776) (m1:t.clutter.length≤1099511627776) :
  Calls Tryz.prog 91 #[.pointer (some ⟨b,off,none⟩)] w fun e w'=>e=.returned (.bool (terrB t))∧Below w.heap.size w w':=by
 rw[← terrS_eq]
 obtain⟨ah,ch,eh,_,_,_⟩:=Rd.ints hh
 obtain⟨ac,cc,ec,_,_,_⟩:=Rd.ints hc
 subst eh ec
 have HH:=Lib.hid hh
 have HC:=Lib.hid hc
 clear hh hc
 have mz0:(t.heights.length:Int)≤1099511627776:=by omega
 have mz1:(t.clutter.length:Int)≤1099511627776:=by omega
 have hbl:=cell_lt c0
 dsimp only at hbl
 have CZ:Hid (∀ W:World,Calls Tryz.prog 147 #[.int .i64 t.step,.int .i64 t.width,.int .i64 t.height] W fun e w'=>e=.returned (.bool (sizeB t.step t.width t.height))∧W=w'):=fun W=>by rw[← sizeS_eq];exact l04Size_any _ _ _ W
 by_cases h0:sizeB t.step t.width t.height=true
 case neg =>
  replace h0:sizeB t.step t.width t.height=false:=Bool.eq_false_iff.2 h0
  rw[h0] at CZ
  have HE:Hid (terrS t=false):=by show _=_;unfold terrS;simp only[h0]<;>rfl
  go_enter Tryz.func91,Tryz.ntmps91
  go_upto_region 1 with (fail)
  have oB:=overC (w0:=w) (show b<w.heap.size by omega)
  refine wp_region_over w.heap.size w (Below.refl _ _) (by kernel_rfl) (by kernel_rfl) ?_
  repeat (go_big_quiet_step ((go_at_call 147;exact over_same (CZ.out _))))
  refine wpQuiet_nil ?_
  rintro _ ⟨X,rfl⟩
  have BE:=Lib.hid (over_below w.heap.size w X)
  clear oB
  generalize over w.heap.size w X=W9 at *
  go_wp2
  go_ret
  exact⟨by rw[HE.out];rfl,BE.out⟩
 rw[h0] at CZ
 obtain⟨hw1,hw2,hg1,hg2⟩:=sizeB_bounds h0
 obtain⟨hq1,hq2⟩:=mulW hw1 hw2 hg1 hg2
 by_cases h1:((t.heights.length:Int) == t.width*t.height)=true
 case neg =>
  replace h1:((t.heights.length:Int) == t.width*t.height)=false:=Bool.eq_false_iff.2 h1
  have hn1:((t.heights.length:Int) != t.width*t.height)=true:=by rw[bne,h1];rfl
  have HE:Hid (terrS t=false):=by show _=_;unfold terrS;simp only[h0,h1]<;>rfl
  go_enter Tryz.func91,Tryz.ntmps91
  go_upto_region 1 with (fail)
  have oB:=overC (w0:=w) (show b<w.heap.size by omega)
  refine wp_region_over w.heap.size w (Below.refl _ _) (by kernel_rfl) (by kernel_rfl) ?_
  repeat (go_big_quiet_step ((go_at_call 147;exact over_same (CZ.out _))))
  refine wpQuiet_nil ?_
  rintro _ ⟨X,rfl⟩
  have BE:=Lib.hid (over_below w.heap.size w X)
  clear oB
  generalize over w.heap.size w X=W9 at *
  go_wp2
  go_ret
  exact⟨by rw[HE.out];rfl,BE.out⟩
 have hn1:((t.heights.length:Int) != t.width*t.height)=false:=by rw[bne,h1];rfl
 by_cases h2:((t.clutter.length:Int) == (t.heights.length:Int))=true
 case neg =>
  replace h2:((t.clutter.length:Int) == (t.heights.length:Int))=false:=Bool.eq_false_iff.2 h2
  have hn2:((t.clutter.length:Int) != (t.heights.length:Int))=true:=by rw[bne,h2];rfl
  have HE:Hid (terrS t=false):=by show _=_;unfold terrS;simp only[h0,h1,h2]<;>rfl
  go_enter Tryz.func91,Tryz.ntmps91
  go_upto_region 1 with (fail)
  have oB:=overC (w0:=w) (show b<w.heap.size by omega)
  refine wp_region_over w.heap.size w (Below.refl _ _) (by kernel_rfl) (by kernel_rfl) ?_
  repeat (go_big_quiet_step ((go_at_call 147;exact over_same (CZ.out _))))
  refine wpQuiet_nil ?_
  rintro _ ⟨X,rfl⟩
  have BE:=Lib.hid (over_below w.heap.size w X)
  clear oB
  generalize over w.heap.size w X=W9 at *
  go_wp2
  go_ret
  exact⟨by rw[HE.out];rfl,BE.out⟩
 have hn2:((t.clutter.length:Int) != (t.heights.length:Int))=false:=by rw[bne,h2];rfl
 have HE:Hid (terrS t=(List.range t.heights.length).all (terrAt t)):=by show _=_;unfold terrS;simp only[h0,h1,h2,Bool.true_and]
 have hlen:t.clutter.length=t.heights.length:=by have:=eq_of_beq h2;omega
 go_enter Tryz.func91,Tryz.ntmps91
 go_upto_region 1 with (fail)
 have oB:=overC (w0:=w) (show b<w.heap.size by omega)
 refine wp_region_over w.heap.size w (Below.refl _ _) (by kernel_rfl) (by kernel_rfl) ?_
 repeat (go_big_quiet_step ((go_at_call 147;exact over_same (CZ.out _))))
 refine wpQuiet_nil ?_
 rintro _ ⟨X,rfl⟩
 have BE:=Lib.hid (over_below w.heap.size w X)
 clear oB
 generalize over w.heap.size w X=W9 at *
 have d0:=(BE.out.cell (p:=⟨b,off,none⟩) hbl).trans c0
 have d3:=(BE.out.cell (p:=⟨b,off+3,none⟩) hbl).trans c3
 have d4:=(BE.out.cell (p:=⟨b,off+4,none⟩) hbl).trans c4
 obtain⟨ah2,ch2,eh2,_,_,hch⟩:=Rd.ints (HH.out.below (BE.out.mono hB))
 injection eh2 with e1 _ e3
 subst e1 e3
 obtain⟨ac2,cc2,ec2,_,_,hcc⟩:=Rd.ints (HC.out.below (BE.out.mono hB))
 injection ec2 with e1 _ e3
 subst e1 e3
 have HCH:=Lib.hid hch
 have HCC:=Lib.hid hcc
 clear hch hcc c0 c1 c2 c3 c4 h1 h2 hn1 hn2 d0
 go_wp2
 go_loop [3] (fun i=>∃ (k:Nat),k≤t.heights.length∧i=.int .i64 k∧(∀ j,j<k→terrAt t j=true)) (fun i=>t.heights.length-(intOf i).toNat)
 case atStart=>exact⟨0,Nat.zero_le _,rfl,fun j hj=>absurd hj (by omega)⟩
 case round =>
  obtain⟨k,hk,rfl,hno⟩:=hrel
  have HN:=Lib.hid hno
  clear hno
  by_cases hlt:k<t.heights.length
  ·obtain⟨bh,oh,eh,hbh,hath⟩:=HCH.out (by omega)
   obtain⟨bc,oc,ec,hbc,hatc⟩:=HCC.out (by omega)
   subst eh ec
   have s0:=hath k hlt
   have s1:=hatc k (by omega)
   clear hath hatc
   rw[gi_eq hlt] at s0
   rw[gi_eq (show k<t.clutter.length by omega)] at s1
   have j0:(0:Int)≤(k:Int):=by omega
   have j1:(k:Int)<(t.heights.length:Int):=by omega
   have j2:(k:Int)<(t.clutter.length:Int):=by omega
   have HA:Hid (terrAt t k=(inB (gi t.heights k) 0 90000&&inB (gi t.clutter k) 0 7)):=rfl
   generalize gi t.heights k=x at *
   generalize gi t.clutter k=y at *
   by_cases a0:inB x 0 90000=true
   case neg =>
    replace a0:inB x 0 90000=false:=Bool.eq_false_iff.2 a0
    have HQ:Hid (terrS t=false):=by show _=_;rw[HE.out];exact allR_false hlt (by rw[HA.out,a0];rfl)
    go_wp2_with (go_at_call 148;refine (l00In_any _ _ _ _).mono ?_;rintro e w1 ⟨rfl,rfl⟩)
    go_ret
    exact⟨by rw[HQ.out];rfl,BE.out⟩
   by_cases a1:inB y 0 7=true
   case neg =>
    replace a1:inB y 0 7=false:=Bool.eq_false_iff.2 a1
    have HQ:Hid (terrS t=false):=by show _=_;rw[HE.out];exact allR_false hlt (by rw[HA.out,a0,a1];rfl)
    go_wp2_with (go_at_call 148;refine (l00In_any _ _ _ _).mono ?_;rintro e w1 ⟨rfl,rfl⟩)
    go_ret
    exact⟨by rw[HQ.out];rfl,BE.out⟩
   have HQ:Hid (terrAt t k=true):=by show _=_;rw[HA.out,a0,a1];rfl
   go_wp2_with (go_at_call 148;refine (l00In_any _ _ _ _).mono ?_;rintro e w1 ⟨rfl,rfl⟩)
   go_round
   case rel=>exact⟨k+1,by omega,by go_num,upTo_succ HN.out HQ.out⟩
   case measure=>simp[intOf];omega
  ·obtain rfl:k=t.heights.length:=by omega
   have HQ:Hid (terrS t=true):=by show _=_;rw[HE.out];exact allR_true HN.out
   go_wp2
   go_ret
   exact⟨by rw[HQ.out];rfl,BE.out⟩
open Go.RowKit
set_option linter.unusedVariables false
set_option linter.unusedSimpArgs false
def rowI (m:List (List Int)) (i:Nat):List Int:=m.getD i []
theorem rowI_eq {m:List (List Int)} {i:Nat} (h:i<m.length):m[i]=rowI m i:=by simp[rowI,h]
def cellS (m:List (List Int)) (i k:Nat):Bool:=inB (gi (rowI m i) k) 0 100&&(gi (rowI m i) k == gi (rowI m k) i)
def apAtS (m:List (List Int)) (n i:Nat):Bool:=decide ((rowI m i).length=n)&&((gi (rowI m i) i == 0)&&(List.range i).all (cellS m i))
def apS (m:List (List Int)) (n:Nat):Bool:=decide (m.length=n)&&(List.range n).all (apAtS m n)
def apAtI (m:List (List Int)) (n i:Nat):Bool:=decide ((rowI m i).length=n)&&(((rowI m i).all fun x=>inB x 0 100)&&((gi (rowI m i) i == 0)&&(List.range i).all (fun k=>gi (rowI m i) k == gi (rowI m k) i)))
def apI (m:List (List Int)) (n:Nat):Bool:=decide (m.length=n)&&(List.range m.length).all (apAtI m m.length)
theorem apI_eq (m:List (List Int)) (n:Nat):apI m n=apS m n:=by
 unfold apI apS
 by_cases hn:m.length=n
 case neg=>rw[decide_eq_false hn];rfl
 subst hn
 rw[decide_eq_true rfl,Bool.true_and,Bool.true_and,Bool.eq_iff_iff,List.all_eq_true,List.all_eq_true]
 constructor
 ·intro h i hi
  have hi':i<m.length:=by simpa using hi
  have:=h i hi
  simp only[apAtI,Bool.and_eq_true,decide_eq_true_eq,List.all_eq_true] at this
  obtain⟨h1,h2,h3,h4⟩:=this
  simp only[apAtS,Bool.and_eq_true,decide_eq_true_eq,List.all_eq_true,cellS]
  refine⟨h1,h3,fun k hk=>⟨?_,h4 k hk⟩⟩
  have hk':k<i:=by simpa using hk
  rw[← gi_eq (show k<(rowI m i).length by omega)]
  exact h2 _ (List.getElem_mem _)
 ·intro h i hi
  have hi':i<m.length:=by simpa using hi
  have H:∀ i,i<m.length→(rowI m i).length=m.length∧(gi (rowI m i) i == 0)=true∧∀ k,k<i→inB (gi (rowI m i) k) 0 100=true∧(gi (rowI m i) k == gi (rowI m k) i)=true:=by
   intro i hi
   have:=h i (by simpa using hi)
   simp only[apAtS,Bool.and_eq_true,decide_eq_true_eq,List.all_eq_true,cellS] at this
   exact⟨this.1,this.2.1,fun k hk=>this.2.2 k (by simpa using hk)⟩
  obtain⟨h1,h2,h3⟩:=H i hi'
  simp only[apAtI,Bool.and_eq_true,decide_eq_true_eq,List.all_eq_true]
  refine⟨h1,fun x hx=>?_,h2,fun k hk=>(h3 k (by simpa using hk)).2⟩
  obtain⟨k,hk,rfl⟩:=List.getElem_of_mem hx
  rw[gi_eq hk]
  rcases Nat.lt_trichotomy k i with e|e|e
  ·exact (h3 k e).1
  ·subst e
   rw[eq_of_beq h2]
   rfl
  ·have:=(H k (by omega)).2.2 i e
   rw[← eq_of_beq this.2]
   exact this.1
theorem apAtS_len {m:List (List Int)} {n i:Nat} (h:apAtS m n i=true):(rowI m i).length=n:=by
 unfold apAtS at h
 rw[Bool.and_eq_true] at h
 exact of_decide_eq_true h.1
theorem Rd.rows {B:Nat} {w:World} {m:List (List Int)} {a:Option Addr} {c:Nat} (h:Rd B w (intssT m) (.slice a m.length c)) (hm:0<m.length) :
  ∃ b off,a=some ⟨b,off,none⟩∧b<B∧∀ i,i<m.length→∃ ai ci,w.cell? ⟨b,off+i,none⟩=some (.slice ai (rowI m i).length ci)∧Rd B w (intsT (rowI m i)) (.slice ai (rowI m i).length ci)∧(0<(rowI m i).length→∃ bi oi,ai=some ⟨bi,oi,none⟩∧bi<B ∧
   ∀ j,j<(rowI m i).length→w.cell? ⟨bi,oi+j,none⟩=some (.int .i64 (gi (rowI m i) j))):=by
 obtain⟨a',c',he,_,_,hcl⟩:=Rd.intss h
 injection he with e1 _ e3
 subst e1 e3
 obtain⟨b,off,ha,hb,hat⟩:=hcl hm
 refine⟨b,off,ha,hb,fun i hi=>?_⟩
 obtain⟨u,hu,hr⟩:=hat i hi
 rw[rowI_eq hi] at hr
 obtain⟨ai,ci,rfl,_,_,hci⟩:=Rd.ints hr
 refine⟨ai,ci,hu,hr,fun hp=>?_⟩
 obtain⟨bi,oi,e,hbi,hc⟩:=hci hp
 exact⟨bi,oi,e,hbi,fun j hj=>by rw[hc j hj,gi_eq hj]⟩
theorem l30Apart_any (m:List (List Int)) (n:Nat) (v:Value) (B:Nat) (w:World) (h:Rd B w (intssT m) v) (hB:B≤w.heap.size) (hl:m.length≤1099511627776) (hn:n≤1099511627776) (hr:∀ i,i<m.length→(rowI m i).length≤1099511627776) :
  Calls Tryz.prog 97 #[v,.int .i64 (n:Int)] w fun e w'=>e=.returned (.bool (apS m n))∧Below w.heap.size w w':=by
 obtain⟨a,c,rfl,_,_,_⟩:=Rd.intss h
 have HRD:=Lib.hid h
 clear h
 have hli:(m.length:Int)≤1099511627776:=by omega
 have hni:(n:Int)≤1099511627776:=by omega
 by_cases hmn:m.length=n
 case neg =>
  have HE:Hid (apS m n=false):=by show _=_;unfold apS;rw[decide_eq_false hmn];rfl
  have hne:((m.length:Int) != (n:Int))=true:=by simp;omega
  go_enter Tryz.func97,Tryz.ntmps97
  go_wp2
  go_ret
  exact⟨by rw[HE.out];rfl,Below.refl _ _⟩
 have HE:Hid (apS m n=(List.range n).all (apAtS m n)):=by show _=_;unfold apS;rw[decide_eq_true hmn,Bool.true_and]
 have hne:((m.length:Int) != (n:Int))=false:=by simp;omega
 have HMN:=Lib.hid hmn
 clear hmn
 go_enter Tryz.func97,Tryz.ntmps97
 go_wp2
 go_loopw [5] (fun i wr=>∃ (k:Nat),k≤n∧i=.int .i64 k∧(∀ j,j<k→apAtS m n j=true)∧Below w.heap.size w wr) (fun i wr=>n-(intOf i).toNat)
 case atStart=>exact⟨0,Nat.zero_le _,rfl,fun j hj=>absurd hj (by omega),Below.refl _ _⟩
 case round =>
  obtain⟨k,hk,rfl,hno,hb⟩:=hrel
  have HN:=Lib.hid hno
  have HB:=Lib.hid hb
  have zb:=hb.size
  clear hno hb
  by_cases hlt:k<n
  ·have hkm:k<m.length:=by rw[HMN.out];exact hlt
   obtain⟨b,off,ea,hbl,hat⟩:=HRD.out.rows (by omega)
   subst ea
   have HAT:=Lib.hid hat
   obtain⟨ak,ck,sk,_,hck⟩:=hat k hkm
   have hrk:=hr k hkm
   clear hat
   have hbw:b<w.heap.size:=by omega
   rw[← bat HB.out b _ hbw] at sk
   have i1:(0:Int)≤(k:Int):=by omega
   have i2:(k:Int)<(n:Int):=by omega
   have i3:(k:Int)<(m.length:Int):=by omega
   have HA:Hid (apAtS m n k=(decide ((rowI m k).length=n)&&((gi (rowI m k) k == 0)&&(List.range k).all (cellS m k)))):=rfl
   by_cases a0:(rowI m k).length=n
   case neg =>
    have hn1:(((rowI m k).length:Int) != (n:Int))=true:=by simp;omega
    have HQ:Hid (apS m n=false):=by show _=_;rw[HE.out];exact allR_false hlt (by rw[HA.out,decide_eq_false a0];rfl)
    clear hck
    go_wp2
    go_ret
    exact⟨by rw[HQ.out];rfl,HB.out⟩
   have hn1:(((rowI m k).length:Int) != (n:Int))=false:=by simp;omega
   have i4:(k:Int)<((rowI m k).length:Int):=by omega
   obtain⟨bk,ok,ea,hbk,hcz⟩:=hck (by omega)
   subst ea
   have HCK:=Lib.hid hcz
   have tk:=hcz k (by omega)
   clear hck hcz
   rw[← bat HB.out bk _ (by omega)] at tk
   by_cases a1:(gi (rowI m k) k == 0)=true
   case neg =>
    replace a1:(gi (rowI m k) k == 0)=false:=Bool.eq_false_iff.2 a1
    have hn2:(gi (rowI m k) k != 0)=true:=by rw[bne,a1];rfl
    have HQ:Hid (apS m n=false):=by show _=_;rw[HE.out];exact allR_false hlt (by rw[HA.out,a1];simp)
    generalize gi (rowI m k) k=x at *
    go_wp2
    go_ret
    exact⟨by rw[HQ.out];rfl,HB.out⟩
   have hn2:(gi (rowI m k) k != 0)=false:=by rw[bne,a1];rfl
   have HX:Hid ((List.range k).all (cellS m k)=true→apAtS m n k=true):=fun e=>by rw[HA.out,decide_eq_true a0,a1,e];rfl
   have HY:Hid ((List.range k).all (cellS m k)=false→apS m n=false):=fun e=>by rw[HE.out];exact allR_false hlt (by rw[HA.out,e];simp)
   have HA1:=Lib.hid a1
   have tk2:=tk
   generalize gi (rowI m k) k=x at hn2 tk2
   clear tk a1
   go_wp2
   clear tk2 hn2 hne hn1 sk
   go_loopw [6] (fun i wr=>∃ (q:Nat),q≤k∧i=.int .i64 q∧(∀ j,j<q→cellS m k j=true)∧Below w.heap.size w wr) (fun i wr=>k-(intOf i).toNat)
   case atStart=>exact⟨0,Nat.zero_le _,rfl,fun j hj=>absurd hj (by omega),HB.out⟩
   case round =>
    obtain⟨q,hq,rfl,hno2,hb2⟩:=hrel
    have HN2:=Lib.hid hno2
    have HB2:=Lib.hid hb2
    have zb2:=hb2.size
    clear hno2 hb2
    by_cases hqk:q<k
    ·have hqm:q<m.length:=by omega
     obtain⟨ak2,ck2,sk,_,hck2⟩:=HAT.out k hkm
     obtain⟨bk2,ok2,eak,hbk2,hck3⟩:=hck2 (by omega)
     subst eak
     obtain⟨aq,cq,sq,_,hcq⟩:=HAT.out q hqm
     have hlq:=apAtS_len (HN.out q hqk)
     obtain⟨bq,oq,eaq,hbq,hcq2⟩:=hcq (by omega)
     subst eaq
     have tq:=hck3 q (by omega)
     have uq:=hcq2 k (by omega)
     clear hck2 hck3 hcq hcq2
     rw[← bat HB2.out b _ hbw] at sk sq
     rw[← bat HB2.out bk2 _ (by omega)] at tq
     rw[← bat HB2.out bq _ (by omega)] at uq
     have j0:(0:Int)≤(q:Int):=by omega
     have j1:(q:Int)<(m.length:Int):=by omega
     have j2:(q:Int)<((rowI m k).length:Int):=by omega
     have j3:(k:Int)<((rowI m q).length:Int):=by omega
     have j4:(q:Int)<(k:Int):=by omega
     have HC:Hid (cellS m k q=(inB (gi (rowI m k) q) 0 100&&(gi (rowI m k) q == gi (rowI m q) k))):=rfl
     generalize gi (rowI m k) q=x at *
     generalize gi (rowI m q) k=y at *
     have CI:Hid (∀ W:World,Calls Tryz.prog 148 #[.int .i64 x,.int .i64 0,.int .i64 100] W fun e w'=>e=.returned (.bool (inB x 0 100))∧W=w'):=fun W=>l00In_any _ _ _ _
     go_wp2
     have o1:=overC (w0:=wr) (show b<wr.heap.size by omega)
     have o2:=overC (w0:=wr) (show bk2<wr.heap.size by omega)
     have o3:=overC (w0:=wr) (show bq<wr.heap.size by omega)
     by_cases e0:inB x 0 100=true
     case neg =>
      replace e0:inB x 0 100=false:=Bool.eq_false_iff.2 e0
      rw[e0] at CI
      have HQ:Hid (apS m n=false):=HY.out (allR_false hqk (by rw[HC.out,e0];rfl))
      refine wp_region_over wr.heap.size wr (Below.refl _ _) (by kernel_rfl) (by kernel_rfl) ?_
      repeat (go_big_quiet_step ((go_at_call 148;exact over_same (CI.out _))))
      refine wpQuiet_nil ?_
      rintro _ ⟨X,rfl⟩
      have hX:=over_below wr.heap.size wr X
      clear o1 o2 o3
      generalize over wr.heap.size wr X=w3 at *
      have BG:=Lib.hid (HB2.out.trans (hX.mono (by omega)))
      clear hX
      go_wp2
      go_ret
      exact⟨by rw[HQ.out];rfl,BG.out⟩
     rw[e0] at CI
     by_cases e1:(x == y)=true
     case neg =>
      replace e1:(x == y)=false:=Bool.eq_false_iff.2 e1
      have en:(x != y)=true:=by rw[bne,e1];rfl
      have HQ:Hid (apS m n=false):=HY.out (allR_false hqk (by rw[HC.out,e1];simp))
      refine wp_region_over wr.heap.size wr (Below.refl _ _) (by kernel_rfl) (by kernel_rfl) ?_
      repeat (go_big_quiet_step ((go_at_call 148;exact over_same (CI.out _))))
      refine wpQuiet_nil ?_
      rintro _ ⟨X,rfl⟩
      have hX:=over_below wr.heap.size wr X
      clear o1 o2 o3
      generalize over wr.heap.size wr X=w3 at *
      have BG:=Lib.hid (HB2.out.trans (hX.mono (by omega)))
      clear hX
      go_wp2
      go_ret
      exact⟨by rw[HQ.out];rfl,BG.out⟩
     have en:(x != y)=false:=by rw[bne,e1];rfl
     have HQ:Hid (cellS m k q=true):=by show _=_;rw[HC.out,e0,e1];rfl
     refine wp_region_over wr.heap.size wr (Below.refl _ _) (by kernel_rfl) (by kernel_rfl) ?_
     repeat (go_big_quiet_step ((go_at_call 148;exact over_same (CI.out _))))
     refine wpQuiet_nil ?_
     rintro _ ⟨X,rfl⟩
     have hX:=over_below wr.heap.size wr X
     clear o1 o2 o3
     generalize over wr.heap.size wr X=w3 at *
     have BG:=Lib.hid (HB2.out.trans (hX.mono (by omega)))
     clear hX
     go_wp2
     go_roundw
     case rel=>exact⟨q+1,by omega,by go_num,upTo_succ HN2.out HQ.out,BG.out⟩
     case measure=>simp[intOf];omega
    ·obtain rfl:q=k:=by omega
     have HG:Hid (apAtS m n q=true):=HX.out (allR_true HN2.out)
     go_wp2
     go_roundw
     case rel=>exact⟨q+1,by omega,by go_num,upTo_succ HN.out HG.out,HB2.out⟩
     case measure=>simp[intOf];omega
  ·obtain rfl:k=n:=by omega
   have HQ:Hid (apS m k=true):=by show _=_;rw[HE.out];exact allR_true HN.out
   go_wp2
   go_ret
   exact⟨by rw[HQ.out];rfl,HB.out⟩
end Go.Proofs.YtjfmkmcefnidcaaGreat
