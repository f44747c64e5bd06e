/- Contracts: areas, licences, bands, protected places and requests are valid, for the program and for the reference. Conditions: bounded lengths. -/
import Derived.Test.YtjfmkmcefnidcaaGreatNetA
import Derived.Test.YtjfmkmcefnidcaaGreatOrdS
import Derived.Test.YtjfmkmcefnidcaaGreatOver
import Derived.Test.YtjfmkmcefnidcaaGreatOpen
import Derived.Deep.DeepCutAuto
namespace Go.Proofs.YtjfmkmcefnidcaaGreat
set_option maxHeartbeats 2000000
set_option maxRecDepth 100000
open Go.RowKit
set_option linter.unusedVariables false
set_option linter.unusedSimpArgs false
def areaB (a:DArea):Bool:=inB a.west 0 a.east&&(inB a.south 0 a.north&&(decide (a.east≤200000)&&decide (a.north≤200000)))
def endB (e:DEnd):Bool:=pointB e.place&&inB e.above 1 3000
def licB (x:DLicence):Bool:=nameB x.id&&(nameB x.holder&&(inB x.low 1 100000000&&(inB x.high 1 100000000&&(decide (x.low<x.high)&&(areaB x.area&&(inB x.from_ 0 x.until_&&(decide (x.until_≤99999)&&inB x.power (-300000) 300000)))))))
def protB (x:DProtected):Bool:=nameB x.name&&(endB x.at_&&(inB x.low 1 100000000&&(inB x.high 1 100000000&&(decide (x.low<x.high)&&inB x.limit (-300000) 300000))))
theorem frequencyOk_any (n:Int) (w:World):Calls Tryz.prog 216 #[.int .i64 n] w fun e w'=>e=.returned (.bool (inB n 1 100000000))∧w=w':=by
 go_enter Tryz.func216,Tryz.ntmps216
 go_wp2_with (go_at_call 175;refine (within_any _ _ _ _).mono ?_;rintro e w1 ⟨rfl,rfl⟩)
 go_ret
 exact⟨rfl,rfl⟩
theorem l05Frequency_any (n:Int) (w:World):Calls Tryz.prog 204 #[.int .i64 n] w fun e w'=>e=.returned (.bool (inB n 1 100000000))∧w=w':=by
 go_enter Tryz.func204,Tryz.ntmps204
 go_wp2_with (go_at_call 148;refine (l00In_any _ _ _ _).mono ?_;rintro e w1 ⟨rfl,rfl⟩)
 go_ret
 exact⟨rfl,rfl⟩
theorem l09Frequency_any (n:Int) (w:World):Calls Tryz.prog 209 #[.int .i64 n] w fun e w'=>e=.returned (.bool (inB n 1 100000000))∧w=w':=by
 go_enter Tryz.func209,Tryz.ntmps209
 go_wp2_with (go_at_call 148;refine (l00In_any _ _ _ _).mono ?_;rintro e w1 ⟨rfl,rfl⟩)
 go_ret
 exact⟨rfl,rfl⟩
theorem validLevel_any (n:Int) (w:World):Calls Tryz.prog 218 #[.int .i64 n] w fun e w'=>e=.returned (.bool (inB n (-300000) 300000))∧w=w':=by
 go_enter Tryz.func218,Tryz.ntmps218
 go_wp2_with (go_at_call 175;refine (within_any _ _ _ _).mono ?_;rintro e w1 ⟨rfl,rfl⟩)
 go_ret
 exact⟨rfl,rfl⟩
theorem l02Level_any (n:Int) (w:World):Calls Tryz.prog 206 #[.int .i64 n] w fun e w'=>e=.returned (.bool (inB n (-300000) 300000))∧w=w':=by
 go_enter Tryz.func206,Tryz.ntmps206
 go_wp2_with (go_at_call 148;refine (l00In_any _ _ _ _).mono ?_;rintro e w1 ⟨rfl,rfl⟩)
 go_ret
 exact⟨rfl,rfl⟩
theorem dayOk_any (n:Int) (w:World):Calls Tryz.prog 112 #[.int .i64 n] w fun e w'=>e=.returned (.bool (inB n 0 99999))∧w=w':=by
 go_enter Tryz.func112,Tryz.ntmps112
 go_wp2_with (go_at_call 175;refine (within_any _ _ _ _).mono ?_;rintro e w1 ⟨rfl,rfl⟩)
 go_ret
 exact⟨rfl,rfl⟩
theorem l28Day_any (n:Int) (w:World):Calls Tryz.prog 96 #[.int .i64 n] w fun e w'=>e=.returned (.bool (inB n 0 99999))∧w=w':=by
 go_enter Tryz.func96,Tryz.ntmps96
 go_wp2_with (go_at_call 148;refine (l00In_any _ _ _ _).mono ?_;rintro e w1 ⟨rfl,rfl⟩)
 go_ret
 exact⟨rfl,rfl⟩
theorem validArea_any (a:DArea) (w:World) :
  Calls Tryz.prog 217 #[.agg #[.int .i64 a.west,.int .i64 a.south,.int .i64 a.east,.int .i64 a.north]] w fun e w'=>e=.returned (.bool (areaB a))∧Below w.heap.size w w':=by
 by_cases h0:inB a.west 0 a.east=true
 case neg =>
  replace h0:inB a.west 0 a.east=false:=Bool.eq_false_iff.2 h0
  have HE:Hid (areaB a=false):=by show _=_;unfold areaB;simp only[h0]<;>rfl
  go_enter Tryz.func217,Tryz.ntmps217
  go_wp2_with (first|(go_at_call 175;refine (within_any _ _ _ _).mono ?_;rintro e w1 ⟨rfl,rfl⟩))
  go_ret
  exact⟨by rw[HE.out];rfl,by exact (Below.refl _ _).alloc (Nat.le_refl _) _⟩
 by_cases h1:inB a.south 0 a.north=true
 case neg =>
  replace h1:inB a.south 0 a.north=false:=Bool.eq_false_iff.2 h1
  have HE:Hid (areaB a=false):=by show _=_;unfold areaB;simp only[h0,h1]<;>rfl
  go_enter Tryz.func217,Tryz.ntmps217
  go_wp2_with (first|(go_at_call 175;refine (within_any _ _ _ _).mono ?_;rintro e w1 ⟨rfl,rfl⟩))
  go_ret
  exact⟨by rw[HE.out];rfl,by exact (Below.refl _ _).alloc (Nat.le_refl _) _⟩
 by_cases h2:a.east≤200000
 case neg =>
  have hd2:decide (a.east≤200000)=false:=decide_eq_false h2
  replace h2:200000<a.east:=by omega
  have HE:Hid (areaB a=false):=by show _=_;unfold areaB;simp only[h0,h1,hd2]<;>rfl
  go_enter Tryz.func217,Tryz.ntmps217
  go_wp2_with (first|(go_at_call 175;refine (within_any _ _ _ _).mono ?_;rintro e w1 ⟨rfl,rfl⟩))
  go_ret
  exact⟨by rw[HE.out];rfl,by exact (Below.refl _ _).alloc (Nat.le_refl _) _⟩
 have hd2:decide (a.east≤200000)=true:=decide_eq_true h2
 by_cases h3:a.north≤200000
 case neg =>
  have hd3:decide (a.north≤200000)=false:=decide_eq_false h3
  replace h3:200000<a.north:=by omega
  have HE:Hid (areaB a=false):=by show _=_;unfold areaB;simp only[h0,h1,hd2,hd3]<;>rfl
  go_enter Tryz.func217,Tryz.ntmps217
  go_wp2_with (first|(go_at_call 175;refine (within_any _ _ _ _).mono ?_;rintro e w1 ⟨rfl,rfl⟩))
  go_ret
  exact⟨by rw[HE.out];rfl,by exact (Below.refl _ _).alloc (Nat.le_refl _) _⟩
 have hd3:decide (a.north≤200000)=true:=decide_eq_true h3
 have HE:Hid (areaB a=true):=by show _=_;unfold areaB;simp only[h0,h1,hd2,hd3]<;>rfl
 go_enter Tryz.func217,Tryz.ntmps217
 go_wp2_with (first|(go_at_call 175;refine (within_any _ _ _ _).mono ?_;rintro e w1 ⟨rfl,rfl⟩))
 go_ret
 exact⟨by rw[HE.out];rfl,by exact (Below.refl _ _).alloc (Nat.le_refl _) _⟩
theorem l26Area_any (a:DArea) (w:World) :
  Calls Tryz.prog 205 #[.agg #[.int .i64 a.west,.int .i64 a.south,.int .i64 a.east,.int .i64 a.north]] w fun e w'=>e=.returned (.bool (areaB a))∧Below w.heap.size w w':=by
 by_cases h0:inB a.west 0 a.east=true
 case neg =>
  replace h0:inB a.west 0 a.east=false:=Bool.eq_false_iff.2 h0
  have HE:Hid (areaB a=false):=by show _=_;unfold areaB;simp only[h0]<;>rfl
  go_enter Tryz.func205,Tryz.ntmps205
  go_wp2_with (first|(go_at_call 148;refine (l00In_any _ _ _ _).mono ?_;rintro e w1 ⟨rfl,rfl⟩))
  go_ret
  exact⟨by rw[HE.out];rfl,by exact (Below.refl _ _).alloc (Nat.le_refl _) _⟩
 by_cases h1:inB a.south 0 a.north=true
 case neg =>
  replace h1:inB a.south 0 a.north=false:=Bool.eq_false_iff.2 h1
  have HE:Hid (areaB a=false):=by show _=_;unfold areaB;simp only[h0,h1]<;>rfl
  go_enter Tryz.func205,Tryz.ntmps205
  go_wp2_with (first|(go_at_call 148;refine (l00In_any _ _ _ _).mono ?_;rintro e w1 ⟨rfl,rfl⟩))
  go_ret
  exact⟨by rw[HE.out];rfl,by exact (Below.refl _ _).alloc (Nat.le_refl _) _⟩
 by_cases h2:a.east≤200000
 case neg =>
  have hd2:decide (a.east≤200000)=false:=decide_eq_false h2
  replace h2:200000<a.east:=by omega
  have HE:Hid (areaB a=false):=by show _=_;unfold areaB;simp only[h0,h1,hd2]<;>rfl
  go_enter Tryz.func205,Tryz.ntmps205
  go_wp2_with (first|(go_at_call 148;refine (l00In_any _ _ _ _).mono ?_;rintro e w1 ⟨rfl,rfl⟩))
  go_ret
  exact⟨by rw[HE.out];rfl,by exact (Below.refl _ _).alloc (Nat.le_refl _) _⟩
 have hd2:decide (a.east≤200000)=true:=decide_eq_true h2
 by_cases h3:a.north≤200000
 case neg =>
  have hd3:decide (a.north≤200000)=false:=decide_eq_false h3
  replace h3:200000<a.north:=by omega
  have HE:Hid (areaB a=false):=by show _=_;unfold areaB;simp only[h0,h1,hd2,hd3]<;>rfl
  go_enter Tryz.func205,Tryz.ntmps205
  go_wp2_with (first|(go_at_call 148;refine (l00In_any _ _ _ _).mono ?_;rintro e w1 ⟨rfl,rfl⟩))
  go_ret
  exact⟨by rw[HE.out];rfl,by exact (Below.refl _ _).alloc (Nat.le_refl _) _⟩
 have hd3:decide (a.north≤200000)=true:=decide_eq_true h3
 have HE:Hid (areaB a=true):=by show _=_;unfold areaB;simp only[h0,h1,hd2,hd3]<;>rfl
 go_enter Tryz.func205,Tryz.ntmps205
 go_wp2_with (first|(go_at_call 148;refine (l00In_any _ _ _ _).mono ?_;rintro e w1 ⟨rfl,rfl⟩))
 go_ret
 exact⟨by rw[HE.out];rfl,by exact (Below.refl _ _).alloc (Nat.le_refl _) _⟩
theorem validEnd_any (q:DEnd) (w:World) :
  Calls Tryz.prog 221 #[.agg #[.int .i64 q.place.x,.int .i64 q.place.y,.int .i64 q.above]] w fun e w'=>e=.returned (.bool (endB q))∧Below w.heap.size w w':=by
 have B0:Hid (Below w.heap.size w (w.alloc (.cells #[.int .i64 q.place.x,.int .i64 q.place.y,.int .i64 q.above] 81))):=(Below.alloc (Below.refl _ _) (by first|exact Nat.le_refl _|(simp;done)|(simp;omega)) _)
 have HD:Hid (∀ W:World,Below (w.alloc (.cells #[.int .i64 q.place.x,.int .i64 q.place.y,.int .i64 q.above] 81)).heap.size (w.alloc (.cells #[.int .i64 q.place.x,.int .i64 q.place.y,.int .i64 q.above] 81)) W→(W.cell? ⟨w.heap.size,0,none⟩=some (.int .i64 q.place.x)∧W.cell? ⟨w.heap.size,1,none⟩=some (.int .i64 q.place.y)∧W.cell? ⟨w.heap.size,2,none⟩=some (.int .i64 q.above))):=fun W hW=>⟨by rw[hW.cell (p:=⟨w.heap.size,0,none⟩) (by first|(simp;done)|(simp;omega))];simp[go_sem],by rw[hW.cell (p:=⟨w.heap.size,1,none⟩) (by first|(simp;done)|(simp;omega))];simp[go_sem],by rw[hW.cell (p:=⟨w.heap.size,2,none⟩) (by first|(simp;done)|(simp;omega))];simp[go_sem]⟩
 have HB:Hid (Below (w.alloc (.cells #[.int .i64 q.place.x,.int .i64 q.place.y,.int .i64 q.above] 81)).heap.size (w.alloc (.cells #[.int .i64 q.place.x,.int .i64 q.place.y,.int .i64 q.above] 81)) (w.alloc (.cells #[.int .i64 q.place.x,.int .i64 q.place.y,.int .i64 q.above] 81))):=Below.refl _ _
 by_cases h0:pointB q.place=true
 case neg =>
  replace h0:pointB q.place=false:=Bool.eq_false_iff.2 h0
  have HE:Hid (endB q=false):=by show _=_;unfold endB;simp only[h0]<;>rfl
  go_enter Tryz.func221,Tryz.ntmps221
  go_wp2_with (first|(go_at_call 213;refine (validPoint_any q.place _).mono ?_;rintro e w2 ⟨rfl,hb2⟩;(try clear t0 t1 t2);replace HB:=Lib.hid (HB.out.trans (hb2.mono HB.out.size));clear hb2;obtain⟨t0,t1,t2⟩:=HD.out _ HB.out)|(go_at_call 175;refine (within_any _ _ _ _).mono ?_;rintro e w1 ⟨rfl,rfl⟩))
  go_ret
  exact⟨by rw[HE.out];rfl,by exact B0.out.trans (HB.out.mono (by first|exact Nat.le_refl _|(simp;done)|(simp;omega)))⟩
 by_cases h1:inB q.above 1 3000=true
 case neg =>
  replace h1:inB q.above 1 3000=false:=Bool.eq_false_iff.2 h1
  have HE:Hid (endB q=false):=by show _=_;unfold endB;simp only[h0,h1]<;>rfl
  go_enter Tryz.func221,Tryz.ntmps221
  go_wp2_with (first|(go_at_call 213;refine (validPoint_any q.place _).mono ?_;rintro e w2 ⟨rfl,hb2⟩;(try clear t0 t1 t2);replace HB:=Lib.hid (HB.out.trans (hb2.mono HB.out.size));clear hb2;obtain⟨t0,t1,t2⟩:=HD.out _ HB.out)|(go_at_call 175;refine (within_any _ _ _ _).mono ?_;rintro e w1 ⟨rfl,rfl⟩))
  go_ret
  exact⟨by rw[HE.out];rfl,by exact B0.out.trans (HB.out.mono (by first|exact Nat.le_refl _|(simp;done)|(simp;omega)))⟩
 have HE:Hid (endB q=true):=by show _=_;unfold endB;simp only[h0,h1]<;>rfl
 go_enter Tryz.func221,Tryz.ntmps221
 go_wp2_with (first|(go_at_call 213;refine (validPoint_any q.place _).mono ?_;rintro e w2 ⟨rfl,hb2⟩;(try clear t0 t1 t2);replace HB:=Lib.hid (HB.out.trans (hb2.mono HB.out.size));clear hb2;obtain⟨t0,t1,t2⟩:=HD.out _ HB.out)|(go_at_call 175;refine (within_any _ _ _ _).mono ?_;rintro e w1 ⟨rfl,rfl⟩))
 go_ret
 exact⟨by rw[HE.out];rfl,by exact B0.out.trans (HB.out.mono (by first|exact Nat.le_refl _|(simp;done)|(simp;omega)))⟩
theorem l12End_any (q:DEnd) (w:World) :
  Calls Tryz.prog 208 #[.agg #[.int .i64 q.place.x,.int .i64 q.place.y,.int .i64 q.above]] w fun e w'=>e=.returned (.bool (endB q))∧Below w.heap.size w w':=by
 have B0:Hid (Below w.heap.size w (w.alloc (.cells #[.int .i64 q.place.x,.int .i64 q.place.y,.int .i64 q.above] 81))):=(Below.alloc (Below.refl _ _) (by first|exact Nat.le_refl _|(simp;done)|(simp;omega)) _)
 have HD:Hid (∀ W:World,Below (w.alloc (.cells #[.int .i64 q.place.x,.int .i64 q.place.y,.int .i64 q.above] 81)).heap.size (w.alloc (.cells #[.int .i64 q.place.x,.int .i64 q.place.y,.int .i64 q.above] 81)) W→(W.cell? ⟨w.heap.size,0,none⟩=some (.int .i64 q.place.x)∧W.cell? ⟨w.heap.size,1,none⟩=some (.int .i64 q.place.y)∧W.cell? ⟨w.heap.size,2,none⟩=some (.int .i64 q.above))):=fun W hW=>⟨by rw[hW.cell (p:=⟨w.heap.size,0,none⟩) (by first|(simp;done)|(simp;omega))];simp[go_sem],by rw[hW.cell (p:=⟨w.heap.size,1,none⟩) (by first|(simp;done)|(simp;omega))];simp[go_sem],by rw[hW.cell (p:=⟨w.heap.size,2,none⟩) (by first|(simp;done)|(simp;omega))];simp[go_sem]⟩
 have HB:Hid (Below (w.alloc (.cells #[.int .i64 q.place.x,.int .i64 q.place.y,.int .i64 q.above] 81)).heap.size (w.alloc (.cells #[.int .i64 q.place.x,.int .i64 q.place.y,.int .i64 q.above] 81)) (w.alloc (.cells #[.int .i64 q.place.x,.int .i64 q.place.y,.int .i64 q.above] 81))):=Below.refl _ _
 by_cases h0:pointB q.place=true
 case neg =>
  replace h0:pointB q.place=false:=Bool.eq_false_iff.2 h0
  have HE:Hid (endB q=false):=by show _=_;unfold endB;simp only[h0]<;>rfl
  go_enter Tryz.func208,Tryz.ntmps208
  go_wp2_with (first|(go_at_call 202;refine (l03Ok_any q.place _).mono ?_;rintro e w2 ⟨rfl,hb2⟩;(try clear t0 t1 t2);replace HB:=Lib.hid (HB.out.trans (hb2.mono HB.out.size));clear hb2;obtain⟨t0,t1,t2⟩:=HD.out _ HB.out)|(go_at_call 148;refine (l00In_any _ _ _ _).mono ?_;rintro e w1 ⟨rfl,rfl⟩))
  go_ret
  exact⟨by rw[HE.out];rfl,by exact B0.out.trans (HB.out.mono (by first|exact Nat.le_refl _|(simp;done)|(simp;omega)))⟩
 by_cases h1:inB q.above 1 3000=true
 case neg =>
  replace h1:inB q.above 1 3000=false:=Bool.eq_false_iff.2 h1
  have HE:Hid (endB q=false):=by show _=_;unfold endB;simp only[h0,h1]<;>rfl
  go_enter Tryz.func208,Tryz.ntmps208
  go_wp2_with (first|(go_at_call 202;refine (l03Ok_any q.place _).mono ?_;rintro e w2 ⟨rfl,hb2⟩;(try clear t0 t1 t2);replace HB:=Lib.hid (HB.out.trans (hb2.mono HB.out.size));clear hb2;obtain⟨t0,t1,t2⟩:=HD.out _ HB.out)|(go_at_call 148;refine (l00In_any _ _ _ _).mono ?_;rintro e w1 ⟨rfl,rfl⟩))
  go_ret
  exact⟨by rw[HE.out];rfl,by exact B0.out.trans (HB.out.mono (by first|exact Nat.le_refl _|(simp;done)|(simp;omega)))⟩
 have HE:Hid (endB q=true):=by show _=_;unfold endB;simp only[h0,h1]<;>rfl
 go_enter Tryz.func208,Tryz.ntmps208
 go_wp2_with (first|(go_at_call 202;refine (l03Ok_any q.place _).mono ?_;rintro e w2 ⟨rfl,hb2⟩;(try clear t0 t1 t2);replace HB:=Lib.hid (HB.out.trans (hb2.mono HB.out.size));clear hb2;obtain⟨t0,t1,t2⟩:=HD.out _ HB.out)|(go_at_call 148;refine (l00In_any _ _ _ _).mono ?_;rintro e w1 ⟨rfl,rfl⟩))
 go_ret
 exact⟨by rw[HE.out];rfl,by exact B0.out.trans (HB.out.mono (by first|exact Nat.le_refl _|(simp;done)|(simp;omega)))⟩
theorem validLicence_any (x:DLicence) (k0:x.id.size≤maxLen) (k1:x.holder.size≤maxLen) (w:World) :
  Calls Tryz.prog 170 #[.agg #[.string x.id,.string x.holder,.int .i64 x.low,.int .i64 x.high,.int .i64 x.area.west,.int .i64 x.area.south,.int .i64 x.area.east,.int .i64 x.area.north,.int .i64 x.from_,.int .i64 x.until_,.int .i64 x.power]] w fun e w'=>e=.returned (.bool (licB x))∧Below w.heap.size w w':=by
 have B0:Hid (Below w.heap.size w (w.alloc (.cells #[.string x.id,.string x.holder,.int .i64 x.low,.int .i64 x.high,.int .i64 x.area.west,.int .i64 x.area.south,.int .i64 x.area.east,.int .i64 x.area.north,.int .i64 x.from_,.int .i64 x.until_,.int .i64 x.power] 90))):=(Below.alloc (Below.refl _ _) (by first|exact Nat.le_refl _|(simp;done)|(simp;omega)) _)
 have HD:Hid (∀ W:World,Below (w.alloc (.cells #[.string x.id,.string x.holder,.int .i64 x.low,.int .i64 x.high,.int .i64 x.area.west,.int .i64 x.area.south,.int .i64 x.area.east,.int .i64 x.area.north,.int .i64 x.from_,.int .i64 x.until_,.int .i64 x.power] 90)).heap.size (w.alloc (.cells #[.string x.id,.string x.holder,.int .i64 x.low,.int .i64 x.high,.int .i64 x.area.west,.int .i64 x.area.south,.int .i64 x.area.east,.int .i64 x.area.north,.int .i64 x.from_,.int .i64 x.until_,.int .i64 x.power] 90)) W→(W.cell? ⟨w.heap.size,0,none⟩=some (.string x.id)∧W.cell? ⟨w.heap.size,1,none⟩=some (.string x.holder)∧W.cell? ⟨w.heap.size,2,none⟩=some (.int .i64 x.low)∧W.cell? ⟨w.heap.size,3,none⟩=some (.int .i64 x.high)∧W.cell? ⟨w.heap.size,4,none⟩=some (.int .i64 x.area.west)∧W.cell? ⟨w.heap.size,5,none⟩=some (.int .i64 x.area.south)∧W.cell? ⟨w.heap.size,6,none⟩=some (.int .i64 x.area.east)∧W.cell? ⟨w.heap.size,7,none⟩=some (.int .i64 x.area.north)∧W.cell? ⟨w.heap.size,8,none⟩=some (.int .i64 x.from_)∧W.cell? ⟨w.heap.size,9,none⟩=some (.int .i64 x.until_)∧W.cell? ⟨w.heap.size,10,none⟩=some (.int .i64 x.power))):=fun W hW=>⟨by rw[hW.cell (p:=⟨w.heap.size,0,none⟩) (by first|(simp;done)|(simp;omega))];simp[go_sem],by rw[hW.cell (p:=⟨w.heap.size,1,none⟩) (by first|(simp;done)|(simp;omega))];simp[go_sem],by rw[hW.cell (p:=⟨w.heap.size,2,none⟩) (by first|(simp;done)|(simp;omega))];simp[go_sem],by rw[hW.cell (p:=⟨w.heap.size,3,none⟩) (by first|(simp;done)|(simp;omega))];simp[go_sem],by rw[hW.cell (p:=⟨w.heap.size,4,none⟩) (by first|(simp;done)|(simp;omega))];simp[go_sem],by rw[hW.cell (p:=⟨w.heap.size,5,none⟩) (by first|(simp;done)|(simp;omega))];simp[go_sem],by rw[hW.cell (p:=⟨w.heap.size,6,none⟩) (by first|(simp;done)|(simp;omega))];simp[go_sem],by rw[hW.cell (p:=⟨w.heap.size,7,none⟩) (by first|(simp;done)|(simp;omega))];simp[go_sem],by rw[hW.cell (p:=⟨w.heap.size,8,none⟩) (by first|(simp;done)|(simp;omega))];simp[go_sem],by rw[hW.cell (p:=⟨w.heap.size,9,none⟩) (by first|(simp;done)|(simp;omega))];simp[go_sem],by rw[hW.cell (p:=⟨w.heap.size,10,none⟩) (by first|(simp;done)|(simp;omega))];simp[go_sem]⟩
 have HB:Hid (Below (w.alloc (.cells #[.string x.id,.string x.holder,.int .i64 x.low,.int .i64 x.high,.int .i64 x.area.west,.int .i64 x.area.south,.int .i64 x.area.east,.int .i64 x.area.north,.int .i64 x.from_,.int .i64 x.until_,.int .i64 x.power] 90)).heap.size (w.alloc (.cells #[.string x.id,.string x.holder,.int .i64 x.low,.int .i64 x.high,.int .i64 x.area.west,.int .i64 x.area.south,.int .i64 x.area.east,.int .i64 x.area.north,.int .i64 x.from_,.int .i64 x.until_,.int .i64 x.power] 90)) (w.alloc (.cells #[.string x.id,.string x.holder,.int .i64 x.low,.int .i64 x.high,.int .i64 x.area.west,.int .i64 x.area.south,.int .i64 x.area.east,.int .i64 x.area.north,.int .i64 x.from_,.int .i64 x.until_,.int .i64 x.power] 90))):=Below.refl _ _
 by_cases h0:nameB x.id=true
 case neg =>
  replace h0:nameB x.id=false:=Bool.eq_false_iff.2 h0
  have HE:Hid (licB x=false):=by show _=_;unfold licB;simp only[h0]<;>rfl
  go_enter Tryz.func170,Tryz.ntmps170
  go_wp2_with (first|(go_at_call 212;refine (isName_any _ _ (by assumption)).mono ?_;rintro e w1 ⟨rfl,rfl⟩)|(go_at_call 216;refine (frequencyOk_any _ _).mono ?_;rintro e w1 ⟨rfl,rfl⟩)|(go_at_call 217;refine (validArea_any x.area _).mono ?_;rintro e w2 ⟨rfl,hb2⟩;(try clear t0 t1 t2 t3 t4 t5 t6 t7 t8 t9 t10);replace HB:=Lib.hid (HB.out.trans (hb2.mono HB.out.size));clear hb2;obtain⟨t0,t1,t2,t3,t4,t5,t6,t7,t8,t9,t10⟩:=HD.out _ HB.out)|(go_at_call 175;refine (within_any _ _ _ _).mono ?_;rintro e w1 ⟨rfl,rfl⟩)|(go_at_call 218;refine (validLevel_any _ _).mono ?_;rintro e w1 ⟨rfl,rfl⟩))
  go_ret
  exact⟨by rw[HE.out];rfl,by exact B0.out.trans (HB.out.mono (by first|exact Nat.le_refl _|(simp;done)|(simp;omega)))⟩
 by_cases h1:nameB x.holder=true
 case neg =>
  replace h1:nameB x.holder=false:=Bool.eq_false_iff.2 h1
  have HE:Hid (licB x=false):=by show _=_;unfold licB;simp only[h0,h1]<;>rfl
  go_enter Tryz.func170,Tryz.ntmps170
  go_wp2_with (first|(go_at_call 212;refine (isName_any _ _ (by assumption)).mono ?_;rintro e w1 ⟨rfl,rfl⟩)|(go_at_call 216;refine (frequencyOk_any _ _).mono ?_;rintro e w1 ⟨rfl,rfl⟩)|(go_at_call 217;refine (validArea_any x.area _).mono ?_;rintro e w2 ⟨rfl,hb2⟩;(try clear t0 t1 t2 t3 t4 t5 t6 t7 t8 t9 t10);replace HB:=Lib.hid (HB.out.trans (hb2.mono HB.out.size));clear hb2;obtain⟨t0,t1,t2,t3,t4,t5,t6,t7,t8,t9,t10⟩:=HD.out _ HB.out)|(go_at_call 175;refine (within_any _ _ _ _).mono ?_;rintro e w1 ⟨rfl,rfl⟩)|(go_at_call 218;refine (validLevel_any _ _).mono ?_;rintro e w1 ⟨rfl,rfl⟩))
  go_ret
  exact⟨by rw[HE.out];rfl,by exact B0.out.trans (HB.out.mono (by first|exact Nat.le_refl _|(simp;done)|(simp;omega)))⟩
 by_cases h2:inB x.low 1 100000000=true
 case neg =>
  replace h2:inB x.low 1 100000000=false:=Bool.eq_false_iff.2 h2
  have HE:Hid (licB x=false):=by show _=_;unfold licB;simp only[h0,h1,h2]<;>rfl
  go_enter Tryz.func170,Tryz.ntmps170
  go_wp2_with (first|(go_at_call 212;refine (isName_any _ _ (by assumption)).mono ?_;rintro e w1 ⟨rfl,rfl⟩)|(go_at_call 216;refine (frequencyOk_any _ _).mono ?_;rintro e w1 ⟨rfl,rfl⟩)|(go_at_call 217;refine (validArea_any x.area _).mono ?_;rintro e w2 ⟨rfl,hb2⟩;(try clear t0 t1 t2 t3 t4 t5 t6 t7 t8 t9 t10);replace HB:=Lib.hid (HB.out.trans (hb2.mono HB.out.size));clear hb2;obtain⟨t0,t1,t2,t3,t4,t5,t6,t7,t8,t9,t10⟩:=HD.out _ HB.out)|(go_at_call 175;refine (within_any _ _ _ _).mono ?_;rintro e w1 ⟨rfl,rfl⟩)|(go_at_call 218;refine (validLevel_any _ _).mono ?_;rintro e w1 ⟨rfl,rfl⟩))
  go_ret
  exact⟨by rw[HE.out];rfl,by exact B0.out.trans (HB.out.mono (by first|exact Nat.le_refl _|(simp;done)|(simp;omega)))⟩
 by_cases h3:inB x.high 1 100000000=true
 case neg =>
  replace h3:inB x.high 1 100000000=false:=Bool.eq_false_iff.2 h3
  have HE:Hid (licB x=false):=by show _=_;unfold licB;simp only[h0,h1,h2,h3]<;>rfl
  go_enter Tryz.func170,Tryz.ntmps170
  go_wp2_with (first|(go_at_call 212;refine (isName_any _ _ (by assumption)).mono ?_;rintro e w1 ⟨rfl,rfl⟩)|(go_at_call 216;refine (frequencyOk_any _ _).mono ?_;rintro e w1 ⟨rfl,rfl⟩)|(go_at_call 217;refine (validArea_any x.area _).mono ?_;rintro e w2 ⟨rfl,hb2⟩;(try clear t0 t1 t2 t3 t4 t5 t6 t7 t8 t9 t10);replace HB:=Lib.hid (HB.out.trans (hb2.mono HB.out.size));clear hb2;obtain⟨t0,t1,t2,t3,t4,t5,t6,t7,t8,t9,t10⟩:=HD.out _ HB.out)|(go_at_call 175;refine (within_any _ _ _ _).mono ?_;rintro e w1 ⟨rfl,rfl⟩)|(go_at_call 218;refine (validLevel_any _ _).mono ?_;rintro e w1 ⟨rfl,rfl⟩))
  go_ret
  exact⟨by rw[HE.out];rfl,by exact B0.out.trans (HB.out.mono (by first|exact Nat.le_refl _|(simp;done)|(simp;omega)))⟩
 by_cases h4:x.low<x.high
 case neg =>
  have hd4:decide (x.low<x.high)=false:=decide_eq_false h4
  replace h4:x.high≤x.low:=by omega
  have HE:Hid (licB x=false):=by show _=_;unfold licB;simp only[h0,h1,h2,h3,hd4]<;>rfl
  go_enter Tryz.func170,Tryz.ntmps170
  go_wp2_with (first|(go_at_call 212;refine (isName_any _ _ (by assumption)).mono ?_;rintro e w1 ⟨rfl,rfl⟩)|(go_at_call 216;refine (frequencyOk_any _ _).mono ?_;rintro e w1 ⟨rfl,rfl⟩)|(go_at_call 217;refine (validArea_any x.area _).mono ?_;rintro e w2 ⟨rfl,hb2⟩;(try clear t0 t1 t2 t3 t4 t5 t6 t7 t8 t9 t10);replace HB:=Lib.hid (HB.out.trans (hb2.mono HB.out.size));clear hb2;obtain⟨t0,t1,t2,t3,t4,t5,t6,t7,t8,t9,t10⟩:=HD.out _ HB.out)|(go_at_call 175;refine (within_any _ _ _ _).mono ?_;rintro e w1 ⟨rfl,rfl⟩)|(go_at_call 218;refine (validLevel_any _ _).mono ?_;rintro e w1 ⟨rfl,rfl⟩))
  go_ret
  exact⟨by rw[HE.out];rfl,by exact B0.out.trans (HB.out.mono (by first|exact Nat.le_refl _|(simp;done)|(simp;omega)))⟩
 have hd4:decide (x.low<x.high)=true:=decide_eq_true h4
 by_cases h5:areaB x.area=true
 case neg =>
  replace h5:areaB x.area=false:=Bool.eq_false_iff.2 h5
  have HE:Hid (licB x=false):=by show _=_;unfold licB;simp only[h0,h1,h2,h3,hd4,h5]<;>rfl
  go_enter Tryz.func170,Tryz.ntmps170
  go_wp2_with (first|(go_at_call 212;refine (isName_any _ _ (by assumption)).mono ?_;rintro e w1 ⟨rfl,rfl⟩)|(go_at_call 216;refine (frequencyOk_any _ _).mono ?_;rintro e w1 ⟨rfl,rfl⟩)|(go_at_call 217;refine (validArea_any x.area _).mono ?_;rintro e w2 ⟨rfl,hb2⟩;(try clear t0 t1 t2 t3 t4 t5 t6 t7 t8 t9 t10);replace HB:=Lib.hid (HB.out.trans (hb2.mono HB.out.size));clear hb2;obtain⟨t0,t1,t2,t3,t4,t5,t6,t7,t8,t9,t10⟩:=HD.out _ HB.out)|(go_at_call 175;refine (within_any _ _ _ _).mono ?_;rintro e w1 ⟨rfl,rfl⟩)|(go_at_call 218;refine (validLevel_any _ _).mono ?_;rintro e w1 ⟨rfl,rfl⟩))
  go_ret
  exact⟨by rw[HE.out];rfl,by exact B0.out.trans (HB.out.mono (by first|exact Nat.le_refl _|(simp;done)|(simp;omega)))⟩
 by_cases h6:inB x.from_ 0 x.until_=true
 case neg =>
  replace h6:inB x.from_ 0 x.until_=false:=Bool.eq_false_iff.2 h6
  have HE:Hid (licB x=false):=by show _=_;unfold licB;simp only[h0,h1,h2,h3,hd4,h5,h6]<;>rfl
  go_enter Tryz.func170,Tryz.ntmps170
  go_wp2_with (first|(go_at_call 212;refine (isName_any _ _ (by assumption)).mono ?_;rintro e w1 ⟨rfl,rfl⟩)|(go_at_call 216;refine (frequencyOk_any _ _).mono ?_;rintro e w1 ⟨rfl,rfl⟩)|(go_at_call 217;refine (validArea_any x.area _).mono ?_;rintro e w2 ⟨rfl,hb2⟩;(try clear t0 t1 t2 t3 t4 t5 t6 t7 t8 t9 t10);replace HB:=Lib.hid (HB.out.trans (hb2.mono HB.out.size));clear hb2;obtain⟨t0,t1,t2,t3,t4,t5,t6,t7,t8,t9,t10⟩:=HD.out _ HB.out)|(go_at_call 175;refine (within_any _ _ _ _).mono ?_;rintro e w1 ⟨rfl,rfl⟩)|(go_at_call 218;refine (validLevel_any _ _).mono ?_;rintro e w1 ⟨rfl,rfl⟩))
  go_ret
  exact⟨by rw[HE.out];rfl,by exact B0.out.trans (HB.out.mono (by first|exact Nat.le_refl _|(simp;done)|(simp;omega)))⟩
 by_cases h7:x.until_≤99999
 case neg =>
  have hd7:decide (x.until_≤99999)=false:=decide_eq_false h7
  replace h7:99999<x.until_:=by omega
  have HE:Hid (licB x=false):=by show _=_;unfold licB;simp only[h0,h1,h2,h3,hd4,h5,h6,hd7]<;>rfl
  go_enter Tryz.func170,Tryz.ntmps170
  go_wp2_with (first|(go_at_call 212;refine (isName_any _ _ (by assumption)).mono ?_;rintro e w1 ⟨rfl,rfl⟩)|(go_at_call 216;refine (frequencyOk_any _ _).mono ?_;rintro e w1 ⟨rfl,rfl⟩)|(go_at_call 217;refine (validArea_any x.area _).mono ?_;rintro e w2 ⟨rfl,hb2⟩;(try clear t0 t1 t2 t3 t4 t5 t6 t7 t8 t9 t10);replace HB:=Lib.hid (HB.out.trans (hb2.mono HB.out.size));clear hb2;obtain⟨t0,t1,t2,t3,t4,t5,t6,t7,t8,t9,t10⟩:=HD.out _ HB.out)|(go_at_call 175;refine (within_any _ _ _ _).mono ?_;rintro e w1 ⟨rfl,rfl⟩)|(go_at_call 218;refine (validLevel_any _ _).mono ?_;rintro e w1 ⟨rfl,rfl⟩))
  go_ret
  exact⟨by rw[HE.out];rfl,by exact B0.out.trans (HB.out.mono (by first|exact Nat.le_refl _|(simp;done)|(simp;omega)))⟩
 have hd7:decide (x.until_≤99999)=true:=decide_eq_true h7
 by_cases h8:inB x.power (-300000) 300000=true
 case neg =>
  replace h8:inB x.power (-300000) 300000=false:=Bool.eq_false_iff.2 h8
  have HE:Hid (licB x=false):=by show _=_;unfold licB;simp only[h0,h1,h2,h3,hd4,h5,h6,hd7,h8]<;>rfl
  go_enter Tryz.func170,Tryz.ntmps170
  go_wp2_with (first|(go_at_call 212;refine (isName_any _ _ (by assumption)).mono ?_;rintro e w1 ⟨rfl,rfl⟩)|(go_at_call 216;refine (frequencyOk_any _ _).mono ?_;rintro e w1 ⟨rfl,rfl⟩)|(go_at_call 217;refine (validArea_any x.area _).mono ?_;rintro e w2 ⟨rfl,hb2⟩;(try clear t0 t1 t2 t3 t4 t5 t6 t7 t8 t9 t10);replace HB:=Lib.hid (HB.out.trans (hb2.mono HB.out.size));clear hb2;obtain⟨t0,t1,t2,t3,t4,t5,t6,t7,t8,t9,t10⟩:=HD.out _ HB.out)|(go_at_call 175;refine (within_any _ _ _ _).mono ?_;rintro e w1 ⟨rfl,rfl⟩)|(go_at_call 218;refine (validLevel_any _ _).mono ?_;rintro e w1 ⟨rfl,rfl⟩))
  go_ret
  exact⟨by rw[HE.out];rfl,by exact B0.out.trans (HB.out.mono (by first|exact Nat.le_refl _|(simp;done)|(simp;omega)))⟩
 have HE:Hid (licB x=true):=by show _=_;unfold licB;simp only[h0,h1,h2,h3,hd4,h5,h6,hd7,h8]<;>rfl
 go_enter Tryz.func170,Tryz.ntmps170
 go_wp2_with (first|(go_at_call 212;refine (isName_any _ _ (by assumption)).mono ?_;rintro e w1 ⟨rfl,rfl⟩)|(go_at_call 216;refine (frequencyOk_any _ _).mono ?_;rintro e w1 ⟨rfl,rfl⟩)|(go_at_call 217;refine (validArea_any x.area _).mono ?_;rintro e w2 ⟨rfl,hb2⟩;(try clear t0 t1 t2 t3 t4 t5 t6 t7 t8 t9 t10);replace HB:=Lib.hid (HB.out.trans (hb2.mono HB.out.size));clear hb2;obtain⟨t0,t1,t2,t3,t4,t5,t6,t7,t8,t9,t10⟩:=HD.out _ HB.out)|(go_at_call 175;refine (within_any _ _ _ _).mono ?_;rintro e w1 ⟨rfl,rfl⟩)|(go_at_call 218;refine (validLevel_any _ _).mono ?_;rintro e w1 ⟨rfl,rfl⟩))
 go_ret
 exact⟨by rw[HE.out];rfl,by exact B0.out.trans (HB.out.mono (by first|exact Nat.le_refl _|(simp;done)|(simp;omega)))⟩
theorem protectedValid_any (x:DProtected) (k0:x.name.size≤maxLen) (w:World) :
  Calls Tryz.prog 174 #[.agg #[.string x.name,.int .i64 x.at_.place.x,.int .i64 x.at_.place.y,.int .i64 x.at_.above,.int .i64 x.low,.int .i64 x.high,.int .i64 x.limit]] w fun e w'=>e=.returned (.bool (protB x))∧Below w.heap.size w w':=by
 have B0:Hid (Below w.heap.size w (w.alloc (.cells #[.string x.name,.int .i64 x.at_.place.x,.int .i64 x.at_.place.y,.int .i64 x.at_.above,.int .i64 x.low,.int .i64 x.high,.int .i64 x.limit] 83))):=(Below.alloc (Below.refl _ _) (by first|exact Nat.le_refl _|(simp;done)|(simp;omega)) _)
 have HD:Hid (∀ W:World,Below (w.alloc (.cells #[.string x.name,.int .i64 x.at_.place.x,.int .i64 x.at_.place.y,.int .i64 x.at_.above,.int .i64 x.low,.int .i64 x.high,.int .i64 x.limit] 83)).heap.size (w.alloc (.cells #[.string x.name,.int .i64 x.at_.place.x,.int .i64 x.at_.place.y,.int .i64 x.at_.above,.int .i64 x.low,.int .i64 x.high,.int .i64 x.limit] 83)) W→(W.cell? ⟨w.heap.size,0,none⟩=some (.string x.name)∧W.cell? ⟨w.heap.size,1,none⟩=some (.int .i64 x.at_.place.x)∧W.cell? ⟨w.heap.size,2,none⟩=some (.int .i64 x.at_.place.y)∧W.cell? ⟨w.heap.size,3,none⟩=some (.int .i64 x.at_.above)∧W.cell? ⟨w.heap.size,4,none⟩=some (.int .i64 x.low)∧W.cell? ⟨w.heap.size,5,none⟩=some (.int .i64 x.high)∧W.cell? ⟨w.heap.size,6,none⟩=some (.int .i64 x.limit))):=fun W hW=>⟨by rw[hW.cell (p:=⟨w.heap.size,0,none⟩) (by first|(simp;done)|(simp;omega))];simp[go_sem],by rw[hW.cell (p:=⟨w.heap.size,1,none⟩) (by first|(simp;done)|(simp;omega))];simp[go_sem],by rw[hW.cell (p:=⟨w.heap.size,2,none⟩) (by first|(simp;done)|(simp;omega))];simp[go_sem],by rw[hW.cell (p:=⟨w.heap.size,3,none⟩) (by first|(simp;done)|(simp;omega))];simp[go_sem],by rw[hW.cell (p:=⟨w.heap.size,4,none⟩) (by first|(simp;done)|(simp;omega))];simp[go_sem],by rw[hW.cell (p:=⟨w.heap.size,5,none⟩) (by first|(simp;done)|(simp;omega))];simp[go_sem],by rw[hW.cell (p:=⟨w.heap.size,6,none⟩) (by first|(simp;done)|(simp;omega))];simp[go_sem]⟩
 have HB:Hid (Below (w.alloc (.cells #[.string x.name,.int .i64 x.at_.place.x,.int .i64 x.at_.place.y,.int .i64 x.at_.above,.int .i64 x.low,.int .i64 x.high,.int .i64 x.limit] 83)).heap.size (w.alloc (.cells #[.string x.name,.int .i64 x.at_.place.x,.int .i64 x.at_.place.y,.int .i64 x.at_.above,.int .i64 x.low,.int .i64 x.high,.int .i64 x.limit] 83)) (w.alloc (.cells #[.string x.name,.int .i64 x.at_.place.x,.int .i64 x.at_.place.y,.int .i64 x.at_.above,.int .i64 x.low,.int .i64 x.high,.int .i64 x.limit] 83))):=Below.refl _ _
 by_cases h0:nameB x.name=true
 case neg =>
  replace h0:nameB x.name=false:=Bool.eq_false_iff.2 h0
  have HE:Hid (protB x=false):=by show _=_;unfold protB;simp only[h0]<;>rfl
  go_enter Tryz.func174,Tryz.ntmps174
  go_wp2_with (first|(go_at_call 212;refine (isName_any _ _ (by assumption)).mono ?_;rintro e w1 ⟨rfl,rfl⟩)|(go_at_call 216;refine (frequencyOk_any _ _).mono ?_;rintro e w1 ⟨rfl,rfl⟩)|(go_at_call 221;refine (validEnd_any x.at_ _).mono ?_;rintro e w2 ⟨rfl,hb2⟩;(try clear t0 t1 t2 t3 t4 t5 t6);replace HB:=Lib.hid (HB.out.trans (hb2.mono HB.out.size));clear hb2;obtain⟨t0,t1,t2,t3,t4,t5,t6⟩:=HD.out _ HB.out)|(go_at_call 218;refine (validLevel_any _ _).mono ?_;rintro e w1 ⟨rfl,rfl⟩))
  go_ret
  exact⟨by rw[HE.out];rfl,by exact B0.out.trans (HB.out.mono (by first|exact Nat.le_refl _|(simp;done)|(simp;omega)))⟩
 by_cases h1:endB x.at_=true
 case neg =>
  replace h1:endB x.at_=false:=Bool.eq_false_iff.2 h1
  have HE:Hid (protB x=false):=by show _=_;unfold protB;simp only[h0,h1]<;>rfl
  go_enter Tryz.func174,Tryz.ntmps174
  go_wp2_with (first|(go_at_call 212;refine (isName_any _ _ (by assumption)).mono ?_;rintro e w1 ⟨rfl,rfl⟩)|(go_at_call 216;refine (frequencyOk_any _ _).mono ?_;rintro e w1 ⟨rfl,rfl⟩)|(go_at_call 221;refine (validEnd_any x.at_ _).mono ?_;rintro e w2 ⟨rfl,hb2⟩;(try clear t0 t1 t2 t3 t4 t5 t6);replace HB:=Lib.hid (HB.out.trans (hb2.mono HB.out.size));clear hb2;obtain⟨t0,t1,t2,t3,t4,t5,t6⟩:=HD.out _ HB.out)|(go_at_call 218;refine (validLevel_any _ _).mono ?_;rintro e w1 ⟨rfl,rfl⟩))
  go_ret
  exact⟨by rw[HE.out];rfl,by exact B0.out.trans (HB.out.mono (by first|exact Nat.le_refl _|(simp;done)|(simp;omega)))⟩
 by_cases h2:inB x.low 1 100000000=true
 case neg =>
  replace h2:inB x.low 1 100000000=false:=Bool.eq_false_iff.2 h2
  have HE:Hid (protB x=false):=by show _=_;unfold protB;simp only[h0,h1,h2]<;>rfl
  go_enter Tryz.func174,Tryz.ntmps174
  go_wp2_with (first|(go_at_call 212;refine (isName_any _ _ (by assumption)).mono ?_;rintro e w1 ⟨rfl,rfl⟩)|(go_at_call 216;refine (frequencyOk_any _ _).mono ?_;rintro e w1 ⟨rfl,rfl⟩)|(go_at_call 221;refine (validEnd_any x.at_ _).mono ?_;rintro e w2 ⟨rfl,hb2⟩;(try clear t0 t1 t2 t3 t4 t5 t6);replace HB:=Lib.hid (HB.out.trans (hb2.mono HB.out.size));clear hb2;obtain⟨t0,t1,t2,t3,t4,t5,t6⟩:=HD.out _ HB.out)|(go_at_call 218;refine (validLevel_any _ _).mono ?_;rintro e w1 ⟨rfl,rfl⟩))
  go_ret
  exact⟨by rw[HE.out];rfl,by exact B0.out.trans (HB.out.mono (by first|exact Nat.le_refl _|(simp;done)|(simp;omega)))⟩
 by_cases h3:inB x.high 1 100000000=true
 case neg =>
  replace h3:inB x.high 1 100000000=false:=Bool.eq_false_iff.2 h3
  have HE:Hid (protB x=false):=by show _=_;unfold protB;simp only[h0,h1,h2,h3]<;>rfl
  go_enter Tryz.func174,Tryz.ntmps174
  go_wp2_with (first|(go_at_call 212;refine (isName_any _ _ (by assumption)).mono ?_;rintro e w1 ⟨rfl,rfl⟩)|(go_at_call 216;refine (frequencyOk_any _ _).mono ?_;rintro e w1 ⟨rfl,rfl⟩)|(go_at_call 221;refine (validEnd_any x.at_ _).mono ?_;rintro e w2 ⟨rfl,hb2⟩;(try clear t0 t1 t2 t3 t4 t5 t6);replace HB:=Lib.hid (HB.out.trans (hb2.mono HB.out.size));clear hb2;obtain⟨t0,t1,t2,t3,t4,t5,t6⟩:=HD.out _ HB.out)|(go_at_call 218;refine (validLevel_any _ _).mono ?_;rintro e w1 ⟨rfl,rfl⟩))
  go_ret
  exact⟨by rw[HE.out];rfl,by exact B0.out.trans (HB.out.mono (by first|exact Nat.le_refl _|(simp;done)|(simp;omega)))⟩
 by_cases h4:x.low<x.high
 case neg =>
  have hd4:decide (x.low<x.high)=false:=decide_eq_false h4
  replace h4:x.high≤x.low:=by omega
  have HE:Hid (protB x=false):=by show _=_;unfold protB;simp only[h0,h1,h2,h3,hd4]<;>rfl
  go_enter Tryz.func174,Tryz.ntmps174
  go_wp2_with (first|(go_at_call 212;refine (isName_any _ _ (by assumption)).mono ?_;rintro e w1 ⟨rfl,rfl⟩)|(go_at_call 216;refine (frequencyOk_any _ _).mono ?_;rintro e w1 ⟨rfl,rfl⟩)|(go_at_call 221;refine (validEnd_any x.at_ _).mono ?_;rintro e w2 ⟨rfl,hb2⟩;(try clear t0 t1 t2 t3 t4 t5 t6);replace HB:=Lib.hid (HB.out.trans (hb2.mono HB.out.size));clear hb2;obtain⟨t0,t1,t2,t3,t4,t5,t6⟩:=HD.out _ HB.out)|(go_at_call 218;refine (validLevel_any _ _).mono ?_;rintro e w1 ⟨rfl,rfl⟩))
  go_ret
  exact⟨by rw[HE.out];rfl,by exact B0.out.trans (HB.out.mono (by first|exact Nat.le_refl _|(simp;done)|(simp;omega)))⟩
 have hd4:decide (x.low<x.high)=true:=decide_eq_true h4
 by_cases h5:inB x.limit (-300000) 300000=true
 case neg =>
  replace h5:inB x.limit (-300000) 300000=false:=Bool.eq_false_iff.2 h5
  have HE:Hid (protB x=false):=by show _=_;unfold protB;simp only[h0,h1,h2,h3,hd4,h5]<;>rfl
  go_enter Tryz.func174,Tryz.ntmps174
  go_wp2_with (first|(go_at_call 212;refine (isName_any _ _ (by assumption)).mono ?_;rintro e w1 ⟨rfl,rfl⟩)|(go_at_call 216;refine (frequencyOk_any _ _).mono ?_;rintro e w1 ⟨rfl,rfl⟩)|(go_at_call 221;refine (validEnd_any x.at_ _).mono ?_;rintro e w2 ⟨rfl,hb2⟩;(try clear t0 t1 t2 t3 t4 t5 t6);replace HB:=Lib.hid (HB.out.trans (hb2.mono HB.out.size));clear hb2;obtain⟨t0,t1,t2,t3,t4,t5,t6⟩:=HD.out _ HB.out)|(go_at_call 218;refine (validLevel_any _ _).mono ?_;rintro e w1 ⟨rfl,rfl⟩))
  go_ret
  exact⟨by rw[HE.out];rfl,by exact B0.out.trans (HB.out.mono (by first|exact Nat.le_refl _|(simp;done)|(simp;omega)))⟩
 have HE:Hid (protB x=true):=by show _=_;unfold protB;simp only[h0,h1,h2,h3,hd4,h5]<;>rfl
 go_enter Tryz.func174,Tryz.ntmps174
 go_wp2_with (first|(go_at_call 212;refine (isName_any _ _ (by assumption)).mono ?_;rintro e w1 ⟨rfl,rfl⟩)|(go_at_call 216;refine (frequencyOk_any _ _).mono ?_;rintro e w1 ⟨rfl,rfl⟩)|(go_at_call 221;refine (validEnd_any x.at_ _).mono ?_;rintro e w2 ⟨rfl,hb2⟩;(try clear t0 t1 t2 t3 t4 t5 t6);replace HB:=Lib.hid (HB.out.trans (hb2.mono HB.out.size));clear hb2;obtain⟨t0,t1,t2,t3,t4,t5,t6⟩:=HD.out _ HB.out)|(go_at_call 218;refine (validLevel_any _ _).mono ?_;rintro e w1 ⟨rfl,rfl⟩))
 go_ret
 exact⟨by rw[HE.out];rfl,by exact B0.out.trans (HB.out.mono (by first|exact Nat.le_refl _|(simp;done)|(simp;omega)))⟩
theorem l26Ok_any (x:DLicence) (b off:Nat) (w:World) (c0:w.cell? ⟨b,off,none⟩=some (.string x.id)) (c1:w.cell? ⟨b,off+1,none⟩=some (.string x.holder)) (c2:w.cell? ⟨b,off+2,none⟩=some (.int .i64 x.low)) (c3:w.cell? ⟨b,off+3,none⟩=some (.int .i64 x.high)) (c4:w.cell? ⟨b,off+4,none⟩=some (.int .i64 x.area.west)) (c5:w.cell? ⟨b,off+5,none⟩=some (.int .i64 x.area.south)) (c6:w.cell? ⟨b,off+6,none⟩=some (.int .i64 x.area.east)) (c7:w.cell? ⟨b,off+7,none⟩=some (.int .i64 x.area.north)) (c8:w.cell? ⟨b,off+8,none⟩=some (.int .i64 x.from_)) (c9:w.cell? ⟨b,off+9,none⟩=some (.int .i64 x.until_)) (c10:w.cell? ⟨b,off+10,none⟩=some (.int .i64 x.power)) (k0:x.id.size≤maxLen) (k1:x.holder.size≤maxLen) :
  Calls Tryz.prog 154 #[.pointer (some ⟨b,off,none⟩)] w fun e w'=>e=.returned (.bool (licB x))∧Below w.heap.size w w':=by
 have hbl:=cell_lt c0
 dsimp only at hbl
 by_cases h0:nameB x.id=true
 case neg =>
  replace h0:nameB x.id=false:=Bool.eq_false_iff.2 h0
  have C0:Hid (∀ W:World,Calls Tryz.prog 201 #[.string x.id] W fun e w'=>e=.returned (.bool false)∧W=w'):=fun W=>by
   have hh:=l01Name_any x.id W k0
   rw[h0] at hh
   exact hh
  have HE:Hid (licB x=false):=by show _=_;unfold licB;simp only[h0]<;>rfl
  go_enter Tryz.func154,Tryz.ntmps154
  go_upto_region 1 with (fail)
  have oB0:=overC (w0:=w) (show b<w.heap.size by omega)
  refine wp_region_over w.heap.size w (Below.refl _ _) (by kernel_rfl) (by kernel_rfl) ?_
  simp only[List.append_eq,List.cons_append,List.nil_append]
  repeat (go_big_quiet_step (first|(go_at_call 201;with_reducible exact over_same (C0.out _))))
  refine wpQuiet_nil ?_
  rintro _ ⟨X,rfl⟩
  have BE:=Lib.hid (over_below w.heap.size w X)
  clear oB0
  generalize over w.heap.size w X=W9 at *
  go_wp2
  go_ret
  exact⟨by rw[HE.out];rfl,by exact BE.out⟩
 by_cases h1:nameB x.holder=true
 case neg =>
  replace h1:nameB x.holder=false:=Bool.eq_false_iff.2 h1
  have C0:Hid (∀ W:World,Calls Tryz.prog 201 #[.string x.id] W fun e w'=>e=.returned (.bool true)∧W=w'):=fun W=>by
   have hh:=l01Name_any x.id W k0
   rw[h0] at hh
   exact hh
  have C1:Hid (∀ W:World,Calls Tryz.prog 201 #[.string x.holder] W fun e w'=>e=.returned (.bool false)∧W=w'):=fun W=>by
   have hh:=l01Name_any x.holder W k1
   rw[h1] at hh
   exact hh
  have HE:Hid (licB x=false):=by show _=_;unfold licB;simp only[h0,h1]<;>rfl
  go_enter Tryz.func154,Tryz.ntmps154
  go_upto_region 1 with (fail)
  have oB0:=overC (w0:=w) (show b<w.heap.size by omega)
  refine wp_region_over w.heap.size w (Below.refl _ _) (by kernel_rfl) (by kernel_rfl) ?_
  simp only[List.append_eq,List.cons_append,List.nil_append]
  repeat (go_big_quiet_step (first|(go_at_call 201;with_reducible exact over_same (C0.out _))|(go_at_call 201;with_reducible exact over_same (C1.out _))))
  refine wpQuiet_nil ?_
  rintro _ ⟨X,rfl⟩
  have BE:=Lib.hid (over_below w.heap.size w X)
  clear oB0
  generalize over w.heap.size w X=W9 at *
  go_wp2
  go_ret
  exact⟨by rw[HE.out];rfl,by exact BE.out⟩
 by_cases h2:inB x.low 1 100000000=true
 case neg =>
  replace h2:inB x.low 1 100000000=false:=Bool.eq_false_iff.2 h2
  have C0:Hid (∀ W:World,Calls Tryz.prog 201 #[.string x.id] W fun e w'=>e=.returned (.bool true)∧W=w'):=fun W=>by
   have hh:=l01Name_any x.id W k0
   rw[h0] at hh
   exact hh
  have C1:Hid (∀ W:World,Calls Tryz.prog 201 #[.string x.holder] W fun e w'=>e=.returned (.bool true)∧W=w'):=fun W=>by
   have hh:=l01Name_any x.holder W k1
   rw[h1] at hh
   exact hh
  have C2:Hid (∀ W:World,Calls Tryz.prog 204 #[.int .i64 x.low] W fun e w'=>e=.returned (.bool false)∧W=w'):=fun W=>by
   have hh:=l05Frequency_any x.low W
   rw[h2] at hh
   exact hh
  have HE:Hid (licB x=false):=by show _=_;unfold licB;simp only[h0,h1,h2]<;>rfl
  go_enter Tryz.func154,Tryz.ntmps154
  go_upto_region 1 with (fail)
  have oB0:=overC (w0:=w) (show b<w.heap.size by omega)
  refine wp_region_over w.heap.size w (Below.refl _ _) (by kernel_rfl) (by kernel_rfl) ?_
  simp only[List.append_eq,List.cons_append,List.nil_append]
  repeat (go_big_quiet_step (first|(go_at_call 201;with_reducible exact over_same (C0.out _))|(go_at_call 201;with_reducible exact over_same (C1.out _))|(go_at_call 204;with_reducible exact over_same (C2.out _))))
  refine wpQuiet_nil ?_
  rintro _ ⟨X,rfl⟩
  have BE:=Lib.hid (over_below w.heap.size w X)
  clear oB0
  generalize over w.heap.size w X=W9 at *
  go_wp2
  go_ret
  exact⟨by rw[HE.out];rfl,by exact BE.out⟩
 by_cases h3:inB x.high 1 100000000=true
 case neg =>
  replace h3:inB x.high 1 100000000=false:=Bool.eq_false_iff.2 h3
  have C0:Hid (∀ W:World,Calls Tryz.prog 201 #[.string x.id] W fun e w'=>e=.returned (.bool true)∧W=w'):=fun W=>by
   have hh:=l01Name_any x.id W k0
   rw[h0] at hh
   exact hh
  have C1:Hid (∀ W:World,Calls Tryz.prog 201 #[.string x.holder] W fun e w'=>e=.returned (.bool true)∧W=w'):=fun W=>by
   have hh:=l01Name_any x.holder W k1
   rw[h1] at hh
   exact hh
  have C2:Hid (∀ W:World,Calls Tryz.prog 204 #[.int .i64 x.low] W fun e w'=>e=.returned (.bool true)∧W=w'):=fun W=>by
   have hh:=l05Frequency_any x.low W
   rw[h2] at hh
   exact hh
  have C3:Hid (∀ W:World,Calls Tryz.prog 204 #[.int .i64 x.high] W fun e w'=>e=.returned (.bool false)∧W=w'):=fun W=>by
   have hh:=l05Frequency_any x.high W
   rw[h3] at hh
   exact hh
  have HE:Hid (licB x=false):=by show _=_;unfold licB;simp only[h0,h1,h2,h3]<;>rfl
  go_enter Tryz.func154,Tryz.ntmps154
  go_upto_region 1 with (fail)
  have oB0:=overC (w0:=w) (show b<w.heap.size by omega)
  refine wp_region_over w.heap.size w (Below.refl _ _) (by kernel_rfl) (by kernel_rfl) ?_
  simp only[List.append_eq,List.cons_append,List.nil_append]
  repeat (go_big_quiet_step (first|(go_at_call 201;with_reducible exact over_same (C0.out _))|(go_at_call 201;with_reducible exact over_same (C1.out _))|(go_at_call 204;with_reducible exact over_same (C2.out _))|(go_at_call 204;with_reducible exact over_same (C3.out _))))
  refine wpQuiet_nil ?_
  rintro _ ⟨X,rfl⟩
  have BE:=Lib.hid (over_below w.heap.size w X)
  clear oB0
  generalize over w.heap.size w X=W9 at *
  go_wp2
  go_ret
  exact⟨by rw[HE.out];rfl,by exact BE.out⟩
 by_cases h4:x.low<x.high
 case neg =>
  have hd4:decide (x.low<x.high)=false:=decide_eq_false h4
  replace h4:x.high≤x.low:=by omega
  have C0:Hid (∀ W:World,Calls Tryz.prog 201 #[.string x.id] W fun e w'=>e=.returned (.bool true)∧W=w'):=fun W=>by
   have hh:=l01Name_any x.id W k0
   rw[h0] at hh
   exact hh
  have C1:Hid (∀ W:World,Calls Tryz.prog 201 #[.string x.holder] W fun e w'=>e=.returned (.bool true)∧W=w'):=fun W=>by
   have hh:=l01Name_any x.holder W k1
   rw[h1] at hh
   exact hh
  have C2:Hid (∀ W:World,Calls Tryz.prog 204 #[.int .i64 x.low] W fun e w'=>e=.returned (.bool true)∧W=w'):=fun W=>by
   have hh:=l05Frequency_any x.low W
   rw[h2] at hh
   exact hh
  have C3:Hid (∀ W:World,Calls Tryz.prog 204 #[.int .i64 x.high] W fun e w'=>e=.returned (.bool true)∧W=w'):=fun W=>by
   have hh:=l05Frequency_any x.high W
   rw[h3] at hh
   exact hh
  have HE:Hid (licB x=false):=by show _=_;unfold licB;simp only[h0,h1,h2,h3,hd4]<;>rfl
  go_enter Tryz.func154,Tryz.ntmps154
  go_upto_region 1 with (fail)
  have oB0:=overC (w0:=w) (show b<w.heap.size by omega)
  refine wp_region_over w.heap.size w (Below.refl _ _) (by kernel_rfl) (by kernel_rfl) ?_
  simp only[List.append_eq,List.cons_append,List.nil_append]
  repeat (go_big_quiet_step (first|(go_at_call 201;with_reducible exact over_same (C0.out _))|(go_at_call 201;with_reducible exact over_same (C1.out _))|(go_at_call 204;with_reducible exact over_same (C2.out _))|(go_at_call 204;with_reducible exact over_same (C3.out _))))
  refine wpQuiet_nil ?_
  rintro _ ⟨X,rfl⟩
  have BE:=Lib.hid (over_below w.heap.size w X)
  clear oB0
  generalize over w.heap.size w X=W9 at *
  go_wp2
  go_ret
  exact⟨by rw[HE.out];rfl,by exact BE.out⟩
 have hd4:decide (x.low<x.high)=true:=decide_eq_true h4
 by_cases h5:areaB x.area=true
 case neg =>
  replace h5:areaB x.area=false:=Bool.eq_false_iff.2 h5
  have C0:Hid (∀ W:World,Calls Tryz.prog 201 #[.string x.id] W fun e w'=>e=.returned (.bool true)∧W=w'):=fun W=>by
   have hh:=l01Name_any x.id W k0
   rw[h0] at hh
   exact hh
  have C1:Hid (∀ W:World,Calls Tryz.prog 201 #[.string x.holder] W fun e w'=>e=.returned (.bool true)∧W=w'):=fun W=>by
   have hh:=l01Name_any x.holder W k1
   rw[h1] at hh
   exact hh
  have C2:Hid (∀ W:World,Calls Tryz.prog 204 #[.int .i64 x.low] W fun e w'=>e=.returned (.bool true)∧W=w'):=fun W=>by
   have hh:=l05Frequency_any x.low W
   rw[h2] at hh
   exact hh
  have C3:Hid (∀ W:World,Calls Tryz.prog 204 #[.int .i64 x.high] W fun e w'=>e=.returned (.bool true)∧W=w'):=fun W=>by
   have hh:=l05Frequency_any x.high W
   rw[h3] at hh
   exact hh
  have C4:Hid (∀ W:World,Calls Tryz.prog 205 #[.agg #[.int .i64 x.area.west,.int .i64 x.area.south,.int .i64 x.area.east,.int .i64 x.area.north]] W fun e w'=>e=.returned (.bool false)∧Below W.heap.size W w'):=fun W=>by
   have hh:=l26Area_any x.area W
   rw[h5] at hh
   exact hh
  have HE:Hid (licB x=false):=by show _=_;unfold licB;simp only[h0,h1,h2,h3,hd4,h5]<;>rfl
  go_enter Tryz.func154,Tryz.ntmps154
  go_upto_region 1 with (fail)
  have oB0:=overC (w0:=w) (show b<w.heap.size by omega)
  refine wp_region_over w.heap.size w (Below.refl _ _) (by kernel_rfl) (by kernel_rfl) ?_
  simp only[List.append_eq,List.cons_append,List.nil_append]
  repeat (go_big_quiet_step (first|(go_at_call 201;with_reducible exact over_same (C0.out _))|(go_at_call 201;with_reducible exact over_same (C1.out _))|(go_at_call 204;with_reducible exact over_same (C2.out _))|(go_at_call 204;with_reducible exact over_same (C3.out _))|(go_at_call 205;with_reducible exact over_left (Nat.le_refl _) (C4.out _))))
  refine wpQuiet_nil ?_
  rintro _ ⟨X,rfl⟩
  have BE:=Lib.hid (over_below w.heap.size w X)
  clear oB0
  generalize over w.heap.size w X=W9 at *
  go_wp2
  go_ret
  exact⟨by rw[HE.out];rfl,by exact BE.out⟩
 by_cases h6:inB x.from_ 0 x.until_=true
 case neg =>
  replace h6:inB x.from_ 0 x.until_=false:=Bool.eq_false_iff.2 h6
  have C0:Hid (∀ W:World,Calls Tryz.prog 201 #[.string x.id] W fun e w'=>e=.returned (.bool true)∧W=w'):=fun W=>by
   have hh:=l01Name_any x.id W k0
   rw[h0] at hh
   exact hh
  have C1:Hid (∀ W:World,Calls Tryz.prog 201 #[.string x.holder] W fun e w'=>e=.returned (.bool true)∧W=w'):=fun W=>by
   have hh:=l01Name_any x.holder W k1
   rw[h1] at hh
   exact hh
  have C2:Hid (∀ W:World,Calls Tryz.prog 204 #[.int .i64 x.low] W fun e w'=>e=.returned (.bool true)∧W=w'):=fun W=>by
   have hh:=l05Frequency_any x.low W
   rw[h2] at hh
   exact hh
  have C3:Hid (∀ W:World,Calls Tryz.prog 204 #[.int .i64 x.high] W fun e w'=>e=.returned (.bool true)∧W=w'):=fun W=>by
   have hh:=l05Frequency_any x.high W
   rw[h3] at hh
   exact hh
  have C4:Hid (∀ W:World,Calls Tryz.prog 205 #[.agg #[.int .i64 x.area.west,.int .i64 x.area.south,.int .i64 x.area.east,.int .i64 x.area.north]] W fun e w'=>e=.returned (.bool true)∧Below W.heap.size W w'):=fun W=>by
   have hh:=l26Area_any x.area W
   rw[h5] at hh
   exact hh
  have C5:Hid (∀ W:World,Calls Tryz.prog 148 #[.int .i64 x.from_,.int .i64 0,.int .i64 x.until_] W fun e w'=>e=.returned (.bool false)∧W=w'):=fun W=>by
   have hh:=l00In_any x.from_ 0 x.until_ W
   rw[h6] at hh
   exact hh
  have HE:Hid (licB x=false):=by show _=_;unfold licB;simp only[h0,h1,h2,h3,hd4,h5,h6]<;>rfl
  go_enter Tryz.func154,Tryz.ntmps154
  go_upto_region 1 with (fail)
  have oB0:=overC (w0:=w) (show b<w.heap.size by omega)
  refine wp_region_over w.heap.size w (Below.refl _ _) (by kernel_rfl) (by kernel_rfl) ?_
  simp only[List.append_eq,List.cons_append,List.nil_append]
  repeat (go_big_quiet_step (first|(go_at_call 201;with_reducible exact over_same (C0.out _))|(go_at_call 201;with_reducible exact over_same (C1.out _))|(go_at_call 204;with_reducible exact over_same (C2.out _))|(go_at_call 204;with_reducible exact over_same (C3.out _))|(go_at_call 205;with_reducible exact over_left (Nat.le_refl _) (C4.out _))|(go_at_call 148;with_reducible exact over_same (C5.out _))))
  refine wpQuiet_nil ?_
  rintro _ ⟨X,rfl⟩
  have BE:=Lib.hid (over_below w.heap.size w X)
  clear oB0
  generalize over w.heap.size w X=W9 at *
  go_wp2
  go_ret
  exact⟨by rw[HE.out];rfl,by exact BE.out⟩
 by_cases h7:x.until_≤99999
 case neg =>
  have hd7:decide (x.until_≤99999)=false:=decide_eq_false h7
  replace h7:99999<x.until_:=by omega
  have C0:Hid (∀ W:World,Calls Tryz.prog 201 #[.string x.id] W fun e w'=>e=.returned (.bool true)∧W=w'):=fun W=>by
   have hh:=l01Name_any x.id W k0
   rw[h0] at hh
   exact hh
  have C1:Hid (∀ W:World,Calls Tryz.prog 201 #[.string x.holder] W fun e w'=>e=.returned (.bool true)∧W=w'):=fun W=>by
   have hh:=l01Name_any x.holder W k1
   rw[h1] at hh
   exact hh
  have C2:Hid (∀ W:World,Calls Tryz.prog 204 #[.int .i64 x.low] W fun e w'=>e=.returned (.bool true)∧W=w'):=fun W=>by
   have hh:=l05Frequency_any x.low W
   rw[h2] at hh
   exact hh
  have C3:Hid (∀ W:World,Calls Tryz.prog 204 #[.int .i64 x.high] W fun e w'=>e=.returned (.bool true)∧W=w'):=fun W=>by
   have hh:=l05Frequency_any x.high W
   rw[h3] at hh
   exact hh
  have C4:Hid (∀ W:World,Calls Tryz.prog 205 #[.agg #[.int .i64 x.area.west,.int .i64 x.area.south,.int .i64 x.area.east,.int .i64 x.area.north]] W fun e w'=>e=.returned (.bool true)∧Below W.heap.size W w'):=fun W=>by
   have hh:=l26Area_any x.area W
   rw[h5] at hh
   exact hh
  have C5:Hid (∀ W:World,Calls Tryz.prog 148 #[.int .i64 x.from_,.int .i64 0,.int .i64 x.until_] W fun e w'=>e=.returned (.bool true)∧W=w'):=fun W=>by
   have hh:=l00In_any x.from_ 0 x.until_ W
   rw[h6] at hh
   exact hh
  have HE:Hid (licB x=false):=by show _=_;unfold licB;simp only[h0,h1,h2,h3,hd4,h5,h6,hd7]<;>rfl
  go_enter Tryz.func154,Tryz.ntmps154
  go_upto_region 1 with (fail)
  have oB0:=overC (w0:=w) (show b<w.heap.size by omega)
  refine wp_region_over w.heap.size w (Below.refl _ _) (by kernel_rfl) (by kernel_rfl) ?_
  simp only[List.append_eq,List.cons_append,List.nil_append]
  repeat (go_big_quiet_step (first|(go_at_call 201;with_reducible exact over_same (C0.out _))|(go_at_call 201;with_reducible exact over_same (C1.out _))|(go_at_call 204;with_reducible exact over_same (C2.out _))|(go_at_call 204;with_reducible exact over_same (C3.out _))|(go_at_call 205;with_reducible exact over_left (Nat.le_refl _) (C4.out _))|(go_at_call 148;with_reducible exact over_same (C5.out _))))
  refine wpQuiet_nil ?_
  rintro _ ⟨X,rfl⟩
  have BE:=Lib.hid (over_below w.heap.size w X)
  clear oB0
  generalize over w.heap.size w X=W9 at *
  go_wp2
  go_ret
  exact⟨by rw[HE.out];rfl,by exact BE.out⟩
 have hd7:decide (x.until_≤99999)=true:=decide_eq_true h7
 by_cases h8:inB x.power (-300000) 300000=true
 case neg =>
  replace h8:inB x.power (-300000) 300000=false:=Bool.eq_false_iff.2 h8
  have C0:Hid (∀ W:World,Calls Tryz.prog 201 #[.string x.id] W fun e w'=>e=.returned (.bool true)∧W=w'):=fun W=>by
   have hh:=l01Name_any x.id W k0
   rw[h0] at hh
   exact hh
  have C1:Hid (∀ W:World,Calls Tryz.prog 201 #[.string x.holder] W fun e w'=>e=.returned (.bool true)∧W=w'):=fun W=>by
   have hh:=l01Name_any x.holder W k1
   rw[h1] at hh
   exact hh
  have C2:Hid (∀ W:World,Calls Tryz.prog 204 #[.int .i64 x.low] W fun e w'=>e=.returned (.bool true)∧W=w'):=fun W=>by
   have hh:=l05Frequency_any x.low W
   rw[h2] at hh
   exact hh
  have C3:Hid (∀ W:World,Calls Tryz.prog 204 #[.int .i64 x.high] W fun e w'=>e=.returned (.bool true)∧W=w'):=fun W=>by
   have hh:=l05Frequency_any x.high W
   rw[h3] at hh
   exact hh
  have C4:Hid (∀ W:World,Calls Tryz.prog 205 #[.agg #[.int .i64 x.area.west,.int .i64 x.area.south,.int .i64 x.area.east,.int .i64 x.area.north]] W fun e w'=>e=.returned (.bool true)∧Below W.heap.size W w'):=fun W=>by
   have hh:=l26Area_any x.area W
   rw[h5] at hh
   exact hh
  have C5:Hid (∀ W:World,Calls Tryz.prog 148 #[.int .i64 x.from_,.int .i64 0,.int .i64 x.until_] W fun e w'=>e=.returned (.bool true)∧W=w'):=fun W=>by
   have hh:=l00In_any x.from_ 0 x.until_ W
   rw[h6] at hh
   exact hh
  have C6:Hid (∀ W:World,Calls Tryz.prog 206 #[.int .i64 x.power] W fun e w'=>e=.returned (.bool false)∧W=w'):=fun W=>by
   have hh:=l02Level_any x.power W
   rw[h8] at hh
   exact hh
  have HE:Hid (licB x=false):=by show _=_;unfold licB;simp only[h0,h1,h2,h3,hd4,h5,h6,hd7,h8]<;>rfl
  go_enter Tryz.func154,Tryz.ntmps154
  go_upto_region 1 with (fail)
  have oB0:=overC (w0:=w) (show b<w.heap.size by omega)
  refine wp_region_over w.heap.size w (Below.refl _ _) (by kernel_rfl) (by kernel_rfl) ?_
  simp only[List.append_eq,List.cons_append,List.nil_append]
  repeat (go_big_quiet_step (first|(go_at_call 201;with_reducible exact over_same (C0.out _))|(go_at_call 201;with_reducible exact over_same (C1.out _))|(go_at_call 204;with_reducible exact over_same (C2.out _))|(go_at_call 204;with_reducible exact over_same (C3.out _))|(go_at_call 205;with_reducible exact over_left (Nat.le_refl _) (C4.out _))|(go_at_call 148;with_reducible exact over_same (C5.out _))|(go_at_call 206;with_reducible exact over_same (C6.out _))))
  refine wpQuiet_nil ?_
  rintro _ ⟨X,rfl⟩
  have BE:=Lib.hid (over_below w.heap.size w X)
  clear oB0
  generalize over w.heap.size w X=W9 at *
  go_wp2
  go_ret
  exact⟨by rw[HE.out];rfl,by exact BE.out⟩
 have C0:Hid (∀ W:World,Calls Tryz.prog 201 #[.string x.id] W fun e w'=>e=.returned (.bool true)∧W=w'):=fun W=>by
  have hh:=l01Name_any x.id W k0
  rw[h0] at hh
  exact hh
 have C1:Hid (∀ W:World,Calls Tryz.prog 201 #[.string x.holder] W fun e w'=>e=.returned (.bool true)∧W=w'):=fun W=>by
  have hh:=l01Name_any x.holder W k1
  rw[h1] at hh
  exact hh
 have C2:Hid (∀ W:World,Calls Tryz.prog 204 #[.int .i64 x.low] W fun e w'=>e=.returned (.bool true)∧W=w'):=fun W=>by
  have hh:=l05Frequency_any x.low W
  rw[h2] at hh
  exact hh
 have C3:Hid (∀ W:World,Calls Tryz.prog 204 #[.int .i64 x.high] W fun e w'=>e=.returned (.bool true)∧W=w'):=fun W=>by
  have hh:=l05Frequency_any x.high W
  rw[h3] at hh
  exact hh
 have C4:Hid (∀ W:World,Calls Tryz.prog 205 #[.agg #[.int .i64 x.area.west,.int .i64 x.area.south,.int .i64 x.area.east,.int .i64 x.area.north]] W fun e w'=>e=.returned (.bool true)∧Below W.heap.size W w'):=fun W=>by
  have hh:=l26Area_any x.area W
  rw[h5] at hh
  exact hh
 have C5:Hid (∀ W:World,Calls Tryz.prog 148 #[.int .i64 x.from_,.int .i64 0,.int .i64 x.until_] W fun e w'=>e=.returned (.bool true)∧W=w'):=fun W=>by
  have hh:=l00In_any x.from_ 0 x.until_ W
  rw[h6] at hh
  exact hh
 have C6:Hid (∀ W:World,Calls Tryz.prog 206 #[.int .i64 x.power] W fun e w'=>e=.returned (.bool true)∧W=w'):=fun W=>by
  have hh:=l02Level_any x.power W
  rw[h8] at hh
  exact hh
 have HE:Hid (licB x=true):=by show _=_;unfold licB;simp only[h0,h1,h2,h3,hd4,h5,h6,hd7,h8]<;>rfl
 go_enter Tryz.func154,Tryz.ntmps154
 go_upto_region 1 with (fail)
 have oB0:=overC (w0:=w) (show b<w.heap.size by omega)
 refine wp_region_over w.heap.size w (Below.refl _ _) (by kernel_rfl) (by kernel_rfl) ?_
 simp only[List.append_eq,List.cons_append,List.nil_append]
 repeat (go_big_quiet_step (first|(go_at_call 201;with_reducible exact over_same (C0.out _))|(go_at_call 201;with_reducible exact over_same (C1.out _))|(go_at_call 204;with_reducible exact over_same (C2.out _))|(go_at_call 204;with_reducible exact over_same (C3.out _))|(go_at_call 205;with_reducible exact over_left (Nat.le_refl _) (C4.out _))|(go_at_call 148;with_reducible exact over_same (C5.out _))|(go_at_call 206;with_reducible exact over_same (C6.out _))))
 refine wpQuiet_nil ?_
 rintro _ ⟨X,rfl⟩
 have BE:=Lib.hid (over_below w.heap.size w X)
 clear oB0
 generalize over w.heap.size w X=W9 at *
 go_wp2
 go_ret
 exact⟨by rw[HE.out];rfl,by exact BE.out⟩
theorem l27Place_any (x:DProtected) (b off:Nat) (w:World) (c0:w.cell? ⟨b,off,none⟩=some (.string x.name)) (c1:w.cell? ⟨b,off+1,none⟩=some (.int .i64 x.at_.place.x)) (c2:w.cell? ⟨b,off+2,none⟩=some (.int .i64 x.at_.place.y)) (c3:w.cell? ⟨b,off+3,none⟩=some (.int .i64 x.at_.above)) (c4:w.cell? ⟨b,off+4,none⟩=some (.int .i64 x.low)) (c5:w.cell? ⟨b,off+5,none⟩=some (.int .i64 x.high)) (c6:w.cell? ⟨b,off+6,none⟩=some (.int .i64 x.limit)) (k0:x.name.size≤maxLen) :
  Calls Tryz.prog 156 #[.pointer (some ⟨b,off,none⟩)] w fun e w'=>e=.returned (.bool (protB x))∧Below w.heap.size w w':=by
 have hbl:=cell_lt c0
 dsimp only at hbl
 by_cases h0:nameB x.name=true
 case neg =>
  replace h0:nameB x.name=false:=Bool.eq_false_iff.2 h0
  have C0:Hid (∀ W:World,Calls Tryz.prog 201 #[.string x.name] W fun e w'=>e=.returned (.bool false)∧W=w'):=fun W=>by
   have hh:=l01Name_any x.name W k0
   rw[h0] at hh
   exact hh
  have HE:Hid (protB x=false):=by show _=_;unfold protB;simp only[h0]<;>rfl
  go_enter Tryz.func156,Tryz.ntmps156
  go_upto_region 1 with (fail)
  have oB0:=overC (w0:=w) (show b<w.heap.size by omega)
  refine wp_region_over w.heap.size w (Below.refl _ _) (by kernel_rfl) (by kernel_rfl) ?_
  repeat (go_big_quiet_step (first|(go_at_call 201;with_reducible exact over_same (C0.out _))))
  refine wpQuiet_nil ?_
  rintro _ ⟨X,rfl⟩
  have BE:=Lib.hid (over_below w.heap.size w X)
  clear oB0
  generalize over w.heap.size w X=W9 at *
  go_wp2
  go_ret
  exact⟨by rw[HE.out];rfl,by exact BE.out⟩
 by_cases h1:endB x.at_=true
 case neg =>
  replace h1:endB x.at_=false:=Bool.eq_false_iff.2 h1
  have C0:Hid (∀ W:World,Calls Tryz.prog 201 #[.string x.name] W fun e w'=>e=.returned (.bool true)∧W=w'):=fun W=>by
   have hh:=l01Name_any x.name W k0
   rw[h0] at hh
   exact hh
  have C1:Hid (∀ W:World,Calls Tryz.prog 208 #[.agg #[.int .i64 x.at_.place.x,.int .i64 x.at_.place.y,.int .i64 x.at_.above]] W fun e w'=>e=.returned (.bool false)∧Below W.heap.size W w'):=fun W=>by
   have hh:=l12End_any x.at_ W
   rw[h1] at hh
   exact hh
  have HE:Hid (protB x=false):=by show _=_;unfold protB;simp only[h0,h1]<;>rfl
  go_enter Tryz.func156,Tryz.ntmps156
  go_upto_region 1 with (fail)
  have oB0:=overC (w0:=w) (show b<w.heap.size by omega)
  refine wp_region_over w.heap.size w (Below.refl _ _) (by kernel_rfl) (by kernel_rfl) ?_
  repeat (go_big_quiet_step (first|(go_at_call 201;with_reducible exact over_same (C0.out _))|(go_at_call 208;with_reducible exact over_left (Nat.le_refl _) (C1.out _))))
  refine wpQuiet_nil ?_
  rintro _ ⟨X,rfl⟩
  have BE:=Lib.hid (over_below w.heap.size w X)
  clear oB0
  generalize over w.heap.size w X=W9 at *
  go_wp2
  go_ret
  exact⟨by rw[HE.out];rfl,by exact BE.out⟩
 by_cases h2:inB x.low 1 100000000=true
 case neg =>
  replace h2:inB x.low 1 100000000=false:=Bool.eq_false_iff.2 h2
  have C0:Hid (∀ W:World,Calls Tryz.prog 201 #[.string x.name] W fun e w'=>e=.returned (.bool true)∧W=w'):=fun W=>by
   have hh:=l01Name_any x.name W k0
   rw[h0] at hh
   exact hh
  have C1:Hid (∀ W:World,Calls Tryz.prog 208 #[.agg #[.int .i64 x.at_.place.x,.int .i64 x.at_.place.y,.int .i64 x.at_.above]] W fun e w'=>e=.returned (.bool true)∧Below W.heap.size W w'):=fun W=>by
   have hh:=l12End_any x.at_ W
   rw[h1] at hh
   exact hh
  have C2:Hid (∀ W:World,Calls Tryz.prog 209 #[.int .i64 x.low] W fun e w'=>e=.returned (.bool false)∧W=w'):=fun W=>by
   have hh:=l09Frequency_any x.low W
   rw[h2] at hh
   exact hh
  have HE:Hid (protB x=false):=by show _=_;unfold protB;simp only[h0,h1,h2]<;>rfl
  go_enter Tryz.func156,Tryz.ntmps156
  go_upto_region 1 with (fail)
  have oB0:=overC (w0:=w) (show b<w.heap.size by omega)
  refine wp_region_over w.heap.size w (Below.refl _ _) (by kernel_rfl) (by kernel_rfl) ?_
  repeat (go_big_quiet_step (first|(go_at_call 201;with_reducible exact over_same (C0.out _))|(go_at_call 208;with_reducible exact over_left (Nat.le_refl _) (C1.out _))|(go_at_call 209;with_reducible exact over_same (C2.out _))))
  refine wpQuiet_nil ?_
  rintro _ ⟨X,rfl⟩
  have BE:=Lib.hid (over_below w.heap.size w X)
  clear oB0
  generalize over w.heap.size w X=W9 at *
  go_wp2
  go_ret
  exact⟨by rw[HE.out];rfl,by exact BE.out⟩
 by_cases h3:inB x.high 1 100000000=true
 case neg =>
  replace h3:inB x.high 1 100000000=false:=Bool.eq_false_iff.2 h3
  have C0:Hid (∀ W:World,Calls Tryz.prog 201 #[.string x.name] W fun e w'=>e=.returned (.bool true)∧W=w'):=fun W=>by
   have hh:=l01Name_any x.name W k0
   rw[h0] at hh
   exact hh
  have C1:Hid (∀ W:World,Calls Tryz.prog 208 #[.agg #[.int .i64 x.at_.place.x,.int .i64 x.at_.place.y,.int .i64 x.at_.above]] W fun e w'=>e=.returned (.bool true)∧Below W.heap.size W w'):=fun W=>by
   have hh:=l12End_any x.at_ W
   rw[h1] at hh
   exact hh
  have C2:Hid (∀ W:World,Calls Tryz.prog 209 #[.int .i64 x.low] W fun e w'=>e=.returned (.bool true)∧W=w'):=fun W=>by
   have hh:=l09Frequency_any x.low W
   rw[h2] at hh
   exact hh
  have C3:Hid (∀ W:World,Calls Tryz.prog 209 #[.int .i64 x.high] W fun e w'=>e=.returned (.bool false)∧W=w'):=fun W=>by
   have hh:=l09Frequency_any x.high W
   rw[h3] at hh
   exact hh
  have HE:Hid (protB x=false):=by show _=_;unfold protB;simp only[h0,h1,h2,h3]<;>rfl
  go_enter Tryz.func156,Tryz.ntmps156
  go_upto_region 1 with (fail)
  have oB0:=overC (w0:=w) (show b<w.heap.size by omega)
  refine wp_region_over w.heap.size w (Below.refl _ _) (by kernel_rfl) (by kernel_rfl) ?_
  repeat (go_big_quiet_step (first|(go_at_call 201;with_reducible exact over_same (C0.out _))|(go_at_call 208;with_reducible exact over_left (Nat.le_refl _) (C1.out _))|(go_at_call 209;with_reducible exact over_same (C2.out _))|(go_at_call 209;with_reducible exact over_same (C3.out _))))
  refine wpQuiet_nil ?_
  rintro _ ⟨X,rfl⟩
  have BE:=Lib.hid (over_below w.heap.size w X)
  clear oB0
  generalize over w.heap.size w X=W9 at *
  go_wp2
  go_ret
  exact⟨by rw[HE.out];rfl,by exact BE.out⟩
 by_cases h4:x.low<x.high
 case neg =>
  have hd4:decide (x.low<x.high)=false:=decide_eq_false h4
  replace h4:x.high≤x.low:=by omega
  have C0:Hid (∀ W:World,Calls Tryz.prog 201 #[.string x.name] W fun e w'=>e=.returned (.bool true)∧W=w'):=fun W=>by
   have hh:=l01Name_any x.name W k0
   rw[h0] at hh
   exact hh
  have C1:Hid (∀ W:World,Calls Tryz.prog 208 #[.agg #[.int .i64 x.at_.place.x,.int .i64 x.at_.place.y,.int .i64 x.at_.above]] W fun e w'=>e=.returned (.bool true)∧Below W.heap.size W w'):=fun W=>by
   have hh:=l12End_any x.at_ W
   rw[h1] at hh
   exact hh
  have C2:Hid (∀ W:World,Calls Tryz.prog 209 #[.int .i64 x.low] W fun e w'=>e=.returned (.bool true)∧W=w'):=fun W=>by
   have hh:=l09Frequency_any x.low W
   rw[h2] at hh
   exact hh
  have C3:Hid (∀ W:World,Calls Tryz.prog 209 #[.int .i64 x.high] W fun e w'=>e=.returned (.bool true)∧W=w'):=fun W=>by
   have hh:=l09Frequency_any x.high W
   rw[h3] at hh
   exact hh
  have HE:Hid (protB x=false):=by show _=_;unfold protB;simp only[h0,h1,h2,h3,hd4]<;>rfl
  go_enter Tryz.func156,Tryz.ntmps156
  go_upto_region 1 with (fail)
  have oB0:=overC (w0:=w) (show b<w.heap.size by omega)
  refine wp_region_over w.heap.size w (Below.refl _ _) (by kernel_rfl) (by kernel_rfl) ?_
  repeat (go_big_quiet_step (first|(go_at_call 201;with_reducible exact over_same (C0.out _))|(go_at_call 208;with_reducible exact over_left (Nat.le_refl _) (C1.out _))|(go_at_call 209;with_reducible exact over_same (C2.out _))|(go_at_call 209;with_reducible exact over_same (C3.out _))))
  refine wpQuiet_nil ?_
  rintro _ ⟨X,rfl⟩
  have BE:=Lib.hid (over_below w.heap.size w X)
  clear oB0
  generalize over w.heap.size w X=W9 at *
  go_wp2
  go_ret
  exact⟨by rw[HE.out];rfl,by exact BE.out⟩
 have hd4:decide (x.low<x.high)=true:=decide_eq_true h4
 by_cases h5:inB x.limit (-300000) 300000=true
 case neg =>
  replace h5:inB x.limit (-300000) 300000=false:=Bool.eq_false_iff.2 h5
  have C0:Hid (∀ W:World,Calls Tryz.prog 201 #[.string x.name] W fun e w'=>e=.returned (.bool true)∧W=w'):=fun W=>by
   have hh:=l01Name_any x.name W k0
   rw[h0] at hh
   exact hh
  have C1:Hid (∀ W:World,Calls Tryz.prog 208 #[.agg #[.int .i64 x.at_.place.x,.int .i64 x.at_.place.y,.int .i64 x.at_.above]] W fun e w'=>e=.returned (.bool true)∧Below W.heap.size W w'):=fun W=>by
   have hh:=l12End_any x.at_ W
   rw[h1] at hh
   exact hh
  have C2:Hid (∀ W:World,Calls Tryz.prog 209 #[.int .i64 x.low] W fun e w'=>e=.returned (.bool true)∧W=w'):=fun W=>by
   have hh:=l09Frequency_any x.low W
   rw[h2] at hh
   exact hh
  have C3:Hid (∀ W:World,Calls Tryz.prog 209 #[.int .i64 x.high] W fun e w'=>e=.returned (.bool true)∧W=w'):=fun W=>by
   have hh:=l09Frequency_any x.high W
   rw[h3] at hh
   exact hh
  have C4:Hid (∀ W:World,Calls Tryz.prog 206 #[.int .i64 x.limit] W fun e w'=>e=.returned (.bool false)∧W=w'):=fun W=>by
   have hh:=l02Level_any x.limit W
   rw[h5] at hh
   exact hh
  have HE:Hid (protB x=false):=by show _=_;unfold protB;simp only[h0,h1,h2,h3,hd4,h5]<;>rfl
  go_enter Tryz.func156,Tryz.ntmps156
  go_upto_region 1 with (fail)
  have oB0:=overC (w0:=w) (show b<w.heap.size by omega)
  refine wp_region_over w.heap.size w (Below.refl _ _) (by kernel_rfl) (by kernel_rfl) ?_
  repeat (go_big_quiet_step (first|(go_at_call 201;with_reducible exact over_same (C0.out _))|(go_at_call 208;with_reducible exact over_left (Nat.le_refl _) (C1.out _))|(go_at_call 209;with_reducible exact over_same (C2.out _))|(go_at_call 209;with_reducible exact over_same (C3.out _))|(go_at_call 206;with_reducible exact over_same (C4.out _))))
  refine wpQuiet_nil ?_
  rintro _ ⟨X,rfl⟩
  have BE:=Lib.hid (over_below w.heap.size w X)
  clear oB0
  generalize over w.heap.size w X=W9 at *
  go_wp2
  go_ret
  exact⟨by rw[HE.out];rfl,by exact BE.out⟩
 have C0:Hid (∀ W:World,Calls Tryz.prog 201 #[.string x.name] W fun e w'=>e=.returned (.bool true)∧W=w'):=fun W=>by
  have hh:=l01Name_any x.name W k0
  rw[h0] at hh
  exact hh
 have C1:Hid (∀ W:World,Calls Tryz.prog 208 #[.agg #[.int .i64 x.at_.place.x,.int .i64 x.at_.place.y,.int .i64 x.at_.above]] W fun e w'=>e=.returned (.bool true)∧Below W.heap.size W w'):=fun W=>by
  have hh:=l12End_any x.at_ W
  rw[h1] at hh
  exact hh
 have C2:Hid (∀ W:World,Calls Tryz.prog 209 #[.int .i64 x.low] W fun e w'=>e=.returned (.bool true)∧W=w'):=fun W=>by
  have hh:=l09Frequency_any x.low W
  rw[h2] at hh
  exact hh
 have C3:Hid (∀ W:World,Calls Tryz.prog 209 #[.int .i64 x.high] W fun e w'=>e=.returned (.bool true)∧W=w'):=fun W=>by
  have hh:=l09Frequency_any x.high W
  rw[h3] at hh
  exact hh
 have C4:Hid (∀ W:World,Calls Tryz.prog 206 #[.int .i64 x.limit] W fun e w'=>e=.returned (.bool true)∧W=w'):=fun W=>by
  have hh:=l02Level_any x.limit W
  rw[h5] at hh
  exact hh
 have HE:Hid (protB x=true):=by show _=_;unfold protB;simp only[h0,h1,h2,h3,hd4,h5]<;>rfl
 go_enter Tryz.func156,Tryz.ntmps156
 go_upto_region 1 with (fail)
 have oB0:=overC (w0:=w) (show b<w.heap.size by omega)
 refine wp_region_over w.heap.size w (Below.refl _ _) (by kernel_rfl) (by kernel_rfl) ?_
 repeat (go_big_quiet_step (first|(go_at_call 201;with_reducible exact over_same (C0.out _))|(go_at_call 208;with_reducible exact over_left (Nat.le_refl _) (C1.out _))|(go_at_call 209;with_reducible exact over_same (C2.out _))|(go_at_call 209;with_reducible exact over_same (C3.out _))|(go_at_call 206;with_reducible exact over_same (C4.out _))))
 refine wpQuiet_nil ?_
 rintro _ ⟨X,rfl⟩
 have BE:=Lib.hid (over_below w.heap.size w X)
 clear oB0
 generalize over w.heap.size w X=W9 at *
 go_wp2
 go_ret
 exact⟨by rw[HE.out];rfl,by exact BE.out⟩
end Go.Proofs.YtjfmkmcefnidcaaGreat
