/- Contracts: places in a terrain, for the program and for the reference. Conditions: bounded sizes. -/
import Derived.Test.YtpakghepnahooaaGreatDoorPl1
import Derived.Test.YtpakghepnahooaaGreatDoorBox
import Derived.Test.YtpakghepnahooaaGreatDoorOverTail
import Derived.Lib.MinMax
import Derived.Test.YtpakghepnahooaaGreatDoorNetD
set_option linter.unusedVariables false
set_option linter.unusedSimpArgs false
namespace Go.Proofs.YtpakghepnahooaaGreatDoor
open Go.RowKit
open Go.RowKit
open Go.RowKit
open Go.RowKit
open Go.RowKit
theorem Q30 {p:Prop} (h:p:=by first|exact Nat.le_refl _|(simp;done)|(simp<;>omega)):p:=h
theorem Q3j {p:Prop} (h:p:=by first|(simp;done)|(simp<;>omega)):p:=h
theorem Q02 {p:Prop} (h:p:=by
 go_enter Tryz.func31,Tryz.ntmps31
 go_wp2_with (first|(go_at_call 41;refine (zdp _ _ _ _).mono ?_;rintro e w1 ⟨rfl,rfl⟩)|(go_at_call 43;with_reducible refine (C0.out _ HB.out).mono ?_;rintro e w2 ⟨rfl,hb2⟩;(try clear t0 t1 t2 t3 t4);replace HB:=IJ (HB.out.trans (hb2.mono HB.out.size));clear hb2;obtain⟨t0,t1,t2,t3,t4⟩:=HD.out _ HB.out)|(go_at_call 43;with_reducible refine (C1.out _ HB.out).mono ?_;rintro e w2 ⟨rfl,hb2⟩;(try clear t0 t1 t2 t3 t4);replace HB:=IJ (HB.out.trans (hb2.mono HB.out.size));clear hb2;obtain⟨t0,t1,t2,t3,t4⟩:=HD.out _ HB.out))
 go_ret
 exact⟨by rw[HE.out];rfl,by exact B0.out.trans (HB.out.mono Q30)⟩):p:=h
theorem Q0s {p:Prop} (h:p:=by
 go_enter Tryz.func41,Tryz.ntmps41
 go_wp2_with (first|(go_at_call 34;refine (zal _ _ _ _).mono ?_;rintro e w1 ⟨rfl,rfl⟩))
 go_ret
 exact⟨by rw[HE.out];rfl,by rfl⟩):p:=h
theorem Q10 {p:Prop} (h:p:=by
 go_enter Tryz.func36,Tryz.ntmps36
 go_wp2_with (first|(go_at_call 34;refine (zal _ _ _ _).mono ?_;rintro e w1 ⟨rfl,rfl⟩))
 go_ret
 exact⟨by rw[HE.out];rfl,by exact B0.out.trans (HB.out.mono Q30)⟩):p:=h
set_option maxHeartbeats 8000000
set_option maxRecDepth 100000
open Go.RowKit
def ze0 (s w h:Int):Bool:=inB s 1 10000&&(inB w 2 24&&(inB h 2 24&&decide (max (w-1) (h-1)*s≤200000)))
theorem mulB {m s:Int} (h1:0≤m) (h2:m≤23) (h3:1≤s) (h4:s≤10000):0≤m*s∧m*s≤230000:=by
 refine⟨Int.mul_nonneg h1 II,?_⟩;have:=Int.mul_le_mul h2 h4 II II;omega
theorem mulW {a b:Int} (h1:2≤a) (h2:a≤24) (h3:2≤b) (h4:b≤24):4≤a*b∧a*b≤576:=by
 have h5:=Int.mul_le_mul h2 h4 II II;have h6:=Int.mul_le_mul h1 h3 II II;omega
def zc0 (t:DTerrain):Bool:=ze0 t.step t.width t.height&&(((t.heights.length:Int) == t.width*t.height)&&(((t.clutter.length:Int) == (t.heights.length:Int))&&((t.heights.all fun n=>inB n 0 90000)&&(t.clutter.all fun n=>inB n 0 7))))
theorem zdp (s w h:Int) (W:World) :
  Calls Tryz.prog 41 #[J s,J w,J h] W fun e w'=>e=.returned (.bool (ze0 s w h))∧W=w':=by
 by_cases h0:inB s 1 10000=true
 case neg =>
  replace h0:inB s 1 10000=false:=Bool.eq_false_iff.2 h0;have HE:Hid (ze0 s w h=false):=by show _=_;unfold ze0;simp only[h0]<;>rfl
  exact Q0s
 obtain⟨hah0,hbh0⟩:=zaq.1 h0
 by_cases h1:inB w 2 24=true
 case neg =>
  replace h1:inB w 2 24=false:=Bool.eq_false_iff.2 h1;have HE:Hid (ze0 s w h=false):=by show _=_;unfold ze0;simp only[h0,h1]<;>rfl
  exact Q0s
 obtain⟨hah1,hbh1⟩:=zaq.1 h1
 by_cases h2:inB h 2 24=true
 case neg =>
  replace h2:inB h 2 24=false:=Bool.eq_false_iff.2 h2;have HE:Hid (ze0 s w h=false):=by show _=_;unfold ze0;simp only[h0,h1,h2]<;>rfl
  exact Q0s
 obtain⟨hah2,hbh2⟩:=zaq.1 h2
 by_cases h3:max (w-1) (h-1)*s≤200000
 case neg =>
  have hd3:decide (max (w-1) (h-1)*s≤200000)=false:=decide_eq_false h3;replace h3:200000<max (w-1) (h-1)*s:=II
  have hm0:0≤max (w-1) (h-1):=II
  have hm1:max (w-1) (h-1)≤23:=II
  obtain⟨hm2,hm3⟩:=mulB hm0 hm1 hah0 hbh0;have HE:Hid (ze0 s w h=false):=by show _=_;unfold ze0;simp only[h0,h1,h2,hd3]<;>rfl
  exact Q0s
 have hd3:decide (max (w-1) (h-1)*s≤200000)=true:=decide_eq_true h3;have hm0:0≤max (w-1) (h-1):=II
 have hm1:max (w-1) (h-1)≤23:=II
 obtain⟨hm2,hm3⟩:=mulB hm0 hm1 hah0 hbh0;have HE:Hid (ze0 s w h=true):=by show _=_;unfold ze0;simp only[h0,h1,h2,hd3]<;>rfl
 exact Q0s
theorem sizeB_bounds {s w h:Int} (e:ze0 s w h=true):2≤w∧w≤24∧2≤h∧h≤24:=by
 unfold ze0 at e;simp only[inB,Bool.and_eq_true,decide_eq_true_eq] at e;omega
theorem validTerrain_any (t:DTerrain) (vh vc:Value) (B:Nat) (w:World) (hh:Rd B w (zam t.heights) vh) (hc:Rd B w (zam t.clutter) vc) (hB:B≤w.heap.size) (m0:t.heights.length≤1099511627776) (m1:t.clutter.length≤1099511627776) :
  Calls Tryz.prog 31 #[.agg (t,vh,vc)] w fun e w'=>e=.returned (.bool (zc0 t))∧OI w w w':=by
 obtain⟨ah,ch,eh,_,_,_⟩:=Rd.ints hh;obtain⟨ac,cc,ec,_,_,_⟩:=Rd.ints hc;subst eh ec;have HH:=IJ hh;have HC:=IJ hc;clear hh hc;have mz0:(t.heights.length:Int)≤1099511627776:=II
 have mz1:(t.clutter.length:Int)≤1099511627776:=II
 have B0:Hid (OI w w (w.alloc (.cells (t,ah,ch,ac,cc) 26))):=(Below.alloc (Below.refl _ _) Q30 _)
 have HD:Hid (∀ W:World,OI (w.alloc (.cells (t,ah,ch,ac,cc) 26)).heap.size (w.alloc (.cells (t,ah,ch,ac,cc) 26)) W→((W,w.heap.size,0,J t.step)∧(W,w.heap.size,1,J t.width)∧(W,w.heap.size,2,J t.height)∧(W,w.heap.size,3,IZ ah t.heights.length ch)∧(W,w.heap.size,4,IZ ac t.clutter.length cc))):=fun W hW=>⟨by rw[hW.cell (p:=⟨w,0,none⟩) Q3j];simp[go_sem],by rw[hW.cell (p:=⟨w,1,none⟩) Q3j];simp[go_sem],by rw[hW.cell (p:=⟨w,2,none⟩) Q3j];simp[go_sem],by rw[hW.cell (p:=⟨w,3,none⟩) Q3j];simp[go_sem],by rw[hW.cell (p:=⟨w,4,none⟩) Q3j];simp[go_sem]⟩
 have HB:Hid (OI (w.alloc (.cells (t,ah,ch,ac,cc) 26)).heap.size (w.alloc (.cells (t,ah,ch,ac,cc) 26)) (w.alloc (.cells (t,ah,ch,ac,cc) 26))):=Below.refl _ _;have C0:Hid (∀ W:World,OI (w.alloc (.cells (t,ah,ch,ac,cc) 26)).heap.size (w.alloc (.cells (t,ah,ch,ac,cc) 26)) W→Calls Tryz.prog 43 #[IZ ah t.heights.length ch,J 0,J 90000] W fun e w'=>e=.returned (.bool (t.heights.all fun n=>inB n 0 90000))∧OI W W w'):=fun W hW=>zck _ _ _ _ B W (HH.out.below ((B0.out.trans (hW.mono Q4a)).mono hB)) (by have:=hW.size;simp at this;omega) II
 have C1:Hid (∀ W:World,OI (w.alloc (.cells (t,ah,ch,ac,cc) 26)).heap.size (w.alloc (.cells (t,ah,ch,ac,cc) 26)) W→Calls Tryz.prog 43 #[IZ ac t.clutter.length cc,J 0,J 7] W fun e w'=>e=.returned (.bool (t.clutter.all fun n=>inB n 0 7))∧OI W W w'):=fun W hW=>zck _ _ _ _ B W (HC.out.below ((B0.out.trans (hW.mono Q4a)).mono hB)) (by have:=hW.size;simp at this;omega) II
 by_cases h0:ze0 t.step t.width t.height=true
 case neg =>
  replace h0:ze0 t.step t.width t.height=false:=Bool.eq_false_iff.2 h0;have HE:Hid (zc0 t=false):=by show _=_;unfold zc0;simp only[h0]<;>rfl
  exact Q02
 obtain⟨hw1,hw2,hg1,hg2⟩:=sizeB_bounds h0;obtain⟨hq1,hq2⟩:=mulW hw1 hw2 hg1 hg2
 by_cases h1:((t.heights.length:Int) == t.width*t.height)=true
 case neg =>
  replace h1:((t.heights.length:Int) == t.width*t.height)=false:=Bool.eq_false_iff.2 h1;have HE:Hid (zc0 t=false):=by show _=_;unfold zc0;simp only[h0,h1]<;>rfl
  exact Q02
 by_cases h2:((t.clutter.length:Int) == (t.heights.length:Int))=true
 case neg =>
  replace h2:((t.clutter.length:Int) == (t.heights.length:Int))=false:=Bool.eq_false_iff.2 h2;have HE:Hid (zc0 t=false):=by show _=_;unfold zc0;simp only[h0,h1,h2]<;>rfl
  exact Q02
 by_cases h3:(t.heights.all fun n=>inB n 0 90000)=true
 case neg =>
  replace h3:(t.heights.all fun n=>inB n 0 90000)=false:=Bool.eq_false_iff.2 h3;have HE:Hid (zc0 t=false):=by show _=_;unfold zc0;simp only[h0,h1,h2,h3]<;>rfl
  exact Q02
 by_cases h4:(t.clutter.all fun n=>inB n 0 7)=true
 case neg =>
  replace h4:(t.clutter.all fun n=>inB n 0 7)=false:=Bool.eq_false_iff.2 h4;have HE:Hid (zc0 t=false):=by show _=_;unfold zc0;simp only[h0,h1,h2,h3,h4]<;>rfl
  exact Q02
 have HE:Hid (zc0 t=true):=by show _=_;unfold zc0;simp only[h0,h1,h2,h3,h4]<;>rfl
 exact Q02
open Go.RowKit
def rowI (m:List (List Int)) (i:Nat):List Int:=m.getD i []
theorem rowI_eq {m:List (List Int)} {i:Nat} (h:i<m.length):m[i]=rowI m i:=by simp[rowI,h]
theorem Rd.rows {B:Nat} {w:World} {m:List (List Int)} {a:Option Addr} {c:Nat} (h:Rd B w (intssT m) (IZ a m.length c)) (hm:0<m.length) :
  ∃ b off,a=some ⟨b,off,none⟩∧b<B∧∀ i,i<m.length→∃ ai ci,(w,b,off+i,IZ ai (rowI m i).length ci)∧Rd B w (zam (rowI m i)) (IZ ai (rowI m i).length ci)∧(0<(rowI m i).length→∃ bi oi,ai=some ⟨bi,oi,none⟩∧bi<B ∧
   ∀ j,j<(rowI m i).length→w.cell? ⟨bi,oi+j,none⟩=some (J (gi (rowI m i) j))):=by
 obtain⟨a',c',he,_,_,hcl⟩:=Rd.intss h;injection he with e1 _ e3;subst e1 e3;obtain⟨b,off,ha,hb,hat⟩:=hcl hm;refine⟨b,off,ha,hb,fun i hi=>?_⟩;obtain⟨u,hu,hr⟩:=hat i hi;rw[rowI_eq hi] at hr;obtain⟨ai,ci,rfl,_,_,hci⟩:=Rd.ints hr;refine⟨ai,ci,hu,hr,fun hp=>?_⟩;obtain⟨bi,oi,e,hbi,hc⟩:=hci hp;exact⟨bi,oi,e,hbi,fun j hj=>by rw[hc j hj,gi_eq hj]⟩
end Go.Proofs.YtpakghepnahooaaGreatDoor
namespace Go.Proofs.YtpakghepnahooaaGreatDoor
open Go.RowKit
set_option maxHeartbeats 2000000
set_option maxRecDepth 100000
def zee (t:DTerrain) (q:DPoint):Bool:=inB q.x 0 ((t.width-1)*t.step)&&inB q.y 0 ((t.height-1)*t.step)
theorem has_any (t:DTerrain) (q:DPoint) (v3 v4:Value) (hw:2≤t.width∧t.width≤24) (hh:2≤t.height∧t.height≤24) (m1:0≤(t.width-1)*t.step∧(t.width-1)*t.step≤230000) (m2:0≤(t.height-1)*t.step∧(t.height-1)*t.step≤230000) (w:World) :
  Calls Tryz.prog 36 #[.agg (t,v3,v4),.agg #[J q.x,J q.y]] w fun e w'=>e=.returned (.bool (zee t q))∧OI w w w':=by
 obtain⟨w1_,w2_⟩:=hw;obtain⟨h1_,h2_⟩:=hh;obtain⟨m11,m12⟩:=m1;obtain⟨m21,m22⟩:=m2;have B0:Hid (OI w w ((w.alloc (.cells (t,v3,v4) 26)).alloc (.cells #[J q.x,J q.y] 53))):=(Below.alloc (Below.alloc (Below.refl _ _) Q30 _) Q30 _)
 have HD:Hid (∀ W:World,OI ((w.alloc (.cells (t,v3,v4) 26)).alloc (.cells #[J q.x,J q.y] 53)).heap.size ((w.alloc (.cells (t,v3,v4) 26)).alloc (.cells #[J q.x,J q.y] 53)) W→((W,w.heap.size,0,J t.step)∧(W,w.heap.size,1,J t.width)∧(W,w.heap.size,2,J t.height)∧(W,w.heap.size,3,v3)∧(W,w.heap.size,4,v4)∧(W,w.heap.size+1,0,J q.x)∧(W,w.heap.size+1,1,J q.y))):=fun W hW=>⟨by rw[hW.cell (p:=⟨w,0,none⟩) Q3j];simp[go_sem],by rw[hW.cell (p:=⟨w,1,none⟩) Q3j];simp[go_sem],by rw[hW.cell (p:=⟨w,2,none⟩) Q3j];simp[go_sem],by rw[hW.cell (p:=⟨w,3,none⟩) Q3j];simp[go_sem],by rw[hW.cell (p:=⟨w,4,none⟩) Q3j];simp[go_sem],by rw[hW.cell (p:=⟨w.heap.size+1,0,none⟩) Q3j];simp[go_sem],by rw[hW.cell (p:=⟨w.heap.size+1,1,none⟩) Q3j];simp[go_sem]⟩
 have HB:Hid (OI ((w.alloc (.cells (t,v3,v4) 26)).alloc (.cells #[J q.x,J q.y] 53)).heap.size ((w.alloc (.cells (t,v3,v4) 26)).alloc (.cells #[J q.x,J q.y] 53)) ((w.alloc (.cells (t,v3,v4) 26)).alloc (.cells #[J q.x,J q.y] 53))):=Below.refl _ _
 by_cases h0:inB q.x 0 ((t.width-1)*t.step)=true
 case neg =>
  replace h0:inB q.x 0 ((t.width-1)*t.step)=false:=Bool.eq_false_iff.2 h0;have HE:Hid (zee t q=false):=by show _=_;unfold zee;simp only[h0]<;>rfl
  exact Q10
 by_cases h1:inB q.y 0 ((t.height-1)*t.step)=true
 case neg =>
  replace h1:inB q.y 0 ((t.height-1)*t.step)=false:=Bool.eq_false_iff.2 h1;have HE:Hid (zee t q=false):=by show _=_;unfold zee;simp only[h0,h1]<;>rfl
  exact Q10
 have HE:Hid (zee t q=true):=by show _=_;unfold zee;simp only[h0,h1]<;>rfl
 exact Q10
end Go.Proofs.YtpakghepnahooaaGreatDoor
