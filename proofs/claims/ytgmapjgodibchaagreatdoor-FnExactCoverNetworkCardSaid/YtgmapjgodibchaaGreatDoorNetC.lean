/- Contracts: radios are valid, for the program and for the reference. Conditions: bounded lengths. -/
import Derived.Test.YtgmapjgodibchaaGreatDoorOrdS
import Derived.Test.YtgmapjgodibchaaGreatDoorRaw
set_option linter.unusedVariables false
set_option linter.unusedSimpArgs false
namespace Go.Proofs.YtgmapjgodibchaaGreatDoor
open Go.RowKit
set_option maxHeartbeats 4000000
set_option maxRecDepth 100000
def antB (a:DAntenna):Bool:=zbt a.name&&(inB a.gain (-60000) 60000&&(((a.horizontal.length:Int) == 36)&&(((a.vertical.length:Int) == 19)&&((a.horizontal.all fun n=>inB n 0 60000)&&((a.vertical.all fun n=>inB n 0 60000)&&((gi a.horizontal 0 == 0)&&(gi a.vertical 9 == 0)))))))
def zcq (l:List Int) (many main:Nat):Bool:=((l.length:Int) == (many:Int))&&((gi l main == 0)&&(l.all fun n=>inB n 0 60000))
theorem antB_eq (a:DAntenna):antB a=(zbt a.name&&(inB a.gain (-60000) 60000&&(zcq a.horizontal 36 0&&zcq a.vertical 19 9))):=by
 unfold antB zcq;have e1:((36:Nat):Int)=36:=rfl;have e2:((19:Nat):Int)=19:=rfl;rw[e1,e2];generalize zbt a.name=x0;generalize inB a.gain (-60000) 60000=x1;generalize ((a.horizontal.length:Int) == 36)=x2;generalize ((a.vertical.length:Int) == 19)=x3;generalize (a.horizontal.all fun n=>inB n 0 60000)=x4;generalize (a.vertical.all fun n=>inB n 0 60000)=x5;generalize (gi a.horizontal 0 == 0)=x6;generalize (gi a.vertical 9 == 0)=x7
 cases x0<;>cases x1<;>cases x2<;>cases x3<;>cases x4<;>cases x5<;>cases x6<;>cases x7<;>rfl
theorem zd8 {n m:Nat} (h:((n:Int) == (m:Int))=true):n=m:=by have:=eq_of_beq h;omega
theorem zc1 (n:Int) (w:World):Calls Tryz.prog 140 #[I n] w fun e w'=>e=.returned (.bool (inB n (-60000) 60000))∧w=w':=by
 go_enter Tryz.func140,Tryz.ntmps140;go_wp2_with (go_at_call 54;refine (zao _ _ _ _).mono ?_;rintro e w1 ⟨rfl,rfl⟩);go_ret;exact⟨rfl,rfl⟩
theorem zel (n:Int) (w:World):Calls Tryz.prog 212 #[I n] w fun e w'=>e=.returned (.bool (inB n (-60000) 60000))∧w=w':=by
 go_enter Tryz.func212,Tryz.ntmps212;go_wp2_with (go_at_call 89;refine (zaq _ _ _ _).mono ?_;rintro e w1 ⟨rfl,rfl⟩);go_ret;exact⟨rfl,rfl⟩
theorem validAntenna_any (x:DAntenna) (vh vv:Value) (w:World) (hh:Rd w w (zai x.horizontal) vh) (hv:Rd w w (zai x.vertical) vv) (k0:x.name.size≤maxLen) (k1:x.horizontal.length≤1099511627776) (k2:x.vertical.length≤1099511627776) :
  Calls Tryz.prog 102 #[.agg #[F x.name,I x.gain,vh,vv]] w fun e w'=>e=.returned (.bool (antB x))∧IJ w w w':=by
 obtain⟨ah,ch,eh,_,_,hcells⟩:=hh.ints;obtain⟨av,cv,ev,_,_,vcells⟩:=hv.ints;subst eh ev;have b0:IJ w w (w.alloc (.cells #[F x.name,I x.gain,II ah x.horizontal.length ch,II av x.vertical.length cv] 154)):=(Below.refl _ _).alloc (Nat.le_refl _) _;have HH:Hid (∀ W:World,IJ w w W→Calls Tryz.prog 100 #[II ah x.horizontal.length ch,I 0,I 60000] W fun e w'=>e=.returned (.bool (x.horizontal.all fun n=>inB n 0 60000))∧IJ W W w'):=fun W hW=>zdo x.horizontal 0 60000 _ w.heap.size W (hh.below hW) hW.size O
 have HV:Hid (∀ W:World,IJ w w W→Calls Tryz.prog 100 #[II av x.vertical.length cv,I 0,I 60000] W fun e w'=>e=.returned (.bool (x.vertical.all fun n=>inB n 0 60000))∧IJ W W w'):=fun W hW=>zdo x.vertical 0 60000 _ w.heap.size W (hv.below hW) hW.size O
 have B0:=J b0;have FH:Hid (∀ q,((x.horizontal.length:Int) == 36)=true→q<36→∃ b off,ah=some ⟨b,off,none⟩∧b<w.heap.size∧w.cell? ⟨b,off+q,none⟩=some (I (gi x.horizontal q))):=fun q hq hlt=>by
  have hl:x.horizontal.length=36:=zd8 hq;obtain⟨b,off,e1,hb,hat⟩:=hcells O;refine⟨b,off,e1,hb,?_⟩;rw[hat q O,gi_eq]
 have FV:Hid (∀ q,((x.vertical.length:Int) == 19)=true→q<19→∃ b off,av=some ⟨b,off,none⟩∧b<w.heap.size∧w.cell? ⟨b,off+q,none⟩=some (I (gi x.vertical q))):=fun q hq hlt=>by
  have hl:x.vertical.length=19:=zd8 hq;obtain⟨b,off,e1,hb,hat⟩:=vcells O;refine⟨b,off,e1,hb,?_⟩;rw[hat q O,gi_eq]
 clear hcells vcells b0 hh hv
 by_cases h0:zbt x.name=true
 ·skip
  by_cases h1:inB x.gain (-60000) 60000=true
  ·skip
   by_cases h2:((x.horizontal.length:Int) == 36)=true
   ·skip
    by_cases h3:((x.vertical.length:Int) == 19)=true
    ·skip
     by_cases h4:(x.horizontal.all fun n=>inB n 0 60000)=true
     ·skip
      by_cases h5:(x.vertical.all fun n=>inB n 0 60000)=true
      ·skip
       by_cases h6:(gi x.horizontal 0 == 0)=true
       ·skip
        by_cases h7:(gi x.vertical 9 == 0)=true
        ·skip
         have HE:Hid (antB x=true):=by show _=_;unfold antB;simp only[h0,h1,h2,h3,h4,h5,h6,h7]<;>rfl
         obtain⟨bh,oh,rfl,hbh,ch0⟩:=FH.out 0 h2 O;obtain⟨bv,ov,rfl,hbv,cv9⟩:=FV.out 9 h3 O;have lh:x.horizontal.length=36:=zd8 h2;have lv:x.vertical.length=19:=zd8 h3;have lh1:(0:Int)<(x.horizontal.length:Int):=O
         have lh2:0<x.horizontal.length:=O
         have lv1:(9:Int)<(x.vertical.length:Int):=O
         have lv2:9<x.vertical.length:=O
         rw[Nat.add_zero] at ch0;clear lh lv;clear FH FV;go_enter Tryz.func102,Tryz.ntmps102;go_wp2_with (first|(go_at_call 120;refine (zay _ _ (by assumption)).mono ?_;rintro e w1 ⟨rfl,rfl⟩)|(go_at_call 140;refine (zc1 _ _).mono ?_;rintro e w1 ⟨rfl,rfl⟩)|(go_at_call 100;(with_reducible refine (HH.out _ B0.out).mono ?_);rintro e w2 ⟨rfl,hb2⟩;have B2:=J (B0.out.trans (hb2.mono B0.out.size));obtain⟨q2,_,y2⟩:=zah hb2 (b:=w.heap.size) (by simp);have z2:=B2.out.size;clear hb2)|(go_at_call 100;(with_reducible refine (HV.out _ B2.out).mono ?_);rintro e w3 ⟨rfl,hb3⟩;have B3:=J (B2.out.trans (hb3.mono B2.out.size));obtain⟨q3,_,y3⟩:=zah hb3 (b:=w.heap.size) y2;have u0:w3.cell? ⟨bh,oh,none⟩=some (I (gi x.horizontal 0)):=(bat B3.out bh oh hbh).trans ch0;have u9:w3.cell? ⟨bv,ov+9,none⟩=some (I (gi x.vertical 9)):=(bat B3.out bv (ov+9) hbv).trans cv9;clear hb3));go_ret;exact⟨by rw[HE.out];rfl,B3.out⟩
        ·replace h7:(gi x.vertical 9 == 0)=false:=Bool.eq_false_iff.2 h7
         have HE:Hid (antB x=false):=by show _=_;unfold antB;simp only[h0,h1,h2,h3,h4,h5,h6,h7]<;>rfl
         obtain⟨bh,oh,rfl,hbh,ch0⟩:=FH.out 0 h2 O;obtain⟨bv,ov,rfl,hbv,cv9⟩:=FV.out 9 h3 O;have lh:x.horizontal.length=36:=zd8 h2;have lv:x.vertical.length=19:=zd8 h3;have lh1:(0:Int)<(x.horizontal.length:Int):=O
         have lh2:0<x.horizontal.length:=O
         have lv1:(9:Int)<(x.vertical.length:Int):=O
         have lv2:9<x.vertical.length:=O
         rw[Nat.add_zero] at ch0;clear lh lv;clear FH FV;go_enter Tryz.func102,Tryz.ntmps102;go_wp2_with (first|(go_at_call 120;refine (zay _ _ (by assumption)).mono ?_;rintro e w1 ⟨rfl,rfl⟩)|(go_at_call 140;refine (zc1 _ _).mono ?_;rintro e w1 ⟨rfl,rfl⟩)|(go_at_call 100;(with_reducible refine (HH.out _ B0.out).mono ?_);rintro e w2 ⟨rfl,hb2⟩;have B2:=J (B0.out.trans (hb2.mono B0.out.size));obtain⟨q2,_,y2⟩:=zah hb2 (b:=w.heap.size) (by simp);have z2:=B2.out.size;clear hb2)|(go_at_call 100;(with_reducible refine (HV.out _ B2.out).mono ?_);rintro e w3 ⟨rfl,hb3⟩;have B3:=J (B2.out.trans (hb3.mono B2.out.size));obtain⟨q3,_,y3⟩:=zah hb3 (b:=w.heap.size) y2;have u0:w3.cell? ⟨bh,oh,none⟩=some (I (gi x.horizontal 0)):=(bat B3.out bh oh hbh).trans ch0;have u9:w3.cell? ⟨bv,ov+9,none⟩=some (I (gi x.vertical 9)):=(bat B3.out bv (ov+9) hbv).trans cv9;clear hb3));go_ret;exact⟨by rw[HE.out];rfl,B3.out⟩
       ·replace h6:(gi x.horizontal 0 == 0)=false:=Bool.eq_false_iff.2 h6
        have HE:Hid (antB x=false):=by show _=_;unfold antB;simp only[h0,h1,h2,h3,h4,h5,h6]<;>rfl
        obtain⟨bh,oh,rfl,hbh,ch0⟩:=FH.out 0 h2 O;obtain⟨bv,ov,rfl,hbv,cv9⟩:=FV.out 9 h3 O;have lh:x.horizontal.length=36:=zd8 h2;have lv:x.vertical.length=19:=zd8 h3;have lh1:(0:Int)<(x.horizontal.length:Int):=O
        have lh2:0<x.horizontal.length:=O
        have lv1:(9:Int)<(x.vertical.length:Int):=O
        have lv2:9<x.vertical.length:=O
        rw[Nat.add_zero] at ch0;clear lh lv;clear FH FV;go_enter Tryz.func102,Tryz.ntmps102;go_wp2_with (first|(go_at_call 120;refine (zay _ _ (by assumption)).mono ?_;rintro e w1 ⟨rfl,rfl⟩)|(go_at_call 140;refine (zc1 _ _).mono ?_;rintro e w1 ⟨rfl,rfl⟩)|(go_at_call 100;(with_reducible refine (HH.out _ B0.out).mono ?_);rintro e w2 ⟨rfl,hb2⟩;have B2:=J (B0.out.trans (hb2.mono B0.out.size));obtain⟨q2,_,y2⟩:=zah hb2 (b:=w.heap.size) (by simp);have z2:=B2.out.size;clear hb2)|(go_at_call 100;(with_reducible refine (HV.out _ B2.out).mono ?_);rintro e w3 ⟨rfl,hb3⟩;have B3:=J (B2.out.trans (hb3.mono B2.out.size));obtain⟨q3,_,y3⟩:=zah hb3 (b:=w.heap.size) y2;have u0:w3.cell? ⟨bh,oh,none⟩=some (I (gi x.horizontal 0)):=(bat B3.out bh oh hbh).trans ch0;have u9:w3.cell? ⟨bv,ov+9,none⟩=some (I (gi x.vertical 9)):=(bat B3.out bv (ov+9) hbv).trans cv9;clear hb3));go_ret;exact⟨by rw[HE.out];rfl,B3.out⟩
      ·replace h5:(x.vertical.all fun n=>inB n 0 60000)=false:=Bool.eq_false_iff.2 h5
       have HE:Hid (antB x=false):=by show _=_;unfold antB;simp only[h0,h1,h2,h3,h4,h5]<;>rfl
       obtain⟨bh,oh,rfl,hbh,ch0⟩:=FH.out 0 h2 O;obtain⟨bv,ov,rfl,hbv,cv9⟩:=FV.out 9 h3 O;have lh:x.horizontal.length=36:=zd8 h2;have lv:x.vertical.length=19:=zd8 h3;have lh1:(0:Int)<(x.horizontal.length:Int):=O
       have lh2:0<x.horizontal.length:=O
       have lv1:(9:Int)<(x.vertical.length:Int):=O
       have lv2:9<x.vertical.length:=O
       rw[Nat.add_zero] at ch0;clear lh lv;clear FH FV;go_enter Tryz.func102,Tryz.ntmps102;go_wp2_with (first|(go_at_call 120;refine (zay _ _ (by assumption)).mono ?_;rintro e w1 ⟨rfl,rfl⟩)|(go_at_call 140;refine (zc1 _ _).mono ?_;rintro e w1 ⟨rfl,rfl⟩)|(go_at_call 100;(with_reducible refine (HH.out _ B0.out).mono ?_);rintro e w2 ⟨rfl,hb2⟩;have B2:=J (B0.out.trans (hb2.mono B0.out.size));obtain⟨q2,_,y2⟩:=zah hb2 (b:=w.heap.size) (by simp);have z2:=B2.out.size;clear hb2)|(go_at_call 100;(with_reducible refine (HV.out _ B2.out).mono ?_);rintro e w3 ⟨rfl,hb3⟩;have B3:=J (B2.out.trans (hb3.mono B2.out.size));obtain⟨q3,_,y3⟩:=zah hb3 (b:=w.heap.size) y2;have u0:w3.cell? ⟨bh,oh,none⟩=some (I (gi x.horizontal 0)):=(bat B3.out bh oh hbh).trans ch0;have u9:w3.cell? ⟨bv,ov+9,none⟩=some (I (gi x.vertical 9)):=(bat B3.out bv (ov+9) hbv).trans cv9;clear hb3));go_ret;exact⟨by rw[HE.out];rfl,B3.out⟩
     ·replace h4:(x.horizontal.all fun n=>inB n 0 60000)=false:=Bool.eq_false_iff.2 h4
      have HE:Hid (antB x=false):=by show _=_;unfold antB;simp only[h0,h1,h2,h3,h4]<;>rfl
      clear FH FV;go_enter Tryz.func102,Tryz.ntmps102;go_wp2_with (first|(go_at_call 120;refine (zay _ _ (by assumption)).mono ?_;rintro e w1 ⟨rfl,rfl⟩)|(go_at_call 140;refine (zc1 _ _).mono ?_;rintro e w1 ⟨rfl,rfl⟩)|(go_at_call 100;(with_reducible refine (HH.out _ B0.out).mono ?_);rintro e w2 ⟨rfl,hb2⟩;have B2:=J (B0.out.trans (hb2.mono B0.out.size));obtain⟨q2,_,y2⟩:=zah hb2 (b:=w.heap.size) (by simp);have z2:=B2.out.size;clear hb2));go_ret;exact⟨by rw[HE.out];rfl,B2.out⟩
    ·replace h3:((x.vertical.length:Int) == 19)=false:=Bool.eq_false_iff.2 h3
     have HE:Hid (antB x=false):=by show _=_;unfold antB;simp only[h0,h1,h2,h3]<;>rfl
     clear FH FV;go_enter Tryz.func102,Tryz.ntmps102;go_wp2_with (first|(go_at_call 120;refine (zay _ _ (by assumption)).mono ?_;rintro e w1 ⟨rfl,rfl⟩)|(go_at_call 140;refine (zc1 _ _).mono ?_;rintro e w1 ⟨rfl,rfl⟩));go_ret;exact⟨by rw[HE.out];rfl,B0.out⟩
   ·replace h2:((x.horizontal.length:Int) == 36)=false:=Bool.eq_false_iff.2 h2
    have HE:Hid (antB x=false):=by show _=_;unfold antB;simp only[h0,h1,h2]<;>rfl
    clear FH FV;go_enter Tryz.func102,Tryz.ntmps102;go_wp2_with (first|(go_at_call 120;refine (zay _ _ (by assumption)).mono ?_;rintro e w1 ⟨rfl,rfl⟩)|(go_at_call 140;refine (zc1 _ _).mono ?_;rintro e w1 ⟨rfl,rfl⟩));go_ret;exact⟨by rw[HE.out];rfl,B0.out⟩
  ·replace h1:inB x.gain (-60000) 60000=false:=Bool.eq_false_iff.2 h1
   have HE:Hid (antB x=false):=by show _=_;unfold antB;simp only[h0,h1]<;>rfl
   clear FH FV;go_enter Tryz.func102,Tryz.ntmps102;go_wp2_with (first|(go_at_call 120;refine (zay _ _ (by assumption)).mono ?_;rintro e w1 ⟨rfl,rfl⟩)|(go_at_call 140;refine (zc1 _ _).mono ?_;rintro e w1 ⟨rfl,rfl⟩));go_ret;exact⟨by rw[HE.out];rfl,B0.out⟩
 ·replace h0:zbt x.name=false:=Bool.eq_false_iff.2 h0
  have HE:Hid (antB x=false):=by show _=_;unfold antB;simp only[h0]<;>rfl
  clear FH FV;go_enter Tryz.func102,Tryz.ntmps102;go_wp2_with (first|(go_at_call 120;refine (zay _ _ (by assumption)).mono ?_;rintro e w1 ⟨rfl,rfl⟩)|(go_at_call 140;refine (zc1 _ _).mono ?_;rintro e w1 ⟨rfl,rfl⟩));go_ret;exact⟨by rw[HE.out];rfl,B0.out⟩
theorem l06Losses_any (l:List Int) (many main:Nat) (v:Value) (B:Nat) (w:World) (h:Rd B w (zai l) v) (hB:B≤w.heap.size) (hn:l.length≤1099511627776) (hm:main<many) :
  Calls Tryz.prog 213 #[v,I many,I main] w fun e w'=>e=.returned (.bool (zcq l many main))∧w=w':=by
 obtain⟨a,c,rfl,hnc,hcm,hcells⟩:=h.ints;clear h
 by_cases h1:((l.length:Int) == (many:Int))=true
 ·have hl:l.length=many:=zd8 h1
  subst hl;clear h1;have HU:Hid (zcq l l.length main=((gi l main == 0)&&(l.all fun n=>inB n 0 60000))):=by show _=_;unfold zcq;simp
  have hnb:(l.length:Int)≤1099511627776:=O
  have hmi:(main:Int)<(l.length:Int):=O
  obtain⟨b,off,rfl,hbl,hat⟩:=hcells O;have sm:=hat main hm;rw[gi_eq] at sm;have HAT:=J hat;clear hat hcells;have hne:((l.length:Int) != (l.length:Int))=false:=by simp
  by_cases h2:(gi l main == 0)=true
  ·have h2':(gi l main != 0)=false:=by simpa using h2
   have HE:Hid (zcq l l.length main=(l.all fun n=>inB n 0 60000)):=by show _=_;rw[HU.out,h2];simp
   clear h2;go_enter Tryz.func213,Tryz.ntmps213;go_wp2;clear hne h2' sm
   go_loop [7] (fun i=>∃ (k:Nat),k≤l.length∧i=I k∧(l.take k).all (fun n=>inB n 0 60000)=true) (fun i=>l.length-(intOf i).toNat)
   case atStart=>exact⟨0,Nat.zero_le _,rfl,by simp⟩
   case round =>
    obtain⟨k,hk,rfl,hno⟩:=hrel;have HN:=J hno;clear hno
    by_cases hlt:k<l.length
    ·have s0:=HAT.out k hlt
     have HA:=J (zdn (fun n=>inB n 0 60000) l k hlt)
     by_cases hp:inB l[k] 0 60000=true
     ·have HP:=J hp
      go_wp2_with (go_at_call 89;refine (zaq _ _ _ _).mono ?_;rintro e w1 ⟨rfl,rfl⟩)
      go_round
      case rel=>exact⟨k+1,O,by go_num,by rw[HA.out,HN.out,HP.out];rfl⟩
      case measure=>simp[intOf];omega
     ·have hp':inB l[k] 0 60000=false:=Bool.eq_false_iff.2 hp
      have HF:=J (all_false_at (fun n=>inB n 0 60000) l k hlt hp');clear hp;go_wp2_with (go_at_call 89;refine (zaq _ _ _ _).mono ?_;rintro e w1 ⟨rfl,rfl⟩);go_ret;exact⟨by rw[HE.out,HF.out];rfl,rfl⟩
    ·obtain rfl:k=l.length:=O
     go_wp2;go_ret;have:=HN.out;rw[List.take_length] at this;exact⟨by rw[HE.out,this];rfl,rfl⟩
  ·have h2':(gi l main != 0)=true:=by simpa using h2
   have HE:Hid (zcq l l.length main=false):=by show _=_;rw[HU.out,Bool.eq_false_iff.2 h2];rfl
   clear h2;go_enter Tryz.func213,Tryz.ntmps213;go_wp2;go_ret;exact⟨by rw[HE.out];rfl,rfl⟩
 ·have h1':((l.length:Int) != (many:Int))=true:=by simpa using h1
  have HE:Hid (zcq l many main=false):=by show _=_;unfold zcq;rw[Bool.eq_false_iff.2 h1];rfl
  clear h1 hcells;go_enter Tryz.func213,Tryz.ntmps213;go_wp2;go_ret;exact⟨by rw[HE.out];rfl,rfl⟩
theorem l06Ok_any (x:DAntenna) (vh vv:Value) (b off B:Nat) (w:World) (hh:Rd B w (zai x.horizontal) vh) (hv:Rd B w (zai x.vertical) vv) (hB:B≤w.heap.size) (c0:w.cell? ⟨b,off,none⟩=some (F x.name)) (c1:w.cell? ⟨b,off+1,none⟩=some (I x.gain)) (c2:w.cell? ⟨b,off+2,none⟩=some vh) (c3:w.cell? ⟨b,off+3,none⟩=some vv) (k0:x.name.size≤maxLen) (k1:x.horizontal.length≤1099511627776) (k2:x.vertical.length≤1099511627776) :
  Calls Tryz.prog 167 #[.pointer (some ⟨b,off,none⟩)] w fun e w'=>e=.returned (.bool (antB x))∧w=w':=by
 have HLH:Hid (Calls Tryz.prog 213 #[vh,I 36,I 0] w fun e w'=>e=.returned (.bool (zcq x.horizontal 36 0))∧w=w'):=l06Losses_any x.horizontal 36 0 vh B w hh hB k1 O;have HLV:Hid (Calls Tryz.prog 213 #[vv,I 19,I 9] w fun e w'=>e=.returned (.bool (zcq x.vertical 19 9))∧w=w'):=l06Losses_any x.vertical 19 9 vv B w hv hB k2 O;clear hh hv
 by_cases h0:zbt x.name=true
 ·skip
  by_cases h1:inB x.gain (-60000) 60000=true
  ·skip
   by_cases h2:zcq x.horizontal 36 0=true
   ·skip
    by_cases h3:zcq x.vertical 19 9=true
    ·skip
     have HE:Hid (antB x=true):=by show _=_;rw[antB_eq];simp only[h0,h1,h2,h3]<;>rfl
     go_enter Tryz.func167,Tryz.ntmps167;go_wp2_with (first|(go_at_call 149;refine (zau _ _ (by assumption)).mono ?_;rintro e w1 ⟨rfl,rfl⟩)|(go_at_call 212;refine (zel _ _).mono ?_;rintro e w1 ⟨rfl,rfl⟩)|(go_at_call 213;(with_reducible refine (HLH.out).mono ?_);rintro e w1 ⟨rfl,rfl⟩)|(go_at_call 213;(with_reducible refine (HLV.out).mono ?_);rintro e w1 ⟨rfl,rfl⟩));go_ret;exact⟨by rw[HE.out];rfl,by rfl⟩
    ·replace h3:zcq x.vertical 19 9=false:=Bool.eq_false_iff.2 h3
     have HE:Hid (antB x=false):=by show _=_;rw[antB_eq];simp only[h0,h1,h2,h3]<;>rfl
     go_enter Tryz.func167,Tryz.ntmps167;go_wp2_with (first|(go_at_call 149;refine (zau _ _ (by assumption)).mono ?_;rintro e w1 ⟨rfl,rfl⟩)|(go_at_call 212;refine (zel _ _).mono ?_;rintro e w1 ⟨rfl,rfl⟩)|(go_at_call 213;(with_reducible refine (HLH.out).mono ?_);rintro e w1 ⟨rfl,rfl⟩)|(go_at_call 213;(with_reducible refine (HLV.out).mono ?_);rintro e w1 ⟨rfl,rfl⟩));go_ret;exact⟨by rw[HE.out];rfl,by rfl⟩
   ·replace h2:zcq x.horizontal 36 0=false:=Bool.eq_false_iff.2 h2
    have HE:Hid (antB x=false):=by show _=_;rw[antB_eq];simp only[h0,h1,h2]<;>rfl
    go_enter Tryz.func167,Tryz.ntmps167;go_wp2_with (first|(go_at_call 149;refine (zau _ _ (by assumption)).mono ?_;rintro e w1 ⟨rfl,rfl⟩)|(go_at_call 212;refine (zel _ _).mono ?_;rintro e w1 ⟨rfl,rfl⟩)|(go_at_call 213;(with_reducible refine (HLH.out).mono ?_);rintro e w1 ⟨rfl,rfl⟩)|(go_at_call 213;(with_reducible refine (HLV.out).mono ?_);rintro e w1 ⟨rfl,rfl⟩));go_ret;exact⟨by rw[HE.out];rfl,by rfl⟩
  ·replace h1:inB x.gain (-60000) 60000=false:=Bool.eq_false_iff.2 h1
   have HE:Hid (antB x=false):=by show _=_;rw[antB_eq];simp only[h0,h1]<;>rfl
   go_enter Tryz.func167,Tryz.ntmps167;go_wp2_with (first|(go_at_call 149;refine (zau _ _ (by assumption)).mono ?_;rintro e w1 ⟨rfl,rfl⟩)|(go_at_call 212;refine (zel _ _).mono ?_;rintro e w1 ⟨rfl,rfl⟩)|(go_at_call 213;(with_reducible refine (HLH.out).mono ?_);rintro e w1 ⟨rfl,rfl⟩)|(go_at_call 213;(with_reducible refine (HLV.out).mono ?_);rintro e w1 ⟨rfl,rfl⟩));go_ret;exact⟨by rw[HE.out];rfl,by rfl⟩
 ·replace h0:zbt x.name=false:=Bool.eq_false_iff.2 h0
  have HE:Hid (antB x=false):=by show _=_;rw[antB_eq];simp only[h0]<;>rfl
  go_enter Tryz.func167,Tryz.ntmps167;go_wp2_with (first|(go_at_call 149;refine (zau _ _ (by assumption)).mono ?_;rintro e w1 ⟨rfl,rfl⟩)|(go_at_call 212;refine (zel _ _).mono ?_;rintro e w1 ⟨rfl,rfl⟩)|(go_at_call 213;(with_reducible refine (HLH.out).mono ?_);rintro e w1 ⟨rfl,rfl⟩)|(go_at_call 213;(with_reducible refine (HLV.out).mono ?_);rintro e w1 ⟨rfl,rfl⟩));go_ret;exact⟨by rw[HE.out];rfl,by rfl⟩
set_option maxHeartbeats 8000000
set_option maxRecDepth 100000
def zco (m:DMode):Bool:=inB m.need (-50000) 100000&&inB m.rate 1 1000000
def zb2 (p m:DMode):Bool:=decide (p.need<m.need)&&decide (p.rate<m.rate)
def radB (r:DRadio):Bool:=zbt r.name&&(inB r.power (-100000) 100000&&(inB r.feeder 0 30000&&(inB r.noise 0 30000&&(inB r.width 1 100000&&(decide (1≤r.modes.length)&&(decide (r.modes.length≤8)&&zba zco zb2 r.modes))))))
theorem modeLt_true {p m:DMode} (h1:p.need<m.need) (h2:p.rate<m.rate):zb2 p m=true:=by simp[zb2,h1,h2]
theorem modeLt_need {p m:DMode} (h1:¬ p.need<m.need):zb2 p m=false:=by simp[zb2,h1]
theorem modeLt_rate {p m:DMode} (h1:¬ p.rate<m.rate):zb2 p m=false:=by simp[zb2,h1]
def gm (l:List DMode) (i:Nat):DMode:=l.getD i ⟨0,0⟩
theorem gm_eq {l:List DMode} {i:Nat} (h:i<l.length):l[i]=gm l i:=by simp[gm,h]
theorem validRadio_any (r:DRadio) (vm:Value) (w:World) (hm:Rd w w (DMode.sT r.modes) vm) (k0:r.name.size≤maxLen) (k1:r.modes.length≤1099511627776) :
  Calls Tryz.prog 103 #[.agg #[F r.name,I r.power,I r.feeder,I r.noise,I r.width,vm]] w fun e w'=>e=.returned (.bool (radB r))∧IJ w w w':=by
 obtain⟨am,cm,em,hnc,hcm,hcells⟩:=DMode.rd hm;subst em;clear hm;unfold maxLen at hcm;have HCL:=J hcells;clear hcells;have B0:Hid (IJ w w (w.alloc (.cells #[F r.name,I r.power,I r.feeder,I r.noise,I r.width,II am r.modes.length cm] 153))):=by exact (Below.refl _ _).alloc (Nat.le_refl _) _
 by_cases h0:zbt r.name=true
 ·skip
  by_cases h1:inB r.power (-100000) 100000=true
  ·skip
   by_cases h2:inB r.feeder 0 30000=true
   ·skip
    by_cases h3:inB r.noise 0 30000=true
    ·skip
     by_cases h4:inB r.width 1 100000=true
     ·skip
      by_cases h5:1≤r.modes.length
      ·skip
       by_cases h6:r.modes.length≤8
       ·skip
        have HE:Hid (radB r=zba zco zb2 r.modes):=by show _=_;unfold radB;rw[decide_eq_true h5,decide_eq_true h6];simp only[h0,h1,h2,h3,h4,Bool.true_and]
        obtain⟨b,off,rfl,hbl,hat⟩:=HCL.out O;have HAT:=J hat;clear hat HCL;have hi5:(1:Int)≤(r.modes.length:Int):=O
        have hi6:(r.modes.length:Int)≤8:=O
        go_enter Tryz.func103,Tryz.ntmps103;go_wp2_with (first|(go_at_call 120;refine (zay _ _ (by assumption)).mono ?_;rintro e w1 ⟨rfl,rfl⟩)|(go_at_call 54;refine (zao _ _ _ _).mono ?_;rintro e w1 ⟨rfl,rfl⟩));go_loopw [48] (fun i wr=>∃ (k:Nat),k≤r.modes.length∧i=I k∧(∀ j,j<k→upOk zco zb2 r.modes j=true)∧IJ (w.heap.size+1) (w.alloc (.cells #[F r.name,I r.power,I r.feeder,I r.noise,I r.width,II (some ⟨b,off,none⟩) r.modes.length cm] 153)) wr) (fun i wr=>r.modes.length-(intOf i).toNat)
        case atStart=>exact⟨0,Nat.zero_le _,rfl,fun j hj=>absurd hj O,Below.refl _ _⟩
        case round =>
         obtain⟨k,hk,rfl,hno,hb⟩:=hrel;have HN:=J hno;have HB:=J hb;have zb:=hb.size;simp at zb;clear hno hb;have BW:Hid (IJ w w wr):=B0.out.trans (HB.out.mono O);have yb:b<wr.heap.size:=O
         have cx:wr.cell? ⟨w,5,none⟩=some (II (some ⟨b,off,none⟩) r.modes.length cm):=by rw[bat HB.out w.heap.size 5 O];simp[go_sem]
         have yx:w.heap.size<wr.heap.size:=O
         by_cases hlt:k<r.modes.length
         ·obtain⟨s0,s1⟩:=HAT.out k hlt
          rw[← bat BW.out b _ hbl] at s0 s1;rw[gm_eq hlt] at s0 s1;have HUN:Hid (zco (gm r.modes k)=false→zba zco zb2 r.modes=false):=fun h=>za7 hlt (zdv hlt (by rw[gm_eq hlt];exact h))
          have HUZ:Hid (k=0→zco (gm r.modes k)=true→upOk zco zb2 r.modes k=true):=fun e h=>by subst e;rw[zc5 hlt,gm_eq hlt];exact h
          have HUP:Hid (0<k→upOk zco zb2 r.modes k=(zco (gm r.modes k)&&zb2 (gm r.modes (k-1)) (gm r.modes k))):=fun h=>by rw[zdi h hlt,gm_eq hlt,gm_eq (show k-1<r.modes.length by omega)]
          have s2:0<k→wr.cell? ⟨b,off+(k-1)*2,none⟩=some (I (gm r.modes (k-1)).need)∧wr.cell? ⟨b,off+(k-1)*2+1,none⟩=some (I (gm r.modes (k-1)).rate):=fun h=>by
           obtain⟨t0,t1⟩:=HAT.out (k-1) O;rw[← bat BW.out b _ hbl] at t0 t1;rw[gm_eq (show k-1<r.modes.length by omega)] at t0 t1;exact⟨t0,t1⟩
          have H2:=J s2;clear s2;generalize hA:gm r.modes k=A at *;generalize hP:gm r.modes (k-1)=P at *;clear hA hP;have i1:(0:Int)≤(k:Int):=O
          have i2:(k:Int)<(r.modes.length:Int):=O
          go_wp2;have b1:IJ wr wr (wr.alloc (.cells #[I A.need,I A.rate] 200)):=(Below.refl _ _).alloc (Nat.le_refl _) _;have f0:(wr.alloc (.cells #[I A.need,I A.rate] 200)).cell? ⟨wr,0,none⟩=some (I A.need):=by simp[go_sem]
          have f1:(wr.alloc (.cells #[I A.need,I A.rate] 200)).cell? ⟨wr,1,none⟩=some (I A.rate):=by simp[go_sem]
          have fx:=bat b1 (w.heap.size) (5) yx;rw[cx] at fx;have fz:wr.heap.size<(wr.alloc (.cells #[I A.need,I A.rate] 200)).heap.size:=by simp
          generalize hW1:(wr.alloc (.cells #[I A.need,I A.rate] 200))=W1 at *;have BB:=J (BW.out.trans (b1.mono O));have BH:=J (HB.out.trans (b1.mono O));have B1:=J b1;clear b1 hW1
          by_cases c1:inB A.need (-50000) 100000=true
          ·by_cases c2:inB A.rate 1 1000000=true
           ·have HM:Hid (zco A=true):=by show _=_;unfold zco;rw[c1,c2];rfl
            by_cases c3:0<k
            ·skip
             obtain⟨t0,t1⟩:=H2.out c3;rw[← bat B1.out b _ yb] at t0 t1;have i3:IntKind.i64.wrap ((k:Int)-1)=(k:Int)-1:=IntWalk.i64_in _ O;have i4:(0:Int)≤(k:Int)-1:=O
             have i6:(k:Int)-1<(r.modes.length:Int):=O
             have i7:(1:Int)≤(k:Int):=O
             have i8:decide (0<k)=true:=by simpa using c3
             have i5:((k:Int)-1).toNat=k-1:=O
             by_cases c4:A.need≤P.need
             ·have c4':decide (A.need≤P.need)=true:=by simpa using c4
              have HF:Hid (zba zco zb2 r.modes=false):=za7 hlt (by rw[HUP.out c3,modeLt_need O];simp)
              go_quiet ((go_at_call 54;exact zb5 (zao _ _ _ _)))
              clear i3 i5;go_wp2;go_ret;exact⟨by rw[HE.out,HF.out];rfl,zbc BB.out _⟩
             ·have c4':decide (A.need≤P.need)=false:=by simpa using c4
              by_cases c5:A.rate≤P.rate
              ·have c5':decide (A.rate≤P.rate)=true:=by simpa using c5
               have HF:Hid (zba zco zb2 r.modes=false):=za7 hlt (by rw[HUP.out c3,modeLt_rate O];simp)
               go_quiet ((go_at_call 54;exact zb5 (zao _ _ _ _)))
               clear i3 i5;go_wp2;go_ret;exact⟨by rw[HE.out,HF.out];rfl,zbc BB.out _⟩
              ·have c5':decide (A.rate≤P.rate)=false:=by simpa using c5
               have HF:Hid (upOk zco zb2 r.modes k=true):=by show _=_;rw[HUP.out c3,HM.out,modeLt_true O O];rfl
               go_quiet ((go_at_call 54;exact zb5 (zao _ _ _ _)))
               clear i3 i5;go_wp2;go_roundw
               case rel=>exact⟨k+1,O,by go_num,zbj HN.out (HF.out),zbc BH.out _⟩
               case measure=>simp[intOf];omega
            ·have i8:decide (0<k)=false:=by simpa using c3
             have HF:Hid (upOk zco zb2 r.modes k=true):=HUZ.out O HM.out
             go_quiet ((go_at_call 54;exact zb5 (zao _ _ _ _)))
             go_wp2;go_roundw
             case rel=>exact⟨k+1,O,by go_num,zbj HN.out (HF.out),zbc BH.out _⟩
             case measure=>simp[intOf];omega
           ·replace c2:inB A.rate 1 1000000=false:=Bool.eq_false_iff.2 c2
            have HF:Hid (zba zco zb2 r.modes=false):=HUN.out (by unfold zco;rw[c2,Bool.and_false])
            go_quiet ((go_at_call 54;exact zb5 (zao _ _ _ _)))
            go_wp2;go_ret;exact⟨by rw[HE.out,HF.out];rfl,zbc BB.out _⟩
          ·replace c1:inB A.need (-50000) 100000=false:=Bool.eq_false_iff.2 c1
           have HF:Hid (zba zco zb2 r.modes=false):=HUN.out (by unfold zco;rw[c1,Bool.false_and])
           go_quiet ((go_at_call 54;exact zb5 (zao _ _ _ _)))
           go_wp2;go_ret;exact⟨by rw[HE.out,HF.out];rfl,zbc BB.out _⟩
         ·obtain rfl:k=r.modes.length:=O
          have HF:Hid (zba zco zb2 r.modes=true):=zcp HN.out;go_wp2;go_ret;exact⟨by rw[HE.out,HF.out];rfl,BW.out⟩
       ·have h6':8<r.modes.length:=O
        have h5i:(1:Int)≤(r.modes.length:Int):=O
        have HE:Hid (radB r=false):=by show _=_;unfold radB;rw[decide_eq_false h6];simp only[h0,h1,h2,h3,h4,Bool.and_false,Bool.false_and,Bool.and_true,Bool.true_and]
        go_enter Tryz.func103,Tryz.ntmps103;go_wp2_with (first|(go_at_call 120;refine (zay _ _ (by assumption)).mono ?_;rintro e w1 ⟨rfl,rfl⟩)|(go_at_call 54;refine (zao _ _ _ _).mono ?_;rintro e w1 ⟨rfl,rfl⟩));go_ret;exact⟨by rw[HE.out];rfl,B0.out⟩
      ·have h5':r.modes.length<1:=O
       have HE:Hid (radB r=false):=by show _=_;unfold radB;rw[decide_eq_false h5];simp only[h0,h1,h2,h3,h4,Bool.and_false,Bool.false_and,Bool.and_true,Bool.true_and]
       go_enter Tryz.func103,Tryz.ntmps103;go_wp2_with (first|(go_at_call 120;refine (zay _ _ (by assumption)).mono ?_;rintro e w1 ⟨rfl,rfl⟩)|(go_at_call 54;refine (zao _ _ _ _).mono ?_;rintro e w1 ⟨rfl,rfl⟩));go_ret;exact⟨by rw[HE.out];rfl,B0.out⟩
     ·replace h4:inB r.width 1 100000=false:=Bool.eq_false_iff.2 h4
      have HE:Hid (radB r=false):=by show _=_;unfold radB;simp only[h0,h1,h2,h3,h4,Bool.and_false,Bool.false_and,Bool.and_true,Bool.true_and]
      go_enter Tryz.func103,Tryz.ntmps103;go_wp2_with (first|(go_at_call 120;refine (zay _ _ (by assumption)).mono ?_;rintro e w1 ⟨rfl,rfl⟩)|(go_at_call 54;refine (zao _ _ _ _).mono ?_;rintro e w1 ⟨rfl,rfl⟩));go_ret;exact⟨by rw[HE.out];rfl,B0.out⟩
    ·replace h3:inB r.noise 0 30000=false:=Bool.eq_false_iff.2 h3
     have HE:Hid (radB r=false):=by show _=_;unfold radB;simp only[h0,h1,h2,h3,Bool.and_false,Bool.false_and,Bool.and_true,Bool.true_and]
     go_enter Tryz.func103,Tryz.ntmps103;go_wp2_with (first|(go_at_call 120;refine (zay _ _ (by assumption)).mono ?_;rintro e w1 ⟨rfl,rfl⟩)|(go_at_call 54;refine (zao _ _ _ _).mono ?_;rintro e w1 ⟨rfl,rfl⟩));go_ret;exact⟨by rw[HE.out];rfl,B0.out⟩
   ·replace h2:inB r.feeder 0 30000=false:=Bool.eq_false_iff.2 h2
    have HE:Hid (radB r=false):=by show _=_;unfold radB;simp only[h0,h1,h2,Bool.and_false,Bool.false_and,Bool.and_true,Bool.true_and]
    go_enter Tryz.func103,Tryz.ntmps103;go_wp2_with (first|(go_at_call 120;refine (zay _ _ (by assumption)).mono ?_;rintro e w1 ⟨rfl,rfl⟩)|(go_at_call 54;refine (zao _ _ _ _).mono ?_;rintro e w1 ⟨rfl,rfl⟩));go_ret;exact⟨by rw[HE.out];rfl,B0.out⟩
  ·replace h1:inB r.power (-100000) 100000=false:=Bool.eq_false_iff.2 h1
   have HE:Hid (radB r=false):=by show _=_;unfold radB;simp only[h0,h1,Bool.and_false,Bool.false_and,Bool.and_true,Bool.true_and]
   go_enter Tryz.func103,Tryz.ntmps103;go_wp2_with (first|(go_at_call 120;refine (zay _ _ (by assumption)).mono ?_;rintro e w1 ⟨rfl,rfl⟩)|(go_at_call 54;refine (zao _ _ _ _).mono ?_;rintro e w1 ⟨rfl,rfl⟩));go_ret;exact⟨by rw[HE.out];rfl,B0.out⟩
 ·replace h0:zbt r.name=false:=Bool.eq_false_iff.2 h0
  have HE:Hid (radB r=false):=by show _=_;unfold radB;simp only[h0,Bool.and_false,Bool.false_and,Bool.and_true,Bool.true_and]
  go_enter Tryz.func103,Tryz.ntmps103;go_wp2_with (first|(go_at_call 120;refine (zay _ _ (by assumption)).mono ?_;rintro e w1 ⟨rfl,rfl⟩)|(go_at_call 54;refine (zao _ _ _ _).mono ?_;rintro e w1 ⟨rfl,rfl⟩));go_ret;exact⟨by rw[HE.out];rfl,B0.out⟩
theorem l07Ok_any (r:DRadio) (vm:Value) (bp op:Nat) (w:World) (hm:Rd w w (DMode.sT r.modes) vm) (hbp:bp<w.heap.size) (c0:w.cell? ⟨bp,op,none⟩=some (F r.name)) (c1:w.cell? ⟨bp,op+1,none⟩=some (I r.power)) (c2:w.cell? ⟨bp,op+2,none⟩=some (I r.feeder)) (c3:w.cell? ⟨bp,op+3,none⟩=some (I r.noise)) (c4:w.cell? ⟨bp,op+4,none⟩=some (I r.width)) (c5:w.cell? ⟨bp,op+5,none⟩=some (vm)) (k0:r.name.size≤maxLen) (k1:r.modes.length≤1099511627776) :
  Calls Tryz.prog 168 #[.pointer (some ⟨bp,op,none⟩)] w fun e w'=>e=.returned (.bool (radB r))∧IJ w w w':=by
 obtain⟨am,cm,em,hnc,hcm,hcells⟩:=DMode.rd hm;subst em;clear hm;unfold maxLen at hcm;have HCL:=J hcells;clear hcells;have B0:Hid (IJ w w w):=by exact Below.refl _ _
 by_cases h0:zbt r.name=true
 ·skip
  by_cases h1:inB r.power (-100000) 100000=true
  ·skip
   by_cases h2:inB r.feeder 0 30000=true
   ·skip
    by_cases h3:inB r.noise 0 30000=true
    ·skip
     by_cases h4:inB r.width 1 100000=true
     ·skip
      by_cases h5:1≤r.modes.length
      ·skip
       by_cases h6:r.modes.length≤8
       ·skip
        have HE:Hid (radB r=zba zco zb2 r.modes):=by show _=_;unfold radB;rw[decide_eq_true h5,decide_eq_true h6];simp only[h0,h1,h2,h3,h4,Bool.true_and]
        obtain⟨b,off,rfl,hbl,hat⟩:=HCL.out O;have HAT:=J hat;clear hat HCL;have hi5:(1:Int)≤(r.modes.length:Int):=O
        have hi6:(r.modes.length:Int)≤8:=O
        go_enter Tryz.func168,Tryz.ntmps168;go_wp2_with (first|(go_at_call 149;refine (zau _ _ (by assumption)).mono ?_;rintro e w1 ⟨rfl,rfl⟩)|(go_at_call 89;refine (zaq _ _ _ _).mono ?_;rintro e w1 ⟨rfl,rfl⟩));go_loopw [3] (fun i wr=>∃ (k:Nat),k≤r.modes.length∧i=I k∧(∀ j,j<k→upOk zco zb2 r.modes j=true)∧IJ (w.heap.size) w wr) (fun i wr=>r.modes.length-(intOf i).toNat)
        case atStart=>exact⟨0,Nat.zero_le _,rfl,fun j hj=>absurd hj O,Below.refl _ _⟩
        case round =>
         obtain⟨k,hk,rfl,hno,hb⟩:=hrel;have HN:=J hno;have HB:=J hb;have zb:=hb.size;clear hno hb;have BW:Hid (IJ w w wr):=B0.out.trans (HB.out.mono O);have yb:b<wr.heap.size:=O
         have cx:wr.cell? ⟨bp,op+5,none⟩=some (II (some ⟨b,off,none⟩) r.modes.length cm):=by rw[bat HB.out bp (op+5) O];exact c5
         have yx:bp<wr.heap.size:=O
         by_cases hlt:k<r.modes.length
         ·obtain⟨s0,s1⟩:=HAT.out k hlt
          rw[← bat BW.out b _ hbl] at s0 s1;rw[gm_eq hlt] at s0 s1;have HUN:Hid (zco (gm r.modes k)=false→zba zco zb2 r.modes=false):=fun h=>za7 hlt (zdv hlt (by rw[gm_eq hlt];exact h))
          have HUZ:Hid (k=0→zco (gm r.modes k)=true→upOk zco zb2 r.modes k=true):=fun e h=>by subst e;rw[zc5 hlt,gm_eq hlt];exact h
          have HUP:Hid (0<k→upOk zco zb2 r.modes k=(zco (gm r.modes k)&&zb2 (gm r.modes (k-1)) (gm r.modes k))):=fun h=>by rw[zdi h hlt,gm_eq hlt,gm_eq (show k-1<r.modes.length by omega)]
          have s2:0<k→wr.cell? ⟨b,off+(k-1)*2,none⟩=some (I (gm r.modes (k-1)).need)∧wr.cell? ⟨b,off+(k-1)*2+1,none⟩=some (I (gm r.modes (k-1)).rate):=fun h=>by
           obtain⟨t0,t1⟩:=HAT.out (k-1) O;rw[← bat BW.out b _ hbl] at t0 t1;rw[gm_eq (show k-1<r.modes.length by omega)] at t0 t1;exact⟨t0,t1⟩
          have H2:=J s2;clear s2;generalize hA:gm r.modes k=A at *;generalize hP:gm r.modes (k-1)=P at *;clear hA hP;have i1:(0:Int)≤(k:Int):=O
          have i2:(k:Int)<(r.modes.length:Int):=O
          by_cases c1:inB A.need (-50000) 100000=true
          ·by_cases c2:inB A.rate 1 1000000=true
           ·have HM:Hid (zco A=true):=by show _=_;unfold zco;rw[c1,c2];rfl
            go_wp2_with (first|(go_at_call 149;refine (zau _ _ (by assumption)).mono ?_;rintro e w1 ⟨rfl,rfl⟩)|(go_at_call 89;refine (zaq _ _ _ _).mono ?_;rintro e w1 ⟨rfl,rfl⟩));have b1:IJ wr wr (wr.alloc (.cells #[I A.need,I A.rate] 200)):=(Below.refl _ _).alloc (Nat.le_refl _) _;have f0:(wr.alloc (.cells #[I A.need,I A.rate] 200)).cell? ⟨wr,0,none⟩=some (I A.need):=by simp[go_sem]
            have f1:(wr.alloc (.cells #[I A.need,I A.rate] 200)).cell? ⟨wr,1,none⟩=some (I A.rate):=by simp[go_sem]
            have fx:=bat b1 (bp) (op+5) yx;rw[cx] at fx;have fz:wr.heap.size<(wr.alloc (.cells #[I A.need,I A.rate] 200)).heap.size:=by simp
            generalize hW1:(wr.alloc (.cells #[I A.need,I A.rate] 200))=W1 at *;have BB:=J (BW.out.trans (b1.mono O));have BH:=J (HB.out.trans (b1.mono O));have B1:=J b1;clear b1 hW1
            by_cases c3:0<k
            ·skip
             obtain⟨t0,t1⟩:=H2.out c3;rw[← bat B1.out b _ yb] at t0 t1;have i3:IntKind.i64.wrap ((k:Int)-1)=(k:Int)-1:=IntWalk.i64_in _ O;have i4:(0:Int)≤(k:Int)-1:=O
             have i6:(k:Int)-1<(r.modes.length:Int):=O
             have i7:(1:Int)≤(k:Int):=O
             have i8:decide (0<k)=true:=by simpa using c3
             have i5:((k:Int)-1).toNat=k-1:=O
             by_cases c4:A.need≤P.need
             ·have c4':decide (A.need≤P.need)=true:=by simpa using c4
              have HF:Hid (zba zco zb2 r.modes=false):=za7 hlt (by rw[HUP.out c3,modeLt_need O];simp)
              go_quiet (fail)
              clear i3 i5;go_wp2;go_ret;exact⟨by rw[HE.out,HF.out];rfl,zbc BB.out _⟩
             ·have c4':decide (A.need≤P.need)=false:=by simpa using c4
              by_cases c5:A.rate≤P.rate
              ·have c5':decide (A.rate≤P.rate)=true:=by simpa using c5
               have HF:Hid (zba zco zb2 r.modes=false):=za7 hlt (by rw[HUP.out c3,modeLt_rate O];simp)
               go_quiet (fail)
               clear i3 i5;go_wp2;go_ret;exact⟨by rw[HE.out,HF.out];rfl,zbc BB.out _⟩
              ·have c5':decide (A.rate≤P.rate)=false:=by simpa using c5
               have HF:Hid (upOk zco zb2 r.modes k=true):=by show _=_;rw[HUP.out c3,HM.out,modeLt_true O O];rfl
               go_quiet (fail)
               clear i3 i5;go_wp2;go_roundw
               case rel=>exact⟨k+1,O,by go_num,zbj HN.out (HF.out),zbc BH.out _⟩
               case measure=>simp[intOf];omega
            ·have i8:decide (0<k)=false:=by simpa using c3
             have HF:Hid (upOk zco zb2 r.modes k=true):=HUZ.out O HM.out
             go_quiet (fail)
             go_wp2;go_roundw
             case rel=>exact⟨k+1,O,by go_num,zbj HN.out (HF.out),zbc BH.out _⟩
             case measure=>simp[intOf];omega
           ·replace c2:inB A.rate 1 1000000=false:=Bool.eq_false_iff.2 c2
            have HF:Hid (zba zco zb2 r.modes=false):=HUN.out (by unfold zco;rw[c2,Bool.and_false]);go_wp2_with (first|(go_at_call 149;refine (zau _ _ (by assumption)).mono ?_;rintro e w1 ⟨rfl,rfl⟩)|(go_at_call 89;refine (zaq _ _ _ _).mono ?_;rintro e w1 ⟨rfl,rfl⟩));go_ret;exact⟨by rw[HE.out,HF.out];rfl,(BW.out.trans (((Below.refl _ _).alloc (Nat.le_refl _) _).mono O))⟩
          ·replace c1:inB A.need (-50000) 100000=false:=Bool.eq_false_iff.2 c1
           have HF:Hid (zba zco zb2 r.modes=false):=HUN.out (by unfold zco;rw[c1,Bool.false_and]);go_wp2_with (first|(go_at_call 149;refine (zau _ _ (by assumption)).mono ?_;rintro e w1 ⟨rfl,rfl⟩)|(go_at_call 89;refine (zaq _ _ _ _).mono ?_;rintro e w1 ⟨rfl,rfl⟩));go_ret;exact⟨by rw[HE.out,HF.out];rfl,(BW.out.trans (((Below.refl _ _).alloc (Nat.le_refl _) _).mono O))⟩
         ·obtain rfl:k=r.modes.length:=O
          have HF:Hid (zba zco zb2 r.modes=true):=zcp HN.out;go_wp2;go_ret;exact⟨by rw[HE.out,HF.out];rfl,BW.out⟩
       ·have h6':8<r.modes.length:=O
        have h5i:(1:Int)≤(r.modes.length:Int):=O
        have HE:Hid (radB r=false):=by show _=_;unfold radB;rw[decide_eq_false h6];simp only[h0,h1,h2,h3,h4,Bool.and_false,Bool.false_and,Bool.and_true,Bool.true_and]
        go_enter Tryz.func168,Tryz.ntmps168;go_wp2_with (first|(go_at_call 149;refine (zau _ _ (by assumption)).mono ?_;rintro e w1 ⟨rfl,rfl⟩)|(go_at_call 89;refine (zaq _ _ _ _).mono ?_;rintro e w1 ⟨rfl,rfl⟩));go_ret;exact⟨by rw[HE.out];rfl,B0.out⟩
      ·have h5':r.modes.length<1:=O
       have HE:Hid (radB r=false):=by show _=_;unfold radB;rw[decide_eq_false h5];simp only[h0,h1,h2,h3,h4,Bool.and_false,Bool.false_and,Bool.and_true,Bool.true_and]
       go_enter Tryz.func168,Tryz.ntmps168;go_wp2_with (first|(go_at_call 149;refine (zau _ _ (by assumption)).mono ?_;rintro e w1 ⟨rfl,rfl⟩)|(go_at_call 89;refine (zaq _ _ _ _).mono ?_;rintro e w1 ⟨rfl,rfl⟩));go_ret;exact⟨by rw[HE.out];rfl,B0.out⟩
     ·replace h4:inB r.width 1 100000=false:=Bool.eq_false_iff.2 h4
      have HE:Hid (radB r=false):=by show _=_;unfold radB;simp only[h0,h1,h2,h3,h4,Bool.and_false,Bool.false_and,Bool.and_true,Bool.true_and]
      go_enter Tryz.func168,Tryz.ntmps168;go_wp2_with (first|(go_at_call 149;refine (zau _ _ (by assumption)).mono ?_;rintro e w1 ⟨rfl,rfl⟩)|(go_at_call 89;refine (zaq _ _ _ _).mono ?_;rintro e w1 ⟨rfl,rfl⟩));go_ret;exact⟨by rw[HE.out];rfl,B0.out⟩
    ·replace h3:inB r.noise 0 30000=false:=Bool.eq_false_iff.2 h3
     have HE:Hid (radB r=false):=by show _=_;unfold radB;simp only[h0,h1,h2,h3,Bool.and_false,Bool.false_and,Bool.and_true,Bool.true_and]
     go_enter Tryz.func168,Tryz.ntmps168;go_wp2_with (first|(go_at_call 149;refine (zau _ _ (by assumption)).mono ?_;rintro e w1 ⟨rfl,rfl⟩)|(go_at_call 89;refine (zaq _ _ _ _).mono ?_;rintro e w1 ⟨rfl,rfl⟩));go_ret;exact⟨by rw[HE.out];rfl,B0.out⟩
   ·replace h2:inB r.feeder 0 30000=false:=Bool.eq_false_iff.2 h2
    have HE:Hid (radB r=false):=by show _=_;unfold radB;simp only[h0,h1,h2,Bool.and_false,Bool.false_and,Bool.and_true,Bool.true_and]
    go_enter Tryz.func168,Tryz.ntmps168;go_wp2_with (first|(go_at_call 149;refine (zau _ _ (by assumption)).mono ?_;rintro e w1 ⟨rfl,rfl⟩)|(go_at_call 89;refine (zaq _ _ _ _).mono ?_;rintro e w1 ⟨rfl,rfl⟩));go_ret;exact⟨by rw[HE.out];rfl,B0.out⟩
  ·replace h1:inB r.power (-100000) 100000=false:=Bool.eq_false_iff.2 h1
   have HE:Hid (radB r=false):=by show _=_;unfold radB;simp only[h0,h1,Bool.and_false,Bool.false_and,Bool.and_true,Bool.true_and]
   go_enter Tryz.func168,Tryz.ntmps168;go_wp2_with (first|(go_at_call 149;refine (zau _ _ (by assumption)).mono ?_;rintro e w1 ⟨rfl,rfl⟩)|(go_at_call 89;refine (zaq _ _ _ _).mono ?_;rintro e w1 ⟨rfl,rfl⟩));go_ret;exact⟨by rw[HE.out];rfl,B0.out⟩
 ·replace h0:zbt r.name=false:=Bool.eq_false_iff.2 h0
  have HE:Hid (radB r=false):=by show _=_;unfold radB;simp only[h0,Bool.and_false,Bool.false_and,Bool.and_true,Bool.true_and]
  go_enter Tryz.func168,Tryz.ntmps168;go_wp2_with (first|(go_at_call 149;refine (zau _ _ (by assumption)).mono ?_;rintro e w1 ⟨rfl,rfl⟩)|(go_at_call 89;refine (zaq _ _ _ _).mono ?_;rintro e w1 ⟨rfl,rfl⟩));go_ret;exact⟨by rw[HE.out];rfl,B0.out⟩
end Go.Proofs.YtgmapjgodibchaaGreatDoor
