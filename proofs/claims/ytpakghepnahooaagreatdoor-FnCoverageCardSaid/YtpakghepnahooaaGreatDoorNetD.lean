/- Contracts: elements with a name, for the program and for the reference. Conditions: bounded lengths. -/
import Derived.Test.YtpakghepnahooaaGreatDoorSame0
import Derived.Test.YtpakghepnahooaaGreatDoorHProtected
set_option linter.unusedVariables false
set_option linter.unusedSimpArgs false
namespace Go.Proofs.YtpakghepnahooaaGreatDoor
open Go.RowKit
theorem Q00 {p:Prop} (h:p:=by
 obtain⟨bh,oh,rfl,hbh,ch0⟩:=FH.out 0 h2 II
 obtain⟨bv,ov,rfl,hbv,cv9⟩:=FV.out 9 h3 II
 have lh:x.horizontal.length=36:=zec h2
 have lv:x.vertical.length=19:=zec h3
 have lh1:(0:Int)<(x.horizontal.length:Int):=II
 have lh2:0<x.horizontal.length:=II
 have lv1:(9:Int)<(x.vertical.length:Int):=II
 have lv2:9<x.vertical.length:=II
 rw[Nat.add_zero] at ch0
 clear lh lv
 clear FH FV
 go_enter Tryz.func70,Tryz.ntmps70
 go_wp2_with (first|(go_at_call 85;refine (zau _ _ Q44).mono ?_;rintro e w1 ⟨rfl,rfl⟩)|(go_at_call 115;refine (zdd _ _).mono ?_;rintro e w1 ⟨rfl,rfl⟩)|(go_at_call 43;(with_reducible refine (HH.out _ B0.out).mono ?_);rintro e w2 ⟨rfl,hb2⟩;have B2:=IJ (B0.out.trans (hb2.mono B0.out.size));obtain⟨q2,_,y2⟩:=zba hb2 (b:=w.heap.size) Q4a;have z2:=B2.out.size;clear hb2)|(go_at_call 43;(with_reducible refine (HV.out _ B2.out).mono ?_);rintro e w3 ⟨rfl,hb3⟩;have B3:=IJ (B2.out.trans (hb3.mono B2.out.size));obtain⟨q3,_,y3⟩:=zba hb3 (b:=w.heap.size) y2;have u0:w3.cell? ⟨bh,oh,none⟩=some (J (gi x.horizontal 0)):=(bat B3.out bh oh hbh).trans ch0;have u9:w3.cell? ⟨bv,ov+9,none⟩=some (J (gi x.vertical 9)):=(bat B3.out bv (ov+9) hbv).trans cv9;clear hb3))
 go_ret
 exact⟨by rw[HE.out];rfl,B3.out⟩):p:=h
theorem Q04 {p:Prop} (h:p:=by
 go_enter Tryz.func73,Tryz.ntmps73
 go_wp2_with (first|(go_at_call 74;refine (HS.out _ B0.out).mono ?_;rintro e w1 ⟨rfl,hb1⟩;have B1:=IJ (B0.out.trans (hb1.mono B0.out.size));obtain⟨qa1,_,ya1⟩:=zba hb1 (b:=w.heap.size) OZ;obtain⟨qb1,_,yb1⟩:=zba hb1 (b:=w.heap.size+1) OZ;clear hb1)|(go_at_call 76;refine (HA.out _ B1.out).mono ?_;rintro e w2 ⟨rfl,hb2⟩;have B2:=IJ (B1.out.trans (hb2.mono B1.out.size));obtain⟨qa2,_,ya2⟩:=zba hb2 (b:=w.heap.size) OZ;obtain⟨qb2,_,yb2⟩:=zba hb2 (b:=w.heap.size+1) OZ;clear hb2)|(go_at_call 116;refine (HR.out _ B2.out).mono ?_;rintro e w3 ⟨rfl,hb3⟩;have B3:=IJ (B2.out.trans (hb3.mono B2.out.size));obtain⟨qa3,_,ya3⟩:=zba hb3 (b:=w.heap.size) OZ;obtain⟨qb3,_,yb3⟩:=zba hb3 (b:=w.heap.size+1) OZ;clear hb3))
 go_ret
 exact⟨by rw[HE.out];rfl,by first|exact B3.out|exact B2.out|exact B1.out⟩):p:=h
theorem Q07 {p:Prop} (h:p:=by
 go_enter Tryz.func219,Tryz.ntmps219
 go_wp2_with (first|(go_at_call 192;refine (zar _ _ Q44).mono ?_;rintro e w1 ⟨rfl,rfl⟩)|(go_at_call 238;refine (zer _ _).mono ?_;rintro e w1 ⟨rfl,rfl⟩)|(go_at_call 239;(with_reducible refine (HLH.out).mono ?_);rintro e w1 ⟨rfl,rfl⟩)|(go_at_call 239;(with_reducible refine (HLV.out).mono ?_);rintro e w1 ⟨rfl,rfl⟩))
 go_ret
 exact⟨by rw[HE.out];rfl,by rfl⟩):p:=h
theorem Q0b {p:Prop} (h:p:=by
 go_enter Tryz.func220,Tryz.ntmps220
 go_wp2_with (first|(go_at_call 192;refine (zar _ _ Q44).mono ?_;rintro e w1 ⟨rfl,rfl⟩)|(go_at_call 101;refine (za7 _ _ _ _).mono ?_;rintro e w1 ⟨rfl,rfl⟩))
 go_ret
 exact⟨by rw[HE.out];rfl,B0.out⟩):p:=h
theorem Q0d {p:Prop} (h:p:=by
 go_enter Tryz.func71,Tryz.ntmps71
 go_wp2_with (first|(go_at_call 85;refine (zau _ _ Q44).mono ?_;rintro e w1 ⟨rfl,rfl⟩)|(go_at_call 34;refine (zal _ _ _ _).mono ?_;rintro e w1 ⟨rfl,rfl⟩))
 go_ret
 exact⟨by rw[HE.out];rfl,B0.out⟩):p:=h
theorem Q0l {p:Prop} (h:p:=by
 go_enter Tryz.func144,Tryz.ntmps144
 go_wp2_with (first|(go_at_call 141;refine (HS.out).mono ?_;rintro e w1 ⟨rfl,rfl⟩)|(go_at_call 195;refine (HA.out).mono ?_;rintro e w1 ⟨rfl,rfl⟩)|(go_at_call 196;refine (HR.out).mono ?_;rintro e w1 ⟨rfl,rfl⟩))
 go_ret
 exact⟨by rw[HE.out];rfl,by rfl⟩):p:=h
theorem Q0o {p:Prop} (h:p:=by
 clear FH FV
 go_enter Tryz.func70,Tryz.ntmps70
 go_wp2_with (first|(go_at_call 85;refine (zau _ _ Q44).mono ?_;rintro e w1 ⟨rfl,rfl⟩)|(go_at_call 115;refine (zdd _ _).mono ?_;rintro e w1 ⟨rfl,rfl⟩))
 go_ret
 exact⟨by rw[HE.out];rfl,B0.out⟩):p:=h
theorem Q0q {p:Prop} (h:p:=by
 have hp':(l[k].name.toList == nm.toList)=false:=Bool.eq_false_iff.2 hp1
 have HP:=IJ hp'
 clear hp1
 go_wp2
 go_round
 case rel=>exact⟨k+1,II,by go_num,by rw[zcd _ l k hlt,HN.out];exact HP.out⟩
 case measure=>simp[intOf];omega):p:=h
theorem Q16 {p:Prop} (h:p:=by
 go_wp2_with fail
 refine (HC.out).mono ?_
 rintro e w1 ⟨rfl,hb1⟩
 go_wp2
 go_ret
 exact⟨rfl,B0.out.trans (hb1.mono Q41)⟩):p:=h
theorem Q18 {p:Prop} (h:p:=by
 go_wp2
 go_roundw
 case rel=>exact⟨k+1,II,by go_num,zbo HN.out (HF.out),zbu BH.out _⟩
 case measure=>simp[intOf];omega):p:=h
theorem Q1b {p:Prop} (h:p:=by
 go_wp2_with (first|(go_at_call 192;refine (zar _ _ Q44).mono ?_;rintro e w1 ⟨rfl,rfl⟩)|(go_at_call 101;refine (za7 _ _ _ _).mono ?_;rintro e w1 ⟨rfl,rfl⟩))
 go_ret
 exact⟨by rw[HE.out,HF.out];rfl,(BW.out.trans (((Below.refl _ _).alloc (Nat.le_refl _) _).mono II))⟩):p:=h
theorem Q1c {p:Prop} (h:p:=by
 go_wp2
 go_ret
 exact⟨by rw[HE.out,HF.out];rfl,zbu BB.out _⟩):p:=h
theorem Q1w {p:Prop} (h:p:=by
 obtain rfl:k=r.modes.length:=II
 have HF:Hid (zaz zcm zb5 r.modes=true):=zce HN.out
 go_wp2
 go_ret
 exact⟨by rw[HE.out,HF.out];rfl,BW.out⟩):p:=h
theorem Q2b {p:Prop} (h:p:=by
 have HB:=IJ hb
 clear hcells hat hb
 go_wp2_with fail
 refine (HF.out l[k] (List.getElem_mem hlt)  _ HB.out).mono ?_
 exact Q0c):p:=h
set_option maxHeartbeats 4000000
set_option maxRecDepth 100000
def antB (a:DAntenna):Bool:=za8 a.name&&(inB a.gain (-60000) 60000&&(((a.horizontal.length:Int) == 36)&&(((a.vertical.length:Int) == 19)&&((a.horizontal.all fun n=>inB n 0 60000)&&((a.vertical.all fun n=>inB n 0 60000)&&((gi a.horizontal 0 == 0)&&(gi a.vertical 9 == 0)))))))
def zcu (l:List Int) (many main:Nat):Bool:=((l.length:Int) == (many:Int))&&((gi l main == 0)&&(l.all fun n=>inB n 0 60000))
theorem antB_eq (a:DAntenna):antB a=(za8 a.name&&(inB a.gain (-60000) 60000&&(zcu a.horizontal 36 0&&zcu a.vertical 19 9))):=by
 unfold antB zcu;have e1:((36:Nat):Int)=36:=rfl;have e2:((19:Nat):Int)=19:=rfl;rw[e1,e2];generalize za8 a.name=x0;generalize inB a.gain (-60000) 60000=x1;generalize ((a.horizontal.length:Int) == 36)=x2;generalize ((a.vertical.length:Int) == 19)=x3;generalize (a.horizontal.all fun n=>inB n 0 60000)=x4;generalize (a.vertical.all fun n=>inB n 0 60000)=x5;generalize (gi a.horizontal 0 == 0)=x6;generalize (gi a.vertical 9 == 0)=x7
 cases x0<;>cases x1<;>cases x2<;>cases x3<;>cases x4<;>cases x5<;>cases x6<;>cases x7<;>rfl
theorem zec {n m:Nat} (h:((n:Int) == (m:Int))=true):n=m:=by have:=eq_of_beq h;omega
theorem zdd (n:Int) (w:World):Calls Tryz.prog 115 #[J n] w fun e w'=>e=.returned (.bool (inB n (-60000) 60000))∧w=w':=by
 go_enter Tryz.func115,Tryz.ntmps115;go_wp2_with (go_at_call 34;refine (zal _ _ _ _).mono ?_;rintro e w1 ⟨rfl,rfl⟩);go_ret;exact⟨rfl,rfl⟩
theorem zer (n:Int) (w:World):Calls Tryz.prog 238 #[J n] w fun e w'=>e=.returned (.bool (inB n (-60000) 60000))∧w=w':=by
 go_enter Tryz.func238,Tryz.ntmps238;go_wp2_with (go_at_call 101;refine (za7 _ _ _ _).mono ?_;rintro e w1 ⟨rfl,rfl⟩);go_ret;exact⟨rfl,rfl⟩
theorem validAntenna_any (x:DAntenna) (vh vv:Value) (w:World) (hh:Rd w w (zam x.horizontal) vh) (hv:Rd w w (zam x.vertical) vv) (k0:x.name.size≤maxLen) (k1:x.horizontal.length≤1099511627776) (k2:x.vertical.length≤1099511627776) :
  Calls Tryz.prog 70 #[.agg (x,vh,vv)] w fun e w'=>e=.returned (.bool (antB x))∧OI w w w':=by
 obtain⟨ah,ch,eh,_,_,hcells⟩:=hh.ints;obtain⟨av,cv,ev,_,_,vcells⟩:=hv.ints;subst eh ev;have b0:OI w w (w.alloc (.cells (x,ah,ch,av,cv) 121)):=(Below.refl _ _).alloc (Nat.le_refl _) _;have HH:Hid (∀ W:World,OI w w W→Calls Tryz.prog 43 #[IZ ah x.horizontal.length ch,J 0,J 60000] W fun e w'=>e=.returned (.bool (x.horizontal.all fun n=>inB n 0 60000))∧OI W W w'):=fun W hW=>zck x.horizontal 0 60000 _ w.heap.size W (hh.below hW) hW.size II
 have HV:Hid (∀ W:World,OI w w W→Calls Tryz.prog 43 #[IZ av x.vertical.length cv,J 0,J 60000] W fun e w'=>e=.returned (.bool (x.vertical.all fun n=>inB n 0 60000))∧OI W W w'):=fun W hW=>zck x.vertical 0 60000 _ w.heap.size W (hv.below hW) hW.size II
 have B0:=IJ b0;have FH:Hid (∀ q,((x.horizontal.length:Int) == 36)=true→q<36→∃ b off,ah=some ⟨b,off,none⟩∧b<w.heap.size∧(w,b,off+q,J (gi x.horizontal q))):=fun q hq hlt=>by
  have hl:x.horizontal.length=36:=zec hq;obtain⟨b,off,e1,hb,hat⟩:=hcells II;refine⟨b,off,e1,hb,?_⟩;rw[hat q II,gi_eq]
 have FV:Hid (∀ q,((x.vertical.length:Int) == 19)=true→q<19→∃ b off,av=some ⟨b,off,none⟩∧b<w.heap.size∧(w,b,off+q,J (gi x.vertical q))):=fun q hq hlt=>by
  have hl:x.vertical.length=19:=zec hq;obtain⟨b,off,e1,hb,hat⟩:=vcells II;refine⟨b,off,e1,hb,?_⟩;rw[hat q II,gi_eq]
 clear hcells vcells b0 hh hv
 by_cases h0:za8 x.name=true
 ·skip
  by_cases h1:inB x.gain (-60000) 60000=true
  ·skip
   by_cases h2:((x.horizontal.length:Int) == 36)=true
   ·skip
    by_cases h3:((x.vertical.length:Int) == 19)=true
    ·skip
     by_cases h4:(x.horizontal.all fun n=>inB n 0 60000)=true
     ·skip
      by_cases h5:(x.vertical.all fun n=>inB n 0 60000)=true
      ·skip
       by_cases h6:(gi x.horizontal 0 == 0)=true
       ·skip
        by_cases h7:(gi x.vertical 9 == 0)=true
        ·skip
         have HE:Hid (antB x=true):=by show _=_;unfold antB;simp only[h0,h1,h2,h3,h4,h5,h6,h7]<;>rfl
         exact Q00
        ·replace h7:(gi x.vertical 9 == 0)=false:=Bool.eq_false_iff.2 h7
         have HE:Hid (antB x=false):=by show _=_;unfold antB;simp only[h0,h1,h2,h3,h4,h5,h6,h7]<;>rfl
         exact Q00
       ·replace h6:(gi x.horizontal 0 == 0)=false:=Bool.eq_false_iff.2 h6
        have HE:Hid (antB x=false):=by show _=_;unfold antB;simp only[h0,h1,h2,h3,h4,h5,h6]<;>rfl
        exact Q00
      ·replace h5:(x.vertical.all fun n=>inB n 0 60000)=false:=Bool.eq_false_iff.2 h5
       have HE:Hid (antB x=false):=by show _=_;unfold antB;simp only[h0,h1,h2,h3,h4,h5]<;>rfl
       exact Q00
     ·replace h4:(x.horizontal.all fun n=>inB n 0 60000)=false:=Bool.eq_false_iff.2 h4
      have HE:Hid (antB x=false):=by show _=_;unfold antB;simp only[h0,h1,h2,h3,h4]<;>rfl
      clear FH FV;go_enter Tryz.func70,Tryz.ntmps70;go_wp2_with (first|(go_at_call 85;refine (zau _ _ Q44).mono ?_;rintro e w1 ⟨rfl,rfl⟩)|(go_at_call 115;refine (zdd _ _).mono ?_;rintro e w1 ⟨rfl,rfl⟩)|(go_at_call 43;(with_reducible refine (HH.out _ B0.out).mono ?_);rintro e w2 ⟨rfl,hb2⟩;have B2:=IJ (B0.out.trans (hb2.mono B0.out.size));obtain⟨q2,_,y2⟩:=zba hb2 (b:=w.heap.size) Q4a;have z2:=B2.out.size;clear hb2));go_ret;exact⟨by rw[HE.out];rfl,B2.out⟩
    ·replace h3:((x.vertical.length:Int) == 19)=false:=Bool.eq_false_iff.2 h3
     have HE:Hid (antB x=false):=by show _=_;unfold antB;simp only[h0,h1,h2,h3]<;>rfl
     exact Q0o
   ·replace h2:((x.horizontal.length:Int) == 36)=false:=Bool.eq_false_iff.2 h2
    have HE:Hid (antB x=false):=by show _=_;unfold antB;simp only[h0,h1,h2]<;>rfl
    exact Q0o
  ·replace h1:inB x.gain (-60000) 60000=false:=Bool.eq_false_iff.2 h1
   have HE:Hid (antB x=false):=by show _=_;unfold antB;simp only[h0,h1]<;>rfl
   exact Q0o
 ·replace h0:za8 x.name=false:=Bool.eq_false_iff.2 h0
  have HE:Hid (antB x=false):=by show _=_;unfold antB;simp only[h0]<;>rfl
  exact Q0o
theorem l06Losses_any (l:List Int) (many main:Nat) (v:Value) (B:Nat) (w:World) (h:Rd B w (zam l) v) (hB:B≤w.heap.size) (hn:l.length≤1099511627776) (hm:main<many) :
  Calls Tryz.prog 239 #[v,J many,J main] w fun e w'=>e=.returned (.bool (zcu l many main))∧w=w':=by
 obtain⟨a,c,rfl,hnc,hcm,hcells⟩:=h.ints;clear h
 by_cases h1:((l.length:Int) == (many:Int))=true
 ·have hl:l.length=many:=zec h1
  subst hl;clear h1;have HU:Hid (zcu l l.length main=((gi l main == 0)&&(l.all fun n=>inB n 0 60000))):=by show _=_;unfold zcu;simp
  have hnb:(l.length:Int)≤1099511627776:=II
  have hmi:(main:Int)<(l.length:Int):=II
  obtain⟨b,off,rfl,hbl,hat⟩:=hcells II;have sm:=hat main hm;rw[gi_eq] at sm;have HAT:=IJ hat;clear hat hcells;have hne:((l.length:Int) != (l.length:Int))=false:=by simp
  by_cases h2:(gi l main == 0)=true
  ·have h2':(gi l main != 0)=false:=by simpa using h2
   have HE:Hid (zcu l l.length main=(l.all fun n=>inB n 0 60000)):=by show _=_;rw[HU.out,h2];simp
   clear h2;go_enter Tryz.func239,Tryz.ntmps239;go_wp2;clear hne h2' sm
   go_loop [7] (fun i=>∃ (k:Nat),k≤l.length∧i=J k∧(l.take k).all (fun n=>inB n 0 60000)=true) (fun i=>l.length-(intOf i).toNat)
   case atStart=>exact⟨0,Nat.zero_le _,rfl,by simp⟩
   case round =>
    obtain⟨k,hk,rfl,hno⟩:=hrel;have HN:=IJ hno;clear hno
    by_cases hlt:k<l.length
    ·have s0:=HAT.out k hlt
     have HA:=IJ (zdw (fun n=>inB n 0 60000) l k hlt)
     by_cases hp:inB l[k] 0 60000=true
     ·have HP:=IJ hp
      go_wp2_with (go_at_call 101;refine (za7 _ _ _ _).mono ?_;rintro e w1 ⟨rfl,rfl⟩)
      go_round
      case rel=>exact⟨k+1,II,by go_num,by rw[HA.out,HN.out,HP.out];rfl⟩
      case measure=>simp[intOf];omega
     ·have hp':inB l[k] 0 60000=false:=Bool.eq_false_iff.2 hp
      have HF:=IJ (all_false_at (fun n=>inB n 0 60000) l k hlt hp');clear hp;go_wp2_with (go_at_call 101;refine (za7 _ _ _ _).mono ?_;rintro e w1 ⟨rfl,rfl⟩);go_ret;exact⟨by rw[HE.out,HF.out];rfl,rfl⟩
    ·obtain rfl:k=l.length:=II
     go_wp2;go_ret;have:=HN.out;rw[List.take_length] at this;exact⟨by rw[HE.out,this];rfl,rfl⟩
  ·have h2':(gi l main != 0)=true:=by simpa using h2
   have HE:Hid (zcu l l.length main=false):=by show _=_;rw[HU.out,Bool.eq_false_iff.2 h2];rfl
   clear h2;go_enter Tryz.func239,Tryz.ntmps239;exact Q17
 ·have h1':((l.length:Int) != (many:Int))=true:=by simpa using h1
  have HE:Hid (zcu l many main=false):=by show _=_;unfold zcu;rw[Bool.eq_false_iff.2 h1];rfl
  clear h1 hcells;go_enter Tryz.func239,Tryz.ntmps239;exact Q17
theorem l06Ok_any (x:DAntenna) (vh vv:Value) (b off B:Nat) (w:World) (hh:Rd B w (zam x.horizontal) vh) (hv:Rd B w (zam x.vertical) vv) (hB:B≤w.heap.size) (c0:w.cell? ⟨b,off,none⟩=some (IQ x.name)) (c1:w.cell? ⟨b,off+1,none⟩=some (J x.gain)) (c2:w.cell? ⟨b,off+2,none⟩=some vh) (c3:w.cell? ⟨b,off+3,none⟩=some vv) (k0:x.name.size≤maxLen) (k1:x.horizontal.length≤1099511627776) (k2:x.vertical.length≤1099511627776) :
  Calls Tryz.prog 219 #[.pointer (some ⟨b,off,none⟩)] w fun e w'=>e=.returned (.bool (antB x))∧w=w':=by
 have HLH:Hid (Calls Tryz.prog 239 #[vh,J 36,J 0] w fun e w'=>e=.returned (.bool (zcu x.horizontal 36 0))∧w=w'):=l06Losses_any x.horizontal 36 0 vh B w hh hB k1 II;have HLV:Hid (Calls Tryz.prog 239 #[vv,J 19,J 9] w fun e w'=>e=.returned (.bool (zcu x.vertical 19 9))∧w=w'):=l06Losses_any x.vertical 19 9 vv B w hv hB k2 II;clear hh hv
 by_cases h0:za8 x.name=true
 ·skip
  by_cases h1:inB x.gain (-60000) 60000=true
  ·skip
   by_cases h2:zcu x.horizontal 36 0=true
   ·skip
    by_cases h3:zcu x.vertical 19 9=true
    ·skip
     have HE:Hid (antB x=true):=by show _=_;rw[antB_eq];simp only[h0,h1,h2,h3]<;>rfl
     exact Q07
    ·replace h3:zcu x.vertical 19 9=false:=Bool.eq_false_iff.2 h3
     have HE:Hid (antB x=false):=by show _=_;rw[antB_eq];simp only[h0,h1,h2,h3]<;>rfl
     exact Q07
   ·replace h2:zcu x.horizontal 36 0=false:=Bool.eq_false_iff.2 h2
    have HE:Hid (antB x=false):=by show _=_;rw[antB_eq];simp only[h0,h1,h2]<;>rfl
    exact Q07
  ·replace h1:inB x.gain (-60000) 60000=false:=Bool.eq_false_iff.2 h1
   have HE:Hid (antB x=false):=by show _=_;rw[antB_eq];simp only[h0,h1]<;>rfl
   exact Q07
 ·replace h0:za8 x.name=false:=Bool.eq_false_iff.2 h0
  have HE:Hid (antB x=false):=by show _=_;rw[antB_eq];simp only[h0]<;>rfl
  exact Q07
set_option maxHeartbeats 8000000
set_option maxRecDepth 100000
def zcm (m:DMode):Bool:=inB m.need (-50000) 100000&&inB m.rate 1 1000000
def zb5 (p m:DMode):Bool:=decide (p.need<m.need)&&decide (p.rate<m.rate)
def radB (r:DRadio):Bool:=za8 r.name&&(inB r.power (-100000) 100000&&(inB r.feeder 0 30000&&(inB r.noise 0 30000&&(inB r.width 1 100000&&(decide (1≤r.modes.length)&&(decide (r.modes.length≤8)&&zaz zcm zb5 r.modes))))))
theorem modeLt_true {p m:DMode} (h1:p.need<m.need) (h2:p.rate<m.rate):zb5 p m=true:=by simp[zb5,h1,h2]
theorem modeLt_need {p m:DMode} (h1:¬ p.need<m.need):zb5 p m=false:=by simp[zb5,h1]
theorem modeLt_rate {p m:DMode} (h1:¬ p.rate<m.rate):zb5 p m=false:=by simp[zb5,h1]
def gm (l:List DMode) (i:Nat):DMode:=l.getD i ⟨0,0⟩
theorem gm_eq {l:List DMode} {i:Nat} (h:i<l.length):l[i]=gm l i:=by simp[gm,h]
theorem validRadio_any (r:DRadio) (vm:Value) (w:World) (hm:Rd w w (DMode.sT r.modes) vm) (k0:r.name.size≤maxLen) (k1:r.modes.length≤1099511627776) :
  Calls Tryz.prog 71 #[.agg (r,vm)] w fun e w'=>e=.returned (.bool (radB r))∧OI w w w':=by
 obtain⟨am,cm,em,hnc,hcm,hcells⟩:=DMode.rd hm;subst em;clear hm;unfold maxLen at hcm;have HCL:=IJ hcells;clear hcells;have B0:Hid (OI w w (w.alloc (.cells (r,am,cm) 125))):=by exact (Below.refl _ _).alloc (Nat.le_refl _) _
 by_cases h0:za8 r.name=true
 ·skip
  by_cases h1:inB r.power (-100000) 100000=true
  ·skip
   by_cases h2:inB r.feeder 0 30000=true
   ·skip
    by_cases h3:inB r.noise 0 30000=true
    ·skip
     by_cases h4:inB r.width 1 100000=true
     ·skip
      by_cases h5:1≤r.modes.length
      ·skip
       by_cases h6:r.modes.length≤8
       ·skip
        have HE:Hid (radB r=zaz zcm zb5 r.modes):=by show _=_;unfold radB;rw[decide_eq_true h5,decide_eq_true h6];simp only[h0,h1,h2,h3,h4,Bool.true_and]
        obtain⟨b,off,rfl,hbl,hat⟩:=HCL.out II;have HAT:=IJ hat;clear hat HCL;have hi5:(1:Int)≤(r.modes.length:Int):=II
        have hi6:(r.modes.length:Int)≤8:=II
        go_enter Tryz.func71,Tryz.ntmps71;go_wp2_with (first|(go_at_call 85;refine (zau _ _ Q44).mono ?_;rintro e w1 ⟨rfl,rfl⟩)|(go_at_call 34;refine (zal _ _ _ _).mono ?_;rintro e w1 ⟨rfl,rfl⟩));go_loopw [48] (fun i wr=>∃ (k:Nat),k≤r.modes.length∧i=J k∧(∀ j,j<k→upOk zcm zb5 r.modes j=true)∧OI (w.heap.size+1) (w.alloc (.cells #[IQ r.name,J r.power,J r.feeder,J r.noise,J r.width,IZ (some ⟨b,off,none⟩) r.modes.length cm] 125)) wr) (fun i wr=>r.modes.length-(intOf i).toNat)
        case atStart=>exact⟨0,Nat.zero_le _,rfl,fun j hj=>absurd hj II,Below.refl _ _⟩
        case round =>
         obtain⟨k,hk,rfl,hno,hb⟩:=hrel;have HN:=IJ hno;have HB:=IJ hb;have zb:=hb.size;simp at zb;clear hno hb;have BW:Hid (OI w w wr):=B0.out.trans (HB.out.mono II);have yb:b<wr.heap.size:=II
         have cx:wr.cell? ⟨w,5,none⟩=some (IZ (some ⟨b,off,none⟩) r.modes.length cm):=by rw[bat HB.out w.heap.size 5 II];simp[go_sem]
         have yx:w.heap.size<wr.heap.size:=II
         by_cases hlt:k<r.modes.length
         ·obtain⟨s0,s1⟩:=HAT.out k hlt
          rw[← bat BW.out b _ hbl] at s0 s1;rw[gm_eq hlt] at s0 s1;have HUN:Hid (zcm (gm r.modes k)=false→zaz zcm zb5 r.modes=false):=fun h=>za1 hlt (zd2 hlt (by rw[gm_eq hlt];exact h))
          have HUZ:Hid (k=0→zcm (gm r.modes k)=true→upOk zcm zb5 r.modes k=true):=fun e h=>by subst e;rw[zci hlt,gm_eq hlt];exact h
          have HUP:Hid (0<k→upOk zcm zb5 r.modes k=(zcm (gm r.modes k)&&zb5 (gm r.modes (k-1)) (gm r.modes k))):=fun h=>by rw[zcj h hlt,gm_eq hlt,gm_eq (show k-1<r.modes.length by omega)]
          have s2:0<k→(wr,b,off+(k-1)*2,J (gm r.modes (k-1)).need)∧(wr,b,off+(k-1)*2+1,J (gm r.modes (k-1)).rate):=fun h=>by
           obtain⟨t0,t1⟩:=HAT.out (k-1) II;rw[← bat BW.out b _ hbl] at t0 t1;rw[gm_eq (show k-1<r.modes.length by omega)] at t0 t1;exact⟨t0,t1⟩
          have H2:=IJ s2;clear s2;generalize hA:gm r.modes k=A at *;generalize hP:gm r.modes (k-1)=P at *;clear hA hP;have i1:(0:Int)≤(k:Int):=II
          have i2:(k:Int)<(r.modes.length:Int):=II
          go_wp2;have b1:OI wr wr (wr.alloc (.cells #[J A.need,J A.rate] 163)):=(Below.refl _ _).alloc (Nat.le_refl _) _;have f0:(wr.alloc (.cells #[J A.need,J A.rate] 163)).cell? ⟨wr,0,none⟩=some (J A.need):=by simp[go_sem]
          have f1:(wr.alloc (.cells #[J A.need,J A.rate] 163)).cell? ⟨wr,1,none⟩=some (J A.rate):=by simp[go_sem]
          have fx:=bat b1 (w.heap.size) (5) yx;rw[cx] at fx;have fz:wr.heap.size<(wr.alloc (.cells #[J A.need,J A.rate] 163)).heap.size:=by simp
          generalize hW1:(wr.alloc (.cells #[J A.need,J A.rate] 163))=W1 at *;have BB:=IJ (BW.out.trans (b1.mono II));have BH:=IJ (HB.out.trans (b1.mono II));have B1:=IJ b1;clear b1 hW1
          by_cases c1:inB A.need (-50000) 100000=true
          ·by_cases c2:inB A.rate 1 1000000=true
           ·have HM:Hid (zcm A=true):=by show _=_;unfold zcm;rw[c1,c2];rfl
            by_cases c3:0<k
            ·skip
             obtain⟨t0,t1⟩:=H2.out c3;rw[← bat B1.out b _ yb] at t0 t1;have i3:IntKind.i64.wrap ((k:Int)-1)=(k:Int)-1:=IntWalk.i64_in _ II;have i4:(0:Int)≤(k:Int)-1:=II
             have i6:(k:Int)-1<(r.modes.length:Int):=II
             have i7:(1:Int)≤(k:Int):=II
             have i8:decide (0<k)=true:=by simpa using c3
             have i5:((k:Int)-1).toNat=k-1:=II
             by_cases c4:A.need≤P.need
             ·have c4':decide (A.need≤P.need)=true:=by simpa using c4
              have HF:Hid (zaz zcm zb5 r.modes=false):=za1 hlt (by rw[HUP.out c3,modeLt_need II];simp)
              go_quiet ((go_at_call 34;exact zct (zal _ _ _ _)))
              clear i3 i5;exact Q1c
             ·have c4':decide (A.need≤P.need)=false:=by simpa using c4
              by_cases c5:A.rate≤P.rate
              ·have c5':decide (A.rate≤P.rate)=true:=by simpa using c5
               have HF:Hid (zaz zcm zb5 r.modes=false):=za1 hlt (by rw[HUP.out c3,modeLt_rate II];simp)
               go_quiet ((go_at_call 34;exact zct (zal _ _ _ _)))
               clear i3 i5;exact Q1c
              ·have c5':decide (A.rate≤P.rate)=false:=by simpa using c5
               have HF:Hid (upOk zcm zb5 r.modes k=true):=by show _=_;rw[HUP.out c3,HM.out,modeLt_true II II];rfl
               go_quiet ((go_at_call 34;exact zct (zal _ _ _ _)))
               clear i3 i5;exact Q18
            ·have i8:decide (0<k)=false:=by simpa using c3
             have HF:Hid (upOk zcm zb5 r.modes k=true):=HUZ.out II HM.out
             go_quiet ((go_at_call 34;exact zct (zal _ _ _ _)))
             exact Q18
           ·replace c2:inB A.rate 1 1000000=false:=Bool.eq_false_iff.2 c2
            have HF:Hid (zaz zcm zb5 r.modes=false):=HUN.out (by unfold zcm;rw[c2,Bool.and_false])
            go_quiet ((go_at_call 34;exact zct (zal _ _ _ _)))
            exact Q1c
          ·replace c1:inB A.need (-50000) 100000=false:=Bool.eq_false_iff.2 c1
           have HF:Hid (zaz zcm zb5 r.modes=false):=HUN.out (by unfold zcm;rw[c1,Bool.false_and])
           go_quiet ((go_at_call 34;exact zct (zal _ _ _ _)))
           exact Q1c
         ·exact Q1w
       ·have h6':8<r.modes.length:=II
        have h5i:(1:Int)≤(r.modes.length:Int):=II
        have HE:Hid (radB r=false):=by show _=_;unfold radB;rw[decide_eq_false h6];simp only[h0,h1,h2,h3,h4,Bool.and_false,Bool.false_and,Bool.and_true,Bool.true_and]
        exact Q0d
      ·have h5':r.modes.length<1:=II
       have HE:Hid (radB r=false):=by show _=_;unfold radB;rw[decide_eq_false h5];simp only[h0,h1,h2,h3,h4,Bool.and_false,Bool.false_and,Bool.and_true,Bool.true_and]
       exact Q0d
     ·replace h4:inB r.width 1 100000=false:=Bool.eq_false_iff.2 h4
      have HE:Hid (radB r=false):=by show _=_;unfold radB;simp only[h0,h1,h2,h3,h4,Bool.and_false,Bool.false_and,Bool.and_true,Bool.true_and]
      exact Q0d
    ·replace h3:inB r.noise 0 30000=false:=Bool.eq_false_iff.2 h3
     have HE:Hid (radB r=false):=by show _=_;unfold radB;simp only[h0,h1,h2,h3,Bool.and_false,Bool.false_and,Bool.and_true,Bool.true_and]
     exact Q0d
   ·replace h2:inB r.feeder 0 30000=false:=Bool.eq_false_iff.2 h2
    have HE:Hid (radB r=false):=by show _=_;unfold radB;simp only[h0,h1,h2,Bool.and_false,Bool.false_and,Bool.and_true,Bool.true_and]
    exact Q0d
  ·replace h1:inB r.power (-100000) 100000=false:=Bool.eq_false_iff.2 h1
   have HE:Hid (radB r=false):=by show _=_;unfold radB;simp only[h0,h1,Bool.and_false,Bool.false_and,Bool.and_true,Bool.true_and]
   exact Q0d
 ·replace h0:za8 r.name=false:=Bool.eq_false_iff.2 h0
  have HE:Hid (radB r=false):=by show _=_;unfold radB;simp only[h0,Bool.and_false,Bool.false_and,Bool.and_true,Bool.true_and]
  exact Q0d
theorem l07Ok_any (r:DRadio) (vm:Value) (bp op:Nat) (w:World) (hm:Rd w w (DMode.sT r.modes) vm) (hbp:bp<w.heap.size) (c0:w.cell? ⟨bp,op,none⟩=some (IQ r.name)) (c1:w.cell? ⟨bp,op+1,none⟩=some (J r.power)) (c2:w.cell? ⟨bp,op+2,none⟩=some (J r.feeder)) (c3:w.cell? ⟨bp,op+3,none⟩=some (J r.noise)) (c4:w.cell? ⟨bp,op+4,none⟩=some (J r.width)) (c5:w.cell? ⟨bp,op+5,none⟩=some (vm)) (k0:r.name.size≤maxLen) (k1:r.modes.length≤1099511627776) :
  Calls Tryz.prog 220 #[.pointer (some ⟨bp,op,none⟩)] w fun e w'=>e=.returned (.bool (radB r))∧OI w w w':=by
 obtain⟨am,cm,em,hnc,hcm,hcells⟩:=DMode.rd hm;subst em;clear hm;unfold maxLen at hcm;have HCL:=IJ hcells;clear hcells;have B0:Hid (OI w w w):=by exact Below.refl _ _
 by_cases h0:za8 r.name=true
 ·skip
  by_cases h1:inB r.power (-100000) 100000=true
  ·skip
   by_cases h2:inB r.feeder 0 30000=true
   ·skip
    by_cases h3:inB r.noise 0 30000=true
    ·skip
     by_cases h4:inB r.width 1 100000=true
     ·skip
      by_cases h5:1≤r.modes.length
      ·skip
       by_cases h6:r.modes.length≤8
       ·skip
        have HE:Hid (radB r=zaz zcm zb5 r.modes):=by show _=_;unfold radB;rw[decide_eq_true h5,decide_eq_true h6];simp only[h0,h1,h2,h3,h4,Bool.true_and]
        obtain⟨b,off,rfl,hbl,hat⟩:=HCL.out II;have HAT:=IJ hat;clear hat HCL;have hi5:(1:Int)≤(r.modes.length:Int):=II
        have hi6:(r.modes.length:Int)≤8:=II
        go_enter Tryz.func220,Tryz.ntmps220;go_wp2_with (first|(go_at_call 192;refine (zar _ _ Q44).mono ?_;rintro e w1 ⟨rfl,rfl⟩)|(go_at_call 101;refine (za7 _ _ _ _).mono ?_;rintro e w1 ⟨rfl,rfl⟩));go_loopw [3] (fun i wr=>∃ (k:Nat),k≤r.modes.length∧i=J k∧(∀ j,j<k→upOk zcm zb5 r.modes j=true)∧OI (w.heap.size) w wr) (fun i wr=>r.modes.length-(intOf i).toNat)
        case atStart=>exact⟨0,Nat.zero_le _,rfl,fun j hj=>absurd hj II,Below.refl _ _⟩
        case round =>
         obtain⟨k,hk,rfl,hno,hb⟩:=hrel;have HN:=IJ hno;have HB:=IJ hb;have zb:=hb.size;clear hno hb;have BW:Hid (OI w w wr):=B0.out.trans (HB.out.mono II);have yb:b<wr.heap.size:=II
         have cx:wr.cell? ⟨bp,op+5,none⟩=some (IZ (some ⟨b,off,none⟩) r.modes.length cm):=by rw[bat HB.out bp (op+5) II];exact c5
         have yx:bp<wr.heap.size:=II
         by_cases hlt:k<r.modes.length
         ·obtain⟨s0,s1⟩:=HAT.out k hlt
          rw[← bat BW.out b _ hbl] at s0 s1;rw[gm_eq hlt] at s0 s1;have HUN:Hid (zcm (gm r.modes k)=false→zaz zcm zb5 r.modes=false):=fun h=>za1 hlt (zd2 hlt (by rw[gm_eq hlt];exact h))
          have HUZ:Hid (k=0→zcm (gm r.modes k)=true→upOk zcm zb5 r.modes k=true):=fun e h=>by subst e;rw[zci hlt,gm_eq hlt];exact h
          have HUP:Hid (0<k→upOk zcm zb5 r.modes k=(zcm (gm r.modes k)&&zb5 (gm r.modes (k-1)) (gm r.modes k))):=fun h=>by rw[zcj h hlt,gm_eq hlt,gm_eq (show k-1<r.modes.length by omega)]
          have s2:0<k→(wr,b,off+(k-1)*2,J (gm r.modes (k-1)).need)∧(wr,b,off+(k-1)*2+1,J (gm r.modes (k-1)).rate):=fun h=>by
           obtain⟨t0,t1⟩:=HAT.out (k-1) II;rw[← bat BW.out b _ hbl] at t0 t1;rw[gm_eq (show k-1<r.modes.length by omega)] at t0 t1;exact⟨t0,t1⟩
          have H2:=IJ s2;clear s2;generalize hA:gm r.modes k=A at *;generalize hP:gm r.modes (k-1)=P at *;clear hA hP;have i1:(0:Int)≤(k:Int):=II
          have i2:(k:Int)<(r.modes.length:Int):=II
          by_cases c1:inB A.need (-50000) 100000=true
          ·by_cases c2:inB A.rate 1 1000000=true
           ·have HM:Hid (zcm A=true):=by show _=_;unfold zcm;rw[c1,c2];rfl
            go_wp2_with (first|(go_at_call 192;refine (zar _ _ Q44).mono ?_;rintro e w1 ⟨rfl,rfl⟩)|(go_at_call 101;refine (za7 _ _ _ _).mono ?_;rintro e w1 ⟨rfl,rfl⟩));have b1:OI wr wr (wr.alloc (.cells #[J A.need,J A.rate] 163)):=(Below.refl _ _).alloc (Nat.le_refl _) _;have f0:(wr.alloc (.cells #[J A.need,J A.rate] 163)).cell? ⟨wr,0,none⟩=some (J A.need):=by simp[go_sem]
            have f1:(wr.alloc (.cells #[J A.need,J A.rate] 163)).cell? ⟨wr,1,none⟩=some (J A.rate):=by simp[go_sem]
            have fx:=bat b1 (bp) (op+5) yx;rw[cx] at fx;have fz:wr.heap.size<(wr.alloc (.cells #[J A.need,J A.rate] 163)).heap.size:=by simp
            generalize hW1:(wr.alloc (.cells #[J A.need,J A.rate] 163))=W1 at *;have BB:=IJ (BW.out.trans (b1.mono II));have BH:=IJ (HB.out.trans (b1.mono II));have B1:=IJ b1;clear b1 hW1
            by_cases c3:0<k
            ·skip
             obtain⟨t0,t1⟩:=H2.out c3;rw[← bat B1.out b _ yb] at t0 t1;have i3:IntKind.i64.wrap ((k:Int)-1)=(k:Int)-1:=IntWalk.i64_in _ II;have i4:(0:Int)≤(k:Int)-1:=II
             have i6:(k:Int)-1<(r.modes.length:Int):=II
             have i7:(1:Int)≤(k:Int):=II
             have i8:decide (0<k)=true:=by simpa using c3
             have i5:((k:Int)-1).toNat=k-1:=II
             by_cases c4:A.need≤P.need
             ·have c4':decide (A.need≤P.need)=true:=by simpa using c4
              have HF:Hid (zaz zcm zb5 r.modes=false):=za1 hlt (by rw[HUP.out c3,modeLt_need II];simp)
              go_quiet (fail)
              clear i3 i5;exact Q1c
             ·have c4':decide (A.need≤P.need)=false:=by simpa using c4
              by_cases c5:A.rate≤P.rate
              ·have c5':decide (A.rate≤P.rate)=true:=by simpa using c5
               have HF:Hid (zaz zcm zb5 r.modes=false):=za1 hlt (by rw[HUP.out c3,modeLt_rate II];simp)
               go_quiet (fail)
               clear i3 i5;exact Q1c
              ·have c5':decide (A.rate≤P.rate)=false:=by simpa using c5
               have HF:Hid (upOk zcm zb5 r.modes k=true):=by show _=_;rw[HUP.out c3,HM.out,modeLt_true II II];rfl
               go_quiet (fail)
               clear i3 i5;exact Q18
            ·have i8:decide (0<k)=false:=by simpa using c3
             have HF:Hid (upOk zcm zb5 r.modes k=true):=HUZ.out II HM.out
             go_quiet (fail)
             exact Q18
           ·replace c2:inB A.rate 1 1000000=false:=Bool.eq_false_iff.2 c2
            have HF:Hid (zaz zcm zb5 r.modes=false):=HUN.out (by unfold zcm;rw[c2,Bool.and_false]);exact Q1b
          ·replace c1:inB A.need (-50000) 100000=false:=Bool.eq_false_iff.2 c1
           have HF:Hid (zaz zcm zb5 r.modes=false):=HUN.out (by unfold zcm;rw[c1,Bool.false_and]);exact Q1b
         ·exact Q1w
       ·have h6':8<r.modes.length:=II
        have h5i:(1:Int)≤(r.modes.length:Int):=II
        have HE:Hid (radB r=false):=by show _=_;unfold radB;rw[decide_eq_false h6];simp only[h0,h1,h2,h3,h4,Bool.and_false,Bool.false_and,Bool.and_true,Bool.true_and]
        exact Q0b
      ·have h5':r.modes.length<1:=II
       have HE:Hid (radB r=false):=by show _=_;unfold radB;rw[decide_eq_false h5];simp only[h0,h1,h2,h3,h4,Bool.and_false,Bool.false_and,Bool.and_true,Bool.true_and]
       exact Q0b
     ·replace h4:inB r.width 1 100000=false:=Bool.eq_false_iff.2 h4
      have HE:Hid (radB r=false):=by show _=_;unfold radB;simp only[h0,h1,h2,h3,h4,Bool.and_false,Bool.false_and,Bool.and_true,Bool.true_and]
      exact Q0b
    ·replace h3:inB r.noise 0 30000=false:=Bool.eq_false_iff.2 h3
     have HE:Hid (radB r=false):=by show _=_;unfold radB;simp only[h0,h1,h2,h3,Bool.and_false,Bool.false_and,Bool.and_true,Bool.true_and]
     exact Q0b
   ·replace h2:inB r.feeder 0 30000=false:=Bool.eq_false_iff.2 h2
    have HE:Hid (radB r=false):=by show _=_;unfold radB;simp only[h0,h1,h2,Bool.and_false,Bool.false_and,Bool.and_true,Bool.true_and]
    exact Q0b
  ·replace h1:inB r.power (-100000) 100000=false:=Bool.eq_false_iff.2 h1
   have HE:Hid (radB r=false):=by show _=_;unfold radB;simp only[h0,h1,Bool.and_false,Bool.false_and,Bool.and_true,Bool.true_and]
   exact Q0b
 ·replace h0:za8 r.name=false:=Bool.eq_false_iff.2 h0
  have HE:Hid (radB r=false):=by show _=_;unfold radB;simp only[h0,Bool.and_false,Bool.false_and,Bool.and_true,Bool.true_and]
  exact Q0b
set_option maxHeartbeats 4000000
set_option maxRecDepth 100000
theorem indexFuncSite_any (l:List DSite) (p:DSite→Bool) (fn:FuncId) (cap:List Value) (v:Value) (B:Nat) (w:World) (h:Rd B w (DSite.sT l) v) (hB:B≤w.heap.size) (hn:l.length≤1099511627776)
  (hcf:∀ (args:Array Value) (W:World),(callFunc fn args).run Tryz.prog W=.ok (.enter fn args) W)
  (hf:∀ x ∈ l,∀ W:World,OI w w W→Calls Tryz.prog fn (Value.agg x::cap).toArray W fun e W'=>e=.returned (.bool (p x))∧OI W W W') :
  Calls Tryz.prog 117 #[v,.func (.func fn) #[] cap.toArray] w fun e w'=>e=.returned (J (zbh p l))∧OI w w w':=by
 obtain⟨a,c,rfl,hnc,hcm,hcells⟩:=DSite.rd h;clear h;have hnb:(l.length:Int)≤1099511627776:=II
 have HF:=IJ hf;clear hf;go_enter Tryz.func117,Tryz.ntmps117;go_wp2;go_loopw [8] (fun i wr=>∃ (k:Nat),k≤l.length∧i=J k∧(l.take k).any p=false∧OI w w wr) (fun i wr=>l.length-(intOf i).toNat)
 case atStart=>exact⟨0,Nat.zero_le _,rfl,by simp,Below.refl _ _⟩
 case round =>
  obtain⟨k,hk,rfl,hno,hb⟩:=hrel;have HN:=IJ hno;clear hno
  by_cases hlt:k<l.length
  ·obtain⟨b,off,rfl,hbl,hat⟩:=hcells II
   obtain⟨s0,s1,s2,s3⟩:=hat k hlt;rw[← hb.cell (p:=⟨b,_,none⟩) (show b<w.heap.size by omega)] at s0 s1 s2 s3;exact Q2b
  ·exact Q0x
def zby (l:List DSite) (nm:ByteArray):Int:=zbh (fun x:DSite=>eqS x.name nm) l
theorem siteNamed_any (l:List DSite) (nm:ByteArray) (v0 v1 v2 v3:Value) (B:Nat) (w:World) (h:Rd B w (DSite.sT l) v0) (hB:B≤w.heap.size) (hn:l.length≤1099511627776) :
  Calls Tryz.prog 74 #[.agg #[v0,v1,v2,v3],IQ nm] w fun e w'=>e=.returned (J (zby l nm))∧OI w w w':=by
 have b0:OI w w ((w.alloc (.cells #[v0,v1,v2,v3] 32)).alloc (.cells #[IQ nm] 9)):=((Below.refl _ _).alloc (Nat.le_refl _) _).alloc Q4a _
 have HC:=IJ (indexFuncSite_any l (fun x:DSite=>eqS x.name nm) 118 [.pointer (some ⟨w.heap.size+1,0,none⟩)] v0 B ((w.alloc (.cells #[v0,v1,v2,v3] 32)).alloc (.cells #[IQ nm] 9)) (h.below (b0.mono hB)) Q41 hn (fun _ _=>by kernel_rfl) (fun x _  W hW=>by
  have c1:W.cell? ⟨w.heap.size+1,0,none⟩=some (IQ nm):=by rw[hW.cell (p:=⟨w.heap.size+1,0,none⟩) Q4a];simp[go_sem]
  have c2:w.heap.size+1<W.heap.size:=by have:=hW.size;simp at this;omega
  clear hW;go_enter Tryz.func118,Tryz.ntmps118;go_wp2;go_ret
  exact⟨rfl,(Below.refl _ _).alloc (Nat.le_refl _) _⟩))
 have B0:=IJ b0;clear b0 h;unfold zby;generalize zbh (fun x:DSite=>eqS x.name nm) l=r at *;go_enter Tryz.func74,Tryz.ntmps74;exact Q16
theorem zdt (l:List DSite) (nm:ByteArray) (v:Value) (bp B:Nat) (w:World) (h:Rd B w (DSite.sT l) v) (hB:B≤w.heap.size) (hp:w.cell? ⟨bp,0,none⟩=some v) (hn:l.length≤1099511627776) :
  Calls Tryz.prog 141 #[.pointer (some ⟨bp,0,none⟩),IQ nm] w fun e w'=>e=.returned (J (zby l nm))∧w=w':=by
 obtain⟨a,c,rfl,hnc,hcm,hcells⟩:=DSite.rd h;clear h;have hnb:(l.length:Int)≤1099511627776:=II
 go_enter Tryz.func141,Tryz.ntmps141;go_wp2
 go_loop [5] (fun i=>∃ (k:Nat),k≤l.length∧i=J k∧(l.take k).any (fun x:DSite=>eqS x.name nm)=false) (fun i=>l.length-(intOf i).toNat)
 case atStart=>exact⟨0,Nat.zero_le _,rfl,by simp⟩
 case round =>
  obtain⟨k,hk,rfl,hno⟩:=hrel;have HN:=IJ hno;clear hno
  by_cases hlt:k<l.length
  ·obtain⟨b,off,rfl,hbl,hat⟩:=hcells II
   have s0:=(hat k hlt).1;clear hcells hat
   by_cases hp1:(l[k].name.toList == nm.toList)=true
   ·have HP:=IJ hp1
    go_wp2;go_ret;exact⟨by unfold zby;rw[zcs (fun x:DSite=>eqS x.name nm) l k hlt HP.out HN.out];rfl,rfl⟩
   ·exact Q0q
  ·obtain rfl:k=l.length:=II
   clear hcells;go_wp2;go_ret;have:=HN.out;rw[List.take_length] at this;exact⟨by unfold zby;rw[zcc _ l this];rfl,rfl⟩
theorem indexFuncSector_any (l:List DSector) (p:DSector→Bool) (fn:FuncId) (cap:List Value) (v:Value) (B:Nat) (w:World) (h:Rd B w (DSector.sT l) v) (hB:B≤w.heap.size) (hn:l.length≤1099511627776)
  (hcf:∀ (args:Array Value) (W:World),(callFunc fn args).run Tryz.prog W=.ok (.enter fn args) W)
  (hf:∀ x ∈ l,∀ W:World,OI w w W→Calls Tryz.prog fn (Value.agg x::cap).toArray W fun e W'=>e=.returned (.bool (p x))∧OI W W W') :
  Calls Tryz.prog 77 #[v,.func (.func fn) #[] cap.toArray] w fun e w'=>e=.returned (J (zbh p l))∧OI w w w':=by
 obtain⟨a,c,rfl,hnc,hcm,hcells⟩:=DSector.rd h;clear h;have hnb:(l.length:Int)≤1099511627776:=II
 have HF:=IJ hf;clear hf;go_enter Tryz.func77,Tryz.ntmps77;go_wp2;go_loopw [8] (fun i wr=>∃ (k:Nat),k≤l.length∧i=J k∧(l.take k).any p=false∧OI w w wr) (fun i wr=>l.length-(intOf i).toNat)
 case atStart=>exact⟨0,Nat.zero_le _,rfl,by simp,Below.refl _ _⟩
 case round =>
  obtain⟨k,hk,rfl,hno,hb⟩:=hrel;have HN:=IJ hno;clear hno
  by_cases hlt:k<l.length
  ·obtain⟨b,off,rfl,hbl,hat⟩:=hcells II
   obtain⟨s0,s1,s2,s3,s4,s5,s6,s7,s8⟩:=hat k hlt;rw[← hb.cell (p:=⟨b,_,none⟩) (show b<w.heap.size by omega)] at s0 s1 s2 s3 s4 s5 s6 s7 s8;exact Q2b
  ·exact Q0x
def zay (l:List DSector) (nm:ByteArray):Int:=zbh (fun x:DSector=>eqS x.name nm) l
theorem sectorNamed_any (l:List DSector) (nm:ByteArray) (v0 v1 v2 v3:Value) (B:Nat) (w:World) (h:Rd B w (DSector.sT l) v1) (hB:B≤w.heap.size) (hn:l.length≤1099511627776) :
  Calls Tryz.prog 40 #[.agg #[v0,v1,v2,v3],IQ nm] w fun e w'=>e=.returned (J (zay l nm))∧OI w w w':=by
 have b0:OI w w ((w.alloc (.cells #[v0,v1,v2,v3] 32)).alloc (.cells #[IQ nm] 9)):=((Below.refl _ _).alloc (Nat.le_refl _) _).alloc Q4a _
 have HC:=IJ (indexFuncSector_any l (fun x:DSector=>eqS x.name nm) 78 [.pointer (some ⟨w.heap.size+1,0,none⟩)] v1 B ((w.alloc (.cells #[v0,v1,v2,v3] 32)).alloc (.cells #[IQ nm] 9)) (h.below (b0.mono hB)) Q41 hn (fun _ _=>by kernel_rfl) (fun x _  W hW=>by
  have c1:W.cell? ⟨w.heap.size+1,0,none⟩=some (IQ nm):=by rw[hW.cell (p:=⟨w.heap.size+1,0,none⟩) Q4a];simp[go_sem]
  have c2:w.heap.size+1<W.heap.size:=by have:=hW.size;simp at this;omega
  clear hW;go_enter Tryz.func78,Tryz.ntmps78;go_wp2;go_ret
  exact⟨rfl,(Below.refl _ _).alloc (Nat.le_refl _) _⟩))
 have B0:=IJ b0;clear b0 h;unfold zay;generalize zbh (fun x:DSector=>eqS x.name nm) l=r at *;go_enter Tryz.func40,Tryz.ntmps40;exact Q16
theorem l14Find_any (l:List DSector) (nm:ByteArray) (v:Value) (bp B:Nat) (w:World) (h:Rd B w (DSector.sT l) v) (hB:B≤w.heap.size) (hp:w.cell? ⟨bp,1,none⟩=some v) (hn:l.length≤1099511627776) :
  Calls Tryz.prog 145 #[.pointer (some ⟨bp,0,none⟩),IQ nm] w fun e w'=>e=.returned (J (zay l nm))∧w=w':=by
 obtain⟨a,c,rfl,hnc,hcm,hcells⟩:=DSector.rd h;clear h;have hnb:(l.length:Int)≤1099511627776:=II
 go_enter Tryz.func145,Tryz.ntmps145;go_wp2
 go_loop [5] (fun i=>∃ (k:Nat),k≤l.length∧i=J k∧(l.take k).any (fun x:DSector=>eqS x.name nm)=false) (fun i=>l.length-(intOf i).toNat)
 case atStart=>exact⟨0,Nat.zero_le _,rfl,by simp⟩
 case round =>
  obtain⟨k,hk,rfl,hno⟩:=hrel;have HN:=IJ hno;clear hno
  by_cases hlt:k<l.length
  ·obtain⟨b,off,rfl,hbl,hat⟩:=hcells II
   have s0:=(hat k hlt).1;clear hcells hat
   by_cases hp1:(l[k].name.toList == nm.toList)=true
   ·have HP:=IJ hp1
    go_wp2;go_ret;exact⟨by unfold zay;rw[zcs (fun x:DSector=>eqS x.name nm) l k hlt HP.out HN.out];rfl,rfl⟩
   ·exact Q0q
  ·obtain rfl:k=l.length:=II
   clear hcells;go_wp2;go_ret;have:=HN.out;rw[List.take_length] at this;exact⟨by unfold zay;rw[zcc _ l this];rfl,rfl⟩
theorem indexFuncAntenna_any (l:List DAntenna) (p:DAntenna→Bool) (fn:FuncId) (cap:List Value) (v:Value) (B:Nat) (w:World) (h:Rd B w (DAntenna.sT l) v) (hB:B≤w.heap.size) (hn:l.length≤1099511627776)
  (hcf:∀ (args:Array Value) (W:World),(callFunc fn args).run Tryz.prog W=.ok (.enter fn args) W)
  (hf:∀ x ∈ l,∀ (u2 u3:Value),∀ W:World,OI w w W→Calls Tryz.prog fn (Value.agg (x,u2,u3)::cap).toArray W fun e W'=>e=.returned (.bool (p x))∧OI W W W') :
  Calls Tryz.prog 119 #[v,.func (.func fn) #[] cap.toArray] w fun e w'=>e=.returned (J (zbh p l))∧OI w w w':=by
 obtain⟨a,c,rfl,hnc,hcm,hcells⟩:=DAntenna.rd h;clear h;have hnb:(l.length:Int)≤1099511627776:=II
 have HF:=IJ hf;clear hf;go_enter Tryz.func119,Tryz.ntmps119;go_wp2;go_loopw [8] (fun i wr=>∃ (k:Nat),k≤l.length∧i=J k∧(l.take k).any p=false∧OI w w wr) (fun i wr=>l.length-(intOf i).toNat)
 case atStart=>exact⟨0,Nat.zero_le _,rfl,by simp,Below.refl _ _⟩
 case round =>
  obtain⟨k,hk,rfl,hno,hb⟩:=hrel;have HN:=IJ hno;clear hno
  by_cases hlt:k<l.length
  ·obtain⟨b,off,rfl,hbl,hat⟩:=hcells II
   obtain⟨s0,s1,⟨u2,s2,_⟩,⟨u3,s3,_⟩⟩:=hat k hlt;rw[← hb.cell (p:=⟨b,_,none⟩) (show b<w.heap.size by omega)] at s0 s1 s2 s3;have HB:=IJ hb;clear hcells hat hb;go_wp2_with fail;refine (HF.out l[k] (List.getElem_mem hlt) u2 u3 _ HB.out).mono ?_;exact Q0c
  ·exact Q0x
def zb3 (l:List DAntenna) (nm:ByteArray):Int:=zbh (fun x:DAntenna=>eqS x.name nm) l
theorem zed (l:List DAntenna) (nm:ByteArray) (v0 v1 v2 v3:Value) (B:Nat) (w:World) (h:Rd B w (DAntenna.sT l) v2) (hB:B≤w.heap.size) (hn:l.length≤1099511627776) :
  Calls Tryz.prog 76 #[.agg #[v0,v1,v2,v3],IQ nm] w fun e w'=>e=.returned (J (zb3 l nm))∧OI w w w':=by
 have b0:OI w w ((w.alloc (.cells #[v0,v1,v2,v3] 32)).alloc (.cells #[IQ nm] 9)):=((Below.refl _ _).alloc (Nat.le_refl _) _).alloc Q4a _
 have HC:=IJ (indexFuncAntenna_any l (fun x:DAntenna=>eqS x.name nm) 120 [.pointer (some ⟨w.heap.size+1,0,none⟩)] v2 B ((w.alloc (.cells #[v0,v1,v2,v3] 32)).alloc (.cells #[IQ nm] 9)) (h.below (b0.mono hB)) Q41 hn (fun _ _=>by kernel_rfl) (fun x _ u2 u3 W hW=>by
  have c1:W.cell? ⟨w.heap.size+1,0,none⟩=some (IQ nm):=by rw[hW.cell (p:=⟨w.heap.size+1,0,none⟩) Q4a];simp[go_sem]
  have c2:w.heap.size+1<W.heap.size:=by have:=hW.size;simp at this;omega
  clear hW;go_enter Tryz.func120,Tryz.ntmps120;go_wp2;go_ret
  exact⟨rfl,(Below.refl _ _).alloc (Nat.le_refl _) _⟩))
 have B0:=IJ b0;clear b0 h;unfold zb3;generalize zbh (fun x:DAntenna=>eqS x.name nm) l=r at *;go_enter Tryz.func76,Tryz.ntmps76;exact Q16
theorem l14Antenna_any (l:List DAntenna) (nm:ByteArray) (v:Value) (bp B:Nat) (w:World) (h:Rd B w (DAntenna.sT l) v) (hB:B≤w.heap.size) (hp:w.cell? ⟨bp,2,none⟩=some v) (hn:l.length≤1099511627776) :
  Calls Tryz.prog 195 #[.pointer (some ⟨bp,0,none⟩),IQ nm] w fun e w'=>e=.returned (J (zb3 l nm))∧w=w':=by
 obtain⟨a,c,rfl,hnc,hcm,hcells⟩:=DAntenna.rd h;clear h;have hnb:(l.length:Int)≤1099511627776:=II
 go_enter Tryz.func195,Tryz.ntmps195;go_wp2
 go_loop [5] (fun i=>∃ (k:Nat),k≤l.length∧i=J k∧(l.take k).any (fun x:DAntenna=>eqS x.name nm)=false) (fun i=>l.length-(intOf i).toNat)
 case atStart=>exact⟨0,Nat.zero_le _,rfl,by simp⟩
 case round =>
  obtain⟨k,hk,rfl,hno⟩:=hrel;have HN:=IJ hno;clear hno
  by_cases hlt:k<l.length
  ·obtain⟨b,off,rfl,hbl,hat⟩:=hcells II
   have s0:=(hat k hlt).1;clear hcells hat
   by_cases hp1:(l[k].name.toList == nm.toList)=true
   ·have HP:=IJ hp1
    go_wp2;go_ret;exact⟨by unfold zb3;rw[zcs (fun x:DAntenna=>eqS x.name nm) l k hlt HP.out HN.out];rfl,rfl⟩
   ·exact Q0q
  ·obtain rfl:k=l.length:=II
   clear hcells;go_wp2;go_ret;have:=HN.out;rw[List.take_length] at this;exact⟨by unfold zb3;rw[zcc _ l this];rfl,rfl⟩
theorem indexFuncRadio_any (l:List DRadio) (p:DRadio→Bool) (fn:FuncId) (cap:List Value) (v:Value) (B:Nat) (w:World) (h:Rd B w (DRadio.sT l) v) (hB:B≤w.heap.size) (hn:l.length≤1099511627776)
  (hcf:∀ (args:Array Value) (W:World),(callFunc fn args).run Tryz.prog W=.ok (.enter fn args) W)
  (hf:∀ x ∈ l,∀ (u5:Value),∀ W:World,OI w w W→Calls Tryz.prog fn (Value.agg (x,u5)::cap).toArray W fun e W'=>e=.returned (.bool (p x))∧OI W W W') :
  Calls Tryz.prog 169 #[v,.func (.func fn) #[] cap.toArray] w fun e w'=>e=.returned (J (zbh p l))∧OI w w w':=by
 obtain⟨a,c,rfl,hnc,hcm,hcells⟩:=DRadio.rd h;clear h;have hnb:(l.length:Int)≤1099511627776:=II
 have HF:=IJ hf;clear hf;go_enter Tryz.func169,Tryz.ntmps169;go_wp2;go_loopw [8] (fun i wr=>∃ (k:Nat),k≤l.length∧i=J k∧(l.take k).any p=false∧OI w w wr) (fun i wr=>l.length-(intOf i).toNat)
 case atStart=>exact⟨0,Nat.zero_le _,rfl,by simp,Below.refl _ _⟩
 case round =>
  obtain⟨k,hk,rfl,hno,hb⟩:=hrel;have HN:=IJ hno;clear hno
  by_cases hlt:k<l.length
  ·obtain⟨b,off,rfl,hbl,hat⟩:=hcells II
   obtain⟨s0,s1,s2,s3,s4,⟨u5,s5,_⟩⟩:=hat k hlt;rw[← hb.cell (p:=⟨b,_,none⟩) (show b<w.heap.size by omega)] at s0 s1 s2 s3 s4 s5;have HB:=IJ hb;clear hcells hat hb;go_wp2_with fail;refine (HF.out l[k] (List.getElem_mem hlt) u5 _ HB.out).mono ?_;exact Q0c
  ·exact Q0x
def zch (l:List DRadio) (nm:ByteArray):Int:=zbh (fun x:DRadio=>eqS x.name nm) l
theorem radioNamed_any (l:List DRadio) (nm:ByteArray) (v0 v1 v2 v3:Value) (B:Nat) (w:World) (h:Rd B w (DRadio.sT l) v3) (hB:B≤w.heap.size) (hn:l.length≤1099511627776) :
  Calls Tryz.prog 116 #[.agg #[v0,v1,v2,v3],IQ nm] w fun e w'=>e=.returned (J (zch l nm))∧OI w w w':=by
 have b0:OI w w ((w.alloc (.cells #[v0,v1,v2,v3] 32)).alloc (.cells #[IQ nm] 9)):=((Below.refl _ _).alloc (Nat.le_refl _) _).alloc Q4a _
 have HC:=IJ (indexFuncRadio_any l (fun x:DRadio=>eqS x.name nm) 170 [.pointer (some ⟨w.heap.size+1,0,none⟩)] v3 B ((w.alloc (.cells #[v0,v1,v2,v3] 32)).alloc (.cells #[IQ nm] 9)) (h.below (b0.mono hB)) Q41 hn (fun _ _=>by kernel_rfl) (fun x _ u5 W hW=>by
  have c1:W.cell? ⟨w.heap.size+1,0,none⟩=some (IQ nm):=by rw[hW.cell (p:=⟨w.heap.size+1,0,none⟩) Q4a];simp[go_sem]
  have c2:w.heap.size+1<W.heap.size:=by have:=hW.size;simp at this;omega
  clear hW;go_enter Tryz.func170,Tryz.ntmps170;go_wp2;go_ret
  exact⟨rfl,(Below.refl _ _).alloc (Nat.le_refl _) _⟩))
 have B0:=IJ b0;clear b0 h;unfold zch;generalize zbh (fun x:DRadio=>eqS x.name nm) l=r at *;go_enter Tryz.func116,Tryz.ntmps116;exact Q16
theorem l14Radio_any (l:List DRadio) (nm:ByteArray) (v:Value) (bp B:Nat) (w:World) (h:Rd B w (DRadio.sT l) v) (hB:B≤w.heap.size) (hp:w.cell? ⟨bp,3,none⟩=some v) (hn:l.length≤1099511627776) :
  Calls Tryz.prog 196 #[.pointer (some ⟨bp,0,none⟩),IQ nm] w fun e w'=>e=.returned (J (zch l nm))∧w=w':=by
 obtain⟨a,c,rfl,hnc,hcm,hcells⟩:=DRadio.rd h;clear h;have hnb:(l.length:Int)≤1099511627776:=II
 go_enter Tryz.func196,Tryz.ntmps196;go_wp2
 go_loop [5] (fun i=>∃ (k:Nat),k≤l.length∧i=J k∧(l.take k).any (fun x:DRadio=>eqS x.name nm)=false) (fun i=>l.length-(intOf i).toNat)
 case atStart=>exact⟨0,Nat.zero_le _,rfl,by simp⟩
 case round =>
  obtain⟨k,hk,rfl,hno⟩:=hrel;have HN:=IJ hno;clear hno
  by_cases hlt:k<l.length
  ·obtain⟨b,off,rfl,hbl,hat⟩:=hcells II
   have s0:=(hat k hlt).1;clear hcells hat
   by_cases hp1:(l[k].name.toList == nm.toList)=true
   ·have HP:=IJ hp1
    go_wp2;go_ret;exact⟨by unfold zch;rw[zcs (fun x:DRadio=>eqS x.name nm) l k hlt HP.out HN.out];rfl,rfl⟩
   ·exact Q0q
  ·obtain rfl:k=l.length:=II
   clear hcells;go_wp2;go_ret;have:=HN.out;rw[List.take_length] at this;exact⟨by unfold zch;rw[zcc _ l this];rfl,rfl⟩
def zan (n:DNetwork) (x:DSector):Bool:=decide (0≤zby n.sites x.site)&&(decide (0≤zb3 n.antennas x.antenna)&&decide (0≤zch n.radios x.radio))
theorem zds (n:DNetwork) (x:DSector) (v0 v2 v3:Value) (bp bx ox B:Nat) (w:World) (r0:Rd B w (DSite.sT n.sites) v0) (r2:Rd B w (DAntenna.sT n.antennas) v2) (r3:Rd B w (DRadio.sT n.radios) v3) (hB:B≤w.heap.size) (p0:w.cell? ⟨bp,0,none⟩=some v0) (p2:w.cell? ⟨bp,2,none⟩=some v2) (p3:w.cell? ⟨bp,3,none⟩=some v3) (c1:w.cell? ⟨bx,ox+1,none⟩=some (IQ x.site)) (c2:w.cell? ⟨bx,ox+2,none⟩=some (IQ x.antenna)) (c3:w.cell? ⟨bx,ox+3,none⟩=some (IQ x.radio)) (l0:n.sites.length≤1099511627776) (l2:n.antennas.length≤1099511627776) (l3:n.radios.length≤1099511627776) :
  Calls Tryz.prog 144 #[.pointer (some ⟨bp,0,none⟩),.pointer (some ⟨bx,ox,none⟩)] w fun e w'=>e=.returned (.bool (zan n x))∧w=w':=by
 have HS:=IJ (zdt n.sites x.site v0 bp B w r0 hB p0 l0);have HA:=IJ (l14Antenna_any n.antennas x.antenna v2 bp B w r2 hB p2 l2);have HR:=IJ (l14Radio_any n.radios x.radio v3 bp B w r3 hB p3 l3);clear r0 r2 r3
 by_cases h0:decide (0≤zby n.sites x.site)=true
 ·skip
  by_cases h1:decide (0≤zb3 n.antennas x.antenna)=true
  ·skip
   by_cases h2:decide (0≤zch n.radios x.radio)=true
   ·skip
    have HE:Hid (zan n x=true):=by show _=_;unfold zan;simp only[h0,h1,h2]<;>rfl
    exact Q0l
   ·replace h2:decide (0≤zch n.radios x.radio)=false:=Bool.eq_false_iff.2 h2
    have HE:Hid (zan n x=false):=by show _=_;unfold zan;simp only[h0,h1,h2]<;>rfl
    exact Q0l
  ·replace h1:decide (0≤zb3 n.antennas x.antenna)=false:=Bool.eq_false_iff.2 h1
   have HE:Hid (zan n x=false):=by show _=_;unfold zan;simp only[h0,h1]<;>rfl
   exact Q0l
 ·replace h0:decide (0≤zby n.sites x.site)=false:=Bool.eq_false_iff.2 h0
  have HE:Hid (zan n x=false):=by show _=_;unfold zan;simp only[h0]<;>rfl
  exact Q0l
theorem hasParts_any (n:DNetwork) (x:DSector) (v0 v1 v2 v3:Value) (w:World) (r0:Rd w w (DSite.sT n.sites) v0) (r2:Rd w w (DAntenna.sT n.antennas) v2) (r3:Rd w w (DRadio.sT n.radios) v3) (l0:n.sites.length≤1099511627776) (l2:n.antennas.length≤1099511627776) (l3:n.radios.length≤1099511627776) :
  Calls Tryz.prog 73 #[.agg #[v0,v1,v2,v3],.agg x] w fun e w'=>e=.returned (.bool (zan n x))∧OI w w w':=by
 have b0:OI w w ((w.alloc (.cells #[v0,v1,v2,v3] 32)).alloc (.cells x 43)):=((Below.refl _ _).alloc (Nat.le_refl _) _).alloc Q4a _;have HS:Hid (∀ W:World,OI w w W→Calls Tryz.prog 74 #[.agg #[v0,v1,v2,v3],IQ x.site] W fun e w'=>e=.returned (J (zby n.sites x.site))∧OI W W w'):=fun W hW=>siteNamed_any n.sites x.site v0 v1 v2 v3 w.heap.size W (r0.below hW) hW.size l0
 have HA:Hid (∀ W:World,OI w w W→Calls Tryz.prog 76 #[.agg #[v0,v1,v2,v3],IQ x.antenna] W fun e w'=>e=.returned (J (zb3 n.antennas x.antenna))∧OI W W w'):=fun W hW=>zed n.antennas x.antenna v0 v1 v2 v3 w.heap.size W (r2.below hW) hW.size l2
 have HR:Hid (∀ W:World,OI w w W→Calls Tryz.prog 116 #[.agg #[v0,v1,v2,v3],IQ x.radio] W fun e w'=>e=.returned (J (zch n.radios x.radio))∧OI W W w'):=fun W hW=>radioNamed_any n.radios x.radio v0 v1 v2 v3 w.heap.size W (r3.below hW) hW.size l3
 have B0:=IJ b0;clear b0 r0 r2 r3
 by_cases h0:decide (0≤zby n.sites x.site)=true
 ·skip
  by_cases h1:decide (0≤zb3 n.antennas x.antenna)=true
  ·skip
   by_cases h2:decide (0≤zch n.radios x.radio)=true
   ·skip
    have HE:Hid (zan n x=true):=by show _=_;unfold zan;simp only[h0,h1,h2]<;>rfl
    exact Q04
   ·replace h2:decide (0≤zch n.radios x.radio)=false:=Bool.eq_false_iff.2 h2
    have HE:Hid (zan n x=false):=by show _=_;unfold zan;simp only[h0,h1,h2]<;>rfl
    exact Q04
  ·replace h1:decide (0≤zb3 n.antennas x.antenna)=false:=Bool.eq_false_iff.2 h1
   have HE:Hid (zan n x=false):=by show _=_;unfold zan;simp only[h0,h1]<;>rfl
   exact Q04
 ·replace h0:decide (0≤zby n.sites x.site)=false:=Bool.eq_false_iff.2 h0
  have HE:Hid (zan n x=false):=by show _=_;unfold zan;simp only[h0]<;>rfl
  exact Q04
end Go.Proofs.YtpakghepnahooaaGreatDoor
