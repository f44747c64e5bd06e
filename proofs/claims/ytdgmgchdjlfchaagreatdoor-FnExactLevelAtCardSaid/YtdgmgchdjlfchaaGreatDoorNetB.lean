/- Contracts: antennas are valid, for the program and for the reference. Conditions: bounded lengths. -/
import Derived.Test.YtdgmgchdjlfchaaGreatDoorOrdS
import Derived.Test.YtdgmgchdjlfchaaGreatDoorTypes
import Derived.Test.YtdgmgchdjlfchaaGreatDoorProb1
import Derived.Test.YtdgmgchdjlfchaaGreatDoorRaw
namespace Go.Proofs.YtdgmgchdjlfchaaGreatDoor
set_option maxHeartbeats 4000000
set_option maxRecDepth 100000
open Go.RowKit
set_option linter.unusedVariables false
set_option linter.unusedSimpArgs false
def antB (a:DAntenna):Bool:=nameB a.name&&(inB a.gain (-60000) 60000&&(((a.horizontal.length:Int) == 36)&&(((a.vertical.length:Int) == 19)&&((a.horizontal.all fun n=>inB n 0 60000)&&((a.vertical.all fun n=>inB n 0 60000)&&((gi a.horizontal 0 == 0)&&(gi a.vertical 9 == 0)))))))
def lossesB (l:List Int) (many main:Nat):Bool:=((l.length:Int) == (many:Int))&&((gi l main == 0)&&(l.all fun n=>inB n 0 60000))
theorem antB_eq (a:DAntenna):antB a=(nameB a.name&&(inB a.gain (-60000) 60000&&(lossesB a.horizontal 36 0&&lossesB a.vertical 19 9))):=by
 unfold antB lossesB
 have e1:((36:Nat):Int)=36:=rfl
 have e2:((19:Nat):Int)=19:=rfl
 rw[e1,e2]
 generalize nameB a.name=x0
 generalize inB a.gain (-60000) 60000=x1
 generalize ((a.horizontal.length:Int) == 36)=x2
 generalize ((a.vertical.length:Int) == 19)=x3
 generalize (a.horizontal.all fun n=>inB n 0 60000)=x4
 generalize (a.vertical.all fun n=>inB n 0 60000)=x5
 generalize (gi a.horizontal 0 == 0)=x6
 generalize (gi a.vertical 9 == 0)=x7
 cases x0<;>cases x1<;>cases x2<;>cases x3<;>cases x4<;>cases x5<;>cases x6<;>cases x7<;>rfl
theorem beq_len {n m:Nat} (h:((n:Int) == (m:Int))=true):n=m:=by have:=eq_of_beq h;omega
theorem gainOk_any (n:Int) (w:World):Calls Tryz.prog 148 #[.int .i64 n] w fun e w'=>e=.returned (.bool (inB n (-60000) 60000))∧w=w':=by
 go_enter Tryz.func148,Tryz.ntmps148
 go_wp2_with (go_at_call 74;refine (within_any _ _ _ _).mono ?_;rintro e w1 ⟨rfl,rfl⟩)
 go_ret
 exact⟨rfl,rfl⟩
theorem l06Gain_any (n:Int) (w:World):Calls Tryz.prog 166 #[.int .i64 n] w fun e w'=>e=.returned (.bool (inB n (-60000) 60000))∧w=w':=by
 go_enter Tryz.func166,Tryz.ntmps166
 go_wp2_with (go_at_call 77;refine (l00In_any _ _ _ _).mono ?_;rintro e w1 ⟨rfl,rfl⟩)
 go_ret
 exact⟨rfl,rfl⟩
theorem validAntenna_any (x:DAntenna) (vh vv:Value) (w:World) (hh:Rd w.heap.size w (intsT x.horizontal) vh) (hv:Rd w.heap.size w (intsT x.vertical) vv) (k0:x.name.size≤maxLen) (k1:x.horizontal.length≤1099511627776) (k2:x.vertical.length≤1099511627776) :
  Calls Tryz.prog 104 #[.agg #[.string x.name,.int .i64 x.gain,vh,vv]] w fun e w'=>e=.returned (.bool (antB x))∧Below w.heap.size w w':=by
 obtain⟨ah,ch,eh,_,_,hcells⟩:=hh.ints
 obtain⟨av,cv,ev,_,_,vcells⟩:=hv.ints
 subst eh ev
 have b0:Below w.heap.size w (w.alloc (.cells #[.string x.name,.int .i64 x.gain,.slice ah x.horizontal.length ch,.slice av x.vertical.length cv] 147)):=(Below.refl _ _).alloc (Nat.le_refl _) _
 have HH:Hid (∀ W:World,Below w.heap.size w W→Calls Tryz.prog 102 #[.slice ah x.horizontal.length ch,.int .i64 0,.int .i64 60000] W fun e w'=>e=.returned (.bool (x.horizontal.all fun n=>inB n 0 60000))∧Below W.heap.size W w'):=fun W hW=>allWithin_any x.horizontal 0 60000 _ w.heap.size W (hh.below hW) hW.size (by omega)
 have HV:Hid (∀ W:World,Below w.heap.size w W→Calls Tryz.prog 102 #[.slice av x.vertical.length cv,.int .i64 0,.int .i64 60000] W fun e w'=>e=.returned (.bool (x.vertical.all fun n=>inB n 0 60000))∧Below W.heap.size W w'):=fun W hW=>allWithin_any x.vertical 0 60000 _ w.heap.size W (hv.below hW) hW.size (by omega)
 have B0:=Lib.hid b0
 have FH:Hid (∀ q,((x.horizontal.length:Int) == 36)=true→q<36→∃ b off,ah=some ⟨b,off,none⟩∧b<w.heap.size∧w.cell? ⟨b,off+q,none⟩=some (.int .i64 (gi x.horizontal q))):=fun q hq hlt=>by
  have hl:x.horizontal.length=36:=beq_len hq
  obtain⟨b,off,e1,hb,hat⟩:=hcells (by omega)
  refine⟨b,off,e1,hb,?_⟩
  rw[hat q (by omega),gi_eq]
 have FV:Hid (∀ q,((x.vertical.length:Int) == 19)=true→q<19→∃ b off,av=some ⟨b,off,none⟩∧b<w.heap.size∧w.cell? ⟨b,off+q,none⟩=some (.int .i64 (gi x.vertical q))):=fun q hq hlt=>by
  have hl:x.vertical.length=19:=beq_len hq
  obtain⟨b,off,e1,hb,hat⟩:=vcells (by omega)
  refine⟨b,off,e1,hb,?_⟩
  rw[hat q (by omega),gi_eq]
 clear hcells vcells b0 hh hv
 by_cases h0:nameB x.name=true
 ·skip
  by_cases h1:inB x.gain (-60000) 60000=true
  ·skip
   by_cases h2:((x.horizontal.length:Int) == 36)=true
   ·skip
    by_cases h3:((x.vertical.length:Int) == 19)=true
    ·skip
     by_cases h4:(x.horizontal.all fun n=>inB n 0 60000)=true
     ·skip
      by_cases h5:(x.vertical.all fun n=>inB n 0 60000)=true
      ·skip
       by_cases h6:(gi x.horizontal 0 == 0)=true
       ·skip
        by_cases h7:(gi x.vertical 9 == 0)=true
        ·skip
         have HE:Hid (antB x=true):=by show _=_;unfold antB;simp only[h0,h1,h2,h3,h4,h5,h6,h7]<;>rfl
         obtain⟨bh,oh,rfl,hbh,ch0⟩:=FH.out 0 h2 (by omega)
         obtain⟨bv,ov,rfl,hbv,cv9⟩:=FV.out 9 h3 (by omega)
         have lh:x.horizontal.length=36:=beq_len h2
         have lv:x.vertical.length=19:=beq_len h3
         have lh1:(0:Int)<(x.horizontal.length:Int):=by omega
         have lh2:0<x.horizontal.length:=by omega
         have lv1:(9:Int)<(x.vertical.length:Int):=by omega
         have lv2:9<x.vertical.length:=by omega
         rw[Nat.add_zero] at ch0
         clear lh lv
         clear FH FV
         go_enter Tryz.func104,Tryz.ntmps104
         go_wp2_with (first|(go_at_call 147;refine (isName_any _ _ (by assumption)).mono ?_;rintro e w1 ⟨rfl,rfl⟩)|(go_at_call 148;refine (gainOk_any _ _).mono ?_;rintro e w1 ⟨rfl,rfl⟩)|(go_at_call 102;(with_reducible refine (HH.out _ B0.out).mono ?_);rintro e w2 ⟨rfl,hb2⟩;have B2:=Lib.hid (B0.out.trans (hb2.mono B0.out.size));obtain⟨q2,_,y2⟩:=bcellAt hb2 (b:=w.heap.size) (by simp);have z2:=B2.out.size;clear hb2)|(go_at_call 102;(with_reducible refine (HV.out _ B2.out).mono ?_);rintro e w3 ⟨rfl,hb3⟩;have B3:=Lib.hid (B2.out.trans (hb3.mono B2.out.size));obtain⟨q3,_,y3⟩:=bcellAt hb3 (b:=w.heap.size) y2;have u0:w3.cell? ⟨bh,oh,none⟩=some (.int .i64 (gi x.horizontal 0)):=(bat B3.out bh oh hbh).trans ch0;have u9:w3.cell? ⟨bv,ov+9,none⟩=some (.int .i64 (gi x.vertical 9)):=(bat B3.out bv (ov+9) hbv).trans cv9;clear hb3))
         go_ret
         exact⟨by rw[HE.out];rfl,B3.out⟩
        ·replace h7:(gi x.vertical 9 == 0)=false:=Bool.eq_false_iff.2 h7
         have HE:Hid (antB x=false):=by show _=_;unfold antB;simp only[h0,h1,h2,h3,h4,h5,h6,h7]<;>rfl
         obtain⟨bh,oh,rfl,hbh,ch0⟩:=FH.out 0 h2 (by omega)
         obtain⟨bv,ov,rfl,hbv,cv9⟩:=FV.out 9 h3 (by omega)
         have lh:x.horizontal.length=36:=beq_len h2
         have lv:x.vertical.length=19:=beq_len h3
         have lh1:(0:Int)<(x.horizontal.length:Int):=by omega
         have lh2:0<x.horizontal.length:=by omega
         have lv1:(9:Int)<(x.vertical.length:Int):=by omega
         have lv2:9<x.vertical.length:=by omega
         rw[Nat.add_zero] at ch0
         clear lh lv
         clear FH FV
         go_enter Tryz.func104,Tryz.ntmps104
         go_wp2_with (first|(go_at_call 147;refine (isName_any _ _ (by assumption)).mono ?_;rintro e w1 ⟨rfl,rfl⟩)|(go_at_call 148;refine (gainOk_any _ _).mono ?_;rintro e w1 ⟨rfl,rfl⟩)|(go_at_call 102;(with_reducible refine (HH.out _ B0.out).mono ?_);rintro e w2 ⟨rfl,hb2⟩;have B2:=Lib.hid (B0.out.trans (hb2.mono B0.out.size));obtain⟨q2,_,y2⟩:=bcellAt hb2 (b:=w.heap.size) (by simp);have z2:=B2.out.size;clear hb2)|(go_at_call 102;(with_reducible refine (HV.out _ B2.out).mono ?_);rintro e w3 ⟨rfl,hb3⟩;have B3:=Lib.hid (B2.out.trans (hb3.mono B2.out.size));obtain⟨q3,_,y3⟩:=bcellAt hb3 (b:=w.heap.size) y2;have u0:w3.cell? ⟨bh,oh,none⟩=some (.int .i64 (gi x.horizontal 0)):=(bat B3.out bh oh hbh).trans ch0;have u9:w3.cell? ⟨bv,ov+9,none⟩=some (.int .i64 (gi x.vertical 9)):=(bat B3.out bv (ov+9) hbv).trans cv9;clear hb3))
         go_ret
         exact⟨by rw[HE.out];rfl,B3.out⟩
       ·replace h6:(gi x.horizontal 0 == 0)=false:=Bool.eq_false_iff.2 h6
        have HE:Hid (antB x=false):=by show _=_;unfold antB;simp only[h0,h1,h2,h3,h4,h5,h6]<;>rfl
        obtain⟨bh,oh,rfl,hbh,ch0⟩:=FH.out 0 h2 (by omega)
        obtain⟨bv,ov,rfl,hbv,cv9⟩:=FV.out 9 h3 (by omega)
        have lh:x.horizontal.length=36:=beq_len h2
        have lv:x.vertical.length=19:=beq_len h3
        have lh1:(0:Int)<(x.horizontal.length:Int):=by omega
        have lh2:0<x.horizontal.length:=by omega
        have lv1:(9:Int)<(x.vertical.length:Int):=by omega
        have lv2:9<x.vertical.length:=by omega
        rw[Nat.add_zero] at ch0
        clear lh lv
        clear FH FV
        go_enter Tryz.func104,Tryz.ntmps104
        go_wp2_with (first|(go_at_call 147;refine (isName_any _ _ (by assumption)).mono ?_;rintro e w1 ⟨rfl,rfl⟩)|(go_at_call 148;refine (gainOk_any _ _).mono ?_;rintro e w1 ⟨rfl,rfl⟩)|(go_at_call 102;(with_reducible refine (HH.out _ B0.out).mono ?_);rintro e w2 ⟨rfl,hb2⟩;have B2:=Lib.hid (B0.out.trans (hb2.mono B0.out.size));obtain⟨q2,_,y2⟩:=bcellAt hb2 (b:=w.heap.size) (by simp);have z2:=B2.out.size;clear hb2)|(go_at_call 102;(with_reducible refine (HV.out _ B2.out).mono ?_);rintro e w3 ⟨rfl,hb3⟩;have B3:=Lib.hid (B2.out.trans (hb3.mono B2.out.size));obtain⟨q3,_,y3⟩:=bcellAt hb3 (b:=w.heap.size) y2;have u0:w3.cell? ⟨bh,oh,none⟩=some (.int .i64 (gi x.horizontal 0)):=(bat B3.out bh oh hbh).trans ch0;have u9:w3.cell? ⟨bv,ov+9,none⟩=some (.int .i64 (gi x.vertical 9)):=(bat B3.out bv (ov+9) hbv).trans cv9;clear hb3))
        go_ret
        exact⟨by rw[HE.out];rfl,B3.out⟩
      ·replace h5:(x.vertical.all fun n=>inB n 0 60000)=false:=Bool.eq_false_iff.2 h5
       have HE:Hid (antB x=false):=by show _=_;unfold antB;simp only[h0,h1,h2,h3,h4,h5]<;>rfl
       obtain⟨bh,oh,rfl,hbh,ch0⟩:=FH.out 0 h2 (by omega)
       obtain⟨bv,ov,rfl,hbv,cv9⟩:=FV.out 9 h3 (by omega)
       have lh:x.horizontal.length=36:=beq_len h2
       have lv:x.vertical.length=19:=beq_len h3
       have lh1:(0:Int)<(x.horizontal.length:Int):=by omega
       have lh2:0<x.horizontal.length:=by omega
       have lv1:(9:Int)<(x.vertical.length:Int):=by omega
       have lv2:9<x.vertical.length:=by omega
       rw[Nat.add_zero] at ch0
       clear lh lv
       clear FH FV
       go_enter Tryz.func104,Tryz.ntmps104
       go_wp2_with (first|(go_at_call 147;refine (isName_any _ _ (by assumption)).mono ?_;rintro e w1 ⟨rfl,rfl⟩)|(go_at_call 148;refine (gainOk_any _ _).mono ?_;rintro e w1 ⟨rfl,rfl⟩)|(go_at_call 102;(with_reducible refine (HH.out _ B0.out).mono ?_);rintro e w2 ⟨rfl,hb2⟩;have B2:=Lib.hid (B0.out.trans (hb2.mono B0.out.size));obtain⟨q2,_,y2⟩:=bcellAt hb2 (b:=w.heap.size) (by simp);have z2:=B2.out.size;clear hb2)|(go_at_call 102;(with_reducible refine (HV.out _ B2.out).mono ?_);rintro e w3 ⟨rfl,hb3⟩;have B3:=Lib.hid (B2.out.trans (hb3.mono B2.out.size));obtain⟨q3,_,y3⟩:=bcellAt hb3 (b:=w.heap.size) y2;have u0:w3.cell? ⟨bh,oh,none⟩=some (.int .i64 (gi x.horizontal 0)):=(bat B3.out bh oh hbh).trans ch0;have u9:w3.cell? ⟨bv,ov+9,none⟩=some (.int .i64 (gi x.vertical 9)):=(bat B3.out bv (ov+9) hbv).trans cv9;clear hb3))
       go_ret
       exact⟨by rw[HE.out];rfl,B3.out⟩
     ·replace h4:(x.horizontal.all fun n=>inB n 0 60000)=false:=Bool.eq_false_iff.2 h4
      have HE:Hid (antB x=false):=by show _=_;unfold antB;simp only[h0,h1,h2,h3,h4]<;>rfl
      clear FH FV
      go_enter Tryz.func104,Tryz.ntmps104
      go_wp2_with (first|(go_at_call 147;refine (isName_any _ _ (by assumption)).mono ?_;rintro e w1 ⟨rfl,rfl⟩)|(go_at_call 148;refine (gainOk_any _ _).mono ?_;rintro e w1 ⟨rfl,rfl⟩)|(go_at_call 102;(with_reducible refine (HH.out _ B0.out).mono ?_);rintro e w2 ⟨rfl,hb2⟩;have B2:=Lib.hid (B0.out.trans (hb2.mono B0.out.size));obtain⟨q2,_,y2⟩:=bcellAt hb2 (b:=w.heap.size) (by simp);have z2:=B2.out.size;clear hb2))
      go_ret
      exact⟨by rw[HE.out];rfl,B2.out⟩
    ·replace h3:((x.vertical.length:Int) == 19)=false:=Bool.eq_false_iff.2 h3
     have HE:Hid (antB x=false):=by show _=_;unfold antB;simp only[h0,h1,h2,h3]<;>rfl
     clear FH FV
     go_enter Tryz.func104,Tryz.ntmps104
     go_wp2_with (first|(go_at_call 147;refine (isName_any _ _ (by assumption)).mono ?_;rintro e w1 ⟨rfl,rfl⟩)|(go_at_call 148;refine (gainOk_any _ _).mono ?_;rintro e w1 ⟨rfl,rfl⟩))
     go_ret
     exact⟨by rw[HE.out];rfl,B0.out⟩
   ·replace h2:((x.horizontal.length:Int) == 36)=false:=Bool.eq_false_iff.2 h2
    have HE:Hid (antB x=false):=by show _=_;unfold antB;simp only[h0,h1,h2]<;>rfl
    clear FH FV
    go_enter Tryz.func104,Tryz.ntmps104
    go_wp2_with (first|(go_at_call 147;refine (isName_any _ _ (by assumption)).mono ?_;rintro e w1 ⟨rfl,rfl⟩)|(go_at_call 148;refine (gainOk_any _ _).mono ?_;rintro e w1 ⟨rfl,rfl⟩))
    go_ret
    exact⟨by rw[HE.out];rfl,B0.out⟩
  ·replace h1:inB x.gain (-60000) 60000=false:=Bool.eq_false_iff.2 h1
   have HE:Hid (antB x=false):=by show _=_;unfold antB;simp only[h0,h1]<;>rfl
   clear FH FV
   go_enter Tryz.func104,Tryz.ntmps104
   go_wp2_with (first|(go_at_call 147;refine (isName_any _ _ (by assumption)).mono ?_;rintro e w1 ⟨rfl,rfl⟩)|(go_at_call 148;refine (gainOk_any _ _).mono ?_;rintro e w1 ⟨rfl,rfl⟩))
   go_ret
   exact⟨by rw[HE.out];rfl,B0.out⟩
 ·replace h0:nameB x.name=false:=Bool.eq_false_iff.2 h0
  have HE:Hid (antB x=false):=by show _=_;unfold antB;simp only[h0]<;>rfl
  clear FH FV
  go_enter Tryz.func104,Tryz.ntmps104
  go_wp2_with (first|(go_at_call 147;refine (isName_any _ _ (by assumption)).mono ?_;rintro e w1 ⟨rfl,rfl⟩)|(go_at_call 148;refine (gainOk_any _ _).mono ?_;rintro e w1 ⟨rfl,rfl⟩))
  go_ret
  exact⟨by rw[HE.out];rfl,B0.out⟩
theorem l06Losses_any (l:List Int) (many main:Nat) (v:Value) (B:Nat) (w:World) (h:Rd B w (intsT l) v) (hB:B≤w.heap.size) (hn:l.length≤1099511627776) (hm:main<many) :
  Calls Tryz.prog 167 #[v,.int .i64 many,.int .i64 main] w fun e w'=>e=.returned (.bool (lossesB l many main))∧w=w':=by
 obtain⟨a,c,rfl,hnc,hcm,hcells⟩:=h.ints
 clear h
 by_cases h1:((l.length:Int) == (many:Int))=true
 ·have hl:l.length=many:=beq_len h1
  subst hl
  clear h1
  have HU:Hid (lossesB l l.length main=((gi l main == 0)&&(l.all fun n=>inB n 0 60000))):=by show _=_;unfold lossesB;simp
  have hnb:(l.length:Int)≤1099511627776:=by omega
  have hmi:(main:Int)<(l.length:Int):=by omega
  obtain⟨b,off,rfl,hbl,hat⟩:=hcells (by omega)
  have sm:=hat main hm
  rw[gi_eq] at sm
  have HAT:=Lib.hid hat
  clear hat hcells
  have hne:((l.length:Int) != (l.length:Int))=false:=by simp
  by_cases h2:(gi l main == 0)=true
  ·have h2':(gi l main != 0)=false:=by simpa using h2
   have HE:Hid (lossesB l l.length main=(l.all fun n=>inB n 0 60000)):=by show _=_;rw[HU.out,h2];simp
   clear h2
   go_enter Tryz.func167,Tryz.ntmps167
   go_wp2
   clear hne h2' sm
   go_loop [7] (fun i=>∃ (k:Nat),k≤l.length∧i=.int .i64 k∧(l.take k).all (fun n=>inB n 0 60000)=true) (fun i=>l.length-(intOf i).toNat)
   case atStart=>exact⟨0,Nat.zero_le _,rfl,by simp⟩
   case round =>
    obtain⟨k,hk,rfl,hno⟩:=hrel
    have HN:=Lib.hid hno
    clear hno
    by_cases hlt:k<l.length
    ·have s0:=HAT.out k hlt
     have HA:=Lib.hid (all_take_succ (fun n=>inB n 0 60000) l k hlt)
     by_cases hp:inB l[k] 0 60000=true
     ·have HP:=Lib.hid hp
      go_wp2_with (go_at_call 77;refine (l00In_any _ _ _ _).mono ?_;rintro e w1 ⟨rfl,rfl⟩)
      go_round
      case rel=>exact⟨k+1,by omega,by go_num,by rw[HA.out,HN.out,HP.out];rfl⟩
      case measure=>simp[intOf];omega
     ·have hp':inB l[k] 0 60000=false:=Bool.eq_false_iff.2 hp
      have HF:=Lib.hid (all_false_at (fun n=>inB n 0 60000) l k hlt hp')
      clear hp
      go_wp2_with (go_at_call 77;refine (l00In_any _ _ _ _).mono ?_;rintro e w1 ⟨rfl,rfl⟩)
      go_ret
      exact⟨by rw[HE.out,HF.out];rfl,rfl⟩
    ·obtain rfl:k=l.length:=by omega
     go_wp2
     go_ret
     have:=HN.out
     rw[List.take_length] at this
     exact⟨by rw[HE.out,this];rfl,rfl⟩
  ·have h2':(gi l main != 0)=true:=by simpa using h2
   have HE:Hid (lossesB l l.length main=false):=by show _=_;rw[HU.out,Bool.eq_false_iff.2 h2];rfl
   clear h2
   go_enter Tryz.func167,Tryz.ntmps167
   go_wp2
   go_ret
   exact⟨by rw[HE.out];rfl,rfl⟩
 ·have h1':((l.length:Int) != (many:Int))=true:=by simpa using h1
  have HE:Hid (lossesB l many main=false):=by show _=_;unfold lossesB;rw[Bool.eq_false_iff.2 h1];rfl
  clear h1 hcells
  go_enter Tryz.func167,Tryz.ntmps167
  go_wp2
  go_ret
  exact⟨by rw[HE.out];rfl,rfl⟩
theorem l06Ok_any (x:DAntenna) (vh vv:Value) (b off B:Nat) (w:World) (hh:Rd B w (intsT x.horizontal) vh) (hv:Rd B w (intsT x.vertical) vv) (hB:B≤w.heap.size) (c0:w.cell? ⟨b,off,none⟩=some (.string x.name)) (c1:w.cell? ⟨b,off+1,none⟩=some (.int .i64 x.gain)) (c2:w.cell? ⟨b,off+2,none⟩=some vh) (c3:w.cell? ⟨b,off+3,none⟩=some vv) (k0:x.name.size≤maxLen) (k1:x.horizontal.length≤1099511627776) (k2:x.vertical.length≤1099511627776) :
  Calls Tryz.prog 127 #[.pointer (some ⟨b,off,none⟩)] w fun e w'=>e=.returned (.bool (antB x))∧w=w':=by
 have HLH:Hid (Calls Tryz.prog 167 #[vh,.int .i64 36,.int .i64 0] w fun e w'=>e=.returned (.bool (lossesB x.horizontal 36 0))∧w=w'):=l06Losses_any x.horizontal 36 0 vh B w hh hB k1 (by omega)
 have HLV:Hid (Calls Tryz.prog 167 #[vv,.int .i64 19,.int .i64 9] w fun e w'=>e=.returned (.bool (lossesB x.vertical 19 9))∧w=w'):=l06Losses_any x.vertical 19 9 vv B w hv hB k2 (by omega)
 clear hh hv
 by_cases h0:nameB x.name=true
 ·skip
  by_cases h1:inB x.gain (-60000) 60000=true
  ·skip
   by_cases h2:lossesB x.horizontal 36 0=true
   ·skip
    by_cases h3:lossesB x.vertical 19 9=true
    ·skip
     have HE:Hid (antB x=true):=by show _=_;rw[antB_eq];simp only[h0,h1,h2,h3]<;>rfl
     go_enter Tryz.func127,Tryz.ntmps127
     go_wp2_with (first|(go_at_call 129;refine (l01Name_any _ _ (by assumption)).mono ?_;rintro e w1 ⟨rfl,rfl⟩)|(go_at_call 166;refine (l06Gain_any _ _).mono ?_;rintro e w1 ⟨rfl,rfl⟩)|(go_at_call 167;(with_reducible refine (HLH.out).mono ?_);rintro e w1 ⟨rfl,rfl⟩)|(go_at_call 167;(with_reducible refine (HLV.out).mono ?_);rintro e w1 ⟨rfl,rfl⟩))
     go_ret
     exact⟨by rw[HE.out];rfl,by rfl⟩
    ·replace h3:lossesB x.vertical 19 9=false:=Bool.eq_false_iff.2 h3
     have HE:Hid (antB x=false):=by show _=_;rw[antB_eq];simp only[h0,h1,h2,h3]<;>rfl
     go_enter Tryz.func127,Tryz.ntmps127
     go_wp2_with (first|(go_at_call 129;refine (l01Name_any _ _ (by assumption)).mono ?_;rintro e w1 ⟨rfl,rfl⟩)|(go_at_call 166;refine (l06Gain_any _ _).mono ?_;rintro e w1 ⟨rfl,rfl⟩)|(go_at_call 167;(with_reducible refine (HLH.out).mono ?_);rintro e w1 ⟨rfl,rfl⟩)|(go_at_call 167;(with_reducible refine (HLV.out).mono ?_);rintro e w1 ⟨rfl,rfl⟩))
     go_ret
     exact⟨by rw[HE.out];rfl,by rfl⟩
   ·replace h2:lossesB x.horizontal 36 0=false:=Bool.eq_false_iff.2 h2
    have HE:Hid (antB x=false):=by show _=_;rw[antB_eq];simp only[h0,h1,h2]<;>rfl
    go_enter Tryz.func127,Tryz.ntmps127
    go_wp2_with (first|(go_at_call 129;refine (l01Name_any _ _ (by assumption)).mono ?_;rintro e w1 ⟨rfl,rfl⟩)|(go_at_call 166;refine (l06Gain_any _ _).mono ?_;rintro e w1 ⟨rfl,rfl⟩)|(go_at_call 167;(with_reducible refine (HLH.out).mono ?_);rintro e w1 ⟨rfl,rfl⟩)|(go_at_call 167;(with_reducible refine (HLV.out).mono ?_);rintro e w1 ⟨rfl,rfl⟩))
    go_ret
    exact⟨by rw[HE.out];rfl,by rfl⟩
  ·replace h1:inB x.gain (-60000) 60000=false:=Bool.eq_false_iff.2 h1
   have HE:Hid (antB x=false):=by show _=_;rw[antB_eq];simp only[h0,h1]<;>rfl
   go_enter Tryz.func127,Tryz.ntmps127
   go_wp2_with (first|(go_at_call 129;refine (l01Name_any _ _ (by assumption)).mono ?_;rintro e w1 ⟨rfl,rfl⟩)|(go_at_call 166;refine (l06Gain_any _ _).mono ?_;rintro e w1 ⟨rfl,rfl⟩)|(go_at_call 167;(with_reducible refine (HLH.out).mono ?_);rintro e w1 ⟨rfl,rfl⟩)|(go_at_call 167;(with_reducible refine (HLV.out).mono ?_);rintro e w1 ⟨rfl,rfl⟩))
   go_ret
   exact⟨by rw[HE.out];rfl,by rfl⟩
 ·replace h0:nameB x.name=false:=Bool.eq_false_iff.2 h0
  have HE:Hid (antB x=false):=by show _=_;rw[antB_eq];simp only[h0]<;>rfl
  go_enter Tryz.func127,Tryz.ntmps127
  go_wp2_with (first|(go_at_call 129;refine (l01Name_any _ _ (by assumption)).mono ?_;rintro e w1 ⟨rfl,rfl⟩)|(go_at_call 166;refine (l06Gain_any _ _).mono ?_;rintro e w1 ⟨rfl,rfl⟩)|(go_at_call 167;(with_reducible refine (HLH.out).mono ?_);rintro e w1 ⟨rfl,rfl⟩)|(go_at_call 167;(with_reducible refine (HLV.out).mono ?_);rintro e w1 ⟨rfl,rfl⟩))
  go_ret
  exact⟨by rw[HE.out];rfl,by rfl⟩
end Go.Proofs.YtdgmgchdjlfchaaGreatDoor
