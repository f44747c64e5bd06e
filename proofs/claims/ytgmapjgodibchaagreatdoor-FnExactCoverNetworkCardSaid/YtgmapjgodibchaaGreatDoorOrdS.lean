/- The order of texts, and where a name belongs in a row of rising names. Plain lemmas; no program. -/
import Derived.Test.YtgmapjgodibchaaGreatDoorProb1
import Derived.WalkLawsBesides
set_option linter.unusedVariables false
set_option linter.unusedSimpArgs false
namespace Go.Proofs.YtgmapjgodibchaaGreatDoor
open Go.RowKit
def zdq (n:Int):Bool:=decide (97≤n)&&decide (n≤122)
def digitN (n:Int):Bool:=decide (48≤n)&&decide (n≤57)
def zff (n:Int):Bool:=zdq n || digitN n
def zea (s:ByteArray):List Int:=s.data.toList.map fun c=>(c.toNat:Int)
theorem zeg (s:ByteArray):(zea s).length=s.size:=by rw[zea,List.length_map,Array.length_toList];rfl
theorem toList_len (s:ByteArray):s.toList.length=s.size:=by rw[ByteArray.toList_eq,Array.length_toList];rfl
theorem bytesN_get (s:ByteArray) (k:Nat) (h:k<s.size):(zea s)[k]'(by rw[zeg];exact h)=(s[k].toNat:Int):=by
 simp only[zea,List.getElem_map,Array.getElem_toList];rfl
def zbt (s:ByteArray):Bool:=decide (1≤s.size)&&(decide (s.size≤10)&&(((zea s).take 1).all zdq&&(zea s).all zff))
theorem smallN_true {n:Int} : zdq n=true↔97≤n∧n≤122:=by simp[zdq]
theorem digitN_true {n:Int} : digitN n=true↔48≤n∧n≤57:=by simp[digitN]
theorem nameN_true {n:Int} : zff n=true↔(97≤n∧n≤122)∨(48≤n∧n≤57):=by simp[zff,smallN_true,digitN_true]
theorem nameN_false {n:Int} : zff n=false↔¬ ((97≤n∧n≤122)∨(48≤n∧n≤57)):=by rw[← nameN_true];simp
theorem smallN_false {n:Int} : zdq n=false↔¬ (97≤n∧n≤122):=by rw[← smallN_true];simp
theorem zdn {α:Type} (p:α→Bool) (l:List α) (k:Nat) (h:k<l.length):(l.take (k+1)).all p=((l.take k).all p&&p l[k]):=by
 rw[List.take_succ_eq_append_getElem h,List.all_append];simp
theorem all_false_at {α:Type} (p:α→Bool) (l:List α) (k:Nat) (h:k<l.length) (hp:p l[k]=false):l.all p=false:=by
 rw[List.all_eq_false];exact⟨l[k],List.getElem_mem h,by simp[hp]⟩
theorem size_zero {s:ByteArray} (h:s.size=0):s=⟨#[]⟩:=by
 obtain⟨⟨l⟩⟩:=s;have:l.length=0:=h;rw[List.length_eq_zero_iff.1 this]
theorem take1 (s:ByteArray) (h:0<s.size):(zea s).take 1 = [(s[0].toNat:Int)]:=by
 have h':0<(zea s).length:=by rw[zeg];exact h
 have:=List.take_succ_eq_append_getElem h';rw[List.take_zero,List.nil_append] at this;rw[this,bytesN_get s 0 h]
theorem nameB_short {s:ByteArray} (h:s.size<1):zbt s=false:=by unfold zbt;rw[decide_eq_false O];rfl
theorem nameB_long {s:ByteArray} (h:10<s.size):zbt s=false:=by unfold zbt;rw[decide_eq_false (p:=s.size≤10) O];simp
theorem nameB_first {s:ByteArray} (h:0<s.size) (hs:zdq (s[0].toNat:Int)=false):zbt s=false:=by
 unfold zbt;rw[take1 s h];simp[hs]
theorem nameB_rest {s:ByteArray} (h:0<s.size) (h2:s.size≤10) (hs:zdq (s[0].toNat:Int)=true):zbt s=(zea s).all zff:=by
 unfold zbt;rw[take1 s h,decide_eq_true O,decide_eq_true h2];simp[hs]
theorem onlyNameBytes_any (s:ByteArray) (w:World) (hs:s.size≤1099511627776) :
  Calls Tryz.prog 155 #[F s] w fun e w'=>e=.returned (.bool ((zea s).all zff))∧w=w':=by
 have hnb:(s.size:Int)≤1099511627776:=O
 go_enter Tryz.func155,Tryz.ntmps155;go_wp2
 go_loop [7] (fun i=>∃ (k:Nat),k≤s.size∧i=I k∧((zea s).take k).all zff=true) (fun i=>s.size-(intOf i).toNat)
 case atStart=>exact⟨0,Nat.zero_le _,rfl,by simp⟩
 case round =>
  obtain⟨k,hk,rfl,hno⟩:=hrel;have HN:=J hno;clear hno
  by_cases hlt:k<s.size
  ·have hlt':k<(zea s).length:=by rw[zeg];exact hlt
   have hg:=bytesN_get s k hlt;have HG:=J hg;clear hg
   by_cases hp:zff (s[k].toNat:Int)=true
   ·have hp':=nameN_true.1 hp
    have HP:=J hp;clear hp
    rcases hp' with ⟨h1,h2⟩|⟨h1,h2⟩
    ·go_wp2
     all_goals
      go_round
      case rel=>exact⟨k+1,O,by go_num,by rw[zdn _ _ k hlt',HN.out,HG.out,HP.out];rfl⟩
      case measure=>simp[intOf];omega
    ·have h3:(s[k].toNat:Int)<97:=O
     go_wp2
     all_goals
      go_round
      case rel=>exact⟨k+1,O,by go_num,by rw[zdn _ _ k hlt',HN.out,HG.out,HP.out];rfl⟩
      case measure=>simp[intOf];omega
   ·have hp0:zff (s[k].toNat:Int)=false:=Bool.eq_false_iff.2 hp
    have hp':=nameN_false.1 hp0;have HE:=J (all_false_at zff (zea s) k hlt' (by rw[HG.out];exact hp0));clear hp hp0
    rcases Int.lt_or_le (s[k].toNat:Int) 48 with h1|h1
    ·have h3:(s[k].toNat:Int)<97:=O
     clear hp';go_wp2;go_ret;exact⟨by rw[HE.out];rfl,rfl⟩
    ·rcases Int.lt_or_le (s[k].toNat:Int) 97 with h2|h2
     ·have h3:57<(s[k].toNat:Int):=O
      clear hp';go_wp2;go_ret;exact⟨by rw[HE.out];rfl,rfl⟩
     ·have h3:122<(s[k].toNat:Int):=O
      have h4:57<(s[k].toNat:Int):=O
      clear hp';go_wp2;go_ret;exact⟨by rw[HE.out];rfl,rfl⟩
  ·obtain rfl:k=s.size:=O
   go_wp2;go_ret;have:=HN.out;rw[← zeg,List.take_length] at this;exact⟨by rw[this];rfl,rfl⟩
theorem zay (s:ByteArray) (w:World) (hs:s.size≤maxLen) :
  Calls Tryz.prog 120 #[F s] w fun e w'=>e=.returned (.bool (zbt s))∧w=w':=by
 unfold maxLen at hs
 by_cases h1:s.size<1
 ·have HE:=J (nameB_short h1)
  have h1':(s.size:Int)<1:=O
  go_enter Tryz.func120,Tryz.ntmps120;go_wp2;go_ret;exact⟨by rw[HE.out];rfl,rfl⟩
 ·by_cases h2:10<s.size
  ·have HE:=J (nameB_long h2)
   have h1':1≤s.size:=O
   clear h1;go_enter Tryz.func120,Tryz.ntmps120;go_wp2;go_ret;exact⟨by rw[HE.out];rfl,rfl⟩
  ·have h0:0<s.size:=O
   have h1':1≤s.size:=O
   have h2':s.size≤10:=O
   clear h1 h2
   by_cases h3:zdq (s[0].toNat:Int)=true
   ·have HE:=J (nameB_rest h0 h2' h3)
    obtain⟨h4,h5⟩:=smallN_true.1 h3;clear h3;go_enter Tryz.func120,Tryz.ntmps120;go_wp2_with (go_at_call 155;refine (onlyNameBytes_any s _ O).mono ?_;rintro e w1 ⟨rfl,rfl⟩);go_ret;exact⟨by rw[HE.out];rfl,rfl⟩
   ·have h3':zdq (s[0].toNat:Int)=false:=Bool.eq_false_iff.2 h3
    have HE:=J (nameB_first h0 h3');have h4:=smallN_false.1 h3';clear h3 h3'
    rcases Int.lt_or_le (s[0].toNat:Int) 97 with h5|h5
    ·clear h4
     go_enter Tryz.func120,Tryz.ntmps120;go_wp2;go_ret;exact⟨by rw[HE.out];rfl,rfl⟩
    ·have h6:122<(s[0].toNat:Int):=O
     clear h4;go_enter Tryz.func120,Tryz.ntmps120;go_wp2;go_ret;exact⟨by rw[HE.out];rfl,rfl⟩
theorem zd0 (n:Int) (w:World):Calls Tryz.prog 190 #[.int .u8 n] w fun e w'=>e=.returned (.bool (zdq n))∧w=w':=by
 by_cases h1:97≤n
 ·have e:zdq n=decide (n≤122):=by unfold zdq;simp[h1]
  rw[e];clear e;go_enter Tryz.func190,Tryz.ntmps190;go_wp2;go_ret;exact⟨rfl,rfl⟩
 ·have e:zdq n=false:=by unfold zdq;simp[h1]
  rw[e];clear e;go_enter Tryz.func190,Tryz.ntmps190;go_wp2;go_ret;exact⟨rfl,rfl⟩
theorem l01Digit_any (n:Int) (w:World):Calls Tryz.prog 191 #[.int .u8 n] w fun e w'=>e=.returned (.bool (digitN n))∧w=w':=by
 by_cases h1:48≤n
 ·have e:digitN n=decide (n≤57):=by unfold digitN;simp[h1]
  rw[e];clear e;go_enter Tryz.func191,Tryz.ntmps191;go_wp2;go_ret;exact⟨rfl,rfl⟩
 ·have e:digitN n=false:=by unfold digitN;simp[h1]
  rw[e];clear e;go_enter Tryz.func191,Tryz.ntmps191;go_wp2;go_ret;exact⟨rfl,rfl⟩
theorem zau (s:ByteArray) (w:World) (hs:s.size≤maxLen) :
  Calls Tryz.prog 149 #[F s] w fun e w'=>e=.returned (.bool (zbt s))∧w=w':=by
 unfold maxLen at hs
 by_cases h1:s.size<1
 ·have HE:=J (nameB_short h1)
  obtain rfl:=size_zero (s:=s) O;clear h1;go_enter Tryz.func149,Tryz.ntmps149;go_wp2;go_ret;exact⟨by rw[HE.out];rfl,rfl⟩
 ·have h0:0<s.size:=O
  have hemp:s.toList.isEmpty=false:=by
   rw[List.isEmpty_eq_false_iff];intro e;have:s.toList.length=0:=by rw[e];rfl
   rw[toList_len] at this;omega
  have hemp2:(s.toList == [])=false:=by
   rw[beq_eq_false_iff_ne];intro e;rw[e] at hemp
   cases hemp
  by_cases h2:10<s.size
  ·have HE:=J (nameB_long h2)
   clear h1;go_enter Tryz.func149,Tryz.ntmps149;go_wp2;go_ret;exact⟨by rw[HE.out];rfl,rfl⟩
  ·have h2':s.size≤10:=O
   clear h1 h2
   by_cases h3:zdq (s[0].toNat:Int)=true
   ·have HE:=J (nameB_rest h0 h2' h3)
    go_enter Tryz.func149,Tryz.ntmps149;go_wp2_with (go_at_call 190;refine (zd0 _ _).mono ?_;rintro e w1 ⟨rfl,rfl⟩)
    go_loop [3] (fun i=>∃ (k:Nat),k≤s.size∧i=I k∧((zea s).take k).all zff=true) (fun i=>s.size-(intOf i).toNat)
    case atStart=>exact⟨0,Nat.zero_le _,rfl,by simp⟩
    case round =>
     obtain⟨k,hk,rfl,hno⟩:=hrel;have HN:=J hno;clear hno h3
     by_cases hlt:k<s.size
     ·have hlt':k<(zea s).length:=by rw[zeg];exact hlt
      have HG:=J (bytesN_get s k hlt)
      by_cases hp:zdq (s[k].toNat:Int)=true
      ·have HP:Hid (zff (s[k].toNat:Int)=true):=by show zff _=true;unfold zff;rw[hp];rfl
       go_wp2_with (go_at_call 190;refine (zd0 _ _).mono ?_;rintro e w1 ⟨rfl,rfl⟩)
       go_round
       case rel=>exact⟨k+1,O,by go_num,by rw[zdn _ _ k hlt',HN.out,HG.out,HP.out];rfl⟩
       case measure=>simp[intOf];omega
      ·have hp':zdq (s[k].toNat:Int)=false:=Bool.eq_false_iff.2 hp
       clear hp
       by_cases hd:digitN (s[k].toNat:Int)=true
       ·have HP:Hid (zff (s[k].toNat:Int)=true):=by show zff _=true;unfold zff;rw[hd];simp
        go_wp2_with (first|(go_at_call 190;refine (zd0 _ _).mono ?_;rintro e w1 ⟨rfl,rfl⟩)|(go_at_call 191;refine (l01Digit_any _ _).mono ?_;rintro e w1 ⟨rfl,rfl⟩))
        go_round
        case rel=>exact⟨k+1,O,by go_num,by rw[zdn _ _ k hlt',HN.out,HG.out,HP.out];rfl⟩
        case measure=>simp[intOf];omega
       ·have hd':digitN (s[k].toNat:Int)=false:=Bool.eq_false_iff.2 hd
        clear hd;have HE2:=J (all_false_at zff (zea s) k hlt' (by rw[HG.out];unfold zff;rw[hp',hd'];rfl));go_wp2_with (first|(go_at_call 190;refine (zd0 _ _).mono ?_;rintro e w1 ⟨rfl,rfl⟩)|(go_at_call 191;refine (l01Digit_any _ _).mono ?_;rintro e w1 ⟨rfl,rfl⟩));go_ret;exact⟨by rw[HE.out,HE2.out];rfl,rfl⟩
     ·obtain rfl:k=s.size:=O
      go_wp2;go_ret;have:=HN.out;rw[← zeg,List.take_length] at this;exact⟨by rw[HE.out,this];rfl,rfl⟩
   ·have h3':zdq (s[0].toNat:Int)=false:=Bool.eq_false_iff.2 h3
    have HE:=J (nameB_first h0 h3');clear h3;go_enter Tryz.func149,Tryz.ntmps149;go_wp2_with (go_at_call 190;refine (zd0 _ _).mono ?_;rintro e w1 ⟨rfl,rfl⟩);go_ret;exact⟨by rw[HE.out];rfl,rfl⟩
set_option maxHeartbeats 4000000
set_option maxRecDepth 100000
def zdj (p:DPoint):Bool:=inB p.x 0 200000&&inB p.y 0 200000
def zbw (x:DSite):Bool:=zbt x.name&&(zbt x.holder&&zdj x.place)
def zan (x:DSector):Bool:=zbt x.name&&(zbt x.site&&(zbt x.antenna&&(zbt x.radio&&(zbt x.band&&(inB x.azimuth 0 359&&(inB x.tilt 0 30&&(inB x.above 1 3000&&inB x.channel (-1) 999)))))))
theorem zdu (p:DPoint) (w:World) :
  Calls Tryz.prog 139 #[.agg #[I p.x,I p.y]] w fun e w'=>e=.returned (.bool (zdj p))∧IJ w w w':=by
 by_cases h0:inB p.x 0 200000=true
 ·skip
  by_cases h1:inB p.y 0 200000=true
  ·skip
   have HE:Hid (zdj p=true):=by show _=_;unfold zdj;simp only[h0,h1]<;>rfl
   go_enter Tryz.func139,Tryz.ntmps139;go_wp2_with (first|(go_at_call 54;refine (zao _ _ _ _).mono ?_;rintro e w1 ⟨rfl,rfl⟩));go_ret;exact⟨by rw[HE.out];rfl,by exact (Below.refl _ _).alloc (Nat.le_refl _) _⟩
  ·replace h1:inB p.y 0 200000=false:=Bool.eq_false_iff.2 h1
   have HE:Hid (zdj p=false):=by show _=_;unfold zdj;simp only[h0,h1]<;>rfl
   go_enter Tryz.func139,Tryz.ntmps139;go_wp2_with (first|(go_at_call 54;refine (zao _ _ _ _).mono ?_;rintro e w1 ⟨rfl,rfl⟩));go_ret;exact⟨by rw[HE.out];rfl,by exact (Below.refl _ _).alloc (Nat.le_refl _) _⟩
 ·replace h0:inB p.x 0 200000=false:=Bool.eq_false_iff.2 h0
  have HE:Hid (zdj p=false):=by show _=_;unfold zdj;simp only[h0]<;>rfl
  go_enter Tryz.func139,Tryz.ntmps139;go_wp2_with (first|(go_at_call 54;refine (zao _ _ _ _).mono ?_;rintro e w1 ⟨rfl,rfl⟩));go_ret;exact⟨by rw[HE.out];rfl,by exact (Below.refl _ _).alloc (Nat.le_refl _) _⟩
theorem l03Ok_any (p:DPoint) (w:World) :
  Calls Tryz.prog 169 #[.agg #[I p.x,I p.y]] w fun e w'=>e=.returned (.bool (zdj p))∧IJ w w w':=by
 by_cases h0:inB p.x 0 200000=true
 ·skip
  by_cases h1:inB p.y 0 200000=true
  ·skip
   have HE:Hid (zdj p=true):=by show _=_;unfold zdj;simp only[h0,h1]<;>rfl
   go_enter Tryz.func169,Tryz.ntmps169;go_wp2_with (first|(go_at_call 89;refine (zaq _ _ _ _).mono ?_;rintro e w1 ⟨rfl,rfl⟩));go_ret;exact⟨by rw[HE.out];rfl,by exact (Below.refl _ _).alloc (Nat.le_refl _) _⟩
  ·replace h1:inB p.y 0 200000=false:=Bool.eq_false_iff.2 h1
   have HE:Hid (zdj p=false):=by show _=_;unfold zdj;simp only[h0,h1]<;>rfl
   go_enter Tryz.func169,Tryz.ntmps169;go_wp2_with (first|(go_at_call 89;refine (zaq _ _ _ _).mono ?_;rintro e w1 ⟨rfl,rfl⟩));go_ret;exact⟨by rw[HE.out];rfl,by exact (Below.refl _ _).alloc (Nat.le_refl _) _⟩
 ·replace h0:inB p.x 0 200000=false:=Bool.eq_false_iff.2 h0
  have HE:Hid (zdj p=false):=by show _=_;unfold zdj;simp only[h0]<;>rfl
  go_enter Tryz.func169,Tryz.ntmps169;go_wp2_with (first|(go_at_call 89;refine (zaq _ _ _ _).mono ?_;rintro e w1 ⟨rfl,rfl⟩));go_ret;exact⟨by rw[HE.out];rfl,by exact (Below.refl _ _).alloc (Nat.le_refl _) _⟩
theorem siteValid_any (x:DSite) (k0:x.name.size≤maxLen) (k1:x.holder.size≤maxLen) (w:World) :
  Calls Tryz.prog 101 #[.agg #[F x.name,F x.holder,I x.place.x,I x.place.y]] w fun e w'=>e=.returned (.bool (zbw x))∧IJ w w w':=by
 by_cases h0:zbt x.name=true
 ·skip
  by_cases h1:zbt x.holder=true
  ·skip
   by_cases h2:zdj x.place=true
   ·skip
    have HE:Hid (zbw x=true):=by show _=_;unfold zbw;simp only[h0,h1,h2]<;>rfl
    go_enter Tryz.func101,Tryz.ntmps101;go_wp2_with (first|(go_at_call 120;refine (zay _ _ (by assumption)).mono ?_;rintro e w1 ⟨rfl,rfl⟩)|(go_at_call 139;refine (zdu x.place _).mono ?_;rintro e w2 ⟨rfl,hb2⟩));go_ret;exact⟨by rw[HE.out];rfl,by first|exact (Below.refl _ _).alloc (Nat.le_refl _) _|exact ((Below.refl _ _).alloc (Nat.le_refl _) _).trans (hb2.mono (by simp))⟩
   ·replace h2:zdj x.place=false:=Bool.eq_false_iff.2 h2
    have HE:Hid (zbw x=false):=by show _=_;unfold zbw;simp only[h0,h1,h2]<;>rfl
    go_enter Tryz.func101,Tryz.ntmps101;go_wp2_with (first|(go_at_call 120;refine (zay _ _ (by assumption)).mono ?_;rintro e w1 ⟨rfl,rfl⟩)|(go_at_call 139;refine (zdu x.place _).mono ?_;rintro e w2 ⟨rfl,hb2⟩));go_ret;exact⟨by rw[HE.out];rfl,by first|exact (Below.refl _ _).alloc (Nat.le_refl _) _|exact ((Below.refl _ _).alloc (Nat.le_refl _) _).trans (hb2.mono (by simp))⟩
  ·replace h1:zbt x.holder=false:=Bool.eq_false_iff.2 h1
   have HE:Hid (zbw x=false):=by show _=_;unfold zbw;simp only[h0,h1]<;>rfl
   go_enter Tryz.func101,Tryz.ntmps101;go_wp2_with (first|(go_at_call 120;refine (zay _ _ (by assumption)).mono ?_;rintro e w1 ⟨rfl,rfl⟩)|(go_at_call 139;refine (zdu x.place _).mono ?_;rintro e w2 ⟨rfl,hb2⟩));go_ret;exact⟨by rw[HE.out];rfl,by first|exact (Below.refl _ _).alloc (Nat.le_refl _) _|exact ((Below.refl _ _).alloc (Nat.le_refl _) _).trans (hb2.mono (by simp))⟩
 ·replace h0:zbt x.name=false:=Bool.eq_false_iff.2 h0
  have HE:Hid (zbw x=false):=by show _=_;unfold zbw;simp only[h0]<;>rfl
  go_enter Tryz.func101,Tryz.ntmps101;go_wp2_with (first|(go_at_call 120;refine (zay _ _ (by assumption)).mono ?_;rintro e w1 ⟨rfl,rfl⟩)|(go_at_call 139;refine (zdu x.place _).mono ?_;rintro e w2 ⟨rfl,hb2⟩));go_ret;exact⟨by rw[HE.out];rfl,by first|exact (Below.refl _ _).alloc (Nat.le_refl _) _|exact ((Below.refl _ _).alloc (Nat.le_refl _) _).trans (hb2.mono (by simp))⟩
theorem l14Site_any (x:DSite) (b off:Nat) (w:World) (c0:w.cell? ⟨b,off,none⟩=some (F x.name)) (c1:w.cell? ⟨b,off+1,none⟩=some (F x.holder)) (c2:w.cell? ⟨b,off+2,none⟩=some (I x.place.x)) (c3:w.cell? ⟨b,off+3,none⟩=some (I x.place.y)) (k0:x.name.size≤maxLen) (k1:x.holder.size≤maxLen) :
  Calls Tryz.prog 130 #[.pointer (some ⟨b,off,none⟩)] w fun e w'=>e=.returned (.bool (zbw x))∧IJ w w w':=by
 by_cases h0:zbt x.name=true
 ·skip
  by_cases h1:zbt x.holder=true
  ·skip
   by_cases h2:zdj x.place=true
   ·skip
    have HE:Hid (zbw x=true):=by show _=_;unfold zbw;simp only[h0,h1,h2]<;>rfl
    go_enter Tryz.func130,Tryz.ntmps130;go_wp2_with (first|(go_at_call 149;refine (zau _ _ (by assumption)).mono ?_;rintro e w1 ⟨rfl,rfl⟩)|(go_at_call 169;refine (l03Ok_any x.place _).mono ?_;rintro e w2 ⟨rfl,hb2⟩));go_ret;exact⟨by rw[HE.out];rfl,by first|exact Below.refl _ _|exact hb2⟩
   ·replace h2:zdj x.place=false:=Bool.eq_false_iff.2 h2
    have HE:Hid (zbw x=false):=by show _=_;unfold zbw;simp only[h0,h1,h2]<;>rfl
    go_enter Tryz.func130,Tryz.ntmps130;go_wp2_with (first|(go_at_call 149;refine (zau _ _ (by assumption)).mono ?_;rintro e w1 ⟨rfl,rfl⟩)|(go_at_call 169;refine (l03Ok_any x.place _).mono ?_;rintro e w2 ⟨rfl,hb2⟩));go_ret;exact⟨by rw[HE.out];rfl,by first|exact Below.refl _ _|exact hb2⟩
  ·replace h1:zbt x.holder=false:=Bool.eq_false_iff.2 h1
   have HE:Hid (zbw x=false):=by show _=_;unfold zbw;simp only[h0,h1]<;>rfl
   go_enter Tryz.func130,Tryz.ntmps130;go_wp2_with (first|(go_at_call 149;refine (zau _ _ (by assumption)).mono ?_;rintro e w1 ⟨rfl,rfl⟩)|(go_at_call 169;refine (l03Ok_any x.place _).mono ?_;rintro e w2 ⟨rfl,hb2⟩));go_ret;exact⟨by rw[HE.out];rfl,by first|exact Below.refl _ _|exact hb2⟩
 ·replace h0:zbt x.name=false:=Bool.eq_false_iff.2 h0
  have HE:Hid (zbw x=false):=by show _=_;unfold zbw;simp only[h0]<;>rfl
  go_enter Tryz.func130,Tryz.ntmps130;go_wp2_with (first|(go_at_call 149;refine (zau _ _ (by assumption)).mono ?_;rintro e w1 ⟨rfl,rfl⟩)|(go_at_call 169;refine (l03Ok_any x.place _).mono ?_;rintro e w2 ⟨rfl,hb2⟩));go_ret;exact⟨by rw[HE.out];rfl,by first|exact Below.refl _ _|exact hb2⟩
theorem sectorValid_any (x:DSector) (k0:x.name.size≤maxLen) (k1:x.site.size≤maxLen) (k2:x.antenna.size≤maxLen) (k3:x.radio.size≤maxLen) (k4:x.band.size≤maxLen) (w:World) :
  Calls Tryz.prog 104 #[.agg #[F x.name,F x.site,F x.antenna,F x.radio,F x.band,I x.azimuth,I x.tilt,I x.above,I x.channel]] w fun e w'=>e=.returned (.bool (zan x))∧IJ w w w':=by
 by_cases h0:zbt x.name=true
 ·skip
  by_cases h1:zbt x.site=true
  ·skip
   by_cases h2:zbt x.antenna=true
   ·skip
    by_cases h3:zbt x.radio=true
    ·skip
     by_cases h4:zbt x.band=true
     ·skip
      by_cases h5:inB x.azimuth 0 359=true
      ·skip
       by_cases h6:inB x.tilt 0 30=true
       ·skip
        by_cases h7:inB x.above 1 3000=true
        ·skip
         by_cases h8:inB x.channel (-1) 999=true
         ·skip
          have HE:Hid (zan x=true):=by show _=_;unfold zan;simp only[h0,h1,h2,h3,h4,h5,h6,h7,h8]<;>rfl
          go_enter Tryz.func104,Tryz.ntmps104;go_wp2_with (first|(go_at_call 120;refine (zay _ _ (by assumption)).mono ?_;rintro e w1 ⟨rfl,rfl⟩)|(go_at_call 54;refine (zao _ _ _ _).mono ?_;rintro e w1 ⟨rfl,rfl⟩));go_ret;exact⟨by rw[HE.out];rfl,by exact (Below.refl _ _).alloc (Nat.le_refl _) _⟩
         ·replace h8:inB x.channel (-1) 999=false:=Bool.eq_false_iff.2 h8
          have HE:Hid (zan x=false):=by show _=_;unfold zan;simp only[h0,h1,h2,h3,h4,h5,h6,h7,h8]<;>rfl
          go_enter Tryz.func104,Tryz.ntmps104;go_wp2_with (first|(go_at_call 120;refine (zay _ _ (by assumption)).mono ?_;rintro e w1 ⟨rfl,rfl⟩)|(go_at_call 54;refine (zao _ _ _ _).mono ?_;rintro e w1 ⟨rfl,rfl⟩));go_ret;exact⟨by rw[HE.out];rfl,by exact (Below.refl _ _).alloc (Nat.le_refl _) _⟩
        ·replace h7:inB x.above 1 3000=false:=Bool.eq_false_iff.2 h7
         have HE:Hid (zan x=false):=by show _=_;unfold zan;simp only[h0,h1,h2,h3,h4,h5,h6,h7]<;>rfl
         go_enter Tryz.func104,Tryz.ntmps104;go_wp2_with (first|(go_at_call 120;refine (zay _ _ (by assumption)).mono ?_;rintro e w1 ⟨rfl,rfl⟩)|(go_at_call 54;refine (zao _ _ _ _).mono ?_;rintro e w1 ⟨rfl,rfl⟩));go_ret;exact⟨by rw[HE.out];rfl,by exact (Below.refl _ _).alloc (Nat.le_refl _) _⟩
       ·replace h6:inB x.tilt 0 30=false:=Bool.eq_false_iff.2 h6
        have HE:Hid (zan x=false):=by show _=_;unfold zan;simp only[h0,h1,h2,h3,h4,h5,h6]<;>rfl
        go_enter Tryz.func104,Tryz.ntmps104;go_wp2_with (first|(go_at_call 120;refine (zay _ _ (by assumption)).mono ?_;rintro e w1 ⟨rfl,rfl⟩)|(go_at_call 54;refine (zao _ _ _ _).mono ?_;rintro e w1 ⟨rfl,rfl⟩));go_ret;exact⟨by rw[HE.out];rfl,by exact (Below.refl _ _).alloc (Nat.le_refl _) _⟩
      ·replace h5:inB x.azimuth 0 359=false:=Bool.eq_false_iff.2 h5
       have HE:Hid (zan x=false):=by show _=_;unfold zan;simp only[h0,h1,h2,h3,h4,h5]<;>rfl
       go_enter Tryz.func104,Tryz.ntmps104;go_wp2_with (first|(go_at_call 120;refine (zay _ _ (by assumption)).mono ?_;rintro e w1 ⟨rfl,rfl⟩)|(go_at_call 54;refine (zao _ _ _ _).mono ?_;rintro e w1 ⟨rfl,rfl⟩));go_ret;exact⟨by rw[HE.out];rfl,by exact (Below.refl _ _).alloc (Nat.le_refl _) _⟩
     ·replace h4:zbt x.band=false:=Bool.eq_false_iff.2 h4
      have HE:Hid (zan x=false):=by show _=_;unfold zan;simp only[h0,h1,h2,h3,h4]<;>rfl
      go_enter Tryz.func104,Tryz.ntmps104;go_wp2_with (first|(go_at_call 120;refine (zay _ _ (by assumption)).mono ?_;rintro e w1 ⟨rfl,rfl⟩)|(go_at_call 54;refine (zao _ _ _ _).mono ?_;rintro e w1 ⟨rfl,rfl⟩));go_ret;exact⟨by rw[HE.out];rfl,by exact (Below.refl _ _).alloc (Nat.le_refl _) _⟩
    ·replace h3:zbt x.radio=false:=Bool.eq_false_iff.2 h3
     have HE:Hid (zan x=false):=by show _=_;unfold zan;simp only[h0,h1,h2,h3]<;>rfl
     go_enter Tryz.func104,Tryz.ntmps104;go_wp2_with (first|(go_at_call 120;refine (zay _ _ (by assumption)).mono ?_;rintro e w1 ⟨rfl,rfl⟩)|(go_at_call 54;refine (zao _ _ _ _).mono ?_;rintro e w1 ⟨rfl,rfl⟩));go_ret;exact⟨by rw[HE.out];rfl,by exact (Below.refl _ _).alloc (Nat.le_refl _) _⟩
   ·replace h2:zbt x.antenna=false:=Bool.eq_false_iff.2 h2
    have HE:Hid (zan x=false):=by show _=_;unfold zan;simp only[h0,h1,h2]<;>rfl
    go_enter Tryz.func104,Tryz.ntmps104;go_wp2_with (first|(go_at_call 120;refine (zay _ _ (by assumption)).mono ?_;rintro e w1 ⟨rfl,rfl⟩)|(go_at_call 54;refine (zao _ _ _ _).mono ?_;rintro e w1 ⟨rfl,rfl⟩));go_ret;exact⟨by rw[HE.out];rfl,by exact (Below.refl _ _).alloc (Nat.le_refl _) _⟩
  ·replace h1:zbt x.site=false:=Bool.eq_false_iff.2 h1
   have HE:Hid (zan x=false):=by show _=_;unfold zan;simp only[h0,h1]<;>rfl
   go_enter Tryz.func104,Tryz.ntmps104;go_wp2_with (first|(go_at_call 120;refine (zay _ _ (by assumption)).mono ?_;rintro e w1 ⟨rfl,rfl⟩)|(go_at_call 54;refine (zao _ _ _ _).mono ?_;rintro e w1 ⟨rfl,rfl⟩));go_ret;exact⟨by rw[HE.out];rfl,by exact (Below.refl _ _).alloc (Nat.le_refl _) _⟩
 ·replace h0:zbt x.name=false:=Bool.eq_false_iff.2 h0
  have HE:Hid (zan x=false):=by show _=_;unfold zan;simp only[h0]<;>rfl
  go_enter Tryz.func104,Tryz.ntmps104;go_wp2_with (first|(go_at_call 120;refine (zay _ _ (by assumption)).mono ?_;rintro e w1 ⟨rfl,rfl⟩)|(go_at_call 54;refine (zao _ _ _ _).mono ?_;rintro e w1 ⟨rfl,rfl⟩));go_ret;exact⟨by rw[HE.out];rfl,by exact (Below.refl _ _).alloc (Nat.le_refl _) _⟩
theorem l14Sector_any (x:DSector) (b off:Nat) (w:World) (c0:w.cell? ⟨b,off,none⟩=some (F x.name)) (c1:w.cell? ⟨b,off+1,none⟩=some (F x.site)) (c2:w.cell? ⟨b,off+2,none⟩=some (F x.antenna)) (c3:w.cell? ⟨b,off+3,none⟩=some (F x.radio)) (c4:w.cell? ⟨b,off+4,none⟩=some (F x.band)) (c5:w.cell? ⟨b,off+5,none⟩=some (I x.azimuth)) (c6:w.cell? ⟨b,off+6,none⟩=some (I x.tilt)) (c7:w.cell? ⟨b,off+7,none⟩=some (I x.above)) (c8:w.cell? ⟨b,off+8,none⟩=some (I x.channel)) (k0:x.name.size≤maxLen) (k1:x.site.size≤maxLen) (k2:x.antenna.size≤maxLen) (k3:x.radio.size≤maxLen) (k4:x.band.size≤maxLen) :
  Calls Tryz.prog 131 #[.pointer (some ⟨b,off,none⟩)] w fun e w'=>e=.returned (.bool (zan x))∧IJ w w w':=by
 by_cases h0:zbt x.name=true
 ·skip
  by_cases h1:zbt x.site=true
  ·skip
   by_cases h2:zbt x.antenna=true
   ·skip
    by_cases h3:zbt x.radio=true
    ·skip
     by_cases h4:zbt x.band=true
     ·skip
      by_cases h5:inB x.azimuth 0 359=true
      ·skip
       by_cases h6:inB x.tilt 0 30=true
       ·skip
        by_cases h7:inB x.above 1 3000=true
        ·skip
         by_cases h8:inB x.channel (-1) 999=true
         ·skip
          have HE:Hid (zan x=true):=by show _=_;unfold zan;simp only[h0,h1,h2,h3,h4,h5,h6,h7,h8]<;>rfl
          go_enter Tryz.func131,Tryz.ntmps131;go_wp2_with (first|(go_at_call 149;refine (zau _ _ (by assumption)).mono ?_;rintro e w1 ⟨rfl,rfl⟩)|(go_at_call 89;refine (zaq _ _ _ _).mono ?_;rintro e w1 ⟨rfl,rfl⟩));go_ret;exact⟨by rw[HE.out];rfl,by exact Below.refl _ _⟩
         ·replace h8:inB x.channel (-1) 999=false:=Bool.eq_false_iff.2 h8
          have HE:Hid (zan x=false):=by show _=_;unfold zan;simp only[h0,h1,h2,h3,h4,h5,h6,h7,h8]<;>rfl
          go_enter Tryz.func131,Tryz.ntmps131;go_wp2_with (first|(go_at_call 149;refine (zau _ _ (by assumption)).mono ?_;rintro e w1 ⟨rfl,rfl⟩)|(go_at_call 89;refine (zaq _ _ _ _).mono ?_;rintro e w1 ⟨rfl,rfl⟩));go_ret;exact⟨by rw[HE.out];rfl,by exact Below.refl _ _⟩
        ·replace h7:inB x.above 1 3000=false:=Bool.eq_false_iff.2 h7
         have HE:Hid (zan x=false):=by show _=_;unfold zan;simp only[h0,h1,h2,h3,h4,h5,h6,h7]<;>rfl
         go_enter Tryz.func131,Tryz.ntmps131;go_wp2_with (first|(go_at_call 149;refine (zau _ _ (by assumption)).mono ?_;rintro e w1 ⟨rfl,rfl⟩)|(go_at_call 89;refine (zaq _ _ _ _).mono ?_;rintro e w1 ⟨rfl,rfl⟩));go_ret;exact⟨by rw[HE.out];rfl,by exact Below.refl _ _⟩
       ·replace h6:inB x.tilt 0 30=false:=Bool.eq_false_iff.2 h6
        have HE:Hid (zan x=false):=by show _=_;unfold zan;simp only[h0,h1,h2,h3,h4,h5,h6]<;>rfl
        go_enter Tryz.func131,Tryz.ntmps131;go_wp2_with (first|(go_at_call 149;refine (zau _ _ (by assumption)).mono ?_;rintro e w1 ⟨rfl,rfl⟩)|(go_at_call 89;refine (zaq _ _ _ _).mono ?_;rintro e w1 ⟨rfl,rfl⟩));go_ret;exact⟨by rw[HE.out];rfl,by exact Below.refl _ _⟩
      ·replace h5:inB x.azimuth 0 359=false:=Bool.eq_false_iff.2 h5
       have HE:Hid (zan x=false):=by show _=_;unfold zan;simp only[h0,h1,h2,h3,h4,h5]<;>rfl
       go_enter Tryz.func131,Tryz.ntmps131;go_wp2_with (first|(go_at_call 149;refine (zau _ _ (by assumption)).mono ?_;rintro e w1 ⟨rfl,rfl⟩)|(go_at_call 89;refine (zaq _ _ _ _).mono ?_;rintro e w1 ⟨rfl,rfl⟩));go_ret;exact⟨by rw[HE.out];rfl,by exact Below.refl _ _⟩
     ·replace h4:zbt x.band=false:=Bool.eq_false_iff.2 h4
      have HE:Hid (zan x=false):=by show _=_;unfold zan;simp only[h0,h1,h2,h3,h4]<;>rfl
      go_enter Tryz.func131,Tryz.ntmps131;go_wp2_with (first|(go_at_call 149;refine (zau _ _ (by assumption)).mono ?_;rintro e w1 ⟨rfl,rfl⟩)|(go_at_call 89;refine (zaq _ _ _ _).mono ?_;rintro e w1 ⟨rfl,rfl⟩));go_ret;exact⟨by rw[HE.out];rfl,by exact Below.refl _ _⟩
    ·replace h3:zbt x.radio=false:=Bool.eq_false_iff.2 h3
     have HE:Hid (zan x=false):=by show _=_;unfold zan;simp only[h0,h1,h2,h3]<;>rfl
     go_enter Tryz.func131,Tryz.ntmps131;go_wp2_with (first|(go_at_call 149;refine (zau _ _ (by assumption)).mono ?_;rintro e w1 ⟨rfl,rfl⟩)|(go_at_call 89;refine (zaq _ _ _ _).mono ?_;rintro e w1 ⟨rfl,rfl⟩));go_ret;exact⟨by rw[HE.out];rfl,by exact Below.refl _ _⟩
   ·replace h2:zbt x.antenna=false:=Bool.eq_false_iff.2 h2
    have HE:Hid (zan x=false):=by show _=_;unfold zan;simp only[h0,h1,h2]<;>rfl
    go_enter Tryz.func131,Tryz.ntmps131;go_wp2_with (first|(go_at_call 149;refine (zau _ _ (by assumption)).mono ?_;rintro e w1 ⟨rfl,rfl⟩)|(go_at_call 89;refine (zaq _ _ _ _).mono ?_;rintro e w1 ⟨rfl,rfl⟩));go_ret;exact⟨by rw[HE.out];rfl,by exact Below.refl _ _⟩
  ·replace h1:zbt x.site=false:=Bool.eq_false_iff.2 h1
   have HE:Hid (zan x=false):=by show _=_;unfold zan;simp only[h0,h1]<;>rfl
   go_enter Tryz.func131,Tryz.ntmps131;go_wp2_with (first|(go_at_call 149;refine (zau _ _ (by assumption)).mono ?_;rintro e w1 ⟨rfl,rfl⟩)|(go_at_call 89;refine (zaq _ _ _ _).mono ?_;rintro e w1 ⟨rfl,rfl⟩));go_ret;exact⟨by rw[HE.out];rfl,by exact Below.refl _ _⟩
 ·replace h0:zbt x.name=false:=Bool.eq_false_iff.2 h0
  have HE:Hid (zan x=false):=by show _=_;unfold zan;simp only[h0]<;>rfl
  go_enter Tryz.func131,Tryz.ntmps131;go_wp2_with (first|(go_at_call 149;refine (zau _ _ (by assumption)).mono ?_;rintro e w1 ⟨rfl,rfl⟩)|(go_at_call 89;refine (zaq _ _ _ _).mono ?_;rintro e w1 ⟨rfl,rfl⟩));go_ret;exact⟨by rw[HE.out];rfl,by exact Below.refl _ _⟩
end Go.Proofs.YtgmapjgodibchaaGreatDoor
namespace Go.Proofs.YtgmapjgodibchaaGreatDoor
def upOk {α:Type} (ok:α→Bool) (rel:α→α→Bool) (l:List α) (j:Nat):Bool :=
 match l[j]? with
 | none=>true
 | some x=>ok x&&(match j with|0=>true|i+1=>match l[i]? with|none=>true|some p=>rel p x)
def zba {α:Type} (ok:α→Bool) (rel:α→α→Bool) (l:List α):Bool:=(List.range l.length).all (upOk ok rel l)
section
variable {α:Type} {ok:α→Bool} {rel:α→α→Bool} {l:List α}
theorem zc5 (h:0<l.length):upOk ok rel l 0=ok l[0]:=by
 simp only[upOk,List.getElem?_eq_getElem h,Bool.and_true]
theorem zdi {k:Nat} (hk:0<k) (h:k<l.length):upOk ok rel l k=(ok l[k]&&rel (l[k-1]'O) l[k]):=by
 obtain⟨i,rfl⟩:∃ i,k=i+1:=⟨k-1,O⟩
 simp only[upOk,List.getElem?_eq_getElem h,List.getElem?_eq_getElem (show i<l.length by omega),Nat.add_sub_cancel]
theorem zdv {k:Nat} (h:k<l.length) (hn:ok l[k]=false):upOk ok rel l k=false:=by
 simp only[upOk,List.getElem?_eq_getElem h,hn,Bool.false_and]
theorem zcp (h:∀ j,j<l.length→upOk ok rel l j=true):zba ok rel l=true:=by
 rw[zba,List.all_eq_true];intro j hj;exact h j (by simpa using hj)
theorem za7 {k:Nat} (h:k<l.length) (hn:upOk ok rel l k=false):zba ok rel l=false:=by
 rw[zba,List.all_eq_false];exact⟨k,by simpa using h,by simp[hn]⟩
theorem rowOk_at (h:zba ok rel l=true) {k:Nat} (hk:k<l.length):upOk ok rel l k=true:=by
 rw[zba,List.all_eq_true] at h;exact h k (by simpa using hk)
theorem rowOk_ok (h:zba ok rel l=true) {k:Nat} (hk:k<l.length):ok l[k]=true:=by
 have:=rowOk_at h hk;simp only[upOk,List.getElem?_eq_getElem hk,Bool.and_eq_true] at this;exact this.1
theorem rowOk_rel (h:zba ok rel l=true) {k:Nat} (hk:k+1<l.length):rel (l[k]'O) l[k+1]=true:=by
 have:=rowOk_at h hk;rw[zdi O hk,Bool.and_eq_true] at this
 simpa using this.2
end
theorem zbj {p:Nat→Bool} {k:Nat} (h:∀ j,j<k→p j=true) (hk:p k=true):∀ j,j<k+1→p j=true:=fun j hj=>by
 by_cases e:j=k
 ·rw[e];exact hk
 ·exact h j O
def ltS (a b:ByteArray):Bool:=Op.bytesLess a.toList b.toList
theorem zeq:(a b:List UInt8)→(Op.bytesLess a b || a == b) = !(Op.bytesLess b a):=by
 intro a
 induction a with
 | nil=>intro b;cases b<;>simp[Op.bytesLess]
 | cons x a ih =>
  intro b
  cases b with
  | nil=>simp[Op.bytesLess]
  | cons y b =>
   simp only[Op.bytesLess,List.cons_beq_cons];have:=ih b
   rcases Nat.lt_trichotomy x.toNat y.toNat with h|h|h
   ·have h1:x<y:=UInt8.lt_iff_toNat_lt.2 h
    have h2:¬ y<x:=fun e=>by have:=UInt8.lt_iff_toNat_lt.1 e;omega
    have h3:(y == x)=false:=by rw[beq_eq_false_iff_ne];intro e;subst e;omega
    simp[h1,h2,h3]
   ·have e:x=y:=UInt8.toNat_inj.1 h
    subst e;have h2:¬ x<x:=fun e=>by have:=UInt8.lt_iff_toNat_lt.1 e;omega
    simp[h2,this]
   ·have h1:y<x:=UInt8.lt_iff_toNat_lt.2 h
    have h2:¬ x<y:=fun e=>by have:=UInt8.lt_iff_toNat_lt.1 e;omega
    have h3:(x == y)=false:=by rw[beq_eq_false_iff_ne];intro e;subst e;omega
    simp[h1,h2,h3]
theorem geS_of_lt {a b:ByteArray} (h:ltS a b=true):(Op.bytesLess b.toList a.toList || b.toList == a.toList)=false:=by
 rw[zeq];unfold ltS at h;rw[h];rfl
theorem geS_of_not {a b:ByteArray} (h:ltS a b=false):(Op.bytesLess b.toList a.toList || b.toList == a.toList)=true:=by
 rw[zeq];unfold ltS at h;rw[h];rfl
end Go.Proofs.YtgmapjgodibchaaGreatDoor
namespace Go.Proofs.YtgmapjgodibchaaGreatDoor
def eqS (a b:ByteArray):Bool:=a.toList == b.toList
theorem zfk {a b:ByteArray} : eqS a b=true↔a=b:=by
 unfold eqS;rw[beq_iff_eq,ByteArray.toList_eq,ByteArray.toList_eq]
 constructor
 ·intro h
  obtain⟨⟨a⟩⟩:=a;obtain⟨⟨b⟩⟩:=b;simp only at h;rw[h]
 ·intro h;rw[h]
theorem zbs {α:Type} (p:α→Bool) (l:List α):(zbk p l = -1∧l.any p=false)∨∃ i,∃ h:i<l.length,zbk p l=(i:Int)∧p l[i]=true∧(l.take i).any p=false:=by
 unfold zbk
 cases h:l.findIdx? p with
 | none =>
  left
  refine⟨rfl,?_⟩;rw[List.any_eq_false];intro x hx;have:=List.findIdx?_eq_none_iff.1 h x hx;simp[this]
 | some i =>
  right
  obtain⟨hi,hp,hno⟩:=List.findIdx?_eq_some_iff_getElem.1 h;refine⟨i,hi,rfl,hp,?_⟩;rw[List.any_eq_false];intro x hx;obtain⟨j,hj,rfl⟩:=List.mem_take_iff_getElem.1 hx;have:=hno j O
  simpa using this
theorem bytesLess_trans:(a b c:List UInt8)→Op.bytesLess a b=true→Op.bytesLess b c=true→Op.bytesLess a c=true:=by
 intro a
 induction a with
 | nil =>
  intro b c h1 h2
  cases c with
  | nil=>cases b<;>simp[Op.bytesLess] at h2
  | cons z c=>simp[Op.bytesLess]
 | cons x a ih =>
  intro b c h1 h2
  cases b with
  | nil=>simp[Op.bytesLess] at h1
  | cons y b =>
   cases c with
   | nil=>simp[Op.bytesLess] at h2
   | cons z c =>
    simp only[Op.bytesLess,Bool.or_eq_true,decide_eq_true_eq,Bool.and_eq_true,beq_iff_eq] at h1 h2 ⊢
    rcases h1 with h1|⟨rfl,h1⟩<;>rcases h2 with h2|⟨rfl,h2⟩
    ·left;rw[UInt8.lt_iff_toNat_lt] at *;omega
    ·exact Or.inl h1
    ·exact Or.inl h2
    ·exact Or.inr ⟨rfl,ih b c h1 h2⟩
theorem ltS_trans {a b c:ByteArray} (h1:ltS a b=true) (h2:ltS b c=true):ltS a c=true:=bytesLess_trans _ _ _ h1 h2
theorem ltS_asymm {a b:ByteArray} (h:ltS a b=true):ltS b a=false:=by
 have:=zeq a.toList b.toList;unfold ltS at h ⊢;rw[h] at this
 simpa using this.symm
section
variable {α:Type} {f:α→ByteArray} {l:List α} {nm:ByteArray}
end
end Go.Proofs.YtgmapjgodibchaaGreatDoor
