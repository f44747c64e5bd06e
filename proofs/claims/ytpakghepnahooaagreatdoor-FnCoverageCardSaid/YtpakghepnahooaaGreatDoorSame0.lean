/- Whether two things are equal, field by field. Plain lemmas. -/
import Derived.Test.YtpakghepnahooaaGreatDoorInfoR
import Derived.WalkLawsBesides
set_option linter.unusedVariables false
set_option linter.unusedSimpArgs false
namespace Go.Proofs.YtpakghepnahooaaGreatDoor
open Go.RowKit
theorem Q44 {p:Prop} (h:p:=by assumption):p:=h
theorem Q03 {p:Prop} (h:p:=by
 go_enter Tryz.func72,Tryz.ntmps72
 go_wp2_with (first|(go_at_call 85;refine (zau _ _ Q44).mono ?_;rintro e w1 ⟨rfl,rfl⟩)|(go_at_call 34;refine (zal _ _ _ _).mono ?_;rintro e w1 ⟨rfl,rfl⟩))
 go_ret
 exact⟨by rw[HE.out];rfl,by exact (Below.refl _ _).alloc (Nat.le_refl _) _⟩):p:=h
theorem Q05 {p:Prop} (h:p:=by
 go_enter Tryz.func143,Tryz.ntmps143
 go_wp2_with (first|(go_at_call 192;refine (zar _ _ Q44).mono ?_;rintro e w1 ⟨rfl,rfl⟩)|(go_at_call 101;refine (za7 _ _ _ _).mono ?_;rintro e w1 ⟨rfl,rfl⟩))
 go_ret
 exact⟨by rw[HE.out];rfl,by exact Below.refl _ _⟩):p:=h
theorem Q0h {p:Prop} (h:p:=by
 go_enter Tryz.func69,Tryz.ntmps69
 go_wp2_with (first|(go_at_call 85;refine (zau _ _ Q44).mono ?_;rintro e w1 ⟨rfl,rfl⟩)|(go_at_call 97;refine (zd1 x.place _).mono ?_;rintro e w2 ⟨rfl,hb2⟩))
 go_ret
 exact⟨by rw[HE.out];rfl,by first|exact (Below.refl _ _).alloc (Nat.le_refl _) _|exact ((Below.refl _ _).alloc (Nat.le_refl _) _).trans (hb2.mono Q4a)⟩):p:=h
theorem Q0m {p:Prop} (h:p:=by
 go_enter Tryz.func140,Tryz.ntmps140
 go_wp2_with (first|(go_at_call 192;refine (zar _ _ Q44).mono ?_;rintro e w1 ⟨rfl,rfl⟩)|(go_at_call 148;refine (l03Ok_any x.place _).mono ?_;rintro e w2 ⟨rfl,hb2⟩))
 go_ret
 exact⟨by rw[HE.out];rfl,by first|exact Below.refl _ _|exact hb2⟩):p:=h
theorem Q13 {p:Prop} (h:p:=by
 go_enter Tryz.func148,Tryz.ntmps148
 go_wp2_with (first|(go_at_call 101;refine (za7 _ _ _ _).mono ?_;rintro e w1 ⟨rfl,rfl⟩))
 go_ret
 exact⟨by rw[HE.out];rfl,by exact (Below.refl _ _).alloc (Nat.le_refl _) _⟩):p:=h
theorem Q14 {p:Prop} (h:p:=by
 go_enter Tryz.func97,Tryz.ntmps97
 go_wp2_with (first|(go_at_call 34;refine (zal _ _ _ _).mono ?_;rintro e w1 ⟨rfl,rfl⟩))
 go_ret
 exact⟨by rw[HE.out];rfl,by exact (Below.refl _ _).alloc (Nat.le_refl _) _⟩):p:=h
theorem Q17 {p:Prop} (h:p:=by
 go_wp2
 go_ret
 exact⟨by rw[HE.out];rfl,rfl⟩):p:=h
theorem Q1t {p:Prop} (h:p:=by
 go_wp2
 all_goals
  go_round
  case rel=>exact⟨k+1,II,by go_num,by rw[zdw _ _ k hlt',HN.out,HG.out,HP.out];rfl⟩
  case measure=>simp[intOf];omega):p:=h
theorem Q22 {p:Prop} (h:p:=by
 go_round
 case rel=>exact⟨k+1,II,by go_num,by rw[zdw _ _ k hlt',HN.out,HG.out,HP.out];rfl⟩
 case measure=>simp[intOf];omega):p:=h
def zd0 (n:Int):Bool:=decide (97≤n)&&decide (n≤122)
def digitN (n:Int):Bool:=decide (48≤n)&&decide (n≤57)
def zfe (n:Int):Bool:=zd0 n || digitN n
def zef (s:ByteArray):List Int:=s.data.toList.map fun c=>(c.toNat:Int)
theorem zem (s:ByteArray):(zef s).length=s.size:=by rw[zef,List.length_map,Array.length_toList];rfl
theorem toList_len (s:ByteArray):s.toList.length=s.size:=by rw[ByteArray.toList_eq,Array.length_toList];rfl
theorem bytesN_get (s:ByteArray) (k:Nat) (h:k<s.size):(zef s)[k]'(by rw[zem];exact h)=(s[k].toNat:Int):=by
 simp only[zef,List.getElem_map,Array.getElem_toList];rfl
def za8 (s:ByteArray):Bool:=decide (1≤s.size)&&(decide (s.size≤10)&&(((zef s).take 1).all zd0&&(zef s).all zfe))
theorem smallN_true {n:Int} : zd0 n=true↔97≤n∧n≤122:=by simp[zd0]
theorem digitN_true {n:Int} : digitN n=true↔48≤n∧n≤57:=by simp[digitN]
theorem nameN_true {n:Int} : zfe n=true↔(97≤n∧n≤122)∨(48≤n∧n≤57):=by simp[zfe,smallN_true,digitN_true]
theorem nameN_false {n:Int} : zfe n=false↔¬ ((97≤n∧n≤122)∨(48≤n∧n≤57)):=by rw[← nameN_true];simp
theorem smallN_false {n:Int} : zd0 n=false↔¬ (97≤n∧n≤122):=by rw[← smallN_true];simp
theorem zdw {α:Type} (p:α→Bool) (l:List α) (k:Nat) (h:k<l.length):(l.take (k+1)).all p=((l.take k).all p&&p l[k]):=by
 rw[List.take_succ_eq_append_getElem h,List.all_append];simp
theorem all_false_at {α:Type} (p:α→Bool) (l:List α) (k:Nat) (h:k<l.length) (hp:p l[k]=false):l.all p=false:=by
 rw[List.all_eq_false];exact⟨l[k],List.getElem_mem h,by simp[hp]⟩
theorem size_zero {s:ByteArray} (h:s.size=0):s=⟨#[]⟩:=by
 obtain⟨⟨l⟩⟩:=s;have:l.length=0:=h;rw[List.length_eq_zero_iff.1 this]
theorem take1 (s:ByteArray) (h:0<s.size):(zef s).take 1 = [(s[0].toNat:Int)]:=by
 have h':0<(zef s).length:=by rw[zem];exact h
 have:=List.take_succ_eq_append_getElem h';rw[List.take_zero,List.nil_append] at this;rw[this,bytesN_get s 0 h]
theorem nameB_short {s:ByteArray} (h:s.size<1):za8 s=false:=by unfold za8;rw[decide_eq_false II];rfl
theorem nameB_long {s:ByteArray} (h:10<s.size):za8 s=false:=by unfold za8;rw[decide_eq_false (p:=s.size≤10) II];simp
theorem nameB_first {s:ByteArray} (h:0<s.size) (hs:zd0 (s[0].toNat:Int)=false):za8 s=false:=by
 unfold za8;rw[take1 s h];simp[hs]
theorem nameB_rest {s:ByteArray} (h:0<s.size) (h2:s.size≤10) (hs:zd0 (s[0].toNat:Int)=true):za8 s=(zef s).all zfe:=by
 unfold za8;rw[take1 s h,decide_eq_true II,decide_eq_true h2];simp[hs]
theorem onlyNameBytes_any (s:ByteArray) (w:World) (hs:s.size≤1099511627776) :
  Calls Tryz.prog 126 #[IQ s] w fun e w'=>e=.returned (.bool ((zef s).all zfe))∧w=w':=by
 have hnb:(s.size:Int)≤1099511627776:=II
 go_enter Tryz.func126,Tryz.ntmps126;go_wp2
 go_loop [7] (fun i=>∃ (k:Nat),k≤s.size∧i=J k∧((zef s).take k).all zfe=true) (fun i=>s.size-(intOf i).toNat)
 case atStart=>exact⟨0,Nat.zero_le _,rfl,by simp⟩
 case round =>
  obtain⟨k,hk,rfl,hno⟩:=hrel;have HN:=IJ hno;clear hno
  by_cases hlt:k<s.size
  ·have hlt':k<(zef s).length:=by rw[zem];exact hlt
   have hg:=bytesN_get s k hlt;have HG:=IJ hg;clear hg
   by_cases hp:zfe (s[k].toNat:Int)=true
   ·have hp':=nameN_true.1 hp
    have HP:=IJ hp;clear hp
    rcases hp' with ⟨h1,h2⟩|⟨h1,h2⟩
    ·exact Q1t
    ·have h3:(s[k].toNat:Int)<97:=II
     exact Q1t
   ·have hp0:zfe (s[k].toNat:Int)=false:=Bool.eq_false_iff.2 hp
    have hp':=nameN_false.1 hp0;have HE:=IJ (all_false_at zfe (zef s) k hlt' (by rw[HG.out];exact hp0));clear hp hp0
    rcases Int.lt_or_le (s[k].toNat:Int) 48 with h1|h1
    ·have h3:(s[k].toNat:Int)<97:=II
     clear hp';exact Q17
    ·rcases Int.lt_or_le (s[k].toNat:Int) 97 with h2|h2
     ·have h3:57<(s[k].toNat:Int):=II
      clear hp';exact Q17
     ·have h3:122<(s[k].toNat:Int):=II
      have h4:57<(s[k].toNat:Int):=II
      clear hp';exact Q17
  ·obtain rfl:k=s.size:=II
   go_wp2;go_ret;have:=HN.out;rw[← zem,List.take_length] at this;exact⟨by rw[this];rfl,rfl⟩
theorem zau (s:ByteArray) (w:World) (hs:s.size≤maxLen) :
  Calls Tryz.prog 85 #[IQ s] w fun e w'=>e=.returned (.bool (za8 s))∧w=w':=by
 unfold maxLen at hs
 by_cases h1:s.size<1
 ·have HE:=IJ (nameB_short h1)
  have h1':(s.size:Int)<1:=II
  go_enter Tryz.func85,Tryz.ntmps85;exact Q17
 ·by_cases h2:10<s.size
  ·have HE:=IJ (nameB_long h2)
   have h1':1≤s.size:=II
   clear h1;go_enter Tryz.func85,Tryz.ntmps85;exact Q17
  ·have h0:0<s.size:=II
   have h1':1≤s.size:=II
   have h2':s.size≤10:=II
   clear h1 h2
   by_cases h3:zd0 (s[0].toNat:Int)=true
   ·have HE:=IJ (nameB_rest h0 h2' h3)
    obtain⟨h4,h5⟩:=smallN_true.1 h3;clear h3;go_enter Tryz.func85,Tryz.ntmps85;go_wp2_with (go_at_call 126;refine (onlyNameBytes_any s _ II).mono ?_;rintro e w1 ⟨rfl,rfl⟩);go_ret;exact⟨by rw[HE.out];rfl,rfl⟩
   ·have h3':zd0 (s[0].toNat:Int)=false:=Bool.eq_false_iff.2 h3
    have HE:=IJ (nameB_first h0 h3');have h4:=smallN_false.1 h3';clear h3 h3'
    rcases Int.lt_or_le (s[0].toNat:Int) 97 with h5|h5
    ·clear h4
     go_enter Tryz.func85,Tryz.ntmps85;exact Q17
    ·have h6:122<(s[0].toNat:Int):=II
     clear h4;go_enter Tryz.func85,Tryz.ntmps85;exact Q17
theorem zd7 (n:Int) (w:World):Calls Tryz.prog 221 #[.int .u8 n] w fun e w'=>e=.returned (.bool (zd0 n))∧w=w':=by
 by_cases h1:97≤n
 ·have e:zd0 n=decide (n≤122):=by unfold zd0;simp[h1]
  rw[e];clear e;go_enter Tryz.func221,Tryz.ntmps221;go_wp2;go_ret;exact⟨rfl,rfl⟩
 ·have e:zd0 n=false:=by unfold zd0;simp[h1]
  rw[e];clear e;go_enter Tryz.func221,Tryz.ntmps221;go_wp2;go_ret;exact⟨rfl,rfl⟩
theorem l01Digit_any (n:Int) (w:World):Calls Tryz.prog 222 #[.int .u8 n] w fun e w'=>e=.returned (.bool (digitN n))∧w=w':=by
 by_cases h1:48≤n
 ·have e:digitN n=decide (n≤57):=by unfold digitN;simp[h1]
  rw[e];clear e;go_enter Tryz.func222,Tryz.ntmps222;go_wp2;go_ret;exact⟨rfl,rfl⟩
 ·have e:digitN n=false:=by unfold digitN;simp[h1]
  rw[e];clear e;go_enter Tryz.func222,Tryz.ntmps222;go_wp2;go_ret;exact⟨rfl,rfl⟩
theorem zar (s:ByteArray) (w:World) (hs:s.size≤maxLen) :
  Calls Tryz.prog 192 #[IQ s] w fun e w'=>e=.returned (.bool (za8 s))∧w=w':=by
 unfold maxLen at hs
 by_cases h1:s.size<1
 ·have HE:=IJ (nameB_short h1)
  obtain rfl:=size_zero (s:=s) II;clear h1;go_enter Tryz.func192,Tryz.ntmps192;exact Q17
 ·have h0:0<s.size:=II
  have hemp:s.toList.isEmpty=false:=by
   rw[List.isEmpty_eq_false_iff];intro e;have:s.toList.length=0:=by rw[e];rfl
   rw[toList_len] at this;omega
  have hemp2:(s.toList == [])=false:=by
   rw[beq_eq_false_iff_ne];intro e;rw[e] at hemp
   cases hemp
  by_cases h2:10<s.size
  ·have HE:=IJ (nameB_long h2)
   clear h1;go_enter Tryz.func192,Tryz.ntmps192;exact Q17
  ·have h2':s.size≤10:=II
   clear h1 h2
   by_cases h3:zd0 (s[0].toNat:Int)=true
   ·have HE:=IJ (nameB_rest h0 h2' h3)
    go_enter Tryz.func192,Tryz.ntmps192;go_wp2_with (go_at_call 221;refine (zd7 _ _).mono ?_;rintro e w1 ⟨rfl,rfl⟩)
    go_loop [3] (fun i=>∃ (k:Nat),k≤s.size∧i=J k∧((zef s).take k).all zfe=true) (fun i=>s.size-(intOf i).toNat)
    case atStart=>exact⟨0,Nat.zero_le _,rfl,by simp⟩
    case round =>
     obtain⟨k,hk,rfl,hno⟩:=hrel;have HN:=IJ hno;clear hno h3
     by_cases hlt:k<s.size
     ·have hlt':k<(zef s).length:=by rw[zem];exact hlt
      have HG:=IJ (bytesN_get s k hlt)
      by_cases hp:zd0 (s[k].toNat:Int)=true
      ·have HP:Hid (zfe (s[k].toNat:Int)=true):=by show zfe _=true;unfold zfe;rw[hp];rfl
       go_wp2_with (go_at_call 221;refine (zd7 _ _).mono ?_;rintro e w1 ⟨rfl,rfl⟩)
       exact Q22
      ·have hp':zd0 (s[k].toNat:Int)=false:=Bool.eq_false_iff.2 hp
       clear hp
       by_cases hd:digitN (s[k].toNat:Int)=true
       ·have HP:Hid (zfe (s[k].toNat:Int)=true):=by show zfe _=true;unfold zfe;rw[hd];simp
        go_wp2_with (first|(go_at_call 221;refine (zd7 _ _).mono ?_;rintro e w1 ⟨rfl,rfl⟩)|(go_at_call 222;refine (l01Digit_any _ _).mono ?_;rintro e w1 ⟨rfl,rfl⟩))
        exact Q22
       ·have hd':digitN (s[k].toNat:Int)=false:=Bool.eq_false_iff.2 hd
        clear hd;have HE2:=IJ (all_false_at zfe (zef s) k hlt' (by rw[HG.out];unfold zfe;rw[hp',hd'];rfl));go_wp2_with (first|(go_at_call 221;refine (zd7 _ _).mono ?_;rintro e w1 ⟨rfl,rfl⟩)|(go_at_call 222;refine (l01Digit_any _ _).mono ?_;rintro e w1 ⟨rfl,rfl⟩));go_ret;exact⟨by rw[HE.out,HE2.out];rfl,rfl⟩
     ·obtain rfl:k=s.size:=II
      go_wp2;go_ret;have:=HN.out;rw[← zem,List.take_length] at this;exact⟨by rw[HE.out,this];rfl,rfl⟩
   ·have h3':zd0 (s[0].toNat:Int)=false:=Bool.eq_false_iff.2 h3
    have HE:=IJ (nameB_first h0 h3');clear h3;go_enter Tryz.func192,Tryz.ntmps192;go_wp2_with (go_at_call 221;refine (zd7 _ _).mono ?_;rintro e w1 ⟨rfl,rfl⟩);go_ret;exact⟨by rw[HE.out];rfl,rfl⟩
set_option maxHeartbeats 4000000
set_option maxRecDepth 100000
def zc1 (p:DPoint):Bool:=inB p.x 0 200000&&inB p.y 0 200000
def zbk (x:DSite):Bool:=za8 x.name&&(za8 x.holder&&zc1 x.place)
def zag (x:DSector):Bool:=za8 x.name&&(za8 x.site&&(za8 x.antenna&&(za8 x.radio&&(za8 x.band&&(inB x.azimuth 0 359&&(inB x.tilt 0 30&&(inB x.above 1 3000&&inB x.channel (-1) 999)))))))
theorem zd1 (p:DPoint) (w:World) :
  Calls Tryz.prog 97 #[.agg #[J p.x,J p.y]] w fun e w'=>e=.returned (.bool (zc1 p))∧OI w w w':=by
 by_cases h0:inB p.x 0 200000=true
 ·skip
  by_cases h1:inB p.y 0 200000=true
  ·skip
   have HE:Hid (zc1 p=true):=by show _=_;unfold zc1;simp only[h0,h1]<;>rfl
   exact Q14
  ·replace h1:inB p.y 0 200000=false:=Bool.eq_false_iff.2 h1
   have HE:Hid (zc1 p=false):=by show _=_;unfold zc1;simp only[h0,h1]<;>rfl
   exact Q14
 ·replace h0:inB p.x 0 200000=false:=Bool.eq_false_iff.2 h0
  have HE:Hid (zc1 p=false):=by show _=_;unfold zc1;simp only[h0]<;>rfl
  exact Q14
theorem l03Ok_any (p:DPoint) (w:World) :
  Calls Tryz.prog 148 #[.agg #[J p.x,J p.y]] w fun e w'=>e=.returned (.bool (zc1 p))∧OI w w w':=by
 by_cases h0:inB p.x 0 200000=true
 ·skip
  by_cases h1:inB p.y 0 200000=true
  ·skip
   have HE:Hid (zc1 p=true):=by show _=_;unfold zc1;simp only[h0,h1]<;>rfl
   exact Q13
  ·replace h1:inB p.y 0 200000=false:=Bool.eq_false_iff.2 h1
   have HE:Hid (zc1 p=false):=by show _=_;unfold zc1;simp only[h0,h1]<;>rfl
   exact Q13
 ·replace h0:inB p.x 0 200000=false:=Bool.eq_false_iff.2 h0
  have HE:Hid (zc1 p=false):=by show _=_;unfold zc1;simp only[h0]<;>rfl
  exact Q13
theorem siteValid_any (x:DSite) (k0:x.name.size≤maxLen) (k1:x.holder.size≤maxLen) (w:World) :
  Calls Tryz.prog 69 #[.agg x] w fun e w'=>e=.returned (.bool (zbk x))∧OI w w w':=by
 by_cases h0:za8 x.name=true
 ·skip
  by_cases h1:za8 x.holder=true
  ·skip
   by_cases h2:zc1 x.place=true
   ·skip
    have HE:Hid (zbk x=true):=by show _=_;unfold zbk;simp only[h0,h1,h2]<;>rfl
    exact Q0h
   ·replace h2:zc1 x.place=false:=Bool.eq_false_iff.2 h2
    have HE:Hid (zbk x=false):=by show _=_;unfold zbk;simp only[h0,h1,h2]<;>rfl
    exact Q0h
  ·replace h1:za8 x.holder=false:=Bool.eq_false_iff.2 h1
   have HE:Hid (zbk x=false):=by show _=_;unfold zbk;simp only[h0,h1]<;>rfl
   exact Q0h
 ·replace h0:za8 x.name=false:=Bool.eq_false_iff.2 h0
  have HE:Hid (zbk x=false):=by show _=_;unfold zbk;simp only[h0]<;>rfl
  exact Q0h
theorem zeq (x:DSite) (b off:Nat) (w:World) (c0:w.cell? ⟨b,off,none⟩=some (IQ x.name)) (c1:w.cell? ⟨b,off+1,none⟩=some (IQ x.holder)) (c2:w.cell? ⟨b,off+2,none⟩=some (J x.place.x)) (c3:w.cell? ⟨b,off+3,none⟩=some (J x.place.y)) (k0:x.name.size≤maxLen) (k1:x.holder.size≤maxLen) :
  Calls Tryz.prog 140 #[.pointer (some ⟨b,off,none⟩)] w fun e w'=>e=.returned (.bool (zbk x))∧OI w w w':=by
 by_cases h0:za8 x.name=true
 ·skip
  by_cases h1:za8 x.holder=true
  ·skip
   by_cases h2:zc1 x.place=true
   ·skip
    have HE:Hid (zbk x=true):=by show _=_;unfold zbk;simp only[h0,h1,h2]<;>rfl
    exact Q0m
   ·replace h2:zc1 x.place=false:=Bool.eq_false_iff.2 h2
    have HE:Hid (zbk x=false):=by show _=_;unfold zbk;simp only[h0,h1,h2]<;>rfl
    exact Q0m
  ·replace h1:za8 x.holder=false:=Bool.eq_false_iff.2 h1
   have HE:Hid (zbk x=false):=by show _=_;unfold zbk;simp only[h0,h1]<;>rfl
   exact Q0m
 ·replace h0:za8 x.name=false:=Bool.eq_false_iff.2 h0
  have HE:Hid (zbk x=false):=by show _=_;unfold zbk;simp only[h0]<;>rfl
  exact Q0m
theorem sectorValid_any (x:DSector) (k0:x.name.size≤maxLen) (k1:x.site.size≤maxLen) (k2:x.antenna.size≤maxLen) (k3:x.radio.size≤maxLen) (k4:x.band.size≤maxLen) (w:World) :
  Calls Tryz.prog 72 #[.agg x] w fun e w'=>e=.returned (.bool (zag x))∧OI w w w':=by
 by_cases h0:za8 x.name=true
 ·skip
  by_cases h1:za8 x.site=true
  ·skip
   by_cases h2:za8 x.antenna=true
   ·skip
    by_cases h3:za8 x.radio=true
    ·skip
     by_cases h4:za8 x.band=true
     ·skip
      by_cases h5:inB x.azimuth 0 359=true
      ·skip
       by_cases h6:inB x.tilt 0 30=true
       ·skip
        by_cases h7:inB x.above 1 3000=true
        ·skip
         by_cases h8:inB x.channel (-1) 999=true
         ·skip
          have HE:Hid (zag x=true):=by show _=_;unfold zag;simp only[h0,h1,h2,h3,h4,h5,h6,h7,h8]<;>rfl
          exact Q03
         ·replace h8:inB x.channel (-1) 999=false:=Bool.eq_false_iff.2 h8
          have HE:Hid (zag x=false):=by show _=_;unfold zag;simp only[h0,h1,h2,h3,h4,h5,h6,h7,h8]<;>rfl
          exact Q03
        ·replace h7:inB x.above 1 3000=false:=Bool.eq_false_iff.2 h7
         have HE:Hid (zag x=false):=by show _=_;unfold zag;simp only[h0,h1,h2,h3,h4,h5,h6,h7]<;>rfl
         exact Q03
       ·replace h6:inB x.tilt 0 30=false:=Bool.eq_false_iff.2 h6
        have HE:Hid (zag x=false):=by show _=_;unfold zag;simp only[h0,h1,h2,h3,h4,h5,h6]<;>rfl
        exact Q03
      ·replace h5:inB x.azimuth 0 359=false:=Bool.eq_false_iff.2 h5
       have HE:Hid (zag x=false):=by show _=_;unfold zag;simp only[h0,h1,h2,h3,h4,h5]<;>rfl
       exact Q03
     ·replace h4:za8 x.band=false:=Bool.eq_false_iff.2 h4
      have HE:Hid (zag x=false):=by show _=_;unfold zag;simp only[h0,h1,h2,h3,h4]<;>rfl
      exact Q03
    ·replace h3:za8 x.radio=false:=Bool.eq_false_iff.2 h3
     have HE:Hid (zag x=false):=by show _=_;unfold zag;simp only[h0,h1,h2,h3]<;>rfl
     exact Q03
   ·replace h2:za8 x.antenna=false:=Bool.eq_false_iff.2 h2
    have HE:Hid (zag x=false):=by show _=_;unfold zag;simp only[h0,h1,h2]<;>rfl
    exact Q03
  ·replace h1:za8 x.site=false:=Bool.eq_false_iff.2 h1
   have HE:Hid (zag x=false):=by show _=_;unfold zag;simp only[h0,h1]<;>rfl
   exact Q03
 ·replace h0:za8 x.name=false:=Bool.eq_false_iff.2 h0
  have HE:Hid (zag x=false):=by show _=_;unfold zag;simp only[h0]<;>rfl
  exact Q03
theorem zdc (x:DSector) (b off:Nat) (w:World) (c0:w.cell? ⟨b,off,none⟩=some (IQ x.name)) (c1:w.cell? ⟨b,off+1,none⟩=some (IQ x.site)) (c2:w.cell? ⟨b,off+2,none⟩=some (IQ x.antenna)) (c3:w.cell? ⟨b,off+3,none⟩=some (IQ x.radio)) (c4:w.cell? ⟨b,off+4,none⟩=some (IQ x.band)) (c5:w.cell? ⟨b,off+5,none⟩=some (J x.azimuth)) (c6:w.cell? ⟨b,off+6,none⟩=some (J x.tilt)) (c7:w.cell? ⟨b,off+7,none⟩=some (J x.above)) (c8:w.cell? ⟨b,off+8,none⟩=some (J x.channel)) (k0:x.name.size≤maxLen) (k1:x.site.size≤maxLen) (k2:x.antenna.size≤maxLen) (k3:x.radio.size≤maxLen) (k4:x.band.size≤maxLen) :
  Calls Tryz.prog 143 #[.pointer (some ⟨b,off,none⟩)] w fun e w'=>e=.returned (.bool (zag x))∧OI w w w':=by
 by_cases h0:za8 x.name=true
 ·skip
  by_cases h1:za8 x.site=true
  ·skip
   by_cases h2:za8 x.antenna=true
   ·skip
    by_cases h3:za8 x.radio=true
    ·skip
     by_cases h4:za8 x.band=true
     ·skip
      by_cases h5:inB x.azimuth 0 359=true
      ·skip
       by_cases h6:inB x.tilt 0 30=true
       ·skip
        by_cases h7:inB x.above 1 3000=true
        ·skip
         by_cases h8:inB x.channel (-1) 999=true
         ·skip
          have HE:Hid (zag x=true):=by show _=_;unfold zag;simp only[h0,h1,h2,h3,h4,h5,h6,h7,h8]<;>rfl
          exact Q05
         ·replace h8:inB x.channel (-1) 999=false:=Bool.eq_false_iff.2 h8
          have HE:Hid (zag x=false):=by show _=_;unfold zag;simp only[h0,h1,h2,h3,h4,h5,h6,h7,h8]<;>rfl
          exact Q05
        ·replace h7:inB x.above 1 3000=false:=Bool.eq_false_iff.2 h7
         have HE:Hid (zag x=false):=by show _=_;unfold zag;simp only[h0,h1,h2,h3,h4,h5,h6,h7]<;>rfl
         exact Q05
       ·replace h6:inB x.tilt 0 30=false:=Bool.eq_false_iff.2 h6
        have HE:Hid (zag x=false):=by show _=_;unfold zag;simp only[h0,h1,h2,h3,h4,h5,h6]<;>rfl
        exact Q05
      ·replace h5:inB x.azimuth 0 359=false:=Bool.eq_false_iff.2 h5
       have HE:Hid (zag x=false):=by show _=_;unfold zag;simp only[h0,h1,h2,h3,h4,h5]<;>rfl
       exact Q05
     ·replace h4:za8 x.band=false:=Bool.eq_false_iff.2 h4
      have HE:Hid (zag x=false):=by show _=_;unfold zag;simp only[h0,h1,h2,h3,h4]<;>rfl
      exact Q05
    ·replace h3:za8 x.radio=false:=Bool.eq_false_iff.2 h3
     have HE:Hid (zag x=false):=by show _=_;unfold zag;simp only[h0,h1,h2,h3]<;>rfl
     exact Q05
   ·replace h2:za8 x.antenna=false:=Bool.eq_false_iff.2 h2
    have HE:Hid (zag x=false):=by show _=_;unfold zag;simp only[h0,h1,h2]<;>rfl
    exact Q05
  ·replace h1:za8 x.site=false:=Bool.eq_false_iff.2 h1
   have HE:Hid (zag x=false):=by show _=_;unfold zag;simp only[h0,h1]<;>rfl
   exact Q05
 ·replace h0:za8 x.name=false:=Bool.eq_false_iff.2 h0
  have HE:Hid (zag x=false):=by show _=_;unfold zag;simp only[h0]<;>rfl
  exact Q05
end Go.Proofs.YtpakghepnahooaaGreatDoor
namespace Go.Proofs.YtpakghepnahooaaGreatDoor
def upOk {α:Type} (ok:α→Bool) (rel:α→α→Bool) (l:List α) (j:Nat):Bool :=
 match l[j]? with
 | none=>true
 | some x=>ok x&&(match j with|0=>true|i+1=>match l[i]? with|none=>true|some p=>rel p x)
def zaz {α:Type} (ok:α→Bool) (rel:α→α→Bool) (l:List α):Bool:=(List.range l.length).all (upOk ok rel l)
section
variable {α:Type} {ok:α→Bool} {rel:α→α→Bool} {l:List α}
theorem zci (h:0<l.length):upOk ok rel l 0=ok l[0]:=by
 simp only[upOk,List.getElem?_eq_getElem h,Bool.and_true]
theorem zcj {k:Nat} (hk:0<k) (h:k<l.length):upOk ok rel l k=(ok l[k]&&rel (l[k-1]'II) l[k]):=by
 obtain⟨i,rfl⟩:∃ i,k=i+1:=⟨k-1,II⟩
 simp only[upOk,List.getElem?_eq_getElem h,List.getElem?_eq_getElem (show i<l.length by omega),Nat.add_sub_cancel]
theorem zd2 {k:Nat} (h:k<l.length) (hn:ok l[k]=false):upOk ok rel l k=false:=by
 simp only[upOk,List.getElem?_eq_getElem h,hn,Bool.false_and]
theorem zce (h:∀ j,j<l.length→upOk ok rel l j=true):zaz ok rel l=true:=by
 rw[zaz,List.all_eq_true];intro j hj;exact h j (by simpa using hj)
theorem za1 {k:Nat} (h:k<l.length) (hn:upOk ok rel l k=false):zaz ok rel l=false:=by
 rw[zaz,List.all_eq_false];exact⟨k,by simpa using h,by simp[hn]⟩
theorem rowOk_at (h:zaz ok rel l=true) {k:Nat} (hk:k<l.length):upOk ok rel l k=true:=by
 rw[zaz,List.all_eq_true] at h;exact h k (by simpa using hk)
theorem zd3 (h:zaz ok rel l=true) {k:Nat} (hk:k<l.length):ok l[k]=true:=by
 have:=rowOk_at h hk;simp only[upOk,List.getElem?_eq_getElem hk,Bool.and_eq_true] at this;exact this.1
theorem ze5 (h:zaz ok rel l=true) {k:Nat} (hk:k+1<l.length):rel (l[k]'II) l[k+1]=true:=by
 have:=rowOk_at h hk;rw[zcj II hk,Bool.and_eq_true] at this
 simpa using this.2
theorem rowOk_mem (h:zaz ok rel l=true) {x:α} (hx:x ∈ l):ok x=true:=by
 obtain⟨i,hi,rfl⟩:=List.getElem_of_mem hx;exact zd3 h hi
end
theorem zbo {p:Nat→Bool} {k:Nat} (h:∀ j,j<k→p j=true) (hk:p k=true):∀ j,j<k+1→p j=true:=fun j hj=>by
 by_cases e:j=k
 ·rw[e];exact hk
 ·exact h j II
def ltS (a b:ByteArray):Bool:=Op.bytesLess a.toList b.toList
theorem zdu:(a b:List UInt8)→(Op.bytesLess a b || a == b) = !(Op.bytesLess b a):=by
 intro a
 induction a with
 | nil=>intro b;cases b<;>simp[Op.bytesLess]
 | cons x a ih =>
  intro b
  cases b with
  | nil=>simp[Op.bytesLess]
  | cons y b =>
   simp only[Op.bytesLess,List.cons_beq_cons];have:=ih b
   rcases Nat.lt_trichotomy x.toNat y.toNat with h|h|h
   ·have h1:x<y:=UInt8.lt_iff_toNat_lt.2 h
    have h2:¬ y<x:=fun e=>by have:=UInt8.lt_iff_toNat_lt.1 e;omega
    have h3:(y == x)=false:=by rw[beq_eq_false_iff_ne];intro e;subst e;omega
    simp[h1,h2,h3]
   ·have e:x=y:=UInt8.toNat_inj.1 h
    subst e;have h2:¬ x<x:=fun e=>by have:=UInt8.lt_iff_toNat_lt.1 e;omega
    simp[h2,this]
   ·have h1:y<x:=UInt8.lt_iff_toNat_lt.2 h
    have h2:¬ x<y:=fun e=>by have:=UInt8.lt_iff_toNat_lt.1 e;omega
    have h3:(x == y)=false:=by rw[beq_eq_false_iff_ne];intro e;subst e;omega
    simp[h1,h2,h3]
theorem zfa {a b:ByteArray} (h:ltS a b=true):(Op.bytesLess b.toList a.toList || b.toList == a.toList)=false:=by
 rw[zdu];unfold ltS at h;rw[h];rfl
theorem zel {a b:ByteArray} (h:ltS a b=false):(Op.bytesLess b.toList a.toList || b.toList == a.toList)=true:=by
 rw[zdu];unfold ltS at h;rw[h];rfl
end Go.Proofs.YtpakghepnahooaaGreatDoor
namespace Go.Proofs.YtpakghepnahooaaGreatDoor
def eqS (a b:ByteArray):Bool:=a.toList == b.toList
theorem eqS_iff {a b:ByteArray} : eqS a b=true↔a=b:=by
 unfold eqS;rw[beq_iff_eq,ByteArray.toList_eq,ByteArray.toList_eq]
 constructor
 ·intro h
  obtain⟨⟨a⟩⟩:=a;obtain⟨⟨b⟩⟩:=b;simp only at h;rw[h]
 ·intro h;rw[h]
theorem zb6 {α:Type} (p:α→Bool) (l:List α):(zbh p l = -1∧l.any p=false)∨∃ i,∃ h:i<l.length,zbh p l=(i:Int)∧p l[i]=true∧(l.take i).any p=false:=by
 unfold zbh
 cases h:l.findIdx? p with
 | none =>
  left
  refine⟨rfl,?_⟩;rw[List.any_eq_false];intro x hx;have:=List.findIdx?_eq_none_iff.1 h x hx;simp[this]
 | some i =>
  right
  obtain⟨hi,hp,hno⟩:=List.findIdx?_eq_some_iff_getElem.1 h;refine⟨i,hi,rfl,hp,?_⟩;rw[List.any_eq_false];intro x hx;obtain⟨j,hj,rfl⟩:=List.mem_take_iff_getElem.1 hx;have:=hno j II
  simpa using this
theorem bytesLess_trans:(a b c:List UInt8)→Op.bytesLess a b=true→Op.bytesLess b c=true→Op.bytesLess a c=true:=by
 intro a
 induction a with
 | nil =>
  intro b c h1 h2
  cases c with
  | nil=>cases b<;>simp[Op.bytesLess] at h2
  | cons z c=>simp[Op.bytesLess]
 | cons x a ih =>
  intro b c h1 h2
  cases b with
  | nil=>simp[Op.bytesLess] at h1
  | cons y b =>
   cases c with
   | nil=>simp[Op.bytesLess] at h2
   | cons z c =>
    simp only[Op.bytesLess,Bool.or_eq_true,decide_eq_true_eq,Bool.and_eq_true,beq_iff_eq] at h1 h2 ⊢
    rcases h1 with h1|⟨rfl,h1⟩<;>rcases h2 with h2|⟨rfl,h2⟩
    ·left;rw[UInt8.lt_iff_toNat_lt] at *;omega
    ·exact Or.inl h1
    ·exact Or.inl h2
    ·exact Or.inr ⟨rfl,ih b c h1 h2⟩
theorem ltS_trans {a b c:ByteArray} (h1:ltS a b=true) (h2:ltS b c=true):ltS a c=true:=bytesLess_trans _ _ _ h1 h2
theorem ltS_asymm {a b:ByteArray} (h:ltS a b=true):ltS b a=false:=by
 have:=zdu a.toList b.toList;unfold ltS at h ⊢;rw[h] at this
 simpa using this.symm
theorem ltS_of_not {a b:ByteArray} (h:ltS b a=false) (hne:eqS a b=false):ltS a b=true:=by
 have:=zdu a.toList b.toList;unfold ltS at h ⊢;unfold eqS at hne;rw[h,hne] at this
 simpa using this
def zeu {α:Type} (f:α→ByteArray) (l:List α) (nm:ByteArray):Nat:=l.countP (fun y=>ltS (f y) nm)
section
variable {α:Type} {f:α→ByteArray} {l:List α} {nm:ByteArray}
theorem pos_of (hs:∀ i (h:i+1<l.length),ltS (f (l[i]'II)) (f l[i+1])=true) {k:Nat} (hk:k≤l.length) (hlo:∀ h:0<k,ltS (f (l[k-1]'II)) nm=true) (hhi:∀ h:k<l.length,ltS (f l[k]) nm=false):zeu f l nm=k:=by
 have down:∀ d j (hj:j<l.length),j+d+1=k→ltS (f l[j]) nm=true:=by
  intro d
  induction d with
  | zero =>
   intro j hj e;have:=hlo II;rw[show l[j]=l[k-1]'II by congr 1;omega];exact this
  | succ d ih =>
   intro j hj e;exact ltS_trans (hs j II) (ih (j+1) II II)
 have up:∀ d (hj:k+d<l.length),ltS (f (l[k+d]'hj)) nm=false:=by
  intro d
  induction d with
  | zero=>intro hj;exact hhi hj
  | succ d ih =>
   intro hj;have h1:=ih II;have h2:=hs (k+d) II;rw[Bool.eq_false_iff];intro h3;rw[ltS_trans h2 h3] at h1
   cases h1
 have e1:(l.take k).countP (fun y=>ltS (f y) nm)=k:=by
  have h:∀ a ∈ l.take k,ltS (f a) nm=true:=by
   intro a ha;obtain⟨j,hj,rfl⟩:=List.mem_take_iff_getElem.1 ha;exact down (k-1-j) j II II
  rw[List.countP_eq_length.2 h,List.length_take];omega
 have e2:(l.drop k).countP (fun y=>ltS (f y) nm)=0:=by
  rw[List.countP_eq_zero];intro a ha;obtain⟨j,hj,rfl⟩:=List.getElem_of_mem ha;rw[List.length_drop] at hj;rw[List.getElem_drop,up j II];simp
 unfold zeu;rw[← List.take_append_drop k l,List.countP_append,e1,e2]
 rfl
theorem pos_of_end (hs:∀ i (h:i+1<l.length),ltS (f (l[i]'II)) (f l[i+1])=true) (hno:∀ i (h:i<l.length),eqS (f l[i]) nm=false) {k:Nat} (hk:k≤l.length) (hlo:∀ h:0<k,ltS nm (f (l[k-1]'II))=false) (hhi:∀ h:k<l.length,ltS nm (f l[k])=true):zeu f l nm=k :=
 pos_of hs hk (fun h=>ltS_of_not (hlo h) (hno _ _)) (fun h=>ltS_asymm (hhi h))
end
theorem none_eqS {α:Type} {f:α→ByteArray} {l:List α} {nm:ByteArray} (h:l.any (fun y=>eqS (f y) nm)=false):∀ i (hi:i<l.length),eqS (f l[i]) nm=false:=fun i hi=>by
 have:=List.any_eq_false.1 h _ (List.getElem_mem hi)
 simpa using this
def zcn {α:Type} (l:List α) (x:α) (k:Nat):List α:=l.take k++x::l.drop k
theorem insAt_length {α:Type} (l:List α) (x:α) {k:Nat} (h:k≤l.length):(zcn l x k).length=l.length+1:=by unfold zcn;simp<;>omega
end Go.Proofs.YtpakghepnahooaaGreatDoor
namespace Go.Proofs.YtpakghepnahooaaGreatDoor
def sameI (l m:List Int):Bool:=decide (l.length=m.length)&&(List.range l.length).all (fun i=>match l[i]?,m[i]? with|some a,some b=>(a == b)|_,_=>false)
theorem sameI_len {l m:List Int} (h:l.length≠m.length):sameI l m=false:=by unfold sameI;rw[decide_eq_false h];rfl
theorem sameI_at {l m:List Int} {k:Nat} (hl:k<l.length) (hm:k<m.length) (h:(l[k] == m[k])=false):sameI l m=false:=by
 unfold sameI;rw[Bool.and_eq_false_iff]
 right
 rw[List.all_eq_false];exact⟨k,by simpa using hl,by rw[List.getElem?_eq_getElem hl,List.getElem?_eq_getElem hm];simp[h]⟩
theorem sameI_all {l m:List Int} (e:l.length=m.length) (h:∀ j (hl:j<l.length),(l[j] == m[j]'II)=true):sameI l m=true:=by
 unfold sameI;rw[decide_eq_true e,Bool.true_and,List.all_eq_true];intro j hj;have hj':j<l.length:=by simpa using hj
 rw[List.getElem?_eq_getElem hj',List.getElem?_eq_getElem (show j<m.length by omega)];exact h j hj'
end Go.Proofs.YtpakghepnahooaaGreatDoor
