/- The order of texts, and where a name belongs in a row of rising names. Plain lemmas; no program. -/
import Derived.Test.YtmkkiglcpedkiaaGreatDoorProb1
import Derived.WalkLawsBesides
set_option linter.unusedVariables false
set_option linter.unusedSimpArgs false
namespace Go.Proofs.YtmkkiglcpedkiaaGreatDoor
open Go.RowKit
def smallN (n:Int):Bool:=decide (97≤n)&&decide (n≤122)
def digitN (n:Int):Bool:=decide (48≤n)&&decide (n≤57)
def nameN (n:Int):Bool:=smallN n || digitN n
def bytesN (s:ByteArray):List Int:=s.data.toList.map fun c=>(c.toNat:Int)
theorem bytesN_len (s:ByteArray):(bytesN s).length=s.size:=by rw[bytesN,List.length_map,Array.length_toList];rfl
theorem toList_len (s:ByteArray):s.toList.length=s.size:=by rw[ByteArray.toList_eq,Array.length_toList];rfl
theorem bytesN_get (s:ByteArray) (k:Nat) (h:k<s.size):(bytesN s)[k]'(by rw[bytesN_len];exact h)=(s[k].toNat:Int):=by
 simp only[bytesN,List.getElem_map,Array.getElem_toList];rfl
def nameB (s:ByteArray):Bool:=decide (1≤s.size)&&(decide (s.size≤10)&&(((bytesN s).take 1).all smallN&&(bytesN s).all nameN))
theorem smallN_true {n:Int} : smallN n=true↔97≤n∧n≤122:=by simp[smallN]
theorem digitN_true {n:Int} : digitN n=true↔48≤n∧n≤57:=by simp[digitN]
theorem nameN_true {n:Int} : nameN n=true↔(97≤n∧n≤122)∨(48≤n∧n≤57):=by simp[nameN,smallN_true,digitN_true]
theorem nameN_false {n:Int} : nameN n=false↔¬ ((97≤n∧n≤122)∨(48≤n∧n≤57)):=by rw[← nameN_true];simp
theorem smallN_false {n:Int} : smallN n=false↔¬ (97≤n∧n≤122):=by rw[← smallN_true];simp
theorem all_take_succ {α:Type} (p:α→Bool) (l:List α) (k:Nat) (h:k<l.length):(l.take (k+1)).all p=((l.take k).all p&&p l[k]):=by
 rw[List.take_succ_eq_append_getElem h,List.all_append];simp
theorem all_false_at {α:Type} (p:α→Bool) (l:List α) (k:Nat) (h:k<l.length) (hp:p l[k]=false):l.all p=false:=by
 rw[List.all_eq_false];exact⟨l[k],List.getElem_mem h,by simp[hp]⟩
theorem size_zero {s:ByteArray} (h:s.size=0):s=⟨#[]⟩:=by
 obtain⟨⟨l⟩⟩:=s;have:l.length=0:=h;rw[List.length_eq_zero_iff.1 this]
theorem take1 (s:ByteArray) (h:0<s.size):(bytesN s).take 1 = [(s[0].toNat:Int)]:=by
 have h':0<(bytesN s).length:=by rw[bytesN_len];exact h
 have:=List.take_succ_eq_append_getElem h';rw[List.take_zero,List.nil_append] at this;rw[this,bytesN_get s 0 h]
theorem nameB_short {s:ByteArray} (h:s.size<1):nameB s=false:=by unfold nameB;rw[decide_eq_false (by omega)];rfl
theorem nameB_long {s:ByteArray} (h:10<s.size):nameB s=false:=by unfold nameB;rw[decide_eq_false (p:=s.size≤10) (by omega)];simp
theorem nameB_first {s:ByteArray} (h:0<s.size) (hs:smallN (s[0].toNat:Int)=false):nameB s=false:=by
 unfold nameB;rw[take1 s h];simp[hs]
theorem nameB_rest {s:ByteArray} (h:0<s.size) (h2:s.size≤10) (hs:smallN (s[0].toNat:Int)=true):nameB s=(bytesN s).all nameN:=by
 unfold nameB;rw[take1 s h,decide_eq_true (by omega),decide_eq_true h2];simp[hs]
theorem onlyNameBytes_any (s:ByteArray) (w:World) (hs:s.size≤1099511627776) :
  Calls Tryz.prog 96 #[.string s] w fun e w'=>e=.returned (.bool ((bytesN s).all nameN))∧w=w':=by
 have hnb:(s.size:Int)≤1099511627776:=by omega
 go_enter Tryz.func96,Tryz.ntmps96;go_wp2
 go_loop [7] (fun i=>∃ (k:Nat),k≤s.size∧i=.int .i64 k∧((bytesN s).take k).all nameN=true) (fun i=>s.size-(intOf i).toNat)
 case atStart=>exact⟨0,Nat.zero_le _,rfl,by simp⟩
 case round =>
  obtain⟨k,hk,rfl,hno⟩:=hrel;have HN:=Lib.hid hno;clear hno
  by_cases hlt:k<s.size
  ·have hlt':k<(bytesN s).length:=by rw[bytesN_len];exact hlt
   have hg:=bytesN_get s k hlt;have HG:=Lib.hid hg;clear hg
   by_cases hp:nameN (s[k].toNat:Int)=true
   ·have hp':=nameN_true.1 hp
    have HP:=Lib.hid hp;clear hp
    rcases hp' with ⟨h1,h2⟩|⟨h1,h2⟩
    ·go_wp2
     all_goals
      go_round
      case rel=>exact⟨k+1,by omega,by go_num,by rw[all_take_succ _ _ k hlt',HN.out,HG.out,HP.out];rfl⟩
      case measure=>simp[intOf];omega
    ·have h3:(s[k].toNat:Int)<97:=by omega
     go_wp2
     all_goals
      go_round
      case rel=>exact⟨k+1,by omega,by go_num,by rw[all_take_succ _ _ k hlt',HN.out,HG.out,HP.out];rfl⟩
      case measure=>simp[intOf];omega
   ·have hp0:nameN (s[k].toNat:Int)=false:=Bool.eq_false_iff.2 hp
    have hp':=nameN_false.1 hp0;have HE:=Lib.hid (all_false_at nameN (bytesN s) k hlt' (by rw[HG.out];exact hp0));clear hp hp0
    rcases Int.lt_or_le (s[k].toNat:Int) 48 with h1|h1
    ·have h3:(s[k].toNat:Int)<97:=by omega
     clear hp';go_wp2;go_ret;exact⟨by rw[HE.out];rfl,rfl⟩
    ·rcases Int.lt_or_le (s[k].toNat:Int) 97 with h2|h2
     ·have h3:57<(s[k].toNat:Int):=by omega
      clear hp';go_wp2;go_ret;exact⟨by rw[HE.out];rfl,rfl⟩
     ·have h3:122<(s[k].toNat:Int):=by omega
      have h4:57<(s[k].toNat:Int):=by omega
      clear hp';go_wp2;go_ret;exact⟨by rw[HE.out];rfl,rfl⟩
  ·obtain rfl:k=s.size:=by omega
   go_wp2;go_ret;have:=HN.out;rw[← bytesN_len,List.take_length] at this;exact⟨by rw[this];rfl,rfl⟩
theorem isName_any (s:ByteArray) (w:World) (hs:s.size≤maxLen) :
  Calls Tryz.prog 71 #[.string s] w fun e w'=>e=.returned (.bool (nameB s))∧w=w':=by
 unfold maxLen at hs
 by_cases h1:s.size<1
 ·have HE:=Lib.hid (nameB_short h1)
  have h1':(s.size:Int)<1:=by omega
  go_enter Tryz.func71,Tryz.ntmps71;go_wp2;go_ret;exact⟨by rw[HE.out];rfl,rfl⟩
 ·by_cases h2:10<s.size
  ·have HE:=Lib.hid (nameB_long h2)
   have h1':1≤s.size:=by omega
   clear h1;go_enter Tryz.func71,Tryz.ntmps71;go_wp2;go_ret;exact⟨by rw[HE.out];rfl,rfl⟩
  ·have h0:0<s.size:=by omega
   have h1':1≤s.size:=by omega
   have h2':s.size≤10:=by omega
   clear h1 h2
   by_cases h3:smallN (s[0].toNat:Int)=true
   ·have HE:=Lib.hid (nameB_rest h0 h2' h3)
    obtain⟨h4,h5⟩:=smallN_true.1 h3;clear h3;go_enter Tryz.func71,Tryz.ntmps71;go_wp2_with (go_at_call 96;refine (onlyNameBytes_any s _ (by omega)).mono ?_;rintro e w1 ⟨rfl,rfl⟩);go_ret;exact⟨by rw[HE.out];rfl,rfl⟩
   ·have h3':smallN (s[0].toNat:Int)=false:=Bool.eq_false_iff.2 h3
    have HE:=Lib.hid (nameB_first h0 h3');have h4:=smallN_false.1 h3';clear h3 h3'
    rcases Int.lt_or_le (s[0].toNat:Int) 97 with h5|h5
    ·clear h4
     go_enter Tryz.func71,Tryz.ntmps71;go_wp2;go_ret;exact⟨by rw[HE.out];rfl,rfl⟩
    ·have h6:122<(s[0].toNat:Int):=by omega
     clear h4;go_enter Tryz.func71,Tryz.ntmps71;go_wp2;go_ret;exact⟨by rw[HE.out];rfl,rfl⟩
theorem l01Small_any (n:Int) (w:World):Calls Tryz.prog 81 #[.int .u8 n] w fun e w'=>e=.returned (.bool (smallN n))∧w=w':=by
 by_cases h1:97≤n
 ·have e:smallN n=decide (n≤122):=by unfold smallN;simp[h1]
  rw[e];clear e;go_enter Tryz.func81,Tryz.ntmps81;go_wp2;go_ret;exact⟨rfl,rfl⟩
 ·have e:smallN n=false:=by unfold smallN;simp[h1]
  rw[e];clear e;go_enter Tryz.func81,Tryz.ntmps81;go_wp2;go_ret;exact⟨rfl,rfl⟩
theorem l01Digit_any (n:Int) (w:World):Calls Tryz.prog 82 #[.int .u8 n] w fun e w'=>e=.returned (.bool (digitN n))∧w=w':=by
 by_cases h1:48≤n
 ·have e:digitN n=decide (n≤57):=by unfold digitN;simp[h1]
  rw[e];clear e;go_enter Tryz.func82,Tryz.ntmps82;go_wp2;go_ret;exact⟨rfl,rfl⟩
 ·have e:digitN n=false:=by unfold digitN;simp[h1]
  rw[e];clear e;go_enter Tryz.func82,Tryz.ntmps82;go_wp2;go_ret;exact⟨rfl,rfl⟩
theorem l01Name_any (s:ByteArray) (w:World) (hs:s.size≤maxLen) :
  Calls Tryz.prog 58 #[.string s] w fun e w'=>e=.returned (.bool (nameB s))∧w=w':=by
 unfold maxLen at hs
 by_cases h1:s.size<1
 ·have HE:=Lib.hid (nameB_short h1)
  obtain rfl:=size_zero (s:=s) (by omega);clear h1;go_enter Tryz.func58,Tryz.ntmps58;go_wp2;go_ret;exact⟨by rw[HE.out];rfl,rfl⟩
 ·have h0:0<s.size:=by omega
  have hemp:s.toList.isEmpty=false:=by
   rw[List.isEmpty_eq_false_iff];intro e;have:s.toList.length=0:=by rw[e];rfl
   rw[toList_len] at this;omega
  have hemp2:(s.toList == [])=false:=by
   rw[beq_eq_false_iff_ne];intro e;rw[e] at hemp
   cases hemp
  by_cases h2:10<s.size
  ·have HE:=Lib.hid (nameB_long h2)
   clear h1;go_enter Tryz.func58,Tryz.ntmps58;go_wp2;go_ret;exact⟨by rw[HE.out];rfl,rfl⟩
  ·have h2':s.size≤10:=by omega
   clear h1 h2
   by_cases h3:smallN (s[0].toNat:Int)=true
   ·have HE:=Lib.hid (nameB_rest h0 h2' h3)
    go_enter Tryz.func58,Tryz.ntmps58;go_wp2_with (go_at_call 81;refine (l01Small_any _ _).mono ?_;rintro e w1 ⟨rfl,rfl⟩)
    go_loop [3] (fun i=>∃ (k:Nat),k≤s.size∧i=.int .i64 k∧((bytesN s).take k).all nameN=true) (fun i=>s.size-(intOf i).toNat)
    case atStart=>exact⟨0,Nat.zero_le _,rfl,by simp⟩
    case round =>
     obtain⟨k,hk,rfl,hno⟩:=hrel;have HN:=Lib.hid hno;clear hno h3
     by_cases hlt:k<s.size
     ·have hlt':k<(bytesN s).length:=by rw[bytesN_len];exact hlt
      have HG:=Lib.hid (bytesN_get s k hlt)
      by_cases hp:smallN (s[k].toNat:Int)=true
      ·have HP:Hid (nameN (s[k].toNat:Int)=true):=by show nameN _=true;unfold nameN;rw[hp];rfl
       go_wp2_with (go_at_call 81;refine (l01Small_any _ _).mono ?_;rintro e w1 ⟨rfl,rfl⟩)
       go_round
       case rel=>exact⟨k+1,by omega,by go_num,by rw[all_take_succ _ _ k hlt',HN.out,HG.out,HP.out];rfl⟩
       case measure=>simp[intOf];omega
      ·have hp':smallN (s[k].toNat:Int)=false:=Bool.eq_false_iff.2 hp
       clear hp
       by_cases hd:digitN (s[k].toNat:Int)=true
       ·have HP:Hid (nameN (s[k].toNat:Int)=true):=by show nameN _=true;unfold nameN;rw[hd];simp
        go_wp2_with (first|(go_at_call 81;refine (l01Small_any _ _).mono ?_;rintro e w1 ⟨rfl,rfl⟩)|(go_at_call 82;refine (l01Digit_any _ _).mono ?_;rintro e w1 ⟨rfl,rfl⟩))
        go_round
        case rel=>exact⟨k+1,by omega,by go_num,by rw[all_take_succ _ _ k hlt',HN.out,HG.out,HP.out];rfl⟩
        case measure=>simp[intOf];omega
       ·have hd':digitN (s[k].toNat:Int)=false:=Bool.eq_false_iff.2 hd
        clear hd;have HE2:=Lib.hid (all_false_at nameN (bytesN s) k hlt' (by rw[HG.out];unfold nameN;rw[hp',hd'];rfl));go_wp2_with (first|(go_at_call 81;refine (l01Small_any _ _).mono ?_;rintro e w1 ⟨rfl,rfl⟩)|(go_at_call 82;refine (l01Digit_any _ _).mono ?_;rintro e w1 ⟨rfl,rfl⟩));go_ret;exact⟨by rw[HE.out,HE2.out];rfl,rfl⟩
     ·obtain rfl:k=s.size:=by omega
      go_wp2;go_ret;have:=HN.out;rw[← bytesN_len,List.take_length] at this;exact⟨by rw[HE.out,this];rfl,rfl⟩
   ·have h3':smallN (s[0].toNat:Int)=false:=Bool.eq_false_iff.2 h3
    have HE:=Lib.hid (nameB_first h0 h3');clear h3;go_enter Tryz.func58,Tryz.ntmps58;go_wp2_with (go_at_call 81;refine (l01Small_any _ _).mono ?_;rintro e w1 ⟨rfl,rfl⟩);go_ret;exact⟨by rw[HE.out];rfl,rfl⟩
end Go.Proofs.YtmkkiglcpedkiaaGreatDoor
namespace Go.Proofs.YtmkkiglcpedkiaaGreatDoor
def upOk {α:Type} (ok:α→Bool) (rel:α→α→Bool) (l:List α) (j:Nat):Bool :=
 match l[j]? with
 | none=>true
 | some x=>ok x&&(match j with|0=>true|i+1=>match l[i]? with|none=>true|some p=>rel p x)
def rowOk {α:Type} (ok:α→Bool) (rel:α→α→Bool) (l:List α):Bool:=(List.range l.length).all (upOk ok rel l)
section
variable {α:Type} {ok:α→Bool} {rel:α→α→Bool} {l:List α}
theorem upOk_zero (h:0<l.length):upOk ok rel l 0=ok l[0]:=by
 simp only[upOk,List.getElem?_eq_getElem h,Bool.and_true]
theorem upOk_pos {k:Nat} (hk:0<k) (h:k<l.length):upOk ok rel l k=(ok l[k]&&rel (l[k-1]'(by omega)) l[k]):=by
 obtain⟨i,rfl⟩:∃ i,k=i+1:=⟨k-1,by omega⟩
 simp only[upOk,List.getElem?_eq_getElem h,List.getElem?_eq_getElem (show i<l.length by omega),Nat.add_sub_cancel]
theorem upOk_not {k:Nat} (h:k<l.length) (hn:ok l[k]=false):upOk ok rel l k=false:=by
 simp only[upOk,List.getElem?_eq_getElem h,hn,Bool.false_and]
theorem rowOk_true (h:∀ j,j<l.length→upOk ok rel l j=true):rowOk ok rel l=true:=by
 rw[rowOk,List.all_eq_true];intro j hj;exact h j (by simpa using hj)
theorem rowOk_false {k:Nat} (h:k<l.length) (hn:upOk ok rel l k=false):rowOk ok rel l=false:=by
 rw[rowOk,List.all_eq_false];exact⟨k,by simpa using h,by simp[hn]⟩
theorem rowOk_at (h:rowOk ok rel l=true) {k:Nat} (hk:k<l.length):upOk ok rel l k=true:=by
 rw[rowOk,List.all_eq_true] at h;exact h k (by simpa using hk)
theorem rowOk_ok (h:rowOk ok rel l=true) {k:Nat} (hk:k<l.length):ok l[k]=true:=by
 have:=rowOk_at h hk;simp only[upOk,List.getElem?_eq_getElem hk,Bool.and_eq_true] at this;exact this.1
theorem rowOk_rel (h:rowOk ok rel l=true) {k:Nat} (hk:k+1<l.length):rel (l[k]'(by omega)) l[k+1]=true:=by
 have:=rowOk_at h hk;rw[upOk_pos (by omega) hk,Bool.and_eq_true] at this
 simpa using this.2
theorem rowOk_mem (h:rowOk ok rel l=true) {x:α} (hx:x ∈ l):ok x=true:=by
 obtain⟨i,hi,rfl⟩:=List.getElem_of_mem hx;exact rowOk_ok h hi
end
theorem upTo_succ {p:Nat→Bool} {k:Nat} (h:∀ j,j<k→p j=true) (hk:p k=true):∀ j,j<k+1→p j=true:=fun j hj=>by
 by_cases e:j=k
 ·rw[e];exact hk
 ·exact h j (by omega)
def ltS (a b:ByteArray):Bool:=Op.bytesLess a.toList b.toList
theorem bytesLess_total:(a b:List UInt8)→(Op.bytesLess a b || a == b) = !(Op.bytesLess b a):=by
 intro a
 induction a with
 | nil=>intro b;cases b<;>simp[Op.bytesLess]
 | cons x a ih =>
  intro b
  cases b with
  | nil=>simp[Op.bytesLess]
  | cons y b =>
   simp only[Op.bytesLess,List.cons_beq_cons];have:=ih b
   rcases Nat.lt_trichotomy x.toNat y.toNat with h|h|h
   ·have h1:x<y:=UInt8.lt_iff_toNat_lt.2 h
    have h2:¬ y<x:=fun e=>by have:=UInt8.lt_iff_toNat_lt.1 e;omega
    have h3:(y == x)=false:=by rw[beq_eq_false_iff_ne];intro e;subst e;omega
    simp[h1,h2,h3]
   ·have e:x=y:=UInt8.toNat_inj.1 h
    subst e;have h2:¬ x<x:=fun e=>by have:=UInt8.lt_iff_toNat_lt.1 e;omega
    simp[h2,this]
   ·have h1:y<x:=UInt8.lt_iff_toNat_lt.2 h
    have h2:¬ x<y:=fun e=>by have:=UInt8.lt_iff_toNat_lt.1 e;omega
    have h3:(x == y)=false:=by rw[beq_eq_false_iff_ne];intro e;subst e;omega
    simp[h1,h2,h3]
end Go.Proofs.YtmkkiglcpedkiaaGreatDoor
namespace Go.Proofs.YtmkkiglcpedkiaaGreatDoor
def eqS (a b:ByteArray):Bool:=a.toList == b.toList
theorem eqS_iff {a b:ByteArray} : eqS a b=true↔a=b:=by
 unfold eqS;rw[beq_iff_eq,ByteArray.toList_eq,ByteArray.toList_eq]
 constructor
 ·intro h
  obtain⟨⟨a⟩⟩:=a;obtain⟨⟨b⟩⟩:=b;simp only at h;rw[h]
 ·intro h;rw[h]
theorem firstIdx_cases' {α:Type} (p:α→Bool) (l:List α):(firstIdx' p l = -1∧l.any p=false)∨∃ i,∃ h:i<l.length,firstIdx' p l=(i:Int)∧p l[i]=true∧(l.take i).any p=false:=by
 unfold firstIdx'
 cases h:l.findIdx? p with
 | none =>
  left
  refine⟨rfl,?_⟩;rw[List.any_eq_false];intro x hx;have:=List.findIdx?_eq_none_iff.1 h x hx;simp[this]
 | some i =>
  right
  obtain⟨hi,hp,hno⟩:=List.findIdx?_eq_some_iff_getElem.1 h;refine⟨i,hi,rfl,hp,?_⟩;rw[List.any_eq_false];intro x hx;obtain⟨j,hj,rfl⟩:=List.mem_take_iff_getElem.1 hx;have:=hno j (by omega)
  simpa using this
theorem bytesLess_trans:(a b c:List UInt8)→Op.bytesLess a b=true→Op.bytesLess b c=true→Op.bytesLess a c=true:=by
 intro a
 induction a with
 | nil =>
  intro b c h1 h2
  cases c with
  | nil=>cases b<;>simp[Op.bytesLess] at h2
  | cons z c=>simp[Op.bytesLess]
 | cons x a ih =>
  intro b c h1 h2
  cases b with
  | nil=>simp[Op.bytesLess] at h1
  | cons y b =>
   cases c with
   | nil=>simp[Op.bytesLess] at h2
   | cons z c =>
    simp only[Op.bytesLess,Bool.or_eq_true,decide_eq_true_eq,Bool.and_eq_true,beq_iff_eq] at h1 h2 ⊢
    rcases h1 with h1|⟨rfl,h1⟩<;>rcases h2 with h2|⟨rfl,h2⟩
    ·left;rw[UInt8.lt_iff_toNat_lt] at *;omega
    ·exact Or.inl h1
    ·exact Or.inl h2
    ·exact Or.inr ⟨rfl,ih b c h1 h2⟩
theorem ltS_trans {a b c:ByteArray} (h1:ltS a b=true) (h2:ltS b c=true):ltS a c=true:=bytesLess_trans _ _ _ h1 h2
theorem ltS_asymm {a b:ByteArray} (h:ltS a b=true):ltS b a=false:=by
 have:=bytesLess_total a.toList b.toList;unfold ltS at h ⊢;rw[h] at this
 simpa using this.symm
theorem ltS_of_not {a b:ByteArray} (h:ltS b a=false) (hne:eqS a b=false):ltS a b=true:=by
 have:=bytesLess_total a.toList b.toList;unfold ltS at h ⊢;unfold eqS at hne;rw[h,hne] at this
 simpa using this
def posOf {α:Type} (f:α→ByteArray) (l:List α) (nm:ByteArray):Nat:=l.countP (fun y=>ltS (f y) nm)
section
variable {α:Type} {f:α→ByteArray} {l:List α} {nm:ByteArray}
theorem pos_of (hs:∀ i (h:i+1<l.length),ltS (f (l[i]'(by omega))) (f l[i+1])=true) {k:Nat} (hk:k≤l.length) (hlo:∀ h:0<k,ltS (f (l[k-1]'(by omega))) nm=true) (hhi:∀ h:k<l.length,ltS (f l[k]) nm=false):posOf f l nm=k:=by
 have down:∀ d j (hj:j<l.length),j+d+1=k→ltS (f l[j]) nm=true:=by
  intro d
  induction d with
  | zero =>
   intro j hj e;have:=hlo (by omega);rw[show l[j]=l[k-1]'(by omega) by congr 1;omega];exact this
  | succ d ih =>
   intro j hj e;exact ltS_trans (hs j (by omega)) (ih (j+1) (by omega) (by omega))
 have up:∀ d (hj:k+d<l.length),ltS (f (l[k+d]'hj)) nm=false:=by
  intro d
  induction d with
  | zero=>intro hj;exact hhi hj
  | succ d ih =>
   intro hj;have h1:=ih (by omega);have h2:=hs (k+d) (by omega);rw[Bool.eq_false_iff];intro h3;rw[ltS_trans h2 h3] at h1
   cases h1
 have e1:(l.take k).countP (fun y=>ltS (f y) nm)=k:=by
  have h:∀ a ∈ l.take k,ltS (f a) nm=true:=by
   intro a ha;obtain⟨j,hj,rfl⟩:=List.mem_take_iff_getElem.1 ha;exact down (k-1-j) j (by omega) (by omega)
  rw[List.countP_eq_length.2 h,List.length_take];omega
 have e2:(l.drop k).countP (fun y=>ltS (f y) nm)=0:=by
  rw[List.countP_eq_zero];intro a ha;obtain⟨j,hj,rfl⟩:=List.getElem_of_mem ha;rw[List.length_drop] at hj;rw[List.getElem_drop,up j (by omega)];simp
 unfold posOf;rw[← List.take_append_drop k l,List.countP_append,e1,e2]
 rfl
end
def insAt {α:Type} (l:List α) (x:α) (k:Nat):List α:=l.take k++x::l.drop k
theorem insAt_length {α:Type} (l:List α) (x:α) {k:Nat} (h:k≤l.length):(insAt l x k).length=l.length+1:=by unfold insAt;simp<;>omega
end Go.Proofs.YtmkkiglcpedkiaaGreatDoor
