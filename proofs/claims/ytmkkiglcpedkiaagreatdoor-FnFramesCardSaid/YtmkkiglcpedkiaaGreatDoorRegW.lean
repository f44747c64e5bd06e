/- What is returned: a new register and a code. Plain lemmas. -/
import Derived.Test.YtmkkiglcpedkiaaGreatDoorReg0
import Derived.Test.YtmkkiglcpedkiaaGreatDoorHRegister
import Derived.Test.YtmkkiglcpedkiaaGreatDoorBox
set_option linter.unusedVariables false
set_option linter.unusedSimpArgs false
namespace Go.Proofs.YtmkkiglcpedkiaaGreatDoor
open Go.RowKit
set_option maxHeartbeats 4000000
theorem printN_true {n:Int} : printN n=true↔32≤n∧n≤126:=by simp[printN]
theorem printN_false {n:Int} : printN n=false↔¬ (32≤n∧n≤126):=by rw[← printN_true];simp
theorem valueB_at {s:ByteArray} {k:Nat} (h:k<s.size) (hp:printN (s[k].toNat:Int)=false):valueB s=false:=by
 unfold valueB;rw[all_false_at printN (bytesN s) k (by rw[bytesN_len];exact h) (by rw[bytesN_get s k h];exact hp)]
 rfl
theorem valueB_all {s:ByteArray} (h:(bytesN s).all printN=true):valueB s=(decide (1≤s.size)&&decide (s.size≤200)):=by unfold valueB;rw[h,Bool.true_and]
theorem emptyS_of {s:ByteArray} (h:eqS s emptyS=true):s=⟨#[]⟩:=eqS_iff.1 h
theorem eqS_empty_list {s:ByteArray} (h:eqS s emptyS=false):s.toList.isEmpty=false∧(s.toList == [])=false∧([] == s.toList)=false:=by
 have e:emptyS.toList = []:=by rw[ByteArray.toList_eq];rfl
 unfold eqS at h;rw[e] at h;refine⟨?_,h,?_⟩
 ·rw[List.isEmpty_eq_false_iff];intro e;rw[e] at h;cases h
 ·rw[beq_eq_false_iff_ne] at h ⊢;exact fun e=>h e.symm
theorem isValue_any (s:ByteArray) (w:World) (hs:s.size≤maxLen) :
  Calls Tryz.prog 72 #[.string s] w fun e w'=>e=.returned (.bool (valueB s))∧w=w':=by
 unfold maxLen at hs;have hnb:(s.size:Int)≤9223372036854775807:=by omega
 go_enter Tryz.func72,Tryz.ntmps72;go_wp2
 go_loop [6] (fun i=>∃ (k:Nat),k≤s.size∧i=.int .i64 k∧((bytesN s).take k).all printN=true) (fun i=>s.size-(intOf i).toNat)
 case atStart=>exact⟨0,Nat.zero_le _,rfl,by simp⟩
 case round =>
  obtain⟨k,hk,rfl,hno⟩:=hrel;have HN:=Lib.hid hno;clear hno
  by_cases hlt:k<s.size
  ·have hlt':k<(bytesN s).length:=by rw[bytesN_len];exact hlt
   have HG:=Lib.hid (bytesN_get s k hlt)
   by_cases hp:printN (s[k].toNat:Int)=true
   ·obtain⟨h1,h2⟩:=printN_true.1 hp
    have HP:=Lib.hid hp;clear hp;go_wp2
    all_goals
     go_round
     case rel=>exact⟨k+1,by omega,by go_num,by rw[all_take_succ _ _ k hlt',HN.out,HG.out,HP.out];rfl⟩
     case measure=>simp[intOf];omega
   ·have hp0:printN (s[k].toNat:Int)=false:=Bool.eq_false_iff.2 hp
    have hp':=printN_false.1 hp0;have HE:=Lib.hid (valueB_at hlt hp0);clear hp hp0
    rcases Int.lt_or_le (s[k].toNat:Int) 32 with h1|h1
    ·clear hp'
     go_wp2;go_ret;exact⟨by rw[HE.out];rfl,rfl⟩
    ·have h3:126<(s[k].toNat:Int):=by omega
     clear hp';go_wp2;go_ret;exact⟨by rw[HE.out];rfl,rfl⟩
  ·obtain rfl:k=s.size:=by omega
   have hall:=HN.out;rw[← bytesN_len,List.take_length] at hall;have HV:=Lib.hid (valueB_all hall);clear hall HN hk
   by_cases h1:1≤s.size
   ·have HE:Hid (valueB s=decide (s.size≤200)):=by show _=_;rw[HV.out,decide_eq_true h1,Bool.true_and]
    have h0:(1:Int)≤(s.size:Int):=by omega
    obtain⟨n1,n2,n3⟩:=eqS_empty_list (s:=s) (by rw[eqS_false];intro e;rw[e] at h1;exact absurd h1 (by decide));go_wp2;go_ret;exact⟨by rw[HE.out];simp<;>omega,rfl⟩
   ·have HE:Hid (valueB s=false):=by show _=_;rw[HV.out,decide_eq_false h1];rfl
    obtain rfl:=size_zero (s:=s) (by omega);go_wp2;go_ret;exact⟨by rw[HE.out];rfl,rfl⟩
theorem l28Value_any (s:ByteArray) (w:World) (hs:s.size≤maxLen) :
  Calls Tryz.prog 59 #[.string s] w fun e w'=>e=.returned (.bool (valueB s))∧w=w':=by
 unfold maxLen at hs;have hnb:(s.size:Int)≤9223372036854775807:=by omega
 go_enter Tryz.func59,Tryz.ntmps59;go_wp2
 go_loop [3] (fun i=>∃ (k:Nat),k≤s.size∧i=.int .i64 k∧((bytesN s).take k).all printN=true) (fun i=>s.size-(intOf i).toNat)
 case atStart=>exact⟨0,Nat.zero_le _,rfl,by simp⟩
 case round =>
  obtain⟨k,hk,rfl,hno⟩:=hrel;have HN:=Lib.hid hno;clear hno
  by_cases hlt:k<s.size
  ·have hlt':k<(bytesN s).length:=by rw[bytesN_len];exact hlt
   have HG:=Lib.hid (bytesN_get s k hlt)
   by_cases hp:printN (s[k].toNat:Int)=true
   ·obtain⟨h1,h2⟩:=printN_true.1 hp
    have HP:=Lib.hid hp;clear hp;go_wp2
    all_goals
     go_round
     case rel=>exact⟨k+1,by omega,by go_num,by rw[all_take_succ _ _ k hlt',HN.out,HG.out,HP.out];rfl⟩
     case measure=>simp[intOf];omega
   ·have hp0:printN (s[k].toNat:Int)=false:=Bool.eq_false_iff.2 hp
    have hp':=printN_false.1 hp0;have HE:=Lib.hid (valueB_at hlt hp0);clear hp hp0
    rcases Int.lt_or_le (s[k].toNat:Int) 32 with h1|h1
    ·clear hp'
     go_wp2;go_ret;exact⟨by rw[HE.out];rfl,rfl⟩
    ·have h3:126<(s[k].toNat:Int):=by omega
     clear hp';go_wp2;go_ret;exact⟨by rw[HE.out];rfl,rfl⟩
  ·obtain rfl:k=s.size:=by omega
   have hall:=HN.out;rw[← bytesN_len,List.take_length] at hall;have HV:=Lib.hid (valueB_all hall);clear hall HN hk
   by_cases h1:1≤s.size
   ·have HE:Hid (valueB s=decide (s.size≤200)):=by show _=_;rw[HV.out,decide_eq_true h1,Bool.true_and]
    have h0:(1:Int)≤(s.size:Int):=by omega
    obtain⟨n1,n2,n3⟩:=eqS_empty_list (s:=s) (by rw[eqS_false];intro e;rw[e] at h1;exact absurd h1 (by decide));go_wp2;go_ret;exact⟨by rw[HE.out];simp<;>omega,rfl⟩
   ·have HE:Hid (valueB s=false):=by show _=_;rw[HV.out,decide_eq_false h1];rfl
    obtain rfl:=size_zero (s:=s) (by omega);go_wp2;go_ret;exact⟨by rw[HE.out];rfl,rfl⟩
theorem dayOk_any (n:Int) (w:World):Calls Tryz.prog 70 #[.int .i64 n] w fun e w'=>e=.returned (.bool (dayB n))∧w=w':=by
 go_enter Tryz.func70,Tryz.ntmps70;go_wp2_with (go_at_call 44;refine (within_any _ _ _ _).mono ?_;rintro e w1 ⟨rfl,rfl⟩);go_ret;exact⟨rfl,rfl⟩
theorem l28Day_any (n:Int) (w:World):Calls Tryz.prog 60 #[.int .i64 n] w fun e w'=>e=.returned (.bool (dayB n))∧w=w':=by
 go_enter Tryz.func60,Tryz.ntmps60;go_wp2_with (go_at_call 83;refine (l00In_any _ _ _ _).mono ?_;rintro e w1 ⟨rfl,rfl⟩);go_ret;exact⟨rfl,rfl⟩
theorem changeValid_any (c:DChange) (w:World) (kk:c.key.size≤maxLen) (ko:c.old_.size≤maxLen) (kn:c.new_.size≤maxLen) :
  Calls Tryz.prog 45 #[.agg #[.int .i64 c.day,.string c.key,.string c.old_,.string c.new_]] w fun e w'=>e=.returned (.bool (changeB c))∧Below w.heap.size w w':=by
 obtain⟨day,key,old,new⟩:=c;simp only at *
 by_cases h0:dayB day=true
 case neg =>
  replace h0:dayB day=false:=Bool.eq_false_iff.2 h0;have HE:Hid (changeB ⟨day,key,old,new⟩=false):=by show _=_;unfold changeB;simp only[h0,Bool.and_false,Bool.false_and,Bool.and_true,Bool.true_and,Bool.and_self,Bool.or_true,Bool.true_or,Bool.or_false,Bool.false_or,Bool.not_true,Bool.not_false]
  go_enter Tryz.func45,Tryz.ntmps45;go_wp2_with (first|(go_at_call 70;refine (dayOk_any _ _).mono ?_;rintro e w1 ⟨rfl,rfl⟩)|(go_at_call 71;refine (isName_any _ _ (by assumption)).mono ?_;rintro e w1 ⟨rfl,rfl⟩)|(go_at_call 72;refine (isValue_any _ _ (by assumption)).mono ?_;rintro e w1 ⟨rfl,rfl⟩));go_ret;exact⟨by rw[HE.out];rfl,by exact (Below.refl _ _).alloc (Nat.le_refl _) _⟩
 by_cases h1:nameB key=true
 case neg =>
  replace h1:nameB key=false:=Bool.eq_false_iff.2 h1;have HE:Hid (changeB ⟨day,key,old,new⟩=false):=by show _=_;unfold changeB;simp only[h0,h1,Bool.and_false,Bool.false_and,Bool.and_true,Bool.true_and,Bool.and_self,Bool.or_true,Bool.true_or,Bool.or_false,Bool.false_or,Bool.not_true,Bool.not_false]
  go_enter Tryz.func45,Tryz.ntmps45;go_wp2_with (first|(go_at_call 70;refine (dayOk_any _ _).mono ?_;rintro e w1 ⟨rfl,rfl⟩)|(go_at_call 71;refine (isName_any _ _ (by assumption)).mono ?_;rintro e w1 ⟨rfl,rfl⟩)|(go_at_call 72;refine (isValue_any _ _ (by assumption)).mono ?_;rintro e w1 ⟨rfl,rfl⟩));go_ret;exact⟨by rw[HE.out];rfl,by exact (Below.refl _ _).alloc (Nat.le_refl _) _⟩
 by_cases hoe:eqS old emptyS=true
 ·skip
  by_cases hne:eqS new emptyS=true
  ·skip
   have hd:eqS old new=true:=by rw[emptyS_of hoe,emptyS_of hne];exact eqS_refl _
   have HE:Hid (changeB ⟨day,key,old,new⟩=false):=by show _=_;unfold changeB;simp only[h0,h1,hoe,hne,hd,Bool.and_false,Bool.false_and,Bool.and_true,Bool.true_and,Bool.and_self,Bool.or_true,Bool.true_or,Bool.or_false,Bool.false_or,Bool.not_true,Bool.not_false]
   obtain rfl:=emptyS_of hoe;obtain rfl:=emptyS_of hne;go_enter Tryz.func45,Tryz.ntmps45;go_wp2_with (first|(go_at_call 70;refine (dayOk_any _ _).mono ?_;rintro e w1 ⟨rfl,rfl⟩)|(go_at_call 71;refine (isName_any _ _ (by assumption)).mono ?_;rintro e w1 ⟨rfl,rfl⟩)|(go_at_call 72;refine (isValue_any _ _ (by assumption)).mono ?_;rintro e w1 ⟨rfl,rfl⟩));go_ret;exact⟨by rw[HE.out];rfl,by exact (Below.refl _ _).alloc (Nat.le_refl _) _⟩
  ·replace hne:eqS new emptyS=false:=Bool.eq_false_iff.2 hne
   obtain⟨hn1,hn2,hn3⟩:=eqS_empty_list hne
   by_cases hnv:valueB new=true
   case neg =>
    replace hnv:valueB new=false:=Bool.eq_false_iff.2 hnv;have HE:Hid (changeB ⟨day,key,old,new⟩=false):=by show _=_;unfold changeB;simp only[h0,h1,hoe,hne,hnv,Bool.and_false,Bool.false_and,Bool.and_true,Bool.true_and,Bool.and_self,Bool.or_true,Bool.true_or,Bool.or_false,Bool.false_or,Bool.not_true,Bool.not_false]
    obtain rfl:=emptyS_of hoe;go_enter Tryz.func45,Tryz.ntmps45;go_wp2_with (first|(go_at_call 70;refine (dayOk_any _ _).mono ?_;rintro e w1 ⟨rfl,rfl⟩)|(go_at_call 71;refine (isName_any _ _ (by assumption)).mono ?_;rintro e w1 ⟨rfl,rfl⟩)|(go_at_call 72;refine (isValue_any _ _ (by assumption)).mono ?_;rintro e w1 ⟨rfl,rfl⟩));go_ret;exact⟨by rw[HE.out];rfl,by exact (Below.refl _ _).alloc (Nat.le_refl _) _⟩
   have hd:eqS old new=false:=by rw[eqS_false];intro e;rw[← e,hoe] at hne;cases hne
   have HE:Hid (changeB ⟨day,key,old,new⟩=true):=by show _=_;unfold changeB;simp only[h0,h1,hoe,hne,hnv,hd,Bool.and_false,Bool.false_and,Bool.and_true,Bool.true_and,Bool.and_self,Bool.or_true,Bool.true_or,Bool.or_false,Bool.false_or,Bool.not_true,Bool.not_false]
   obtain rfl:=emptyS_of hoe;go_enter Tryz.func45,Tryz.ntmps45;go_wp2_with (first|(go_at_call 70;refine (dayOk_any _ _).mono ?_;rintro e w1 ⟨rfl,rfl⟩)|(go_at_call 71;refine (isName_any _ _ (by assumption)).mono ?_;rintro e w1 ⟨rfl,rfl⟩)|(go_at_call 72;refine (isValue_any _ _ (by assumption)).mono ?_;rintro e w1 ⟨rfl,rfl⟩));go_ret;exact⟨by rw[HE.out];rfl,by exact (Below.refl _ _).alloc (Nat.le_refl _) _⟩
 ·replace hoe:eqS old emptyS=false:=Bool.eq_false_iff.2 hoe
  obtain⟨ho1,ho2,ho3⟩:=eqS_empty_list hoe
  by_cases hov:valueB old=true
  case neg =>
   replace hov:valueB old=false:=Bool.eq_false_iff.2 hov;have HE:Hid (changeB ⟨day,key,old,new⟩=false):=by show _=_;unfold changeB;simp only[h0,h1,hoe,hov,Bool.and_false,Bool.false_and,Bool.and_true,Bool.true_and,Bool.and_self,Bool.or_true,Bool.true_or,Bool.or_false,Bool.false_or,Bool.not_true,Bool.not_false]
   go_enter Tryz.func45,Tryz.ntmps45;go_wp2_with (first|(go_at_call 70;refine (dayOk_any _ _).mono ?_;rintro e w1 ⟨rfl,rfl⟩)|(go_at_call 71;refine (isName_any _ _ (by assumption)).mono ?_;rintro e w1 ⟨rfl,rfl⟩)|(go_at_call 72;refine (isValue_any _ _ (by assumption)).mono ?_;rintro e w1 ⟨rfl,rfl⟩));go_ret;exact⟨by rw[HE.out];rfl,by exact (Below.refl _ _).alloc (Nat.le_refl _) _⟩
  by_cases hne:eqS new emptyS=true
  ·skip
   have hd:eqS old new=false:=by rw[eqS_false];intro e;rw[e,hne] at hoe;cases hoe
   have HE:Hid (changeB ⟨day,key,old,new⟩=true):=by show _=_;unfold changeB;simp only[h0,h1,hoe,hov,hne,hd,Bool.and_false,Bool.false_and,Bool.and_true,Bool.true_and,Bool.and_self,Bool.or_true,Bool.true_or,Bool.or_false,Bool.false_or,Bool.not_true,Bool.not_false]
   obtain rfl:=emptyS_of hne;go_enter Tryz.func45,Tryz.ntmps45;go_wp2_with (first|(go_at_call 70;refine (dayOk_any _ _).mono ?_;rintro e w1 ⟨rfl,rfl⟩)|(go_at_call 71;refine (isName_any _ _ (by assumption)).mono ?_;rintro e w1 ⟨rfl,rfl⟩)|(go_at_call 72;refine (isValue_any _ _ (by assumption)).mono ?_;rintro e w1 ⟨rfl,rfl⟩));go_ret;exact⟨by rw[HE.out];rfl,by exact (Below.refl _ _).alloc (Nat.le_refl _) _⟩
  ·replace hne:eqS new emptyS=false:=Bool.eq_false_iff.2 hne
   obtain⟨hn1,hn2,hn3⟩:=eqS_empty_list hne
   by_cases hnv:valueB new=true
   case neg =>
    replace hnv:valueB new=false:=Bool.eq_false_iff.2 hnv;have HE:Hid (changeB ⟨day,key,old,new⟩=false):=by show _=_;unfold changeB;simp only[h0,h1,hoe,hov,hne,hnv,Bool.and_false,Bool.false_and,Bool.and_true,Bool.true_and,Bool.and_self,Bool.or_true,Bool.true_or,Bool.or_false,Bool.false_or,Bool.not_true,Bool.not_false]
    go_enter Tryz.func45,Tryz.ntmps45;go_wp2_with (first|(go_at_call 70;refine (dayOk_any _ _).mono ?_;rintro e w1 ⟨rfl,rfl⟩)|(go_at_call 71;refine (isName_any _ _ (by assumption)).mono ?_;rintro e w1 ⟨rfl,rfl⟩)|(go_at_call 72;refine (isValue_any _ _ (by assumption)).mono ?_;rintro e w1 ⟨rfl,rfl⟩));go_ret;exact⟨by rw[HE.out];rfl,by exact (Below.refl _ _).alloc (Nat.le_refl _) _⟩
   by_cases hd:eqS old new=true
   ·skip
    have HE:Hid (changeB ⟨day,key,old,new⟩=false):=by show _=_;unfold changeB;simp only[h0,h1,hoe,hov,hne,hnv,hd,Bool.and_false,Bool.false_and,Bool.and_true,Bool.true_and,Bool.and_self,Bool.or_true,Bool.true_or,Bool.or_false,Bool.false_or,Bool.not_true,Bool.not_false]
    have hd2:(old.toList == new.toList)=true:=hd;have hd3:(old.toList != new.toList)=false:=by rw[bne,hd2];rfl
    clear hd;go_enter Tryz.func45,Tryz.ntmps45;go_wp2_with (first|(go_at_call 70;refine (dayOk_any _ _).mono ?_;rintro e w1 ⟨rfl,rfl⟩)|(go_at_call 71;refine (isName_any _ _ (by assumption)).mono ?_;rintro e w1 ⟨rfl,rfl⟩)|(go_at_call 72;refine (isValue_any _ _ (by assumption)).mono ?_;rintro e w1 ⟨rfl,rfl⟩));go_ret;exact⟨by rw[HE.out];rfl,by exact (Below.refl _ _).alloc (Nat.le_refl _) _⟩
   ·replace hd:eqS old new=false:=Bool.eq_false_iff.2 hd
    have HE:Hid (changeB ⟨day,key,old,new⟩=true):=by show _=_;unfold changeB;simp only[h0,h1,hoe,hov,hne,hnv,hd,Bool.and_false,Bool.false_and,Bool.and_true,Bool.true_and,Bool.and_self,Bool.or_true,Bool.true_or,Bool.or_false,Bool.false_or,Bool.not_true,Bool.not_false]
    have hd2:(old.toList == new.toList)=false:=hd;have hd3:(old.toList != new.toList)=true:=by rw[bne,hd2];rfl
    clear hd;go_enter Tryz.func45,Tryz.ntmps45;go_wp2_with (first|(go_at_call 70;refine (dayOk_any _ _).mono ?_;rintro e w1 ⟨rfl,rfl⟩)|(go_at_call 71;refine (isName_any _ _ (by assumption)).mono ?_;rintro e w1 ⟨rfl,rfl⟩)|(go_at_call 72;refine (isValue_any _ _ (by assumption)).mono ?_;rintro e w1 ⟨rfl,rfl⟩));go_ret;exact⟨by rw[HE.out];rfl,by exact (Below.refl _ _).alloc (Nat.le_refl _) _⟩
set_option maxHeartbeats 1000000
set_option maxRecDepth 100000
theorem indexFuncRecord_any (l:List DRecord) (p:DRecord→Bool) (fn:FuncId) (cap:List Value) (v:Value) (B:Nat) (w:World) (h:Rd B w (DRecord.sT l) v) (hB:B≤w.heap.size) (hn:l.length≤1099511627776)
  (hcf:∀ (args:Array Value) (W:World),(callFunc fn args).run Tryz.prog W=.ok (.enter fn args) W)
  (hf:∀ x ∈ l,∀ W:World,Below w.heap.size w W→Calls Tryz.prog fn (Value.agg #[.string x.key,.string x.value]::cap).toArray W fun e W'=>e=.returned (.bool (p x))∧Below W.heap.size W W') :
  Calls Tryz.prog 46 #[v,.func (.func fn) #[] cap.toArray] w fun e w'=>e=.returned (.int .i64 (firstIdx' p l))∧Below w.heap.size w w':=by
 obtain⟨a,c,rfl,hnc,hcm,hcells⟩:=DRecord.rd h;clear h;have hnb:(l.length:Int)≤1099511627776:=by omega
 have HF:=Lib.hid hf;clear hf;go_enter Tryz.func46,Tryz.ntmps46;go_wp2;go_loopw [8] (fun i wr=>∃ (k:Nat),k≤l.length∧i=.int .i64 k∧(l.take k).any p=false∧Below w.heap.size w wr) (fun i wr=>l.length-(intOf i).toNat)
 case atStart=>exact⟨0,Nat.zero_le _,rfl,by simp,Below.refl _ _⟩
 case round =>
  obtain⟨k,hk,rfl,hno,hb⟩:=hrel;have HN:=Lib.hid hno;clear hno
  by_cases hlt:k<l.length
  ·obtain⟨b,off,rfl,hbl,hat⟩:=hcells (by omega)
   obtain⟨s0,s1⟩:=hat k hlt;rw[← hb.cell (p:=⟨b,_,none⟩) (show b<w.heap.size by omega)] at s0 s1;have HB:=Lib.hid hb;clear hcells hat hb;go_wp2_with fail;refine (HF.out l[k] (List.getElem_mem hlt) _ HB.out).mono ?_;rintro e w1 ⟨rfl,hb1⟩;have HB1:=Lib.hid (HB.out.trans (hb1.mono HB.out.size));clear hb1
   by_cases hp:p l[k]=true
   ·go_wp2
    go_ret;exact⟨by rw[firstIdx_at p l k hlt hp HN.out];rfl,HB1.out⟩
   ·have hp':p l[k]=false:=by simpa using hp
    clear hp;go_wp2;go_roundw
    case rel=>exact⟨k+1,by omega,by go_num,by rw[any_take_succ p l k hlt,HN.out,hp'];rfl,HB1.out⟩
    case measure=>simp[intOf];omega
  ·obtain rfl:k=l.length:=by omega
   clear hcells;go_wp2;go_ret;have:=HN.out;rw[List.take_length] at this;exact⟨by rw[firstIdx_none p l this];rfl,hb⟩
theorem valueOf_any (l:List DRecord) (nm:ByteArray) (v:Value) (B:Nat) (w:World) (h:Rd B w (DRecord.sT l) v) (hB:B≤w.heap.size) (hn:l.length≤1099511627776) :
  Calls Tryz.prog 20 #[v,.string nm] w fun e w'=>e=.returned (.string (valOf l nm))∧Below w.heap.size w w':=by
 have hw0:Hid (Below w.heap.size w (w.alloc (.cells #[.string nm] 9))):=(Below.refl _ _).alloc (Nat.le_refl _) _
 have HC:=Lib.hid (indexFuncRecord_any l (fun x:DRecord=>eqS x.key nm) 47 [.pointer (some ⟨w.heap.size,0,none⟩)] v B (w.alloc (.cells #[.string nm] 9)) (h.below (hw0.out.mono hB)) (by simp<;>omega) hn (fun _ _=>by kernel_rfl) (fun x _ W hW=>by
  have c1:W.cell? ⟨w.heap.size,0,none⟩=some (.string nm):=by rw[hW.cell (p:=⟨w.heap.size,0,none⟩) (by simp)];simp[go_sem]
  have c2:w.heap.size<W.heap.size:=by have:=hW.size;simp at this;omega
  clear hW;go_enter Tryz.func47,Tryz.ntmps47;go_wp2;go_ret
  exact⟨rfl,(Below.refl _ _).alloc (Nat.le_refl _) _⟩))
 obtain⟨a,c,rfl,hnc,hcm,hcells⟩:=DRecord.rd h;clear h
 rcases firstIdx_cases' (fun x:DRecord=>eqS x.key nm) l with ⟨hi,hno⟩|⟨i,hlt,hi,hp,hno⟩
 ·have HV:=Lib.hid (valOf_none hno)
  rw[hi] at HC;clear hi hno hcells;go_enter Tryz.func20,Tryz.ntmps20;go_wp2_with fail;refine HC.out.mono ?_;rintro e w1 ⟨rfl,hb1⟩;go_wp2;go_ret;exact⟨by rw[HV.out];rfl,hw0.out.trans (hb1.mono (by simp))⟩
 ·have HV:=Lib.hid (valOf_some hlt hp hno)
  rw[hi] at HC;clear hi hno hp;obtain⟨b,off,rfl,hbl,hat⟩:=hcells (by omega);obtain⟨s0,s1⟩:=hat i hlt;have HS0:=Lib.hid s0;have HS1:=Lib.hid s1;have j1:(i:Int)<(l.length:Int):=by omega
  clear hcells hat s0 s1;go_enter Tryz.func20,Tryz.ntmps20;go_wp2_with fail;refine HC.out.mono ?_;rintro e w1 ⟨rfl,hb1⟩;have HB:=Lib.hid (hw0.out.trans (hb1.mono (by simp)));clear hb1;have t0:=(HB.out.cell (p:=⟨b,_,none⟩) (show b<w.heap.size by omega)).trans HS0.out;have t1:=(HB.out.cell (p:=⟨b,_,none⟩) (show b<w.heap.size by omega)).trans HS1.out;go_wp2;go_ret;exact⟨by rw[HV.out];rfl,HB.out⟩
theorem l28Find_any (l:List DRecord) (nm:ByteArray) (v:Value) (B:Nat) (w:World) (h:Rd B w (DRecord.sT l) v) (hB:B≤w.heap.size) (hn:l.length≤1099511627776) :
  Calls Tryz.prog 102 #[v,.string nm] w fun e w'=>e=.returned (.int .i64 (idxRec l nm))∧w=w':=by
 obtain⟨a,c,rfl,hnc,hcm,hcells⟩:=DRecord.rd h;clear h;have hnb:(l.length:Int)≤1099511627776:=by omega
 go_enter Tryz.func102,Tryz.ntmps102;go_wp2
 go_loop [5] (fun i=>∃ (k:Nat),k≤l.length∧i=.int .i64 k∧(l.take k).any (fun x:DRecord=>eqS x.key nm)=false) (fun i=>l.length-(intOf i).toNat)
 case atStart=>exact⟨0,Nat.zero_le _,rfl,by simp⟩
 case round =>
  obtain⟨k,hk,rfl,hno⟩:=hrel;have HN:=Lib.hid hno;clear hno
  by_cases hlt:k<l.length
  ·obtain⟨b,off,rfl,hbl,hat⟩:=hcells (by omega)
   have s0:=(hat k hlt).1;clear hcells hat
   by_cases hp1:(l[k].key.toList == nm.toList)=true
   ·have HP:=Lib.hid hp1
    go_wp2;go_ret;exact⟨by unfold idxRec;rw[firstIdx_at (fun x:DRecord=>eqS x.key nm) l k hlt HP.out HN.out];rfl,rfl⟩
   ·have hp':(l[k].key.toList == nm.toList)=false:=Bool.eq_false_iff.2 hp1
    have HP:=Lib.hid hp';clear hp1;go_wp2
    go_round
    case rel=>exact⟨k+1,by omega,by go_num,by rw[any_take_succ _ l k hlt,HN.out];exact HP.out⟩
    case measure=>simp[intOf];omega
  ·obtain rfl:k=l.length:=by omega
   clear hcells;go_wp2;go_ret;have:=HN.out;rw[List.take_length] at this;exact⟨by unfold idxRec;rw[firstIdx_none _ l this];rfl,rfl⟩
theorem l28Get_any (l:List DRecord) (nm:ByteArray) (v:Value) (B:Nat) (w:World) (h:Rd B w (DRecord.sT l) v) (hB:B≤w.heap.size) (hn:l.length≤1099511627776) :
  Calls Tryz.prog 78 #[v,.string nm] w fun e w'=>e=.returned (.string (valOf l nm))∧w=w':=by
 have HC:=Lib.hid (l28Find_any l nm v B w h hB hn);obtain⟨a,c,rfl,hnc,hcm,hcells⟩:=DRecord.rd h;clear h;unfold idxRec at HC
 rcases firstIdx_cases' (fun x:DRecord=>eqS x.key nm) l with ⟨hi,hno⟩|⟨i,hlt,hi,hp,hno⟩
 ·have HV:=Lib.hid (valOf_none hno)
  rw[hi] at HC;clear hi hno hcells;go_enter Tryz.func78,Tryz.ntmps78;go_wp2_with fail;refine HC.out.mono ?_;rintro e w1 ⟨rfl,rfl⟩;go_wp2;go_ret;exact⟨by rw[HV.out];rfl,rfl⟩
 ·have HV:=Lib.hid (valOf_some hlt hp hno)
  rw[hi] at HC;clear hi hno hp;obtain⟨b,off,rfl,hbl,hat⟩:=hcells (by omega);obtain⟨s0,s1⟩:=hat i hlt;have j1:(i:Int)<(l.length:Int):=by omega
  clear hcells hat;go_enter Tryz.func78,Tryz.ntmps78;go_wp2_with fail;refine HC.out.mono ?_;rintro e w1 ⟨rfl,rfl⟩;go_wp2;go_ret;exact⟨by rw[HV.out];rfl,rfl⟩
def NewR (x:DRegister × Int) (w:World) (e:Ending) (w':World):Prop :=
 ∃ a0_0 c0_0 a0_1 c0_1 fp0,e=.returned (.tuple #[.agg #[.slice a0_0 x.1.records.length c0_0,.slice a0_1 x.1.changes.length c0_1],.int .i64 x.2])∧Below w.heap.size w w'∧OwnV w' x.1.tr [.slice a0_0 x.1.records.length c0_0,.slice a0_1 x.1.changes.length c0_1] fp0∧In w.heap.size w'.heap.size fp0
theorem ownV_nilReg (w:World):OwnV w (DRegister.tr ⟨[],[]⟩) [.slice none 0 0,.slice none 0 0] []:=by
 have h:∀ k,Own w (.sl k []) (.slice none 0 0) []:=fun k=>⟨Rep_sl.2 ⟨none,0,0,rfl,by simp,Nat.le_refl _,by unfold maxLen;omega,Or.inl ⟨rfl,rfl⟩⟩,List.nodup_nil,fun b h=>by simp at h⟩
 exact OwnV.cons (f:=[]) (h 2) (OwnV.cons (f:=[]) (h 4) OwnV.nil (fun x hx=>by simp at hx)) (fun x hx=>by simp at hx)
theorem NewR.zero {x:DRegister × Int} {w w':World} {e:Ending} {code:Int} (hx:x=(⟨[],[]⟩,code)) (he:e=.returned (.tuple #[.agg #[.slice none 0 0,.slice none 0 0],.int .i64 code])) (hb:Below w.heap.size w w'):NewR x w e w':=by
 subst hx;exact⟨none,0,none,0,[],he,hb,ownV_nilReg w',In.nil⟩
end Go.Proofs.YtmkkiglcpedkiaaGreatDoor
