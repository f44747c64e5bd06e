/- Contracts: numbers, lists of numbers and divided texts, read, for the program and for the reference. Conditions: bounded sizes; the library's own variables hold what they hold at the start. -/
import Derived.Test.YtpodllefipleiaaGreatDoorTx2
import Derived.Test.YtpodllefipleiaaGreatDoorShelf
import Derived.Test.YtpodllefipleiaaGreatDoorRaw
import Derived.Lib.SmallJoins
set_option linter.unusedVariables false
set_option linter.unusedSimpArgs false
namespace Go.Proofs.YtpodllefipleiaaGreatDoor
set_option maxHeartbeats 4000000
open Go.RowKit
structure LibW (w:World):Prop where
 sz:0<w.heap.size∧3<w.heap.size∧1<w.heap.size∧2<w.heap.size
 m:∃ m,w.cell? ⟨0,0,none⟩=some (.int .i64 m)
 tab:Go.Lib.TabIs Tryz.prog w "internal/strconv.uint64pow10" .u64 Go.Lib.pow10Tab
 e1:∃ t p,w.cell? ⟨1,0,none⟩=some (.iface t p)
 e2:∃ t p,w.cell? ⟨2,0,none⟩=some (.iface t p)
theorem gPow10:Tryz.prog.globalNamed "internal/strconv.uint64pow10" = some 3:=by kernel_rfl
theorem LibW.mono {w w':World} (h:LibW w) (hb:Below w.heap.size w w'):LibW w':=by
 obtain⟨hs,⟨m,hm⟩,ht,⟨t1,p1,h1⟩,⟨t2,p2,h2⟩⟩:=h;have hz:=hb.size;refine⟨by omega,⟨m,(bat hb _ _ (by omega)).trans hm⟩,?_,⟨t1,p1,(bat hb _ _ (by omega)).trans h1⟩,⟨t2,p2,(bat hb _ _ (by omega)).trans h2⟩⟩;exact var?_below hb gPow10 (by omega) ht
theorem below_grow (w:World) (k:Nat) (os:Array Obj):Below w.heap.size w (Go.Sort.grow (w.drewN k) os):=⟨rfl,rfl,rfl,by simp[Go.Sort.grow],fun j hj=>by
 rw[Go.Sort.heap_grow_old _ _ (by simpa using hj)];rfl⟩
theorem decimal_any (n:Int) (hn:I64 n) (w:World) (L:LibW w):Calls Tryz.prog 34 #[.int .i64 n] w fun e w'=>e=.returned (.string (ofL (Go.Lib.itoa n)))∧Below w.heap.size w w':=by
 have ht:=Lib.hid L.tab;have hn1:=hn.1;have hn2:=hn.2;clear L hn;go_enter Tryz.func34,Tryz.ntmps34;go_wp2_with (go_at_call 75;refine (Tryz.strconv_FormatInt_10 n hn1 hn2 _ ht.out).mono ?_;rintro e w1 ⟨rfl,k,os,rfl⟩);go_ret;exact⟨rfl,below_grow _ _ _⟩
theorem parse_ok (s:ByteArray) (v:Int) (hs:s.size≤281474976710656) (h:Go.Lib.parseIntB 64 (bl s)=.ok v) (w:World) :
  Calls Tryz.prog 73 #[.string s,.int .i64 10,.int .i64 64] w fun e w'=>e=.returned (.tuple #[.int .i64 v,.nilIface])∧Below w.heap.size w w' :=
 (Tryz.strconv_ParseInt_10_at64_ok s (by omega) v h w).mono fun e w' ⟨he,hw⟩=>⟨he,by
  rcases hw with rfl|⟨t,rfl⟩
  ·exact Below.refl _ _
  ·exact Go.Joins.below_bytesWorld _ _ _ _ (Nat.le_refl _)⟩
theorem parse_err (s:ByteArray) (hs:s.size≤281474976710656) (h:∀ v,Go.Lib.parseIntB 64 (bl s)≠.ok v) (w:World) (L:LibW w) :
  Calls Tryz.prog 73 #[.string s,.int .i64 10,.int .i64 64] w fun e w'=>∃ n t p,e=.returned (.tuple #[.int .i64 n,.iface t p])∧Below w.heap.size w w':=by
 cases hp:Go.Lib.parseIntB 64 (bl s)
 ·rename_i v
  exact absurd hp (h v)
 ·obtain⟨t,p,h1⟩:=L.e1
  exact (Any.strconv_ParseInt_10_at64_syntax Tryz.laysC174 s hs hp _ w h1 (Or.inr ⟨t,p,rfl⟩)).mono fun e w' ⟨N,he,_,_,hb⟩=>⟨_,_,_,he,hb⟩
 ·obtain⟨t,p,h1⟩:=L.e2
  exact (Tryz.strconv_ParseInt_10_at64_range s hs hp _ w h1 (Or.inr ⟨t,p,rfl⟩)).mono fun e w' ⟨N,he,_,_,hb⟩=>⟨_,_,_,he,hb⟩
theorem trim_bare (l:List UInt8):Go.Lib.trimPrefix l [45]=bare l:=by
 unfold Go.Lib.trimPrefix Go.Lib.hasPrefix bare
 cases l with
 | nil=>rfl
 | cons c r =>
  by_cases h:c=45
  ·subst h;simp
  ·simp[h,Ne.symm h,List.isPrefixOf]
theorem trimP_any (s tb:ByteArray) (h:tb=ofL (bare (bl s))) (w:World):Calls Tryz.prog 74 #[.string s,.string ⟨#[45]⟩] w fun e w'=>e=.returned (.string tb)∧w=w' :=
 (Tryz.strings_TrimPrefix s ⟨#[45]⟩ w).mono fun e w' ⟨he,hw⟩=>⟨by rw[he,h];unfold ofL;rw[← trim_bare];rfl,hw.symm⟩
def numV (l:List UInt8):Int:=(num l).getD 0
def numB (l:List UInt8):Bool:=(num l).isSome
theorem bare_size (s:ByteArray):(bare (bl s)).length≤s.size:=by
 unfold bare
 split
 ·rw[List.length_drop,bl_len];omega
 ·rw[bl_len];exact Nat.le_refl _
theorem I64_parse {l:List UInt8} {v:Int} (h:Go.Lib.parseIntB 64 l=.ok v):I64 v:=by
 have:=Go.Lib.parseIntB_bounds h
 constructor<;>omega
theorem readDecimal_any (s:ByteArray) (hs:s.size≤1099511627776) (w:World) (L:LibW w) :
  Calls Tryz.prog 33 #[.string s] w fun e w'=>e=.returned (.tuple #[.int .i64 (numV (bl s)),.bool (numB (bl s))])∧Below w.heap.size w w':=by
 by_cases hok:∃ v,Go.Lib.parseIntB 64 (bl s)=.ok v
 case neg =>
  have hno:∀ v,Go.Lib.parseIntB 64 (bl s)≠.ok v:=fun v h=>hok ⟨v,h⟩
  have HE:Hid (num (bl s)=none):=by
   show _=_
   cases hn:num (bl s) with
   | none=>rfl
   | some v=>exact absurd ((num_iff _ v).2 hn).1 (hno v)
  have HP:Hid (∀ W,LibW W→Calls Tryz.prog 73 #[.string s,.int .i64 10,.int .i64 64] W fun e w'=>∃ n t p,e=.returned (.tuple #[.int .i64 n,.iface t p])∧Below W.heap.size W w'):=fun W hW=>parse_err s (by omega) hno W hW
  have HL:=Lib.hid L;clear hok hno L hs;go_enter Tryz.func33,Tryz.ntmps33;go_wp2_with (go_at_call 73;refine (HP.out _ HL.out).mono ?_;rintro e w1 ⟨n,t,p,rfl,hb⟩);go_ret2;exact⟨by unfold numV numB;rw[HE.out];rfl,hb⟩
 case pos =>
  obtain⟨v,hv⟩:=hok;have HP:Hid (∀ W,Calls Tryz.prog 73 #[.string s,.int .i64 10,.int .i64 64] W fun e w'=>e=.returned (.tuple #[.int .i64 v,.nilIface])∧Below W.heap.size W w'):=fun W=>parse_ok s v (by omega) hv W
  have hi:=I64_parse hv;obtain⟨tb,htb⟩:∃ tb,tb=ofL (bare (bl s)):=⟨_,rfl⟩
  have hsz:tb.size=(bare (bl s)).length:=by rw[htb,ofL_size]
  have hle:=bare_size s;have HT:Hid (∀ W,Calls Tryz.prog 74 #[.string s,.string ⟨#[45]⟩] W fun e w'=>e=.returned (.string tb)∧W=w'):=fun W=>trimP_any s tb htb W
  have HD:Hid (∀ W,LibW W→Calls Tryz.prog 34 #[.int .i64 v] W fun e w'=>e=.returned (.string (ofL (Go.Lib.itoa v)))∧Below W.heap.size W w'):=fun W hW=>decimal_any v hi W hW
  have HL:=Lib.hid L;have hvv:=Lib.hid hv
  by_cases hlen:(bare (bl s)).length≤18
  case neg =>
   have HE:Hid (num (bl s)=none):=by
    show _=_
    cases hn:num (bl s) with
    | none=>rfl
    | some u=>exact absurd ((num_iff _ u).2 hn).2.1 hlen
   have hg:(18:Int)<(tb.size:Int):=by omega
   clear hlen hsz hle hv htb L hi hs;go_enter Tryz.func33,Tryz.ntmps33;go_wp2_with (first|(go_at_call 73;refine (HP.out _).mono ?_;rintro e w1 ⟨rfl,hb⟩)|(go_at_call 74;refine (HT.out _).mono ?_;rintro e w1 ⟨rfl,rfl⟩));go_ret2;exact⟨by unfold numV numB;rw[HE.out];rfl,hb⟩
  case pos =>
   have hg:(tb.size:Int)≤18:=by omega
   have HLn:=Lib.hid hlen;clear hlen hsz hle hv htb L hi hs;generalize hit:ofL (Go.Lib.itoa v)=it at *;have Hit:=Lib.hid hit;clear hit
   by_cases he:eqS it s=true
   case pos =>
    have HE:Hid (num (bl s)=some v):=(num_iff _ v).1 ⟨hvv.out,HLn.out,by rw[← bl_ofL (Go.Lib.itoa v),Hit.out,zcm.1 he]⟩;have hl:(it.toList == s.toList)=true:=he;have hn:(it.toList != s.toList)=false:=by unfold bne;rw[hl];rfl
    clear he;go_enter Tryz.func33,Tryz.ntmps33;go_wp2_with (first|(go_at_call 73;refine (HP.out _).mono ?_;rintro e w1 ⟨rfl,hb⟩)|(go_at_call 74;refine (HT.out _).mono ?_;rintro e w1 ⟨rfl,rfl⟩)|(go_at_call 34;refine (HD.out _ (HL.out.mono hb)).mono ?_;rintro e w2 ⟨rfl,hb2⟩));go_ret2;exact⟨by unfold numV numB;rw[HE.out];rfl,hb.trans (hb2.mono hb.size)⟩
   case neg =>
    have he:=Bool.eq_false_iff.2 he;have HE:Hid (num (bl s)=none):=by
     show _=_
     cases hn:num (bl s) with
     | none=>rfl
     | some u =>
      have h3:=(num_iff _ u).2 hn;have:u=v:=by have:=h3.1.symm.trans hvv.out;exact Go.Lib.NumEnd.ok.inj this
      subst this;rw[← Hit.out,h3.2.2,ofL_bl] at he;rw[zcm.2 rfl] at he
      cases he
    have hl:(it.toList == s.toList)=false:=he;have hn:(it.toList != s.toList)=true:=by unfold bne;rw[hl];rfl
    clear he;go_enter Tryz.func33,Tryz.ntmps33;go_wp2_with (first|(go_at_call 73;refine (HP.out _).mono ?_;rintro e w1 ⟨rfl,hb⟩)|(go_at_call 74;refine (HT.out _).mono ?_;rintro e w1 ⟨rfl,rfl⟩)|(go_at_call 34;refine (HD.out _ (HL.out.mono hb)).mono ?_;rintro e w2 ⟨rfl,hb2⟩));go_ret2;exact⟨by unfold numV numB;rw[HE.out];rfl,hb.trans (hb2.mono hb.size)⟩
end Go.Proofs.YtpodllefipleiaaGreatDoor
namespace Go.Proofs.YtpodllefipleiaaGreatDoor
open Go.RowKit
theorem numF (l:List UInt8) (h:num l=none):numV l=0∧numB l=false:=by unfold numV numB;rw[h];exact⟨rfl,rfl⟩
theorem numT (l:List UInt8) (v:Int) (h:num l=some v):numV l=v∧numB l=true:=by unfold numV numB;rw[h];exact⟨rfl,rfl⟩
end Go.Proofs.YtpodllefipleiaaGreatDoor
