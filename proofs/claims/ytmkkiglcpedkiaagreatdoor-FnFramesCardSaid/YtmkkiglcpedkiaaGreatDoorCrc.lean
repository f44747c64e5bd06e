/- Check values: one changed byte changes the check value. Plain. No program. -/
import Derived.Test.YtmkkiglcpedkiaaGreatDoorTx2
import Derived.Test.YtmkkiglcpedkiaaGreatDoorShelf
import Derived.Lib.SmallJoins
import Derived.Test.YtmkkiglcpedkiaaGreatDoorBox
set_option linter.unusedVariables false
set_option linter.unusedSimpArgs false
namespace Go.Proofs.YtmkkiglcpedkiaaGreatDoor
set_option maxHeartbeats 4000000
open Go.RowKit
structure LibW (w:World):Prop where
 sz:0<w.heap.size∧1<w.heap.size∧2<w.heap.size∧3<w.heap.size
 m:∃ m,w.cell? ⟨0,0,none⟩=some (.int .i64 m)
 tab:Go.Lib.TabIs Tryz.prog w "internal/strconv.uint64pow10" .u64 Go.Lib.pow10Tab
 e1:∃ t p,w.cell? ⟨2,0,none⟩=some (.iface t p)
 e2:∃ t p,w.cell? ⟨3,0,none⟩=some (.iface t p)
theorem gPow10:Tryz.prog.globalNamed "internal/strconv.uint64pow10" = some 1:=by kernel_rfl
theorem LibW.mono {w w':World} (h:LibW w) (hb:Below w.heap.size w w'):LibW w':=by
 obtain⟨hs,⟨m,hm⟩,ht,⟨t1,p1,h1⟩,⟨t2,p2,h2⟩⟩:=h;have hz:=hb.size;refine⟨by omega,⟨m,(bat hb _ _ (by omega)).trans hm⟩,?_,⟨t1,p1,(bat hb _ _ (by omega)).trans h1⟩,⟨t2,p2,(bat hb _ _ (by omega)).trans h2⟩⟩;exact var?_below hb gPow10 (by omega) ht
theorem below_grow (w:World) (k:Nat) (os:Array Obj):Below w.heap.size w (Go.Sort.grow (w.drewN k) os):=⟨rfl,rfl,rfl,by simp[Go.Sort.grow],fun j hj=>by
 rw[Go.Sort.heap_grow_old _ _ (by simpa using hj)];rfl⟩
theorem decimal_any (n:Int) (hn:I64 n) (w:World) (L:LibW w):Calls Tryz.prog 34 #[.int .i64 n] w fun e w'=>e=.returned (.string (ofL (Go.Lib.itoa n)))∧Below w.heap.size w w':=by
 have ht:=Lib.hid L.tab;have hn1:=hn.1;have hn2:=hn.2;clear L hn;go_enter Tryz.func34,Tryz.ntmps34;go_wp2_with (go_at_call 62;refine (Tryz.strconv_FormatInt_10 n hn1 hn2 _ ht.out).mono ?_;rintro e w1 ⟨rfl,k,os,rfl⟩);go_ret;exact⟨rfl,below_grow _ _ _⟩
theorem parse_ok (s:ByteArray) (v:Int) (hs:s.size≤281474976710656) (h:Go.Lib.parseIntB 64 (bl s)=.ok v) (w:World) :
  Calls Tryz.prog 68 #[.string s,.int .i64 10,.int .i64 64] w fun e w'=>e=.returned (.tuple #[.int .i64 v,.nilIface])∧Below w.heap.size w w' :=
 (Tryz.strconv_ParseInt_10_at64_ok s (by omega) v h w).mono fun e w' ⟨he,hw⟩=>⟨he,by
  rcases hw with rfl|⟨t,rfl⟩
  ·exact Below.refl _ _
  ·exact Go.Joins.below_bytesWorld _ _ _ _ (Nat.le_refl _)⟩
theorem parse_err (s:ByteArray) (hs:s.size≤281474976710656) (h:∀ v,Go.Lib.parseIntB 64 (bl s)≠.ok v) (w:World) (L:LibW w) :
  Calls Tryz.prog 68 #[.string s,.int .i64 10,.int .i64 64] w fun e w'=>∃ n t p,e=.returned (.tuple #[.int .i64 n,.iface t p])∧Below w.heap.size w w':=by
 cases hp:Go.Lib.parseIntB 64 (bl s)
 ·rename_i v
  exact absurd hp (h v)
 ·obtain⟨t,p,h1⟩:=L.e1
  exact (Any.strconv_ParseInt_10_at64_syntax Tryz.laysC174 s hs hp _ w h1 (Or.inr ⟨t,p,rfl⟩)).mono fun e w' ⟨N,he,_,_,hb⟩=>⟨_,_,_,he,hb⟩
 ·obtain⟨t,p,h1⟩:=L.e2
  exact (Tryz.strconv_ParseInt_10_at64_range s hs hp _ w h1 (Or.inr ⟨t,p,rfl⟩)).mono fun e w' ⟨N,he,_,_,hb⟩=>⟨_,_,_,he,hb⟩
theorem trim_bare (l:List UInt8):Go.Lib.trimPrefix l [45]=bare l:=by
 unfold Go.Lib.trimPrefix Go.Lib.hasPrefix bare
 cases l with
 | nil=>rfl
 | cons c r =>
  by_cases h:c=45
  ·subst h;simp
  ·simp[h,Ne.symm h,List.isPrefixOf]
theorem trimP_any (s tb:ByteArray) (h:tb=ofL (bare (bl s))) (w:World):Calls Tryz.prog 69 #[.string s,.string ⟨#[45]⟩] w fun e w'=>e=.returned (.string tb)∧w=w' :=
 (Tryz.strings_TrimPrefix s ⟨#[45]⟩ w).mono fun e w' ⟨he,hw⟩=>⟨by rw[he,h];unfold ofL;rw[← trim_bare];rfl,hw.symm⟩
def numV (l:List UInt8):Int:=(num l).getD 0
def numB (l:List UInt8):Bool:=(num l).isSome
theorem bare_size (s:ByteArray):(bare (bl s)).length≤s.size:=by
 unfold bare
 split
 ·rw[List.length_drop,bl_len];omega
 ·rw[bl_len];exact Nat.le_refl _
theorem I64_parse {l:List UInt8} {v:Int} (h:Go.Lib.parseIntB 64 l=.ok v):I64 v:=by
 have:=Go.Lib.parseIntB_bounds h
 constructor<;>omega
theorem readDecimal_any (s:ByteArray) (hs:s.size≤1099511627776) (w:World) (L:LibW w) :
  Calls Tryz.prog 43 #[.string s] w fun e w'=>e=.returned (.tuple #[.int .i64 (numV (bl s)),.bool (numB (bl s))])∧Below w.heap.size w w':=by
 by_cases hok:∃ v,Go.Lib.parseIntB 64 (bl s)=.ok v
 case neg =>
  have hno:∀ v,Go.Lib.parseIntB 64 (bl s)≠.ok v:=fun v h=>hok ⟨v,h⟩
  have HE:Hid (num (bl s)=none):=by
   show _=_
   cases hn:num (bl s) with
   | none=>rfl
   | some v=>exact absurd ((num_iff _ v).2 hn).1 (hno v)
  have HP:Hid (∀ W,LibW W→Calls Tryz.prog 68 #[.string s,.int .i64 10,.int .i64 64] W fun e w'=>∃ n t p,e=.returned (.tuple #[.int .i64 n,.iface t p])∧Below W.heap.size W w'):=fun W hW=>parse_err s (by omega) hno W hW
  have HL:=Lib.hid L;clear hok hno L hs;go_enter Tryz.func43,Tryz.ntmps43;go_wp2_with (go_at_call 68;refine (HP.out _ HL.out).mono ?_;rintro e w1 ⟨n,t,p,rfl,hb⟩);go_ret2;exact⟨by unfold numV numB;rw[HE.out];rfl,hb⟩
 case pos =>
  obtain⟨v,hv⟩:=hok;have HP:Hid (∀ W,Calls Tryz.prog 68 #[.string s,.int .i64 10,.int .i64 64] W fun e w'=>e=.returned (.tuple #[.int .i64 v,.nilIface])∧Below W.heap.size W w'):=fun W=>parse_ok s v (by omega) hv W
  have hi:=I64_parse hv;obtain⟨tb,htb⟩:∃ tb,tb=ofL (bare (bl s)):=⟨_,rfl⟩
  have hsz:tb.size=(bare (bl s)).length:=by rw[htb,ofL_size]
  have hle:=bare_size s;have HT:Hid (∀ W,Calls Tryz.prog 69 #[.string s,.string ⟨#[45]⟩] W fun e w'=>e=.returned (.string tb)∧W=w'):=fun W=>trimP_any s tb htb W
  have HD:Hid (∀ W,LibW W→Calls Tryz.prog 34 #[.int .i64 v] W fun e w'=>e=.returned (.string (ofL (Go.Lib.itoa v)))∧Below W.heap.size W w'):=fun W hW=>decimal_any v hi W hW
  have HL:=Lib.hid L;have hvv:=Lib.hid hv
  by_cases hlen:(bare (bl s)).length≤18
  case neg =>
   have HE:Hid (num (bl s)=none):=by
    show _=_
    cases hn:num (bl s) with
    | none=>rfl
    | some u=>exact absurd ((num_iff _ u).2 hn).2.1 hlen
   have hg:(18:Int)<(tb.size:Int):=by omega
   clear hlen hsz hle hv htb L hi hs;go_enter Tryz.func43,Tryz.ntmps43;go_wp2_with (first|(go_at_call 68;refine (HP.out _).mono ?_;rintro e w1 ⟨rfl,hb⟩)|(go_at_call 69;refine (HT.out _).mono ?_;rintro e w1 ⟨rfl,rfl⟩));go_ret2;exact⟨by unfold numV numB;rw[HE.out];rfl,hb⟩
  case pos =>
   have hg:(tb.size:Int)≤18:=by omega
   have HLn:=Lib.hid hlen;clear hlen hsz hle hv htb L hi hs;generalize hit:ofL (Go.Lib.itoa v)=it at *;have Hit:=Lib.hid hit;clear hit
   by_cases he:eqS it s=true
   case pos =>
    have HE:Hid (num (bl s)=some v):=(num_iff _ v).1 ⟨hvv.out,HLn.out,by rw[← bl_ofL (Go.Lib.itoa v),Hit.out,eqS_iff.1 he]⟩;have hl:(it.toList == s.toList)=true:=he;have hn:(it.toList != s.toList)=false:=by unfold bne;rw[hl];rfl
    clear he;go_enter Tryz.func43,Tryz.ntmps43;go_wp2_with (first|(go_at_call 68;refine (HP.out _).mono ?_;rintro e w1 ⟨rfl,hb⟩)|(go_at_call 69;refine (HT.out _).mono ?_;rintro e w1 ⟨rfl,rfl⟩)|(go_at_call 34;refine (HD.out _ (HL.out.mono hb)).mono ?_;rintro e w2 ⟨rfl,hb2⟩));go_ret2;exact⟨by unfold numV numB;rw[HE.out];rfl,hb.trans (hb2.mono hb.size)⟩
   case neg =>
    have he:=Bool.eq_false_iff.2 he;have HE:Hid (num (bl s)=none):=by
     show _=_
     cases hn:num (bl s) with
     | none=>rfl
     | some u =>
      have h3:=(num_iff _ u).2 hn;have:u=v:=by have:=h3.1.symm.trans hvv.out;exact Go.Lib.NumEnd.ok.inj this
      subst this;rw[← Hit.out,h3.2.2,ofL_bl] at he;rw[eqS_iff.2 rfl] at he
      cases he
    have hl:(it.toList == s.toList)=false:=he;have hn:(it.toList != s.toList)=true:=by unfold bne;rw[hl];rfl
    clear he;go_enter Tryz.func43,Tryz.ntmps43;go_wp2_with (first|(go_at_call 68;refine (HP.out _).mono ?_;rintro e w1 ⟨rfl,hb⟩)|(go_at_call 69;refine (HT.out _).mono ?_;rintro e w1 ⟨rfl,rfl⟩)|(go_at_call 34;refine (HD.out _ (HL.out.mono hb)).mono ?_;rintro e w2 ⟨rfl,hb2⟩));go_ret2;exact⟨by unfold numV numB;rw[HE.out];rfl,hb.trans (hb2.mono hb.size)⟩
end Go.Proofs.YtmkkiglcpedkiaaGreatDoor
namespace Go.Proofs.YtmkkiglcpedkiaaGreatDoor
open Go.RowKit
set_option maxHeartbeats 4000000
set_option maxRecDepth 100000
def crcBit (c:Int):Int:=if 65535<wrap64 (c*2) then bits .xor .i64 (bits .and .i64 (wrap64 (c*2)) 65535) 4129 else wrap64 (c*2)
def crcIt:Nat→Int→Int
 | 0,c=>c
 | j+1,c=>crcBit (crcIt j c)
def crcIn (c:Int) (b:UInt8):Int:=bits .xor .i64 c (wrap64 (wrap64 (b.toNat:Int)*256))
def crcB (c:Int) (b:UInt8):Int:=crcIt 8 (crcIn c b)
def crcL (l:List UInt8) (c:Int):Int:=l.foldl crcB c
theorem I64_wf {n:Int} (h:(Lit.int .i64 n).wf=true):I64 n:=by
 simp[Lit.wf,IntKind.min,IntKind.max,IntKind.signed,IntKind.bits] at h
 constructor<;>omega
theorem crcBit_I64 (c:Int):I64 (crcBit c):=by
 unfold crcBit
 split
 ·exact I64_wf (wf_bits _ _ _ _)
 ·exact I64_wf (wrap64_wf _)
theorem crcL_I64 (l:List UInt8) (c:Int) (hc:I64 c):I64 (crcL l c):=by
 unfold crcL
 induction l generalizing c with
 | nil=>exact hc
 | cons b l ih=>exact ih _ (crcBit_I64 _)
theorem crc_take (s:ByteArray) (k:Nat) (h:k<s.size) (c:Int):crcL ((bl s).take (k+1)) c=crcB (crcL ((bl s).take k) c) s[k]:=by
 have hk:k<(bl s).length:=by rw[bl_len];exact h
 unfold crcL;rw[List.take_succ_eq_append_getElem hk,List.foldl_append];have:(bl s)[k]=s[k]:=by simp only[bl,Array.getElem_toList];rfl
 rw[this];rfl
theorem l01Crc_any (s:ByteArray) (c0:Int) (hs:s.size≤1099511627776) (w:World):Calls Tryz.prog 80 #[.string s,.int .i64 c0] w fun e w'=>e=.returned (.int .i64 (crcL (bl s) c0))∧w=w':=by
 have hsi:(s.size:Int)≤1099511627776:=by omega
 go_enter Tryz.func80,Tryz.ntmps80;go_wp2;go_loopw [1,5] (fun v i wr=>∃ (k:Nat),k≤s.size∧i=.int .i64 k∧v=.int .i64 (crcL ((bl s).take k) c0)∧wr=w) (fun _ i wr=>s.size-(intOf i).toNat)
 case atStart=>exact⟨0,Nat.zero_le _,rfl,rfl,rfl⟩
 case round =>
  obtain⟨k,hk,rfl,rfl,rfl⟩:=hrel
  by_cases hlt:k<s.size
  ·have HT:=Lib.hid (crc_take s k hlt c0)
   generalize crcL ((bl s).take k) c0=c at *;generalize hb:s[k]=b at *;go_wp2;have HC:Hid (crcIt 8 (crcIn c b)=crcB c b):=rfl;have HI:Hid (crcIn c b=bits .xor .i64 c (wrap64 (wrap64 (b.toNat:Int)*256))):=rfl;rw[← HI.out];generalize crcIn c b=ci at *;go_loopw [1,6] (fun v i wq=>∃ (j:Nat),j≤8∧i=.int .i64 j∧v=.int .i64 (crcIt j ci)∧wq=wr) (fun _ i wq=>8-(intOf i).toNat)
   case atStart=>exact⟨0,by omega,rfl,rfl,rfl⟩
   case round =>
    obtain⟨j,hj,rfl,rfl,rfl⟩:=hrel
    by_cases hlj:j<8
    ·have hji:(j:Int)<8:=by omega
     have HJ:Hid (crcIt (j+1) ci=crcBit (crcIt j ci)):=rfl;generalize crcIt j ci=x at *
     by_cases hx:65535<wrap64 (x*2)
     ·have HX:Hid (crcBit x=bits .xor .i64 (bits .and .i64 (wrap64 (x*2)) 65535) 4129):=by show _=_;unfold crcBit;rw[if_pos hx]
      go_wp2;go_roundw
      case rel=>exact⟨j+1,by omega,by go_num,by rw[HJ.out,HX.out],by first|rfl|trivial⟩
      case measure=>simp[intOf];omega
     ·have HX:Hid (crcBit x=wrap64 (x*2)):=by show _=_;unfold crcBit;rw[if_neg hx]
      go_wp2;go_roundw
      case rel=>exact⟨j+1,by omega,by go_num,by rw[HJ.out,HX.out],by first|rfl|trivial⟩
      case measure=>simp[intOf];omega
    ·obtain rfl:j=8:=by omega
     rw[HC.out,← HT.out];go_wp2;go_roundw
     case rel=>exact⟨k+1,by omega,by go_num,by first|rfl|assumption,by first|rfl|trivial⟩
     case measure=>simp[intOf];omega
  ·obtain rfl:k=s.size:=by omega
   go_wp2;go_ret;exact⟨by rw[List.take_of_length_le (by rw[bl_len];exact Nat.le_refl _)];rfl,rfl⟩
def seg (l:List UInt8) (a k:Nat):List UInt8:=(l.take k).drop a
theorem bl_get (s:ByteArray) (k:Nat) (h:k<(bl s).length):(bl s)[k]=s[k]'(by rw[bl_len] at h;exact h):=by simp only[bl,Array.getElem_toList];rfl
theorem xor_odd (a:Nat) (h:a % 2=0):(a ^^^ 4129) % 2=1:=by
 have h1:=Nat.testBit_xor a 4129 0;rw[Nat.testBit_zero,Nat.testBit_zero,Nat.testBit_zero] at h1;have h2:decide (a % 2=1)=false:=decide_eq_false (by omega);have h3:decide ((4129:Nat) % 2=1)=true:=rfl;rw[h2,h3] at h1
 simpa using h1
theorem xor_cancel {a b x:Nat} (h:a ^^^ x=b ^^^ x):a=b:=by
 have:=congrArg (· ^^^ x) h
 simpa [Nat.xor_assoc] using this
theorem xor_cancel' {a b x:Nat} (h:x ^^^ a=x ^^^ b):a=b:=by
 rw[Nat.xor_comm x a,Nat.xor_comm x b] at h;exact xor_cancel h
def cbit (c:Nat):Nat:=if 65535<2*c then ((2*c) % 65536) ^^^ 4129 else 2*c
theorem cbit_lt {c:Nat} (h:c<65536):cbit c<65536:=by
 unfold cbit
 split
 ·exact Nat.xor_lt_two_pow (n:=16) (Nat.mod_lt _ (by decide)) (by decide)
 ·omega
theorem cbit_inj {c d:Nat} (hc:c<65536) (hd:d<65536) (h:cbit c=cbit d):c=d:=by
 unfold cbit at h
 split at h<;>split at h
 ·have:=xor_cancel h
  omega
 ·have h1:=xor_odd ((2*c) % 65536) (by omega)
  omega
 ·have h1:=xor_odd ((2*d) % 65536) (by omega)
  omega
 ·omega
def cit:Nat→Nat→Nat
 | 0,c=>c
 | j+1,c=>cbit (cit j c)
theorem cit_lt {c:Nat} (h:c<65536):∀ j,cit j c<65536
 | 0=>h
 | j+1=>cbit_lt (cit_lt h j)
theorem cit_inj {c d:Nat} (hc:c<65536) (hd:d<65536):∀ j,cit j c=cit j d→c=d
 | 0,h=>h
 | j+1,h=>cit_inj hc hd j (cbit_inj (cit_lt hc j) (cit_lt hd j) h)
def cbyte (c:Nat) (b:UInt8):Nat:=cit 8 (c ^^^ (b.toNat*256))
theorem cin_lt {c:Nat} (h:c<65536) (b:UInt8):c ^^^ (b.toNat*256)<65536 :=
 Nat.xor_lt_two_pow (n:=16) h (by have:=b.toNat_lt;omega)
theorem cbyte_lt {c:Nat} (h:c<65536) (b:UInt8):cbyte c b<65536:=cit_lt (cin_lt h b) 8
theorem cbyte_inj {c d:Nat} (hc:c<65536) (hd:d<65536) (b:UInt8) (h:cbyte c b=cbyte d b):c=d :=
 xor_cancel (cit_inj (cin_lt hc b) (cin_lt hd b) 8 h)
theorem cbyte_byte {c:Nat} (hc:c<65536) {a b:UInt8} (h:cbyte c a=cbyte c b):a=b:=by
 have h1:=xor_cancel' (cit_inj (cin_lt hc a) (cin_lt hc b) 8 h);exact UInt8.toNat_inj.1 (by omega)
theorem cfold_lt (l:List UInt8):∀ {c:Nat},c<65536→l.foldl cbyte c<65536:=by
 induction l with
 | nil=>intro c h;exact h
 | cons b l ih =>
  intro c h;rw[List.foldl_cons];exact ih (c:=cbyte c b) (cbyte_lt h b)
theorem cfold_inj (l:List UInt8):∀ {c d:Nat},c<65536→d<65536→l.foldl cbyte c=l.foldl cbyte d→c=d:=by
 induction l with
 | nil=>intro c d _ _ h;exact h
 | cons b l ih =>
  intro c d hc hd h;rw[List.foldl_cons,List.foldl_cons] at h;exact cbyte_inj hc hd b (ih (c:=cbyte c b) (d:=cbyte d b) (cbyte_lt hc b) (cbyte_lt hd b) h)
theorem cfold_changed (x y:List UInt8) {a b:UInt8} (hab:a≠b) {c:Nat} (hc:c<65536):(x++a::y).foldl cbyte c≠(x++b::y).foldl cbyte c:=fun h=>by
 rw[List.foldl_append,List.foldl_append,List.foldl_cons,List.foldl_cons] at h
 have hx:=cfold_lt x hc
 exact hab (cbyte_byte hx (cfold_inj y (cbyte_lt hx a) (cbyte_lt hx b) h))
theorem i64_xorN (a b:Nat) (ha:a<65536) (hb:b<65536):bits .xor .i64 (a:Int) (b:Int)=((a ^^^ b:Nat):Int):=by
 have hx:a ^^^ b<2 ^ 16:=Nat.xor_lt_two_pow ha hb;show IntKind.i64.wrap ((BitVec.ofInt 64 (a:Int) ^^^ BitVec.ofInt 64 (b:Int)).toNat:Int)=_
 rw[BitVec.toNat_xor,ofInt_u64 a (by omega),ofInt_u64 b (by omega)];exact IntWalk.i64_in _ (by omega)
theorem i64_andN (a:Nat) (ha:a<9223372036854775808):bits .and .i64 (a:Int) 65535=((a % 65536:Nat):Int):=by
 have e:a &&& 65535=a % 65536:=Nat.and_two_pow_sub_one_eq_mod a 16;show IntKind.i64.wrap ((BitVec.ofInt 64 (a:Int) &&& BitVec.ofInt 64 ((65535:Nat):Int)).toNat:Int)=_
 rw[BitVec.toNat_and,ofInt_u64 a (by omega),ofInt_u64 65535 (by decide),e];exact IntWalk.i64_in _ (by omega)
theorem crcBit_nat {c:Nat} (h:c<65536):crcBit (c:Int)=(cbit c:Int):=by
 have hw:wrap64 ((c:Int)*2)=((2*c:Nat):Int):=by
  unfold wrap64;omega
 unfold crcBit cbit;rw[hw]
 by_cases h1:65535<2*c
 ·rw[if_pos (by omega),if_pos h1,i64_andN _ (by omega)]
  exact i64_xorN _ 4129 (by omega) (by decide)
 ·rw[if_neg (by omega),if_neg h1]
theorem crcIt_nat {c:Nat} (h:c<65536):∀ j,crcIt j (c:Int)=(cit j c:Int)
 | 0=>rfl
 | j+1=>by rw[crcIt,crcIt_nat h j,crcBit_nat (cit_lt h j)];rfl
theorem crcIn_nat {c:Nat} (h:c<65536) (b:UInt8):crcIn (c:Int) b=((c ^^^ (b.toNat*256):Nat):Int):=by
 have hb:=b.toNat_lt;have hw:wrap64 (wrap64 (b.toNat:Int)*256)=((b.toNat*256:Nat):Int):=by
  unfold wrap64;omega
 unfold crcIn;rw[hw];exact i64_xorN _ _ h (by omega)
theorem crcB_nat {c:Nat} (h:c<65536) (b:UInt8):crcB (c:Int) b=(cbyte c b:Int):=by
 unfold crcB cbyte;rw[crcIn_nat h b,crcIt_nat (cin_lt h b)]
theorem crcL_nat (l:List UInt8):∀ {c:Nat},c<65536→crcL l (c:Int)=((l.foldl cbyte c:Nat):Int):=by
 induction l with
 | nil=>intro c h;rfl
 | cons b l ih =>
  intro c h;show crcL l (crcB (c:Int) b)=_
  rw[crcB_nat h b,ih (c:=cbyte c b) (cbyte_lt h b),List.foldl_cons]
theorem crc_range (l:List UInt8):0≤crcL l 65535∧crcL l 65535≤65535:=by
 have:=crcL_nat l (c:=65535) (by decide);have h2:=cfold_lt l (c:=65535) (by decide);rw[show ((65535:Nat):Int)=65535 from rfl] at this;rw[this];omega
theorem crc_changed (x y:List UInt8) {a b:UInt8} (hab:a≠b):crcL (x++a::y) 65535≠crcL (x++b::y) 65535:=by
 have h1:=crcL_nat (x++a::y) (c:=65535) (by decide);have h2:=crcL_nat (x++b::y) (c:=65535) (by decide);rw[show ((65535:Nat):Int)=65535 from rfl] at h1 h2;rw[h1,h2];intro h;exact cfold_changed x y hab (c:=65535) (by decide) (by omega)
end Go.Proofs.YtmkkiglcpedkiaaGreatDoor
