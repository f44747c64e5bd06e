/- Contract: the greater of two numbers, of the reference. -/
import Derived.Test.YtpakghepnahooaaGreatDoorLv0
import Derived.Test.YtpakghepnahooaaGreatDoorOver
import Derived.Deep.DeepCutAuto
import Derived.Test.YtpakghepnahooaaGreatDoorInts
set_option linter.unusedVariables false
set_option linter.unusedSimpArgs false
namespace Go.Proofs.YtpakghepnahooaaGreatDoor
open Go.RowKit
theorem Q0a {p:Prop} (h:p:=by
 go_enter Tryz.func180,Tryz.ntmps180
 go_upto_region 1 with (fail)
 refine zab w.heap.size w (Below.refl _ _) JI JI ?_
 repeat (go_big_quiet_step (first|(go_at_call 213;with_reducible exact zah (Nat.le_refl _) (HAR.out _))))
 refine wpQuiet_nil ?_
 rintro _ ⟨X,rfl⟩
 have BE:=IJ (zaa w.heap.size w X)
 generalize over w.heap.size w X=w9 at *
 go_wp2_with (go_at_call 213;with_reducible refine (HAB.out _).mono ?_;rintro e w2 ⟨rfl,hb2⟩)
 go_ret
 exact⟨by rw[HE2.out];rfl,BE.out.trans (hb2.mono BE.out.size)⟩):p:=h
set_option maxHeartbeats 4000000
theorem quo_neg {c b:Int} (hc:0≤c):Int.tdiv (-c) b = -(c / b)∧Int.tmod (-c) b = -(c % b):=by
 rw[Int.neg_tdiv,Int.neg_tmod,Int.tdiv_eq_ediv_of_nonneg hc,Int.tmod_eq_emod_of_nonneg hc];exact⟨rfl,rfl⟩
theorem ediv_bd {c b:Int} (hb:1≤b) (hc:0≤c):0≤c / b∧c / b≤c∧0≤c % b∧c % b<b:=by
 refine⟨Int.ediv_nonneg hc II,Int.ediv_le_self b hc,Int.emod_nonneg c II,Int.emod_lt_of_pos c II⟩
theorem absW_any (n:Int) (h1:-9223372036854775807≤n) (h2:n≤9223372036854775807) (w:World) :
  Calls Tryz.prog 213 #[J n] w fun e w'=>e=.returned (J (max n (-n)))∧OI w w w':=by
 by_cases h:0≤n
 ·have e:max n (-n)=n:=II
  rw[e];go_enter Tryz.func213,Tryz.ntmps213;go_wp2
  all_goals first|(exfalso;omega)|(go_ret;exact⟨rfl,Below.refl _ _⟩)
 ·have e:max n (-n) = -n:=II
  rw[e];go_enter Tryz.func213,Tryz.ntmps213;go_wp2
  all_goals first|(exfalso;omega)|(go_ret;exact⟨rfl,Below.refl _ _⟩)
theorem zbx (a b:Int) (hb:1≤b) (hb2:b≤4611686018427387903) (ha1:-4611686018427387904≤a) (ha2:a≤4611686018427387903) (w:World) :
  Calls Tryz.prog 180 #[J a,J b] w fun e w'=>e=.returned (J (rdiv a b))∧OI w w w':=by
 have HAB:Hid (∀ W,Calls Tryz.prog 213 #[J b] W fun e w'=>e=.returned (J b)∧OI W W w'):=fun W=>by
  have:=absW_any b II II W
  rwa [show max b (-b)=b by omega] at this
 have cb:decide (b<0)=false:=decide_eq_false II
 by_cases h0:0≤a
 ·obtain⟨d1,d2,d3,d4⟩:=ediv_bd hb h0
  have HE:=IJ (rdiv_nonneg (show 0<b by omega) h0);have HAR:Hid (∀ W,Calls Tryz.prog 213 #[J (a % b)] W fun e w'=>e=.returned (J (a % b))∧OI W W w'):=fun W=>by
   have:=absW_any (a % b) II II W
   rwa [show max (a % b) (-(a % b))=a % b by omega] at this
  have ca:decide (a<0)=false:=decide_eq_false II
  by_cases hc:b-a % b≤a % b
  ·have HE2:Hid (rdiv a b=a / b+1):=by show _=_;rw[HE.out,if_pos hc]
   exact Q0a
  ·have HE2:Hid (rdiv a b=a / b):=by show _=_;rw[HE.out,if_neg hc,Int.add_zero]
   exact Q0a
 ·have hc0:0≤-a:=II
  obtain⟨d1,d2,d3,d4⟩:=ediv_bd hb hc0;have e12:=quo_neg (b:=b) hc0;rw[Int.neg_neg] at e12;obtain⟨e1,e2⟩:=e12;have HE:Hid (rdiv a b=Int.tdiv a b-if b - -(Int.tmod a b)≤-(Int.tmod a b) then 1 else 0):=by
   show _=_
   rw[e1,e2,Int.neg_neg];have:=rdiv_neg (a:=-a) (show 0<b by omega);rw[Int.neg_neg] at this;rw[this,rdiv_nonneg (show 0<b by omega) hc0];omega
  have HAR:Hid (∀ W,Calls Tryz.prog 213 #[J (Int.tmod a b)] W fun e w'=>e=.returned (J (-(Int.tmod a b)))∧OI W W w'):=fun W=>by
   have:=absW_any (Int.tmod a b) II II W
   rwa [show max (Int.tmod a b) (-(Int.tmod a b)) = -(Int.tmod a b) by omega] at this
  have ca:decide (a<0)=true:=decide_eq_true II;have q1:-9223372036854775807≤Int.tdiv a b:=by rw[e1];omega
  have q2:Int.tdiv a b≤0:=by rw[e1];omega
  have q3:-9223372036854775807≤Int.tmod a b:=by rw[e2];omega
  have q4:Int.tmod a b≤0:=by rw[e2];omega
  have hna:a<0:=II
  clear e1 e2 h0 hc0 d1 d2 d3 d4
  by_cases hc:b - -(Int.tmod a b)≤-(Int.tmod a b)
  ·have HE2:Hid (rdiv a b=Int.tdiv a b-1):=by show _=_;rw[HE.out,if_pos hc]
   exact Q0a
  ·have HE2:Hid (rdiv a b=Int.tdiv a b):=by show _=_;rw[HE.out,if_neg hc,Int.sub_zero]
   exact Q0a
theorem rootClosure_any (k n:Int) (h0:0≤k) (h1:k≤3037000498) (b:Nat) (w:World) (c0:w.cell? ⟨b,0,none⟩=some (J n)) :
  Calls Tryz.prog 232 #[J k,.pointer (some ⟨b,0,none⟩)] w fun e w'=>e=.returned (.bool (decide (n<(k+1)*(k+1))))∧OI w w w':=by
 have hk:(k+1)*(k+1)≤3037000499*3037000499:=sq_le_sq II II;have hk0:0≤(k+1)*(k+1):=Int.mul_nonneg II II;have hk1:k+1≤3037000499:=II
 go_enter Tryz.func232,Tryz.ntmps232;go_wp2;go_ret;exact⟨rfl,Below.refl _ _⟩
theorem rootSearch_any (n:Int) (h0:0≤n) (h1:n≤9223372036854775807) (b:Nat) (w:World) (c0:w.cell? ⟨b,0,none⟩=some (J n)) (hb0:b<w.heap.size) :
  Calls Tryz.prog 231 #[J 3037000499,.func (.func 232) #[] #[.pointer (some ⟨b,0,none⟩)]] w fun e w'=>e=.returned (J (isq n))∧OI w w w':=by
 have hs:=isq_spec h0;have hs0:=ze7 n;have hle:isq n≤3037000499:=isq_le II II;have HC:Hid (∀ (k:Int) (W:World),0≤k→k≤3037000498→OI w w W→Calls Tryz.prog 232 #[J k,.pointer (some ⟨b,0,none⟩)] W fun e w'=>e=.returned (.bool (decide (n<(k+1)*(k+1))))∧OI W W w'):=fun k W k0 k1 hW=>rootClosure_any k n k0 k1 b W ((bat hW b _ hb0).trans c0)
 have HM:Hid (∀ k:Int,0≤k→(decide (n<(k+1)*(k+1))=true→isq n≤k)∧(decide (n<(k+1)*(k+1))=false→k+1≤isq n)):=fun k hk=>by
  refine⟨fun h=>isq_le (of_decide_eq_true h) hk,fun h=>isq_ge ?_ II⟩;have:=of_decide_eq_false h;omega
 have hcf:∀ (args:Array Value) (W:World),(callFunc 232 args).run Tryz.prog W=.ok (.enter 232 args) W:=fun _ _=>by kernel_rfl
 generalize isq n=r at *;clear hs c0;go_enter Tryz.func231,Tryz.ntmps231;go_wp2;go_loopw [5,6] (fun lo hi wr=>∃ (l h:Nat),lo=J l∧hi=J h∧(l:Int)≤r∧r≤(h:Int)∧h≤3037000499∧OI w w wr) (fun lo hi wr=>(intOf hi).toNat-(intOf lo).toNat)
 case atStart=>exact⟨0,3037000499,rfl,rfl,II,II,II,Below.refl _ _⟩
 case round =>
  obtain⟨l,h,rfl,rfl,hl,hh,hh2,hb⟩:=hrel;have HB:=IJ hb;clear hb
  by_cases hlt:l<h
  ·have hli:(l:Int)<(h:Int):=II
   have hhi:(h:Int)≤3037000499:=II
   have hl0:(0:Int)≤(l:Int):=II
   have HCk:=IJ (HC.out ((((l+h) / 2:Nat):Int)) wr II II HB.out);have HMk:=IJ (HM.out (((l+h) / 2:Nat):Int) II);have hmid:(((l+h) / 2:Nat):Int)=((l:Int)+(h:Int)) / 2:=II
   rw[hmid] at HCk HMk
   cases hd:decide (n<(((l:Int)+(h:Int)) / 2+1)*(((l:Int)+(h:Int)) / 2+1)) with
   | true =>
    have hle2:=HMk.out.1 hd;rw[hd] at HCk;clear hd HMk;go_wp2_with (go_at_call 232;with_reducible refine HCk.out.mono ?_;rintro e w1 ⟨rfl,hb1⟩);go_roundw
    case rel=>exact⟨l,(l+h) / 2,rfl,by go_num,hl,II,II,HB.out.trans (hb1.mono HB.out.size)⟩
    case measure=>simp[intOf];omega
   | false =>
    have hle2:=HMk.out.2 hd;rw[hd] at HCk;clear hd HMk;go_wp2_with (go_at_call 232;with_reducible refine HCk.out.mono ?_;rintro e w1 ⟨rfl,hb1⟩);go_roundw
    case rel=>exact⟨(l+h) / 2+1,h,by go_num,rfl,II,hh,hh2,HB.out.trans (hb1.mono HB.out.size)⟩
    case measure=>simp[intOf];omega
  ·obtain rfl:l=h:=II
   obtain rfl:r=(l:Int):=II
   go_wp2;go_ret;exact⟨rfl,HB.out⟩
theorem rootOf_any (n:Int) (h0:-9223372036854775808≤n) (h1:n≤9223372036854775807) (w:World):Calls Tryz.prog 208 #[J n] w fun e w'=>e=.returned (J (isq n))∧OI w w w':=by
 by_cases hn:0≤n
 ·have b0:OI w w (w.alloc (.cells #[J n] 2)):=(Below.refl _ _).alloc (Nat.le_refl _) _
  have HS:=IJ (rootSearch_any n hn h1 w.heap.size (w.alloc (.cells #[J n] 2)) (by simp[go_sem]) Q4b);have hc:decide (n<0)=false:=decide_eq_false II;have B0:=IJ b0;clear b0;go_enter Tryz.func208,Tryz.ntmps208;go_wp2_with (go_at_call 231;with_reducible refine HS.out.mono ?_;rintro e w1 ⟨rfl,hb1⟩);go_ret;exact⟨rfl,B0.out.trans (hb1.mono Q4b)⟩
 ·have HE:=IJ (isq_neg (show n<0 by omega))
  have hc:decide (n<0)=true:=decide_eq_true II;go_enter Tryz.func208,Tryz.ntmps208;go_wp2;go_ret;exact⟨by rw[HE.out];rfl,(Below.refl _ _).alloc (Nat.le_refl _) _⟩
end Go.Proofs.YtpakghepnahooaaGreatDoor
