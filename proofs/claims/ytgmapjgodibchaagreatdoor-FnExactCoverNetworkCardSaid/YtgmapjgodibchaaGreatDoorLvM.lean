/- Contract: the greater of two numbers, of the reference. -/
import Derived.Test.YtgmapjgodibchaaGreatDoorLv0
import Derived.Test.YtgmapjgodibchaaGreatDoorOver
import Derived.Deep.DeepCutAuto
import Derived.Test.YtgmapjgodibchaaGreatDoorText
set_option linter.unusedVariables false
set_option linter.unusedSimpArgs false
namespace Go.Proofs.YtgmapjgodibchaaGreatDoor
open Go.RowKit
set_option maxHeartbeats 4000000
theorem quo_neg {c b:Int} (hc:0≤c):Int.tdiv (-c) b = -(c / b)∧Int.tmod (-c) b = -(c % b):=by
 rw[Int.neg_tdiv,Int.neg_tmod,Int.tdiv_eq_ediv_of_nonneg hc,Int.tmod_eq_emod_of_nonneg hc];exact⟨rfl,rfl⟩
theorem ediv_bd {c b:Int} (hb:1≤b) (hc:0≤c):0≤c / b∧c / b≤c∧0≤c % b∧c % b<b:=by
 refine⟨Int.ediv_nonneg hc O,Int.ediv_le_self b hc,Int.emod_nonneg c O,Int.emod_lt_of_pos c O⟩
theorem absW_any (n:Int) (h1:-9223372036854775807≤n) (h2:n≤9223372036854775807) (w:World) :
  Calls Tryz.prog 239 #[I n] w fun e w'=>e=.returned (I (max n (-n)))∧IJ w w w':=by
 by_cases h:0≤n
 ·have e:max n (-n)=n:=O
  rw[e];go_enter Tryz.func239,Tryz.ntmps239;go_wp2
  all_goals first|(exfalso;omega)|(go_ret;exact⟨rfl,Below.refl _ _⟩)
 ·have e:max n (-n) = -n:=O
  rw[e];go_enter Tryz.func239,Tryz.ntmps239;go_wp2
  all_goals first|(exfalso;omega)|(go_ret;exact⟨rfl,Below.refl _ _⟩)
theorem zbu (a b:Int) (hb:1≤b) (hb2:b≤4611686018427387903) (ha1:-4611686018427387904≤a) (ha2:a≤4611686018427387903) (w:World) :
  Calls Tryz.prog 201 #[I a,I b] w fun e w'=>e=.returned (I (rdiv a b))∧IJ w w w':=by
 have HAB:Hid (∀ W,Calls Tryz.prog 239 #[I b] W fun e w'=>e=.returned (I b)∧IJ W W w'):=fun W=>by
  have:=absW_any b O O W
  rwa [show max b (-b)=b by omega] at this
 have cb:decide (b<0)=false:=decide_eq_false O
 by_cases h0:0≤a
 ·obtain⟨d1,d2,d3,d4⟩:=ediv_bd hb h0
  have HE:=J (rdiv_nonneg (show 0<b by omega) h0);have HAR:Hid (∀ W,Calls Tryz.prog 239 #[I (a % b)] W fun e w'=>e=.returned (I (a % b))∧IJ W W w'):=fun W=>by
   have:=absW_any (a % b) O O W
   rwa [show max (a % b) (-(a % b))=a % b by omega] at this
  have ca:decide (a<0)=false:=decide_eq_false O
  by_cases hc:b-a % b≤a % b
  ·have HE2:Hid (rdiv a b=a / b+1):=by show _=_;rw[HE.out,if_pos hc]
   go_enter Tryz.func201,Tryz.ntmps201;go_upto_region 1 with (fail);refine zad w.heap.size w (Below.refl _ _) OJ OJ ?_
   repeat (go_big_quiet_step (first|(go_at_call 239;with_reducible exact zaj (Nat.le_refl _) (HAR.out _))))
   refine wpQuiet_nil ?_;rintro _ ⟨X,rfl⟩;have BE:=J (zaa w.heap.size w X);generalize over w.heap.size w X=w9 at *;go_wp2_with (go_at_call 239;with_reducible refine (HAB.out _).mono ?_;rintro e w2 ⟨rfl,hb2⟩);go_ret;exact⟨by rw[HE2.out];rfl,BE.out.trans (hb2.mono BE.out.size)⟩
  ·have HE2:Hid (rdiv a b=a / b):=by show _=_;rw[HE.out,if_neg hc,Int.add_zero]
   go_enter Tryz.func201,Tryz.ntmps201;go_upto_region 1 with (fail);refine zad w.heap.size w (Below.refl _ _) OJ OJ ?_
   repeat (go_big_quiet_step (first|(go_at_call 239;with_reducible exact zaj (Nat.le_refl _) (HAR.out _))))
   refine wpQuiet_nil ?_;rintro _ ⟨X,rfl⟩;have BE:=J (zaa w.heap.size w X);generalize over w.heap.size w X=w9 at *;go_wp2_with (go_at_call 239;with_reducible refine (HAB.out _).mono ?_;rintro e w2 ⟨rfl,hb2⟩);go_ret;exact⟨by rw[HE2.out];rfl,BE.out.trans (hb2.mono BE.out.size)⟩
 ·have hc0:0≤-a:=O
  obtain⟨d1,d2,d3,d4⟩:=ediv_bd hb hc0;have e12:=quo_neg (b:=b) hc0;rw[Int.neg_neg] at e12;obtain⟨e1,e2⟩:=e12;have HE:Hid (rdiv a b=Int.tdiv a b-if b - -(Int.tmod a b)≤-(Int.tmod a b) then 1 else 0):=by
   show _=_
   rw[e1,e2,Int.neg_neg];have:=rdiv_neg (a:=-a) (show 0<b by omega);rw[Int.neg_neg] at this;rw[this,rdiv_nonneg (show 0<b by omega) hc0];omega
  have HAR:Hid (∀ W,Calls Tryz.prog 239 #[I (Int.tmod a b)] W fun e w'=>e=.returned (I (-(Int.tmod a b)))∧IJ W W w'):=fun W=>by
   have:=absW_any (Int.tmod a b) O O W
   rwa [show max (Int.tmod a b) (-(Int.tmod a b)) = -(Int.tmod a b) by omega] at this
  have ca:decide (a<0)=true:=decide_eq_true O;have q1:-9223372036854775807≤Int.tdiv a b:=by rw[e1];omega
  have q2:Int.tdiv a b≤0:=by rw[e1];omega
  have q3:-9223372036854775807≤Int.tmod a b:=by rw[e2];omega
  have q4:Int.tmod a b≤0:=by rw[e2];omega
  have hna:a<0:=O
  clear e1 e2 h0 hc0 d1 d2 d3 d4
  by_cases hc:b - -(Int.tmod a b)≤-(Int.tmod a b)
  ·have HE2:Hid (rdiv a b=Int.tdiv a b-1):=by show _=_;rw[HE.out,if_pos hc]
   go_enter Tryz.func201,Tryz.ntmps201;go_upto_region 1 with (fail);refine zad w.heap.size w (Below.refl _ _) OJ OJ ?_
   repeat (go_big_quiet_step (first|(go_at_call 239;with_reducible exact zaj (Nat.le_refl _) (HAR.out _))))
   refine wpQuiet_nil ?_;rintro _ ⟨X,rfl⟩;have BE:=J (zaa w.heap.size w X);generalize over w.heap.size w X=w9 at *;go_wp2_with (go_at_call 239;with_reducible refine (HAB.out _).mono ?_;rintro e w2 ⟨rfl,hb2⟩);go_ret;exact⟨by rw[HE2.out];rfl,BE.out.trans (hb2.mono BE.out.size)⟩
  ·have HE2:Hid (rdiv a b=Int.tdiv a b):=by show _=_;rw[HE.out,if_neg hc,Int.sub_zero]
   go_enter Tryz.func201,Tryz.ntmps201;go_upto_region 1 with (fail);refine zad w.heap.size w (Below.refl _ _) OJ OJ ?_
   repeat (go_big_quiet_step (first|(go_at_call 239;with_reducible exact zaj (Nat.le_refl _) (HAR.out _))))
   refine wpQuiet_nil ?_;rintro _ ⟨X,rfl⟩;have BE:=J (zaa w.heap.size w X);generalize over w.heap.size w X=w9 at *;go_wp2_with (go_at_call 239;with_reducible refine (HAB.out _).mono ?_;rintro e w2 ⟨rfl,hb2⟩);go_ret;exact⟨by rw[HE2.out];rfl,BE.out.trans (hb2.mono BE.out.size)⟩
theorem rootClosure_any (k n:Int) (h0:0≤k) (h1:k≤3037000498) (b:Nat) (w:World) (c0:w.cell? ⟨b,0,none⟩=some (I n)) :
  Calls Tryz.prog 258 #[I k,.pointer (some ⟨b,0,none⟩)] w fun e w'=>e=.returned (.bool (decide (n<(k+1)*(k+1))))∧IJ w w w':=by
 have hk:(k+1)*(k+1)≤3037000499*3037000499:=sq_le_sq O O;have hk0:0≤(k+1)*(k+1):=Int.mul_nonneg O O;have hk1:k+1≤3037000499:=O
 go_enter Tryz.func258,Tryz.ntmps258;go_wp2;go_ret;exact⟨rfl,Below.refl _ _⟩
theorem rootSearch_any (n:Int) (h0:0≤n) (h1:n≤9223372036854775807) (b:Nat) (w:World) (c0:w.cell? ⟨b,0,none⟩=some (I n)) (hb0:b<w.heap.size) :
  Calls Tryz.prog 257 #[I 3037000499,.func (.func 258) #[] #[.pointer (some ⟨b,0,none⟩)]] w fun e w'=>e=.returned (I (isq n))∧IJ w w w':=by
 have hs:=isq_spec h0;have hs0:=zef n;have hle:isq n≤3037000499:=isq_le O O;have HC:Hid (∀ (k:Int) (W:World),0≤k→k≤3037000498→IJ w w W→Calls Tryz.prog 258 #[I k,.pointer (some ⟨b,0,none⟩)] W fun e w'=>e=.returned (.bool (decide (n<(k+1)*(k+1))))∧IJ W W w'):=fun k W k0 k1 hW=>rootClosure_any k n k0 k1 b W ((bat hW b _ hb0).trans c0)
 have HM:Hid (∀ k:Int,0≤k→(decide (n<(k+1)*(k+1))=true→isq n≤k)∧(decide (n<(k+1)*(k+1))=false→k+1≤isq n)):=fun k hk=>by
  refine⟨fun h=>isq_le (of_decide_eq_true h) hk,fun h=>isq_ge ?_ O⟩;have:=of_decide_eq_false h;omega
 have hcf:∀ (args:Array Value) (W:World),(callFunc 258 args).run Tryz.prog W=.ok (.enter 258 args) W:=fun _ _=>by kernel_rfl
 generalize isq n=r at *;clear hs c0;go_enter Tryz.func257,Tryz.ntmps257;go_wp2;go_loopw [5,6] (fun lo hi wr=>∃ (l h:Nat),lo=I l∧hi=I h∧(l:Int)≤r∧r≤(h:Int)∧h≤3037000499∧IJ w w wr) (fun lo hi wr=>(intOf hi).toNat-(intOf lo).toNat)
 case atStart=>exact⟨0,3037000499,rfl,rfl,O,O,O,Below.refl _ _⟩
 case round =>
  obtain⟨l,h,rfl,rfl,hl,hh,hh2,hb⟩:=hrel;have HB:=J hb;clear hb
  by_cases hlt:l<h
  ·have hli:(l:Int)<(h:Int):=O
   have hhi:(h:Int)≤3037000499:=O
   have hl0:(0:Int)≤(l:Int):=O
   have HCk:=J (HC.out ((((l+h) / 2:Nat):Int)) wr O O HB.out);have HMk:=J (HM.out (((l+h) / 2:Nat):Int) O);have hmid:(((l+h) / 2:Nat):Int)=((l:Int)+(h:Int)) / 2:=O
   rw[hmid] at HCk HMk
   cases hd:decide (n<(((l:Int)+(h:Int)) / 2+1)*(((l:Int)+(h:Int)) / 2+1)) with
   | true =>
    have hle2:=HMk.out.1 hd;rw[hd] at HCk;clear hd HMk;go_wp2_with (go_at_call 258;with_reducible refine HCk.out.mono ?_;rintro e w1 ⟨rfl,hb1⟩);go_roundw
    case rel=>exact⟨l,(l+h) / 2,rfl,by go_num,hl,O,O,HB.out.trans (hb1.mono HB.out.size)⟩
    case measure=>simp[intOf];omega
   | false =>
    have hle2:=HMk.out.2 hd;rw[hd] at HCk;clear hd HMk;go_wp2_with (go_at_call 258;with_reducible refine HCk.out.mono ?_;rintro e w1 ⟨rfl,hb1⟩);go_roundw
    case rel=>exact⟨(l+h) / 2+1,h,by go_num,rfl,O,hh,hh2,HB.out.trans (hb1.mono HB.out.size)⟩
    case measure=>simp[intOf];omega
  ·obtain rfl:l=h:=O
   obtain rfl:r=(l:Int):=O
   go_wp2;go_ret;exact⟨rfl,HB.out⟩
theorem rootOf_any (n:Int) (h0:-9223372036854775808≤n) (h1:n≤9223372036854775807) (w:World):Calls Tryz.prog 234 #[I n] w fun e w'=>e=.returned (I (isq n))∧IJ w w w':=by
 by_cases hn:0≤n
 ·have b0:IJ w w (w.alloc (.cells #[I n] 2)):=(Below.refl _ _).alloc (Nat.le_refl _) _
  have HS:=J (rootSearch_any n hn h1 w.heap.size (w.alloc (.cells #[I n] 2)) (by simp[go_sem]) (by simp));have hc:decide (n<0)=false:=decide_eq_false O;have B0:=J b0;clear b0;go_enter Tryz.func234,Tryz.ntmps234;go_wp2_with (go_at_call 257;with_reducible refine HS.out.mono ?_;rintro e w1 ⟨rfl,hb1⟩);go_ret;exact⟨rfl,B0.out.trans (hb1.mono (by simp))⟩
 ·have HE:=J (isq_neg (show n<0 by omega))
  have hc:decide (n<0)=true:=decide_eq_true O;go_enter Tryz.func234,Tryz.ntmps234;go_wp2;go_ret;exact⟨by rw[HE.out];rfl,(Below.refl _ _).alloc (Nat.le_refl _) _⟩
theorem zbn (a b:Int) (hb:1≤b) (hb2:b≤1152921504606846976) (ha1:-1152921504606846976≤a) (ha2:a≤1152921504606846976) (w:World) :
  Calls Tryz.prog 222 #[I a,I b] w fun e w'=>e=.returned (I (rdiv a b))∧w=w':=by
 unfold rdiv;have cb:decide (b<0)=false:=decide_eq_false O
 by_cases h0:a<0
 ·rw[if_pos h0]
  have hx:0≤b-2*a:=O
  have hd:=ediv_bd (show 1≤2*b by omega) hx;obtain⟨d1,d2,_,_⟩:=hd;have d3:(b-2*a) / (2*b)≤4611686018427387904:=O
  go_enter Tryz.func222,Tryz.ntmps222;go_wp2;go_ret;exact⟨rfl,rfl⟩
 ·rw[if_neg h0]
  have hx:0≤2*a+b:=O
  go_enter Tryz.func222,Tryz.ntmps222;go_wp2;go_ret;exact⟨rfl,rfl⟩
theorem mid_sq {m:Int} (h0:0≤m) (h1:m≤3037000499):0≤m*m∧m*m≤9223372030926249001:=⟨Int.mul_nonneg h0 h0,by have:=sq_le_sq h0 h1;omega⟩
theorem l01Root_any (n:Int) (h1:n≤9223372036854775807) (w:World):Calls Tryz.prog 246 #[I n] w fun e w'=>e=.returned (I (isq n))∧w=w':=by
 have hs0:=zef n;have hle:isq n≤3037000499:=isq_le O O;have HM:Hid (∀ k:Int,0≤k→(k*k≤n→k≤isq n)∧(¬ (k*k≤n)→k≠0→isq n≤k-1)):=fun k hk=>by
  refine⟨fun h=>isq_ge h hk,fun h hz=>isq_le ?_ O⟩;rw[show k-1+1=k by omega];omega
 have HZ:Hid (∀ k:Int,¬ (k*k≤n)→k=1→isq n=0):=fun k h hk=>by
  subst hk;have:=isq_le (n:=n) (m:=0) O O;have:=zef n;omega
 generalize isq n=r at *;go_enter Tryz.func246,Tryz.ntmps246;go_wp2
 go_loop [3,4] (fun lo hi=>∃ (l h:Nat),lo=I l∧hi=I h∧(l:Int)≤r∧r≤(h:Int)∧h≤3037000499) (fun lo hi=>(intOf hi).toNat-(intOf lo).toNat)
 case atStart=>exact⟨0,3037000499,rfl,rfl,O,O,O⟩
 case round =>
  obtain⟨l,h,rfl,rfl,hl,hh,hh2⟩:=hrel
  by_cases hlt:l<h
  ·have hli:(l:Int)<(h:Int):=O
   have hhi:(h:Int)≤3037000499:=O
   have hl0:(0:Int)≤(l:Int):=O
   have HMk:=J (HM.out (((l:Int)+(h:Int)+1) / 2) O);obtain⟨m1,m2⟩:=mid_sq (m:=((l:Int)+(h:Int)+1) / 2) O O
   by_cases hd:((l:Int)+(h:Int)+1) / 2*(((l:Int)+(h:Int)+1) / 2)≤n
   ·have hle2:=HMk.out.1 hd
    go_wp2
    go_round
    case rel=>exact⟨(l+h+1) / 2,h,by go_num,rfl,O,hh,hh2⟩
    case measure=>simp[intOf];omega
   ·have hle2:=HMk.out.2 O O
    go_wp2
    go_round
    case rel=>exact⟨l,(l+h+1) / 2-1,rfl,by go_num,hl,O,O⟩
    case measure=>simp[intOf];omega
  ·obtain rfl:l=h:=O
   obtain rfl:r=(l:Int):=O
   go_wp2;go_ret;exact⟨rfl,rfl⟩
theorem ze7 (a b:Int) (w:World):Calls Tryz.prog 94 #[I a,I b] w fun e w'=>e=.returned (I (max a b))∧w=w':=by
 by_cases h:b<a
 ·have e:max a b=a:=O
  rw[e];clear e;go_enter Tryz.func94,Tryz.ntmps94;go_wp2;go_ret;exact⟨rfl,rfl⟩
 ·have e:max a b=b:=O
  rw[e];clear e;go_enter Tryz.func94,Tryz.ntmps94;go_wp2;go_ret;exact⟨rfl,rfl⟩
end Go.Proofs.YtgmapjgodibchaaGreatDoor
