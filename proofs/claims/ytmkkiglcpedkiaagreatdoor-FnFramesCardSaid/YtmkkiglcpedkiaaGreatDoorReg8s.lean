/- Contract: changes are valid and in order, for the reference. Conditions: bounded lengths. -/
import Derived.Test.YtmkkiglcpedkiaaGreatDoorReg1s
set_option linter.unusedVariables false
set_option linter.unusedSimpArgs false
namespace Go.Proofs.YtmkkiglcpedkiaaGreatDoor
open Go.RowKit
set_option maxHeartbeats 2000000
set_option maxRecDepth 100000
theorem sameRs_len {l m:List DRecord} (h:l.length≠m.length):sameRs l m=false:=by unfold sameRs;rw[decide_eq_false h];rfl
theorem sameRs_at {l m:List DRecord} {k:Nat} (hl:k<l.length) (hm:k<m.length) (h:sameRec l[k] m[k]=false):sameRs l m=false:=by
 unfold sameRs;rw[Bool.and_eq_false_iff]
 right
 rw[List.all_eq_false];exact⟨k,by simpa using hl,by rw[List.getElem?_eq_getElem hl,List.getElem?_eq_getElem hm];simp[h]⟩
theorem sameRs_all {l m:List DRecord} (e:l.length=m.length) (h:∀ j (hl:j<l.length),sameRec l[j] (m[j]'(by omega))=true):sameRs l m=true:=by
 unfold sameRs;rw[decide_eq_true e,Bool.true_and,List.all_eq_true];intro j hj;have hj':j<l.length:=by simpa using hj
 rw[List.getElem?_eq_getElem hj',List.getElem?_eq_getElem (show j<m.length by omega)];exact h j hj'
theorem equalRecord_any (l m:List DRecord) (v u:Value) (B:Nat) (w:World) (h:Rd B w (DRecord.sT l) v) (h':Rd B w (DRecord.sT m) u) (hB:B≤w.heap.size) (hn:l.length≤1099511627776) (hm:m.length≤1099511627776) :
  Calls Tryz.prog 33 #[v,u] w fun e w'=>e=.returned (.bool (sameRs l m))∧Below w.heap.size w w':=by
 obtain⟨a,c,rfl,hnc,hcm,hcells⟩:=DRecord.rd h;obtain⟨a',c',rfl,hnc',hcm',hcells'⟩:=DRecord.rd h';clear h h'
 by_cases hl:l.length=m.length
 case neg =>
  have HE:=Lib.hid (sameRs_len hl);have hne:((l.length:Int) != (m.length:Int))=true:=by simp<;>omega
  clear hcells hcells';go_enter Tryz.func33,Tryz.ntmps33;go_wp2;go_ret;exact⟨by rw[HE.out];rfl,Below.refl _ _⟩
 have hnb:(l.length:Int)≤1099511627776:=by omega
 have hne:((l.length:Int) != (m.length:Int))=false:=by simp<;>omega
 have HL:=Lib.hid hl;clear hl;go_enter Tryz.func33,Tryz.ntmps33;go_wp2;go_loopw [13] (fun i wr=>∃ (k:Nat),k≤l.length∧i=.int .i64 k∧(∀ j (hl:j<l.length),j<k→sameRec l[j] (m[j]'(by have:=HL.out;omega))=true)∧Below w.heap.size w wr) (fun i wr=>l.length-(intOf i).toNat)
 case atStart=>exact⟨0,Nat.zero_le _,rfl,fun j hl h=>absurd h (by omega),Below.refl _ _⟩
 case round =>
  obtain⟨k,hk,rfl,hall,hb⟩:=hrel;have HA:=Lib.hid hall;have HB:=Lib.hid hb;clear hall hb
  by_cases hlt:k<l.length
  ·have hlm:k<m.length:=by rw[← HL.out];exact hlt
   obtain⟨b,off,rfl,hbl,hat⟩:=hcells (by omega);obtain⟨b',off',rfl,hbl',hat'⟩:=hcells' (by omega);obtain⟨s0,s1⟩:=hat k hlt;obtain⟨t0,t1⟩:=hat' k hlm;rw[← HB.out.cell (p:=⟨b,_,none⟩) (show b<w.heap.size by omega)] at s0 s1;rw[← HB.out.cell (p:=⟨b',_,none⟩) (show b' < w.heap.size by omega)] at t0 t1;have j0:(0:Int)≤(k:Int):=by omega
   have j1:(k:Int)<(l.length:Int):=by omega
   have j2:(k:Int)<(m.length:Int):=by omega
   have yr:w.heap.size≤wr.heap.size:=HB.out.size;clear hcells hat hcells' hat';have HF:Hid (sameRec l[k] m[k]=false→sameRs l m=false):=fun h=>sameRs_at hlt hlm h
   have HT:Hid (sameRec l[k] m[k]=true→∀ j (hl:j<l.length),j<k+1→sameRec l[j] (m[j]'(by have:=HL.out;omega))=true):=fun h j hl hj=>by
    by_cases e:j=k
    ·subst e;exact h
    ·exact HA.out j hl (by omega)
   have oB:=overC (w0:=wr) (show b<wr.heap.size by omega);have oB2:=overC (w0:=wr) (show b' < wr.heap.size by omega);generalize l[k]=X at *;generalize m[k]=Y at *;go_upto_region 6 with (fail)
   by_cases e0:X.key.toList=Y.key.toList
   case neg =>
    have e0b:(X.key.toList == Y.key.toList)=false:=beq_eq_false_iff_ne.2 e0;have HE:=Lib.hid (HF.out (by unfold sameRec;simp only[eqS,e0b,Bool.false_and,Bool.and_false]));clear e0b;refine wp_region_over wr.heap.size wr (Below.refl _ _) (by kernel_rfl) (by kernel_rfl) ?_
    repeat (go_big_quiet_step (fail))
    refine wpQuiet_nil ?_;rintro _ ⟨Z,rfl⟩;have BE:=Lib.hid (HB.out.trans ((over_below wr.heap.size wr Z).mono (by omega)));clear oB oB2;generalize over wr.heap.size wr Z=w2 at *;go_wp2;go_ret;exact⟨by rw[HE.out];rfl,BE.out⟩
   by_cases e1:X.value.toList=Y.value.toList
   case neg =>
    have e1b:(X.value.toList == Y.value.toList)=false:=beq_eq_false_iff_ne.2 e1;have HE:=Lib.hid (HF.out (by unfold sameRec;simp only[eqS,e1b,Bool.false_and,Bool.and_false]));clear e1b;refine wp_region_over wr.heap.size wr (Below.refl _ _) (by kernel_rfl) (by kernel_rfl) ?_
    repeat (go_big_quiet_step (fail))
    refine wpQuiet_nil ?_;rintro _ ⟨Z,rfl⟩;have BE:=Lib.hid (HB.out.trans ((over_below wr.heap.size wr Z).mono (by omega)));clear oB oB2;generalize over wr.heap.size wr Z=w2 at *;go_wp2;go_ret;exact⟨by rw[HE.out];rfl,BE.out⟩
   have HE:=Lib.hid (HT.out (by unfold sameRec;simp[eqS,e0,e1]));refine wp_region_over wr.heap.size wr (Below.refl _ _) (by kernel_rfl) (by kernel_rfl) ?_
   repeat (go_big_quiet_step (fail))
   refine wpQuiet_nil ?_;rintro _ ⟨Z,rfl⟩;have BE:=Lib.hid (HB.out.trans ((over_below wr.heap.size wr Z).mono (by omega)));clear oB oB2;generalize over wr.heap.size wr Z=w2 at *;clear e0 e1;go_wp2;go_roundw
   case rel=>exact⟨k+1,by omega,by go_num,HE.out,BE.out⟩
   case measure=>simp[intOf];omega
  ·obtain rfl:k=l.length:=by omega
   have HE:=Lib.hid (sameRs_all HL.out (fun j hl=>HA.out j hl hl));clear hcells hcells';go_wp2;go_ret;exact⟨by rw[HE.out];rfl,HB.out⟩
theorem l28Same_any (l m:List DRecord) (v u:Value) (B:Nat) (w:World) (h:Rd B w (DRecord.sT l) v) (h':Rd B w (DRecord.sT m) u) (hB:B≤w.heap.size) (hn:l.length≤1099511627776) (hm:m.length≤1099511627776) :
  Calls Tryz.prog 23 #[v,u] w fun e w'=>e=.returned (.bool (sameRs l m))∧Below w.heap.size w w':=by
 obtain⟨a,c,rfl,hnc,hcm,hcells⟩:=DRecord.rd h;obtain⟨a',c',rfl,hnc',hcm',hcells'⟩:=DRecord.rd h';clear h h'
 by_cases hl:l.length=m.length
 case neg =>
  have HE:=Lib.hid (sameRs_len hl);have hne:((l.length:Int) != (m.length:Int))=true:=by simp<;>omega
  clear hcells hcells';go_enter Tryz.func23,Tryz.ntmps23;go_wp2;go_ret;exact⟨by rw[HE.out];rfl,Below.refl _ _⟩
 have hnb:(l.length:Int)≤1099511627776:=by omega
 have hne:((l.length:Int) != (m.length:Int))=false:=by simp<;>omega
 have HL:=Lib.hid hl;clear hl;go_enter Tryz.func23,Tryz.ntmps23;go_wp2;go_loopw [5] (fun i wr=>∃ (k:Nat),k≤l.length∧i=.int .i64 k∧(∀ j (hl:j<l.length),j<k→sameRec l[j] (m[j]'(by have:=HL.out;omega))=true)∧Below w.heap.size w wr) (fun i wr=>l.length-(intOf i).toNat)
 case atStart=>exact⟨0,Nat.zero_le _,rfl,fun j hl h=>absurd h (by omega),Below.refl _ _⟩
 case round =>
  obtain⟨k,hk,rfl,hall,hb⟩:=hrel;have HA:=Lib.hid hall;have HB:=Lib.hid hb;clear hall hb
  by_cases hlt:k<l.length
  ·have hlm:k<m.length:=by rw[← HL.out];exact hlt
   obtain⟨b,off,rfl,hbl,hat⟩:=hcells (by omega);obtain⟨b',off',rfl,hbl',hat'⟩:=hcells' (by omega);obtain⟨s0,s1⟩:=hat k hlt;obtain⟨t0,t1⟩:=hat' k hlm;rw[← HB.out.cell (p:=⟨b,_,none⟩) (show b<w.heap.size by omega)] at s0 s1;rw[← HB.out.cell (p:=⟨b',_,none⟩) (show b' < w.heap.size by omega)] at t0 t1;have j0:(0:Int)≤(k:Int):=by omega
   have j1:(k:Int)<(l.length:Int):=by omega
   have j2:(k:Int)<(m.length:Int):=by omega
   have yr:w.heap.size≤wr.heap.size:=HB.out.size;clear hcells hat hcells' hat';have HF:Hid (sameRec l[k] m[k]=false→sameRs l m=false):=fun h=>sameRs_at hlt hlm h
   have HT:Hid (sameRec l[k] m[k]=true→∀ j (hl:j<l.length),j<k+1→sameRec l[j] (m[j]'(by have:=HL.out;omega))=true):=fun h j hl hj=>by
    by_cases e:j=k
    ·subst e;exact h
    ·exact HA.out j hl (by omega)
   have oB:=overC (w0:=wr) (show b<wr.heap.size by omega);have oB2:=overC (w0:=wr) (show b' < wr.heap.size by omega);generalize l[k]=X at *;generalize m[k]=Y at *;go_upto_region 6 with (fail)
   by_cases e0:X.key.toList=Y.key.toList
   case neg =>
    have e0b:(X.key.toList == Y.key.toList)=false:=beq_eq_false_iff_ne.2 e0;have HE:=Lib.hid (HF.out (by unfold sameRec;simp only[eqS,e0b,Bool.false_and,Bool.and_false]));clear e0b;refine wp_region_over wr.heap.size wr (Below.refl _ _) (by kernel_rfl) (by kernel_rfl) ?_
    repeat (go_big_quiet_step (fail))
    refine wpQuiet_nil ?_;rintro _ ⟨Z,rfl⟩;have BE:=Lib.hid (HB.out.trans ((over_below wr.heap.size wr Z).mono (by omega)));clear oB oB2;generalize over wr.heap.size wr Z=w2 at *;go_wp2;go_ret;exact⟨by rw[HE.out];rfl,BE.out⟩
   by_cases e1:X.value.toList=Y.value.toList
   case neg =>
    have e1b:(X.value.toList == Y.value.toList)=false:=beq_eq_false_iff_ne.2 e1;have HE:=Lib.hid (HF.out (by unfold sameRec;simp only[eqS,e1b,Bool.false_and,Bool.and_false]));clear e1b;refine wp_region_over wr.heap.size wr (Below.refl _ _) (by kernel_rfl) (by kernel_rfl) ?_
    repeat (go_big_quiet_step (fail))
    refine wpQuiet_nil ?_;rintro _ ⟨Z,rfl⟩;have BE:=Lib.hid (HB.out.trans ((over_below wr.heap.size wr Z).mono (by omega)));clear oB oB2;generalize over wr.heap.size wr Z=w2 at *;go_wp2;go_ret;exact⟨by rw[HE.out];rfl,BE.out⟩
   have HE:=Lib.hid (HT.out (by unfold sameRec;simp[eqS,e0,e1]));refine wp_region_over wr.heap.size wr (Below.refl _ _) (by kernel_rfl) (by kernel_rfl) ?_
   repeat (go_big_quiet_step (fail))
   refine wpQuiet_nil ?_;rintro _ ⟨Z,rfl⟩;have BE:=Lib.hid (HB.out.trans ((over_below wr.heap.size wr Z).mono (by omega)));clear oB oB2;generalize over wr.heap.size wr Z=w2 at *;clear e0 e1;go_wp2;go_roundw
   case rel=>exact⟨k+1,by omega,by go_num,HE.out,BE.out⟩
   case measure=>simp[intOf];omega
  ·obtain rfl:k=l.length:=by omega
   have HE:=Lib.hid (sameRs_all HL.out (fun j hl=>HA.out j hl hl));clear hcells hcells';go_wp2;go_ret;exact⟨by rw[HE.out];rfl,HB.out⟩
set_option maxHeartbeats 8000000
set_option maxRecDepth 100000
theorem l28State_any (xs:List DRecord) (v:Value) (w:World) (h:Rd w.heap.size w (DRecord.sT xs) v) (hn:xs.length≤1048576) (hok:∀ x ∈ xs,x.ok) :
  Calls Tryz.prog 50 #[v] w fun e w'=>e=.returned (.bool (stateB xs))∧Below w.heap.size w w':=by
 obtain⟨a,c,rfl,hnc,hcm,hcells⟩:=DRecord.rd h;have HC:=Lib.hid hcells;have HOK:=Lib.hid hok;clear h hcells hok;have hnb:(xs.length:Int)≤1048576:=by omega
 go_enter Tryz.func50,Tryz.ntmps50;go_wp2;go_loopw [3] (fun i wr=>∃ (k:Nat),k≤xs.length∧i=.int .i64 k∧(∀ j,j<k→upOk recB ltRec xs j=true)∧Below w.heap.size w wr) (fun i wr=>xs.length-(intOf i).toNat)
 case atStart=>exact⟨0,Nat.zero_le _,rfl,fun j h=>absurd h (by omega),Below.refl _ _⟩
 case round =>
  obtain⟨k,hk,rfl,hno,hb⟩:=hrel;have HN:=Lib.hid hno;have HB:=Lib.hid hb;have zr:w.heap.size≤wr.heap.size:=hb.size;clear hno hb
  by_cases hlt:k<xs.length
  ·obtain⟨b,off,rfl,hbl,hat⟩:=HC.out (by omega)
   obtain⟨s0,s1⟩:=hat k hlt;rw[← HB.out.cell (p:=⟨b,_,none⟩) hbl] at s0 s1;have yb:b<wr.heap.size:=by omega
   have hko:=HOK.out _ (List.getElem_mem hlt);have j0:(0:Int)≤(k:Int):=by omega
   have j1:(k:Int)<(xs.length:Int):=by omega
   have HPV:Hid (∀ h:0<k,wr.cell? ⟨b,off+(k-1)*2,none⟩=some (.string (xs[k-1]'(by omega)).key)):=fun h=>(HB.out.cell (p:=⟨b,_,none⟩) hbl).trans (hat (k-1) (by omega)).1
   have HUZ:Hid (k=0→upOk recB ltRec xs k=recB xs[k]):=fun h=>by subst h;exact upOk_zero hlt
   have HUP:Hid (∀ h:0<k,upOk recB ltRec xs k=(recB xs[k]&&ltRec (xs[k-1]'(by omega)) xs[k])):=fun h=>upOk_pos h hlt
   have HNO:Hid (upOk recB ltRec xs k=false→stateB xs=false):=fun h=>by unfold stateB;rw[rowOk_false hlt h];rfl
   clear hat HC HOK;generalize xs[k]=A at *;have oB:=overC (w0:=wr) yb;obtain⟨hk1,hk2⟩:A.key.size≤maxLen∧A.value.size≤maxLen:=⟨hko.key,hko.value⟩
   have HNM:Hid (∀ W:World,Calls Tryz.prog 58 #[.string A.key] W fun e w'=>e=.returned (.bool (nameB A.key))∧W=w'):=fun W=>l01Name_any A.key W hk1
   have HVA:Hid (∀ W:World,Calls Tryz.prog 59 #[.string A.value] W fun e w'=>e=.returned (.bool (valueB A.value))∧W=w'):=fun W=>l28Value_any A.value W hk2
   clear hko
   by_cases h1:nameB A.key=true
   case neg =>
    replace h1:nameB A.key=false:=Bool.eq_false_iff.2 h1;rw[h1] at HNM;have hx:recB A=false:=by unfold recB;simp only[h1,Bool.and_false,Bool.false_and,Bool.and_true,Bool.true_and]
    have HU0:Hid (upOk recB ltRec xs k=false):=by
     show _=_
     by_cases h:0<k
     ·rw[HUP.out h,hx];rfl
     ·rw[HUZ.out (by omega),hx]
    clear hx;have HE:=Lib.hid (HNO.out (HU0.out));go_upto_region 4 with (fail);refine wp_region_over wr.heap.size wr (Below.refl _ _) (by kernel_rfl) (by kernel_rfl) ?_
    repeat (go_big_quiet_step (first|(go_at_call 58;exact over_same (HNM.out _))|(go_at_call 59;exact over_same (HVA.out _))))
    refine wpQuiet_nil ?_;rintro _ ⟨X,rfl⟩;have BE:=Lib.hid (HB.out.trans ((over_below wr.heap.size wr X).mono zr));clear oB;generalize over wr.heap.size wr X=w2 at *;go_wp2;go_ret;exact⟨by rw[HE.out];rfl,BE.out⟩
   rw[h1] at HNM
   by_cases h2:valueB A.value=true
   case neg =>
    replace h2:valueB A.value=false:=Bool.eq_false_iff.2 h2;rw[h2] at HVA;have hx:recB A=false:=by unfold recB;simp only[h1,h2,Bool.and_false,Bool.false_and,Bool.and_true,Bool.true_and]
    have HU0:Hid (upOk recB ltRec xs k=false):=by
     show _=_
     by_cases h:0<k
     ·rw[HUP.out h,hx];rfl
     ·rw[HUZ.out (by omega),hx]
    clear hx;have HE:=Lib.hid (HNO.out (HU0.out));go_upto_region 4 with (fail);refine wp_region_over wr.heap.size wr (Below.refl _ _) (by kernel_rfl) (by kernel_rfl) ?_
    repeat (go_big_quiet_step (first|(go_at_call 58;exact over_same (HNM.out _))|(go_at_call 59;exact over_same (HVA.out _))))
    refine wpQuiet_nil ?_;rintro _ ⟨X,rfl⟩;have BE:=Lib.hid (HB.out.trans ((over_below wr.heap.size wr X).mono zr));clear oB;generalize over wr.heap.size wr X=w2 at *;go_wp2;go_ret;exact⟨by rw[HE.out];rfl,BE.out⟩
   rw[h2] at HVA;have HM:Hid (recB A=true):=by show _=_;unfold recB;rw[h1,h2];rfl
   by_cases c3:0<k
   ·skip
    have i3:IntKind.i64.wrap ((k:Int)-1)=(k:Int)-1:=IntWalk.i64_in _ (by omega);have i4:(0:Int)≤(k:Int)-1:=by omega
    have i6:(k:Int)-1<(xs.length:Int):=by omega
    have i7:(1:Int)≤(k:Int):=by omega
    have i8:decide (0<k)=true:=by simpa using c3
    have i5:((k:Int)-1).toNat=k-1:=by omega
    have fp1:=HPV.out c3;have HUP2:=Lib.hid (HUP.out c3);generalize xs[k-1]'(by omega)=D at *
    by_cases c4:ltS D.key A.key=true
    case neg =>
     replace c4:ltS D.key A.key=false:=Bool.eq_false_iff.2 c4;have e4:Op.bytesLess D.key.toList A.key.toList=false:=c4;have HU0:Hid (upOk recB ltRec xs k=false):=by show _=_;rw[HUP2.out];unfold ltRec;rw[c4,Bool.and_false]
     clear c4;have HE:=Lib.hid (HNO.out (HU0.out));go_upto_region 4 with (fail);refine wp_region_over wr.heap.size wr (Below.refl _ _) (by kernel_rfl) (by kernel_rfl) ?_
     repeat (go_big_quiet_step (first|(go_at_call 58;exact over_same (HNM.out _))|(go_at_call 59;exact over_same (HVA.out _))))
     refine wpQuiet_nil ?_;rintro _ ⟨X,rfl⟩;have BE:=Lib.hid (HB.out.trans ((over_below wr.heap.size wr X).mono zr));clear oB;generalize over wr.heap.size wr X=w2 at *;go_wp2;go_ret;exact⟨by rw[HE.out];rfl,BE.out⟩
    have e4:Op.bytesLess D.key.toList A.key.toList=true:=c4;have HU:Hid (upOk recB ltRec xs k=true):=by show _=_;rw[HUP2.out,HM.out];unfold ltRec;rw[c4];rfl
    clear c4;go_upto_region 4 with (fail);refine wp_region_over wr.heap.size wr (Below.refl _ _) (by kernel_rfl) (by kernel_rfl) ?_
    repeat (go_big_quiet_step (first|(go_at_call 58;exact over_same (HNM.out _))|(go_at_call 59;exact over_same (HVA.out _))))
    refine wpQuiet_nil ?_;rintro _ ⟨X,rfl⟩;have BE:=Lib.hid (HB.out.trans ((over_below wr.heap.size wr X).mono zr));clear oB;generalize over wr.heap.size wr X=w2 at *;clear i3 i5 e4 fp1;go_wp2;go_roundw
    case rel=>exact⟨k+1,by omega,by go_num,upTo_succ HN.out HU.out,BE.out⟩
    case measure=>simp[intOf];omega
   ·skip
    have i8:decide (0<k)=false:=by simpa using c3
    have HU:Hid (upOk recB ltRec xs k=true):=by show _=_;rw[HUZ.out (by omega)];exact HM.out
    go_upto_region 4 with (fail);refine wp_region_over wr.heap.size wr (Below.refl _ _) (by kernel_rfl) (by kernel_rfl) ?_
    repeat (go_big_quiet_step (first|(go_at_call 58;exact over_same (HNM.out _))|(go_at_call 59;exact over_same (HVA.out _))))
    refine wpQuiet_nil ?_;rintro _ ⟨X,rfl⟩;have BE:=Lib.hid (HB.out.trans ((over_below wr.heap.size wr X).mono zr));clear oB;generalize over wr.heap.size wr X=w2 at *;go_wp2;go_roundw
    case rel=>exact⟨k+1,by omega,by go_num,upTo_succ HN.out HU.out,BE.out⟩
    case measure=>simp[intOf];omega
  ·obtain rfl:k=xs.length:=by omega
   have HE:Hid (stateB xs=decide ((xs.length:Int)≤32)):=by show _=_;unfold stateB;rw[rowOk_true (fun j hj=>HN.out j hj),Bool.true_and];simp<;>omega
   clear HC;go_wp2;go_ret;exact⟨by rw[HE.out];rfl,HB.out⟩
set_option maxHeartbeats 8000000
set_option maxRecDepth 100000
theorem l28Story_any (xs:List DChange) (v:Value) (w:World) (h:Rd w.heap.size w (DChange.sT xs) v) (hn:xs.length≤1048576) (hok:∀ x ∈ xs,x.ok) :
  Calls Tryz.prog 51 #[v] w fun e w'=>e=.returned (.bool (storyB xs))∧Below w.heap.size w w':=by
 obtain⟨a,c,rfl,hnc,hcm,hcells⟩:=DChange.rd h;have HC:=Lib.hid hcells;have HOK:=Lib.hid hok;clear h hcells hok;have hnb:(xs.length:Int)≤1048576:=by omega
 go_enter Tryz.func51,Tryz.ntmps51;go_wp2;go_loopw [3] (fun i wr=>∃ (k:Nat),k≤xs.length∧i=.int .i64 k∧(∀ j,j<k→upOk changeB dayLe xs j=true)∧Below w.heap.size w wr) (fun i wr=>xs.length-(intOf i).toNat)
 case atStart=>exact⟨0,Nat.zero_le _,rfl,fun j h=>absurd h (by omega),Below.refl _ _⟩
 case round =>
  obtain⟨k,hk,rfl,hno,hb⟩:=hrel;have HN:=Lib.hid hno;have HB:=Lib.hid hb;have zr:w.heap.size≤wr.heap.size:=hb.size;clear hno hb
  by_cases hlt:k<xs.length
  ·obtain⟨b,off,rfl,hbl,hat⟩:=HC.out (by omega)
   obtain⟨s0,s1,s2,s3⟩:=hat k hlt;rw[← HB.out.cell (p:=⟨b,_,none⟩) hbl] at s0 s1 s2 s3;have yb:b<wr.heap.size:=by omega
   have hko:=HOK.out _ (List.getElem_mem hlt);have j0:(0:Int)≤(k:Int):=by omega
   have j1:(k:Int)<(xs.length:Int):=by omega
   have HPV:Hid (∀ h:0<k,wr.cell? ⟨b,off+(k-1)*4,none⟩=some (.int .i64 (xs[k-1]'(by omega)).day)):=fun h=>(HB.out.cell (p:=⟨b,_,none⟩) hbl).trans (hat (k-1) (by omega)).1
   have HUZ:Hid (k=0→upOk changeB dayLe xs k=changeB xs[k]):=fun h=>by subst h;exact upOk_zero hlt
   have HUP:Hid (∀ h:0<k,upOk changeB dayLe xs k=(changeB xs[k]&&dayLe (xs[k-1]'(by omega)) xs[k])):=fun h=>upOk_pos h hlt
   have HNO:Hid (upOk changeB dayLe xs k=false→storyB xs=false):=fun h=>by unfold storyB;rw[rowOk_false hlt h];rfl
   clear hat HC HOK;generalize xs[k]=A at *;have oB:=overC (w0:=wr) yb;skip;have HCH:Hid (∀ W:World,Below wr.heap.size wr W→Calls Tryz.prog 77 #[.pointer (some ⟨b,off+k*4,none⟩)] W fun e w'=>e=.returned (.bool (changeB A))∧Below W.heap.size W w'):=fun W hW=>l28Change_any A b (off+k*4) W ((hW.cell (p:=⟨b,_,none⟩) yb).trans s0) ((hW.cell (p:=⟨b,_,none⟩) yb).trans s1) ((hW.cell (p:=⟨b,_,none⟩) yb).trans s2) ((hW.cell (p:=⟨b,_,none⟩) yb).trans s3) (by have:=hW.size;omega) hko.key hko.old_ hko.new_
   clear hko
   by_cases h1:changeB A=true
   case neg =>
    replace h1:changeB A=false:=Bool.eq_false_iff.2 h1;rw[h1] at HCH;have hx:changeB A=false:=by exact h1
    have HU0:Hid (upOk changeB dayLe xs k=false):=by
     show _=_
     by_cases h:0<k
     ·rw[HUP.out h,hx];rfl
     ·rw[HUZ.out (by omega),hx]
    clear hx;have HE:=Lib.hid (HNO.out (HU0.out));go_upto_region 4 with (fail);refine wp_region_over wr.heap.size wr (Below.refl _ _) (by kernel_rfl) (by kernel_rfl) ?_
    repeat (go_big_quiet_step (first|(go_at_call 77;exact over_left (Nat.le_refl _) (HCH.out _ (over_below _ _ _)))))
    refine wpQuiet_nil ?_;rintro _ ⟨X,rfl⟩;have BE:=Lib.hid (HB.out.trans ((over_below wr.heap.size wr X).mono zr));clear oB;generalize over wr.heap.size wr X=w2 at *;go_wp2;go_ret;exact⟨by rw[HE.out];rfl,BE.out⟩
   rw[h1] at HCH;have HM:Hid (changeB A=true):=by show _=_;exact h1
   by_cases c3:0<k
   ·skip
    have i3:IntKind.i64.wrap ((k:Int)-1)=(k:Int)-1:=IntWalk.i64_in _ (by omega);have i4:(0:Int)≤(k:Int)-1:=by omega
    have i6:(k:Int)-1<(xs.length:Int):=by omega
    have i7:(1:Int)≤(k:Int):=by omega
    have i8:decide (0<k)=true:=by simpa using c3
    have i5:((k:Int)-1).toNat=k-1:=by omega
    have fp1:=HPV.out c3;have HUP2:=Lib.hid (HUP.out c3);generalize xs[k-1]'(by omega)=D at *
    by_cases c4:A.day<D.day
    case pos =>
     have e4:decide (A.day<D.day)=true:=by simpa using c4
     have HU0:Hid (upOk changeB dayLe xs k=false):=by show _=_;rw[HUP2.out];unfold dayLe;rw[decide_eq_false (by omega),Bool.and_false]
     have HE:=Lib.hid (HNO.out (HU0.out));go_upto_region 4 with (fail);refine wp_region_over wr.heap.size wr (Below.refl _ _) (by kernel_rfl) (by kernel_rfl) ?_
     repeat (go_big_quiet_step (first|(go_at_call 77;exact over_left (Nat.le_refl _) (HCH.out _ (over_below _ _ _)))))
     refine wpQuiet_nil ?_;rintro _ ⟨X,rfl⟩;have BE:=Lib.hid (HB.out.trans ((over_below wr.heap.size wr X).mono zr));clear oB;generalize over wr.heap.size wr X=w2 at *;go_wp2;go_ret;exact⟨by rw[HE.out];rfl,BE.out⟩
    have e4:decide (A.day<D.day)=false:=by simp<;>omega
    have HU:Hid (upOk changeB dayLe xs k=true):=by show _=_;rw[HUP2.out,HM.out];unfold dayLe;rw[decide_eq_true (by omega)];rfl
    go_upto_region 4 with (fail);refine wp_region_over wr.heap.size wr (Below.refl _ _) (by kernel_rfl) (by kernel_rfl) ?_
    repeat (go_big_quiet_step (first|(go_at_call 77;exact over_left (Nat.le_refl _) (HCH.out _ (over_below _ _ _)))))
    refine wpQuiet_nil ?_;rintro _ ⟨X,rfl⟩;have BE:=Lib.hid (HB.out.trans ((over_below wr.heap.size wr X).mono zr));clear oB;generalize over wr.heap.size wr X=w2 at *;clear i3 i5 e4 fp1;go_wp2;go_roundw
    case rel=>exact⟨k+1,by omega,by go_num,upTo_succ HN.out HU.out,BE.out⟩
    case measure=>simp[intOf];omega
   ·skip
    have i8:decide (0<k)=false:=by simpa using c3
    have HU:Hid (upOk changeB dayLe xs k=true):=by show _=_;rw[HUZ.out (by omega)];exact HM.out
    go_upto_region 4 with (fail);refine wp_region_over wr.heap.size wr (Below.refl _ _) (by kernel_rfl) (by kernel_rfl) ?_
    repeat (go_big_quiet_step (first|(go_at_call 77;exact over_left (Nat.le_refl _) (HCH.out _ (over_below _ _ _)))))
    refine wpQuiet_nil ?_;rintro _ ⟨X,rfl⟩;have BE:=Lib.hid (HB.out.trans ((over_below wr.heap.size wr X).mono zr));clear oB;generalize over wr.heap.size wr X=w2 at *;go_wp2;go_roundw
    case rel=>exact⟨k+1,by omega,by go_num,upTo_succ HN.out HU.out,BE.out⟩
    case measure=>simp[intOf];omega
  ·obtain rfl:k=xs.length:=by omega
   have HE:Hid (storyB xs=decide ((xs.length:Int)≤48)):=by show _=_;unfold storyB;rw[rowOk_true (fun j hj=>HN.out j hj),Bool.true_and];simp<;>omega
   clear HC;go_wp2;go_ret;exact⟨by rw[HE.out];rfl,HB.out⟩
end Go.Proofs.YtmkkiglcpedkiaaGreatDoor
