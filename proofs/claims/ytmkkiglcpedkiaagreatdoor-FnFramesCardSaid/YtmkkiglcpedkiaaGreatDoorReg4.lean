/- Contract: the records that changes make, for the program. Conditions: bounded lengths. -/
import Derived.Test.YtmkkiglcpedkiaaGreatDoorReg3
set_option linter.unusedVariables false
set_option linter.unusedSimpArgs false
namespace Go.Proofs.YtmkkiglcpedkiaaGreatDoor
set_option maxHeartbeats 4000000
set_option maxRecDepth 100000
open Go.RowKit
section
variable {cs:List DChange} {k:Nat} {l:List DRecord}
theorem repN_up (hk:k<cs.length) (h:repN cs k=some l) (hu:upOk changeB dayLe cs k=false):repN cs (k+1)=none:=by
 unfold repN;rw[h,List.getElem?_eq_getElem hk];simp only;rw[if_neg (by rw[hu];simp)]
theorem repN_val (hk:k<cs.length) (h:repN cs k=some l) (hu:upOk changeB dayLe cs k=true) (hv:eqS (valOf l cs[k].key) cs[k].old_=false):repN cs (k+1)=none:=by
 unfold repN;rw[h,List.getElem?_eq_getElem hk];simp only;rw[if_pos hu];unfold patS;rw[if_neg (by rw[hv];simp)]
theorem repN_full (hk:k<cs.length) (h:repN cs k=some l) (hu:upOk changeB dayLe cs k=true) (hv:eqS (valOf l cs[k].key) cs[k].old_=true) (hl:32<(putL l cs[k].key cs[k].new_).length):repN cs (k+1)=none:=by
 unfold repN;rw[h,List.getElem?_eq_getElem hk];simp only;rw[if_pos hu];unfold patS;rw[if_pos hv,if_neg (by omega)]
theorem repN_go (hk:k<cs.length) (h:repN cs k=some l) (hu:upOk changeB dayLe cs k=true) (hv:eqS (valOf l cs[k].key) cs[k].old_=true) (hl:(putL l cs[k].key cs[k].new_).length≤32):repN cs (k+1)=some (putL l cs[k].key cs[k].new_):=by
 unfold repN;rw[h,List.getElem?_eq_getElem hk];simp only;rw[if_pos hu];unfold patS;rw[if_pos hv,if_pos hl]
theorem repN_none (h:repN cs k=none):∀ n,k≤n→repN cs n=none:=by
 intro n
 induction n with
 | zero =>
  intro hn;obtain rfl:k=0:=by omega
  exact h
 | succ n ih =>
  intro hn
  by_cases e:k=n+1
  ·rw[← e];exact h
  ·have h2:=ih (by omega)
   unfold repN;rw[h2]
end
def repR (cs:List DChange):List DRecord × Bool:=match repN cs cs.length with|some l=>(l,true)|none=>([],false)
theorem repR_none {cs:List DChange} {k:Nat} (h:repN cs (k+1)=none) (hk:k<cs.length):repR cs=([],false):=by
 unfold repR;rw[repN_none h _ (by omega)]
theorem repR_some {cs:List DChange} {l:List DRecord} (h:repN cs cs.length=some l):repR cs=(l,true):=by unfold repR;rw[h]
theorem valOf_there {l:List DRecord} {k:ByteArray} (h:eqS (valOf l k) emptyS=false):∃ (i:Nat) (hi:i<l.length),eqS l[i].key k=true:=by
 unfold valOf at h
 cases hf:l.find? (fun x=>eqS x.key k) with
 | none=>rw[hf] at h;exact absurd (eqS_refl emptyS) (by rw[h];simp)
 | some r =>
  obtain⟨hp,i,hi,he,_⟩:=List.find?_eq_some_iff_getElem.1 hf;exact⟨i,hi,by rw[he];exact hp⟩
theorem del_there {l:List DRecord} {c:DChange} (hc:changeB c=true) (hv:eqS (valOf l c.key) c.old_=true) (hn:eqS c.new_ emptyS=true):∃ (i:Nat) (hi:i<l.length),eqS l[i].key c.key=true:=by
 apply valOf_there
 rw[eqS_iff.1 hv];have:=changeB_ne hc;rw[eqS_false] at this ⊢;rw[eqS_iff.1 hn] at this;exact this
theorem own_nilR (w:World):Own w (DRecord.sT []) (.slice none 0 0) []:=⟨Rep_sl.2 ⟨none,0,0,rfl,rfl,Nat.le_refl _,by unfold maxLen;omega,Or.inl ⟨rfl,rfl⟩⟩,List.nodup_nil,fun b h=>by simp at h⟩
def RepQ (r:List DRecord × Bool) (w:World) (e:Ending) (w':World):Prop:=∃ a c fp,e=.returned (.tuple #[.slice a r.1.length c,.bool r.2])∧Below w.heap.size w w'∧Own w' (DRecord.sT r.1) (.slice a r.1.length c) fp∧In w.heap.size w'.heap.size fp
theorem RepQ.none_ {r:List DRecord × Bool} {w w':World} {e:Ending} (hr:r=([],false)) (he:e=.returned (.tuple #[.slice none 0 0,.bool false])) (hb:Below w.heap.size w w'):RepQ r w e w':=by
 subst hr;exact⟨none,0,[],he,hb,own_nilR _,In.nil⟩
theorem replay_any (cs:List DChange) (v:Value) (w:World) (h:Rd w.heap.size w (DChange.sT cs) v) (hn:cs.length≤1048576) (hok:∀ c ∈ cs,c.ok) :
  Calls Tryz.prog 32 #[v] w (RepQ (repR cs) w):=by
 obtain⟨a,c,rfl,hnc,hcm,hcells⟩:=DChange.rd h;have HC:=Lib.hid hcells;have HOK:=Lib.hid hok;clear h hcells hok;have hnb:(cs.length:Int)≤1048576:=by omega
 go_enter Tryz.func32,Tryz.ntmps32;go_wp2;go_loopw [4,9] (fun lv i wr=>∃ (k:Nat) (l:List DRecord) (a2:Option Addr) (c2:Nat) (fp:List Nat),k≤cs.length∧i=.int .i64 k∧repN cs k=some l∧lv=.slice a2 l.length c2∧Below w.heap.size w wr∧Own wr (DRecord.sT l) (.slice a2 l.length c2) fp∧In w.heap.size wr.heap.size fp) (fun _ i wr=>cs.length-(intOf i).toNat)
 case atStart=>exact⟨0,[],none,0,[],Nat.zero_le _,rfl,rfl,rfl,Below.refl _ _,own_nilR _,In.nil⟩
 case round =>
  obtain⟨k,l,a2,c2,fp,hk,rfl,hrep,rfl,hb,ho,hi⟩:=hrel;have HREP:=Lib.hid hrep;have HB:=Lib.hid hb;have HO:=Lib.hid ho;have HI:=Lib.hid hi;have zr:w.heap.size≤wr.heap.size:=hb.size;obtain⟨⟨i1,i2,i3⟩,i4,i5⟩:=repN_spec _ _ hrep;have HRI:=Lib.hid i2;clear hrep hb ho hi i1 i2 i4 i5
  by_cases hlt:k<cs.length
  ·obtain⟨b,off,rfl,hbl,hat⟩:=HC.out (by omega)
   obtain⟨s0,s1,s2,s3⟩:=hat k hlt;rw[← HB.out.cell (p:=⟨b,_,none⟩) hbl] at s0 s1 s2 s3;have hko:=HOK.out _ (List.getElem_mem hlt);have hb0:Below wr.heap.size wr (wr.alloc (.cells #[.int .i64 cs[k].day,.string cs[k].key,.string cs[k].old_,.string cs[k].new_] 44)):=below_alloc _ _;have k0:=bkN wr #[.int .i64 cs[k].day,.string cs[k].key,.string cs[k].old_,.string cs[k].new_] 44;have z0:wr.heap.size+1≤(wr.alloc (.cells #[.int .i64 cs[k].day,.string cs[k].key,.string cs[k].old_,.string cs[k].new_] 44)).heap.size:=by simp
   clear hat;have j1:(k:Int)<(cs.length:Int):=by omega
   go_upto_region 5 with (fail);generalize wr.alloc (.cells #[.int .i64 cs[k].day,.string cs[k].key,.string cs[k].old_,.string cs[k].new_] 44)=W1 at *;have B1:=Lib.hid hb0;have BW:=Lib.hid (HB.out.trans (hb0.mono (by omega)));have K1:=Lib.hid k0;have O1:=Lib.hid (HO.out.below HI.out (Nat.le_refl _) hb0);have yb:b<wr.heap.size:=by omega
   have HPV:Hid (∀ h:0<k,W1.cell? ⟨b,off+(k-1)*4,none⟩=some (.int .i64 (cs[k-1]'(by omega)).day)):=fun h=>by
    obtain⟨b',off',e,_,hat'⟩:=HC.out (by omega);injection e with e;injection e with e1 e2 _;subst e1 e2;exact (BW.out.cell (p:=⟨b,_,none⟩) hbl).trans (hat' (k-1) (by omega)).1
   clear s0 s1 s2 s3 HC hb0 k0;have HUZ:Hid (k=0→upOk changeB dayLe cs k=changeB cs[k]):=fun h=>by subst h;exact upOk_zero hlt
   have HUP:Hid (∀ h:0<k,upOk changeB dayLe cs k=(changeB cs[k]&&dayLe (cs[k-1]'(by omega)) cs[k])):=fun h=>upOk_pos h hlt
   obtain⟨hk1,hk2,hk3⟩:cs[k].key.size≤maxLen∧cs[k].old_.size≤maxLen∧cs[k].new_.size≤maxLen:=⟨hko.key,hko.old_,hko.new_⟩
   have HNO:Hid (upOk changeB dayLe cs k=false→repR cs=([],false)):=fun h=>repR_none (repN_up hlt HREP.out h) hlt
   have HNV:Hid (upOk changeB dayLe cs k=true→eqS (valOf l cs[k].key) cs[k].old_=false→repR cs=([],false)):=fun h h2=>repR_none (repN_val hlt HREP.out h h2) hlt
   have HNF:Hid (upOk changeB dayLe cs k=true→eqS (valOf l cs[k].key) cs[k].old_=true→32<(putL l cs[k].key cs[k].new_).length→repR cs=([],false)):=fun h h2 h3=>repR_none (repN_full hlt HREP.out h h2 h3) hlt
   have HGO:Hid (upOk changeB dayLe cs k=true→eqS (valOf l cs[k].key) cs[k].old_=true→(putL l cs[k].key cs[k].new_).length≤32→repN cs (k+1)=some (putL l cs[k].key cs[k].new_)):=fun h h2 h3=>repN_go hlt HREP.out h h2 h3
   generalize cs[k]=A at *;have f0:=bkC (v:=.int .i64 A.day) K1.out 0 rfl;have f1:=bkC (v:=.string A.key) K1.out 1 rfl;have f2:=bkC (v:=.string A.old_) K1.out 2 rfl;have f3:=bkC (v:=.string A.new_) K1.out 3 rfl;have oX:=overC (w0:=W1) (show wr.heap.size<W1.heap.size by omega);have HCV:Hid (∀ W:World,Calls Tryz.prog 45 #[.agg #[.int .i64 A.day,.string A.key,.string A.old_,.string A.new_]] W fun e w'=>e=.returned (.bool (changeB A))∧Below W.heap.size W w'):=fun W=>changeValid_any A W hk1 hk2 hk3
   have HVO:Hid (∀ W:World,Below W1.heap.size W1 W→Calls Tryz.prog 20 #[.slice a2 l.length c2,.string A.key] W fun e w'=>e=.returned (.string (valOf l A.key))∧Below W.heap.size W w'):=fun W hW=>valueOf_any l A.key _ W1.heap.size W (((O1.out.rd HI.out).mono (by omega)).below hW) hW.size (by omega)
   clear hko hk1 hk2 hk3
   by_cases c1:changeB A=true
   case neg =>
    replace c1:changeB A=false:=Bool.eq_false_iff.2 c1;have HU0:upOk changeB dayLe cs k=false:=by
     by_cases h:0<k
     ·rw[HUP.out h,c1];rfl
     ·rw[HUZ.out (by omega),c1]
    rw[c1] at HCV;have HE:=Lib.hid (HNO.out HU0);refine wp_region_over W1.heap.size W1 (Below.refl _ _) (by kernel_rfl) (by kernel_rfl) ?_
    repeat (go_big_quiet_step (first|(go_at_call 45;exact over_left (Nat.le_refl _) (HCV.out _))|(go_at_call 20;exact over_left (Nat.le_refl _) (HVO.out _ (over_below _ _ _)))))
    refine wpQuiet_nil ?_;rintro _ ⟨X,rfl⟩;have hX:=over_below W1.heap.size W1 X;have BE:=Lib.hid (BW.out.trans (hX.mono (by omega)));have K2:=Lib.hid (bkB K1.out hX (by omega));have O2:=Lib.hid (O1.out.below HI.out (by omega) hX);have z2:W1.heap.size≤(over W1.heap.size W1 X).heap.size:=hX.size;clear oX f0 f1 f2 f3 hX;generalize over W1.heap.size W1 X=w2 at *;go_wp2;go_ret2;exact RepQ.none_ HE.out rfl BE.out
   have HM:Hid (changeB A=true):=c1;rw[c1] at HCV
   by_cases c3:0<k
   ·skip
    have i3:IntKind.i64.wrap ((k:Int)-1)=(k:Int)-1:=IntWalk.i64_in _ (by omega);have i4:(0:Int)≤(k:Int)-1:=by omega
    have i6:(k:Int)-1<(cs.length:Int):=by omega
    have i7:(1:Int)≤(k:Int):=by omega
    have i8:decide (0<k)=true:=by simpa using c3
    have i5:((k:Int)-1).toNat=k-1:=by omega
    have fp1:=HPV.out c3;have oB:=overC (w0:=W1) (show b<W1.heap.size by omega);have HUP2:=Lib.hid (HUP.out c3);have HLE:Hid (dayLe (cs[k-1]'(by omega)) A=decide ((cs[k-1]'(by omega)).day≤A.day)):=rfl;generalize cs[k-1]'(by omega)=D at *
    by_cases c4:A.day<D.day
    case pos =>
     have e4:decide (A.day<D.day)=true:=by simpa using c4
     have HU0:upOk changeB dayLe cs k=false:=by rw[HUP2.out,HLE.out,decide_eq_false (by omega)];simp
     have HE:=Lib.hid (HNO.out HU0);refine wp_region_over W1.heap.size W1 (Below.refl _ _) (by kernel_rfl) (by kernel_rfl) ?_
     repeat (go_big_quiet_step (first|(go_at_call 45;exact over_left (Nat.le_refl _) (HCV.out _))|(go_at_call 20;exact over_left (Nat.le_refl _) (HVO.out _ (over_below _ _ _)))))
     refine wpQuiet_nil ?_;rintro _ ⟨X,rfl⟩;have hX:=over_below W1.heap.size W1 X;have BE:=Lib.hid (BW.out.trans (hX.mono (by omega)));have K2:=Lib.hid (bkB K1.out hX (by omega));have O2:=Lib.hid (O1.out.below HI.out (by omega) hX);have z2:W1.heap.size≤(over W1.heap.size W1 X).heap.size:=hX.size;clear oX f0 f1 f2 f3 hX;generalize over W1.heap.size W1 X=w2 at *;go_wp2;go_ret2;exact RepQ.none_ HE.out rfl BE.out
    have HU:Hid (upOk changeB dayLe cs k=true):=by show _=_;rw[HUP2.out,HLE.out,HM.out,decide_eq_true (by omega)];rfl
    have e4:decide (A.day<D.day)=false:=by simp<;>omega
    clear HUP2 HLE
    by_cases c5:eqS (valOf l A.key) A.old_=true
    case neg =>
     replace c5:eqS (valOf l A.key) A.old_=false:=Bool.eq_false_iff.2 c5;have d1:((valOf l A.key).toList == A.old_.toList)=false:=c5;have d2:((valOf l A.key).toList != A.old_.toList)=true:=by rw[bne,d1];rfl
     have HE:=Lib.hid (HNV.out HU.out c5);clear c5;generalize valOf l A.key=V at *;refine wp_region_over W1.heap.size W1 (Below.refl _ _) (by kernel_rfl) (by kernel_rfl) ?_
     repeat (go_big_quiet_step (first|(go_at_call 45;exact over_left (Nat.le_refl _) (HCV.out _))|(go_at_call 20;exact over_left (Nat.le_refl _) (HVO.out _ (over_below _ _ _)))))
     refine wpQuiet_nil ?_;rintro _ ⟨X,rfl⟩;have hX:=over_below W1.heap.size W1 X;have BE:=Lib.hid (BW.out.trans (hX.mono (by omega)));have K2:=Lib.hid (bkB K1.out hX (by omega));have O2:=Lib.hid (O1.out.below HI.out (by omega) hX);have z2:W1.heap.size≤(over W1.heap.size W1 X).heap.size:=hX.size;clear oX f0 f1 f2 f3 hX;generalize over W1.heap.size W1 X=w2 at *;go_wp2;go_ret2;exact RepQ.none_ HE.out rfl BE.out
    have HV5:=Lib.hid c5;have HDEL:Hid (eqS A.new_ emptyS=true→∃ (i:Nat) (hi:i<l.length),eqS l[i].key A.key=true):=fun h=>del_there HM.out HV5.out h
    have d1:((valOf l A.key).toList == A.old_.toList)=true:=c5;have d2:((valOf l A.key).toList != A.old_.toList)=false:=by rw[bne,d1];rfl
    clear c5;have HGO2:Hid ((putL l A.key A.new_).length≤32→repN cs (k+1)=some (putL l A.key A.new_)):=fun h=>HGO.out HU.out HV5.out h
    have HNF2:Hid (32<(putL l A.key A.new_).length→repR cs=([],false)):=fun h=>HNF.out HU.out HV5.out h
    clear HV5 HGO HNF HNV HNO;generalize valOf l A.key=V at *;refine wp_region_over W1.heap.size W1 (Below.refl _ _) (by kernel_rfl) (by kernel_rfl) ?_
    repeat (go_big_quiet_step (first|(go_at_call 45;exact over_left (Nat.le_refl _) (HCV.out _))|(go_at_call 20;exact over_left (Nat.le_refl _) (HVO.out _ (over_below _ _ _)))))
    refine wpQuiet_nil ?_;rintro _ ⟨X,rfl⟩;have hX:=over_below W1.heap.size W1 X;have BE:=Lib.hid (BW.out.trans (hX.mono (by omega)));have K2:=Lib.hid (bkB K1.out hX (by omega));have O2:=Lib.hid (O1.out.below HI.out (by omega) hX);have z2:W1.heap.size≤(over W1.heap.size W1 X).heap.size:=hX.size;clear oX f0 f1 f2 f3 hX;generalize over W1.heap.size W1 X=w2 at *;clear d1 d2 i3 i5 e4 oB fp1 c1 HCV HVO BW K1 O1 B1 HU HM HPV HUZ HUP;have f0:=bkC (v:=.int .i64 A.day) K2.out 0 rfl;have f1:=bkC (v:=.string A.key) K2.out 1 rfl;have f2:=bkC (v:=.string A.old_) K2.out 2 rfl;have f3:=bkC (v:=.string A.new_) K2.out 3 rfl;go_wp2_with fail;refine (made_any l A _ w2 ((O2.out.rd HI.out).mono (by omega)) (by omega) HRI.out HDEL.out).mono ?_;rintro e w3 ⟨a3,c3,fp3,rfl,hb3,ho3,hi3⟩;have HO3:=Lib.hid ho3;have HI3:=Lib.hid (hi3.mono (show w.heap.size≤w2.heap.size by omega) (Nat.le_refl _));have HB3:=Lib.hid (BE.out.trans (hb3.mono (by omega)));clear ho3 hi3 hb3 f0 f1 f2 f3
    by_cases hfull:32<(putL l A.key A.new_).length
    case pos =>
     have HE:=Lib.hid (HNF2.out hfull);have d3:(32:Int)<((putL l A.key A.new_).length:Int):=by omega
     go_wp2;go_ret2;exact RepQ.none_ HE.out rfl HB3.out
    have HE:=Lib.hid (HGO2.out (by omega));have d3:((putL l A.key A.new_).length:Int)≤32:=by omega
    go_wp2;go_roundw
    case rel=>exact⟨k+1,putL l A.key A.new_,a3,c3,fp3,by omega,by go_num,HE.out,rfl,HB3.out,HO3.out,HI3.out⟩
    case measure=>simp[intOf];omega
   ·skip
    have i8:decide (0<k)=false:=by simpa using c3
    obtain rfl:k=0:=by omega
    have HU:Hid (upOk changeB dayLe cs 0=true):=by show _=_;rw[HUZ.out rfl];exact HM.out
    by_cases c5:eqS (valOf l A.key) A.old_=true
    case neg =>
     replace c5:eqS (valOf l A.key) A.old_=false:=Bool.eq_false_iff.2 c5;have d1:((valOf l A.key).toList == A.old_.toList)=false:=c5;have d2:((valOf l A.key).toList != A.old_.toList)=true:=by rw[bne,d1];rfl
     have HE:=Lib.hid (HNV.out HU.out c5);clear c5;generalize valOf l A.key=V at *;refine wp_region_over W1.heap.size W1 (Below.refl _ _) (by kernel_rfl) (by kernel_rfl) ?_
     repeat (go_big_quiet_step (first|(go_at_call 45;exact over_left (Nat.le_refl _) (HCV.out _))|(go_at_call 20;exact over_left (Nat.le_refl _) (HVO.out _ (over_below _ _ _)))))
     refine wpQuiet_nil ?_;rintro _ ⟨X,rfl⟩;have hX:=over_below W1.heap.size W1 X;have BE:=Lib.hid (BW.out.trans (hX.mono (by omega)));have K2:=Lib.hid (bkB K1.out hX (by omega));have O2:=Lib.hid (O1.out.below HI.out (by omega) hX);have z2:W1.heap.size≤(over W1.heap.size W1 X).heap.size:=hX.size;clear oX f0 f1 f2 f3 hX;generalize over W1.heap.size W1 X=w2 at *;go_wp2;go_ret2;exact RepQ.none_ HE.out rfl BE.out
    have HV5:=Lib.hid c5;have HDEL:Hid (eqS A.new_ emptyS=true→∃ (i:Nat) (hi:i<l.length),eqS l[i].key A.key=true):=fun h=>del_there HM.out HV5.out h
    have d1:((valOf l A.key).toList == A.old_.toList)=true:=c5;have d2:((valOf l A.key).toList != A.old_.toList)=false:=by rw[bne,d1];rfl
    clear c5;have HGO2:Hid ((putL l A.key A.new_).length≤32→repN cs (0+1)=some (putL l A.key A.new_)):=fun h=>HGO.out HU.out HV5.out h
    have HNF2:Hid (32<(putL l A.key A.new_).length→repR cs=([],false)):=fun h=>HNF.out HU.out HV5.out h
    clear HV5 HGO HNF HNV HNO;generalize valOf l A.key=V at *;refine wp_region_over W1.heap.size W1 (Below.refl _ _) (by kernel_rfl) (by kernel_rfl) ?_
    repeat (go_big_quiet_step (first|(go_at_call 45;exact over_left (Nat.le_refl _) (HCV.out _))|(go_at_call 20;exact over_left (Nat.le_refl _) (HVO.out _ (over_below _ _ _)))))
    refine wpQuiet_nil ?_;rintro _ ⟨X,rfl⟩;have hX:=over_below W1.heap.size W1 X;have BE:=Lib.hid (BW.out.trans (hX.mono (by omega)));have K2:=Lib.hid (bkB K1.out hX (by omega));have O2:=Lib.hid (O1.out.below HI.out (by omega) hX);have z2:W1.heap.size≤(over W1.heap.size W1 X).heap.size:=hX.size;clear oX f0 f1 f2 f3 hX;generalize over W1.heap.size W1 X=w2 at *;clear d1 d2 c1 HCV HVO BW K1 O1 B1 HU HM HPV HUZ HUP;have f0:=bkC (v:=.int .i64 A.day) K2.out 0 rfl;have f1:=bkC (v:=.string A.key) K2.out 1 rfl;have f2:=bkC (v:=.string A.old_) K2.out 2 rfl;have f3:=bkC (v:=.string A.new_) K2.out 3 rfl;go_wp2_with fail;refine (made_any l A _ w2 ((O2.out.rd HI.out).mono (by omega)) (by omega) HRI.out HDEL.out).mono ?_;rintro e w3 ⟨a3,c3,fp3,rfl,hb3,ho3,hi3⟩;have HO3:=Lib.hid ho3;have HI3:=Lib.hid (hi3.mono (show w.heap.size≤w2.heap.size by omega) (Nat.le_refl _));have HB3:=Lib.hid (BE.out.trans (hb3.mono (by omega)));clear ho3 hi3 hb3 f0 f1 f2 f3
    by_cases hfull:32<(putL l A.key A.new_).length
    case pos =>
     have HE:=Lib.hid (HNF2.out hfull);have d3:(32:Int)<((putL l A.key A.new_).length:Int):=by omega
     go_wp2;go_ret2;exact RepQ.none_ HE.out rfl HB3.out
    have HE:=Lib.hid (HGO2.out (by omega));have d3:((putL l A.key A.new_).length:Int)≤32:=by omega
    go_wp2;go_roundw
    case rel=>exact⟨0+1,putL l A.key A.new_,a3,c3,fp3,by omega,by go_num,HE.out,rfl,HB3.out,HO3.out,HI3.out⟩
    case measure=>simp[intOf];omega
  ·obtain rfl:k=cs.length:=by omega
   have HE:=Lib.hid (repR_some HREP.out);clear HC;go_wp2;go_ret2;rw[HE.out];exact⟨a2,c2,fp,rfl,HB.out,HO.out,HI.out⟩
end Go.Proofs.YtmkkiglcpedkiaaGreatDoor
