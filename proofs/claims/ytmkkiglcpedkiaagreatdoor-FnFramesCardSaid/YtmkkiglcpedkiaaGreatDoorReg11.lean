/- Contract: SetRecord of the program. Conditions: bounded lengths. -/
import Derived.Test.YtmkkiglcpedkiaaGreatDoorReg6
import Derived.Test.YtmkkiglcpedkiaaGreatDoorReg4
import Derived.Test.YtmkkiglcpedkiaaGreatDoorReg8s
import Derived.Test.YtmkkiglcpedkiaaGreatDoorReg10
set_option linter.unusedVariables false
set_option linter.unusedSimpArgs false
namespace Go.Proofs.YtmkkiglcpedkiaaGreatDoor
set_option maxHeartbeats 4000000
set_option maxRecDepth 100000
open Go.RowKit
section
variable {l0 l:List DRecord} {cs:List DChange} {k:Nat}
theorem patN_spec (h0:Rise l0) (hl0:l0.length≤32):(k:Nat)→(l:List DRecord)→patN l0 cs k=some l→Rise l∧l.length≤32:=by
 intro k
 induction k with
 | zero=>intro l h;unfold patN at h;injection h with h;subst h;exact⟨h0,hl0⟩
 | succ k ih =>
  intro l h;unfold patN at h
  cases h1:patN l0 cs k with
  | none=>rw[h1] at h;cases h
  | some m =>
   cases h2:cs[k]? with
   | none=>rw[h1,h2] at h;cases h
   | some c =>
    rw[h1,h2] at h;simp only at h;obtain⟨p1,rfl,p3⟩:=patS_some h;exact⟨putL_rise (ih m h1).1 _ _,p3⟩
theorem patN_val (hk:k<cs.length) (h:patN l0 cs k=some l) (hv:eqS (valOf l cs[k].key) cs[k].old_=false):patN l0 cs (k+1)=none:=by
 unfold patN;rw[h,List.getElem?_eq_getElem hk];simp only;unfold patS;rw[if_neg (by rw[hv];simp)]
theorem patN_full (hk:k<cs.length) (h:patN l0 cs k=some l) (hv:eqS (valOf l cs[k].key) cs[k].old_=true) (hl:32<(putL l cs[k].key cs[k].new_).length):patN l0 cs (k+1)=none:=by
 unfold patN;rw[h,List.getElem?_eq_getElem hk];simp only;unfold patS;rw[if_pos hv,if_neg (by omega)]
theorem patN_go (hk:k<cs.length) (h:patN l0 cs k=some l) (hv:eqS (valOf l cs[k].key) cs[k].old_=true) (hl:(putL l cs[k].key cs[k].new_).length≤32):patN l0 cs (k+1)=some (putL l cs[k].key cs[k].new_):=by
 unfold patN;rw[h,List.getElem?_eq_getElem hk];simp only;unfold patS;rw[if_pos hv,if_pos hl]
theorem patN_none (h:patN l0 cs k=none):∀ n,k≤n→patN l0 cs n=none:=by
 intro n
 induction n with
 | zero =>
  intro hn;obtain rfl:k=0:=by omega
  exact h
 | succ n ih =>
  intro hn
  by_cases e:k=n+1
  ·rw[← e];exact h
  ·have h2:=ih (by omega)
   unfold patN;rw[h2]
end
def PatQ (r:Option (List DRecord)) (w:World) (e:Ending) (w':World):Prop :=
 ∃ (a:Option Addr) (n c:Nat) (code:Int) (fp:List Nat),e=.returned (.tuple #[.slice a n c,.int .i64 code])∧Below w.heap.size w w'∧(∀ l,r=some l→code=0∧n=l.length∧Own w' (DRecord.sT l) (.slice a n c) fp∧In w.heap.size w'.heap.size fp)∧(r=none→(code == 0)=false)
theorem PatQ.none_ {r:Option (List DRecord)} {w w':World} {e:Ending} {code:Int} (hr:r=none) (he:e=.returned (.tuple #[.slice none 0 0,.int .i64 code])) (hc:(code == 0)=false) (hb:Below w.heap.size w w'):PatQ r w e w' :=
 ⟨none,0,0,code,[],he,hb,fun l h=>(by rw[hr] at h;cases h),fun _=>hc⟩
theorem l28Patch_any (l0:List DRecord) (cs:List DChange) (v u:Value) (w:World) (h0:Rd w.heap.size w (DRecord.sT l0) v) (h:Rd w.heap.size w (DChange.sT cs) u) (hr:Rise l0) (hl0:l0.length≤32) (hn:cs.length≤1048576) :
  Calls Tryz.prog 52 #[v,u] w (PatQ (patN l0 cs cs.length) w):=by
 obtain⟨a0,c0,rfl,hnc0,hcm0,_⟩:=DRecord.rd h0;obtain⟨a,c,rfl,hnc,hcm,hcells⟩:=DChange.rd h;have HC:=Lib.hid hcells;have HRI:=Lib.hid hr;rw[DRecord.sT_vs] at h0;have HR0:=Lib.hid (h0.readsV (by omega));have HV1:=Lib.hid (DRecord.vs_one l0);clear h hcells hr h0;have hnb:(cs.length:Int)≤1048576:=by omega
 obtain⟨i0,hi0,hz0,hz1,hz2⟩:=info_parts infoRecord;go_enter Tryz.func52,Tryz.ntmps52;go_wp2_with (at_builtin;refine wpList_append_first rfl (.tmp 9) (.tmp 10) _ rfl 69 i0 _ 2 32 Tryz.underlying24 hi0 hz0 hz1 hz2 rfl (by omega) rfl _ _ _ _ _ rfl HR0.out (Nat.le_refl _) HV1.out (by unfold maxLen;omega) (by omega) ?_;intro a1 c1 w1 ho1 hb1 hz3);obtain⟨fp0,o0,i0_,m0⟩:=rowOwnB (lo:=w.heap.size) ho1 (by omega) (by omega);have O0:Hid (Own w1 (DRecord.sT l0) (.slice a1 l0.length c1) fp0):=by rw[DRecord.sT_vs];exact o0
 have I0:=Lib.hid i0_;have B1:=Lib.hid hb1;clear ho1 o0 i0_ m0 hb1 hi0 hz0 hz1 hz2;go_wp2;go_loopw [6,7] (fun lv i wr=>∃ (k:Nat) (l:List DRecord) (a2:Option Addr) (c2:Nat) (fp:List Nat),k≤cs.length∧i=.int .i64 k∧patN l0 cs k=some l∧lv=.slice a2 l.length c2∧Below w.heap.size w wr∧Own wr (DRecord.sT l) (.slice a2 l.length c2) fp∧In w.heap.size wr.heap.size fp) (fun _ i wr=>cs.length-(intOf i).toNat)
 case atStart=>exact⟨0,l0,a1,c1,fp0,Nat.zero_le _,rfl,rfl,rfl,B1.out,O0.out,I0.out⟩
 case round =>
  obtain⟨k,l,a2,c2,fp,hk,rfl,hrep,rfl,hb,ho,hi⟩:=hrel;have HREP:=Lib.hid hrep;have HB:=Lib.hid hb;have HO:=Lib.hid ho;have HI:=Lib.hid hi;have zr:w.heap.size≤wr.heap.size:=hb.size;obtain⟨i2,i3⟩:=patN_spec HRI.out hl0 _ _ hrep;have HRL:=Lib.hid i2;clear hrep hb ho hi i2
  by_cases hlt:k<cs.length
  ·obtain⟨b,off,rfl,hbl,hat⟩:=HC.out (by omega)
   obtain⟨s0,s1,s2,s3⟩:=hat k hlt;rw[← HB.out.cell (p:=⟨b,_,none⟩) hbl] at s0 s1 s2 s3;have yb:b<wr.heap.size:=by omega
   have j1:(k:Int)<(cs.length:Int):=by omega
   have HNV:Hid (eqS (valOf l cs[k].key) cs[k].old_=false→patN l0 cs cs.length=none):=fun h=>patN_none (patN_val hlt HREP.out h) _ (by omega)
   have HNF:Hid (eqS (valOf l cs[k].key) cs[k].old_=true→32<(putL l cs[k].key cs[k].new_).length→patN l0 cs cs.length=none):=fun h h2=>patN_none (patN_full hlt HREP.out h h2) _ (by omega)
   have HGO:Hid (eqS (valOf l cs[k].key) cs[k].old_=true→(putL l cs[k].key cs[k].new_).length≤32→patN l0 cs (k+1)=some (putL l cs[k].key cs[k].new_)):=fun h h2=>patN_go hlt HREP.out h h2
   clear hat HC;generalize cs[k]=A at *;have HGET:Hid (∀ W:World,Below wr.heap.size wr W→Calls Tryz.prog 78 #[.slice a2 l.length c2,.string A.key] W fun e w'=>e=.returned (.string (valOf l A.key))∧W=w'):=fun W hW=>l28Get_any l A.key _ wr.heap.size W ((HO.out.rd HI.out).below hW) hW.size (by omega)
   have oB:=overC (w0:=wr) yb
   by_cases c5:eqS (valOf l A.key) A.old_=true
   case neg =>
    replace c5:eqS (valOf l A.key) A.old_=false:=Bool.eq_false_iff.2 c5;have d1:((valOf l A.key).toList == A.old_.toList)=false:=c5;have d2:((valOf l A.key).toList != A.old_.toList)=true:=by rw[bne,d1];rfl
    have HE:=Lib.hid (HNV.out c5);clear c5;generalize valOf l A.key=V at *;go_upto_region 6 with (fail);refine wp_region_over wr.heap.size wr (Below.refl _ _) (by kernel_rfl) (by kernel_rfl) ?_
    repeat (go_big_quiet_step (first|(go_at_call 78;exact over_same (HGET.out _ (over_below _ _ _)))))
    refine wpQuiet_nil ?_;rintro _ ⟨X,rfl⟩;have BE:=Lib.hid (HB.out.trans ((over_below wr.heap.size wr X).mono zr));clear oB;generalize over wr.heap.size wr X=w2 at *;go_wp2;go_ret2;exact PatQ.none_ HE.out rfl rfl BE.out
   have HV5:=Lib.hid c5;have d1:((valOf l A.key).toList == A.old_.toList)=true:=c5;have d2:((valOf l A.key).toList != A.old_.toList)=false:=by rw[bne,d1];rfl
   have HNF2:=Lib.hid (HNF.out c5);have HGO2:=Lib.hid (HGO.out c5);clear c5 HV5 HNF HGO HNV;generalize valOf l A.key=V at *;go_upto_region 6 with (fail);refine wp_region_over wr.heap.size wr (Below.refl _ _) (by kernel_rfl) (by kernel_rfl) ?_
   repeat (go_big_quiet_step (first|(go_at_call 78;exact over_same (HGET.out _ (over_below _ _ _)))))
   refine wpQuiet_nil ?_;rintro _ ⟨X,rfl⟩;have hX:=over_below wr.heap.size wr X;have BE:=Lib.hid (HB.out.trans (hX.mono zr));have HO2:=Lib.hid (HO.out.below HI.out (Nat.le_refl _) hX);have zx:=hX.size;have e1:=(hX.cell (p:=⟨b,_,none⟩) yb).trans s1;have e3:=(hX.cell (p:=⟨b,_,none⟩) yb).trans s3;clear oB s0 s1 s2 s3 hX d1 d2;generalize over wr.heap.size wr X=w2 at *;go_upto_region 8 with (fail)
   go_still_tail 9,(by kernel_rfl)
   change wpList _ _ _ _ _ w2.drew
   have hd2:=below_drew1 w2;have HO3:=Lib.hid (HO2.out.below HI.out zx hd2);have zd:w2.drew.heap.size=w2.heap.size:=rfl
   by_cases hfull:32<(putL l A.key A.new_).length
   ·have HE:=Lib.hid (HNF2.out hfull)
    have d3:(32:Int)<((putL l A.key A.new_).length:Int):=by omega
    go_wp2_with (go_at_call 79;refine (l28Put_any l A.key A.new_ _ w2.drew ((HO3.out.rd HI.out).mono (by omega)) (by omega) HRL.out).mono ?_;rintro e w3 ⟨a3,c3,fp3,rfl,hb3,ho3,hi3⟩;have HO4:=Lib.hid ho3;have HI4:=Lib.hid (hi3.mono (show w.heap.size≤w2.drew.heap.size by omega) (Nat.le_refl _));have HB4:=Lib.hid (BE.out.trans ((hd2.trans hb3).mono (by omega)));clear ho3 hi3 hb3);go_ret2;exact PatQ.none_ HE.out rfl rfl HB4.out
   ·have HE:=Lib.hid (HGO2.out (by omega))
    have d3:((putL l A.key A.new_).length:Int)≤32:=by omega
    go_wp2_with (go_at_call 79;refine (l28Put_any l A.key A.new_ _ w2.drew ((HO3.out.rd HI.out).mono (by omega)) (by omega) HRL.out).mono ?_;rintro e w3 ⟨a3,c3,fp3,rfl,hb3,ho3,hi3⟩;have HO4:=Lib.hid ho3;have HI4:=Lib.hid (hi3.mono (show w.heap.size≤w2.drew.heap.size by omega) (Nat.le_refl _));have HB4:=Lib.hid (BE.out.trans ((hd2.trans hb3).mono (by omega)));clear ho3 hi3 hb3);go_roundw
    case rel=>exact⟨k+1,putL l A.key A.new_,a3,c3,fp3,by omega,by go_num,HE.out,rfl,HB4.out,HO4.out,HI4.out⟩
    case measure=>simp[intOf];omega
  ·obtain rfl:k=cs.length:=by omega
   clear HC;go_wp2;go_ret2;exact⟨a2,l.length,c2,0,fp,rfl,HB.out,fun l' h=>(by rw[HREP.out] at h;injection h with h;subst h;exact⟨rfl,rfl,HO.out,HI.out⟩),fun h=>(by rw[HREP.out] at h;cases h)⟩
end Go.Proofs.YtmkkiglcpedkiaaGreatDoor
namespace Go.Proofs.YtmkkiglcpedkiaaGreatDoor
open Go.RowKit
set_option maxHeartbeats 2000000
set_option maxRecDepth 100000
theorem l28Ok_any (r:DRegister) (v0 v1:Value) (bp:Nat) (w:World) (h0:Rd w.heap.size w (DRecord.sT r.records) v0) (h1:Rd w.heap.size w (DChange.sT r.changes) v1) (p0:w.cell? ⟨bp,0,none⟩=some v0) (p1:w.cell? ⟨bp,1,none⟩=some v1) (hbp:bp<w.heap.size) (hn0:r.records.length≤1048576) (hn1:r.changes.length≤1048576) (hok:r.ok) :
  Calls Tryz.prog 24 #[.pointer (some ⟨bp,0,none⟩)] w fun e w'=>e=.returned (.bool (regB r))∧Below w.heap.size w w':=by
 obtain⟨A0,C0,rfl,_,_,_⟩:=DRecord.rd h0;obtain⟨A1,C1,rfl,_,_,_⟩:=DChange.rd h1;have HE:=Lib.hid (regS_eq r).symm;have H0:=Lib.hid h0;have H1:=Lib.hid h1;have P0:=Lib.hid p0;have P1:=Lib.hid p1;clear h0 h1;go_enter Tryz.func24,Tryz.ntmps24;go_wp2_with fail;refine (l28State_any r.records _ w H0.out hn0 hok.records).mono ?_;rintro e w1 ⟨rfl,hb1⟩;have B1:=Lib.hid hb1;have z1:w.heap.size≤w1.heap.size:=hb1.size;have q0:=(hb1.cell (p:=⟨bp,_,none⟩) hbp).trans P0.out;have q1:=(hb1.cell (p:=⟨bp,_,none⟩) hbp).trans P1.out;clear hb1 p0 p1
 by_cases c1:stateB r.records=true
 case neg =>
  replace c1:stateB r.records=false:=Bool.eq_false_iff.2 c1;have HE2:Hid (regB r=false):=by show _=_;rw[HE.out];unfold regS;rw[c1];rfl
  go_wp2;go_ret;exact⟨by rw[HE2.out];rfl,B1.out⟩
 go_wp2_with fail;refine (l28Story_any r.changes _ w1 ((H1.out.below B1.out).mono z1) hn1 hok.changes).mono ?_;rintro e w2 ⟨rfl,hb2⟩;have B2:=Lib.hid (B1.out.trans (hb2.mono z1));have z2:w1.heap.size≤w2.heap.size:=hb2.size;clear hb2 q0 q1;have q0:=(B2.out.cell (p:=⟨bp,_,none⟩) hbp).trans P0.out;have q1:=(B2.out.cell (p:=⟨bp,_,none⟩) hbp).trans P1.out
 by_cases c2:storyB r.changes=true
 case neg =>
  replace c2:storyB r.changes=false:=Bool.eq_false_iff.2 c2;have HE2:Hid (regB r=false):=by show _=_;rw[HE.out];unfold regS;rw[c1,c2];rfl
  go_wp2;go_ret;exact⟨by rw[HE2.out];rfl,B2.out⟩
 have HE2:Hid (regB r=(match patN [] r.changes r.changes.length with|some l=>sameRs l r.records|none=>false)):=by show _=_;rw[HE.out];unfold regS;rw[c1,c2];rfl
 have H48:Hid (r.changes.length≤48):=by
  unfold storyB at c2;simp only[Bool.and_eq_true,decide_eq_true_eq] at c2;exact c2.2
 go_upto_region 3 with (fail);have hbx:=below_alloc w2 (.cells #[] 69);have B3:=Lib.hid (B2.out.trans (hbx.mono (by omega)));have z3:w2.heap.size+1≤(w2.alloc (.cells #[] 69)).heap.size:=by simp
 have HR3:Hid (Rd (w2.alloc (.cells #[] 69)).heap.size (w2.alloc (.cells #[] 69)) (DRecord.sT []) (.slice (some ⟨w2.heap.size,0,none⟩) 0 0)):=⟨[],Rep_sl.2 ⟨_,0,0,rfl,rfl,Nat.le_refl _,by unfold maxLen;omega,Or.inl ⟨rfl,rfl⟩⟩,fun b h=>by simp at h⟩
 have HP:=Lib.hid (l28Patch_any [] r.changes _ _ _ HR3.out ((H1.out.below B3.out).mono (by omega)) List.Pairwise.nil (by simp) (by omega));clear hbx;have hb2x:bp<w2.heap.size:=by omega
 clear c1 c2;go_wp2_with fail;refine HP.out.mono ?_;rintro e w4 ⟨a4,n4,c4,code,fp,rfl,hb4,hs,hnone⟩;have z4:=hb4.size;have B4:=Lib.hid (B3.out.trans (hb4.mono (by omega)));have HS:=Lib.hid hs;have HN:=Lib.hid hnone;clear hb4 hs hnone q0 q1 HP;have q0:=(B4.out.cell (p:=⟨bp,_,none⟩) hbp).trans P0.out;have q1:=(B4.out.cell (p:=⟨bp,_,none⟩) hbp).trans P1.out;have H32:Hid (∀ l,patN [] r.changes r.changes.length=some l→l.length≤32):=fun l h=>(patN_spec List.Pairwise.nil (by simp) _ _ h).2
 generalize hpat:patN [] r.changes r.changes.length=pat at *;clear hpat
 cases pat with
 | none =>
  have hc:=HN.out rfl;go_wp2;go_ret;exact⟨by rw[HE2.out];rfl,B4.out⟩
 | some l =>
  obtain⟨rfl,rfl,ho,hi⟩:=HS.out l rfl;have HO:=Lib.hid ho;have HI:=Lib.hid hi;clear ho hi;have hle:=H32.out l rfl;go_wp2_with fail;refine (l28Same_any l r.records _ _ w4.heap.size w4 (HO.out.rd HI.out) ((H0.out.below B4.out).mono (by omega)) (Nat.le_refl _) (by omega) (by omega)).mono ?_;rintro e w5 ⟨rfl,hb5⟩;have B5:=Lib.hid (B4.out.trans (hb5.mono (by omega)));clear hb5;go_wp2;go_ret;exact⟨by rw[HE2.out];rfl,B5.out⟩
set_option maxHeartbeats 2000000
set_option maxRecDepth 100000
theorem regB_repR (r:DRegister):regB r=(decide (r.changes.length≤48)&&((repR r.changes).2&&sameRs (repR r.changes).1 r.records)):=by
 unfold regB repR
 cases repN r.changes r.changes.length with
 | none=>rfl
 | some l=>rfl
theorem validRegister_any (r:DRegister) (v0 v1:Value) (w:World) (h0:Rd w.heap.size w (DRecord.sT r.records) v0) (h1:Rd w.heap.size w (DChange.sT r.changes) v1) (hn0:r.records.length≤1048576) (hn1:r.changes.length≤1048576) (hok:r.ok) :
  Calls Tryz.prog 15 #[.agg #[v0,v1]] w fun e w'=>e=.returned (.bool (regB r))∧Below w.heap.size w w':=by
 obtain⟨A0,C0,rfl,_,_,_⟩:=DRecord.rd h0;obtain⟨A1,C1,rfl,_,_,_⟩:=DChange.rd h1;have hb0:Below w.heap.size w (w.alloc (.cells #[.slice A0 r.records.length C0,.slice A1 r.changes.length C1] 27)):=below_alloc _ _;have k0:=bkN w #[.slice A0 r.records.length C0,.slice A1 r.changes.length C1] 27;have z0:w.heap.size+1≤(w.alloc (.cells #[.slice A0 r.records.length C0,.slice A1 r.changes.length C1] 27)).heap.size:=by simp
 have HE:=Lib.hid (regB_repR r);have H0:=Lib.hid h0;have H1:=Lib.hid h1;clear h0 h1;go_enter Tryz.func15,Tryz.ntmps15;go_upto_region 1 with (fail);generalize w.alloc (.cells #[.slice A0 r.records.length C0,.slice A1 r.changes.length C1] 27)=W0 at *;have B0:=Lib.hid hb0;have K0:=Lib.hid k0;clear hb0 k0;have f1:=bkC (v:=.slice A1 r.changes.length C1) K0.out 1 rfl;go_wp2_with fail;refine (replay_any r.changes _ W0 ((H1.out.below B0.out).mono (by omega)) hn1 hok.changes).mono ?_;rintro e w1 ⟨a1,c1,fp,rfl,hb1,ho,hi⟩;have K1:=Lib.hid (bkB K0.out hb1 (by omega));have B1:=Lib.hid (B0.out.trans (hb1.mono (by omega)));have HO:=Lib.hid ho;have HI:=Lib.hid hi;have z1:W0.heap.size≤w1.heap.size:=hb1.size;have h32:(repR r.changes).1.length≤32:=by
  unfold repR
  cases hp:repN r.changes r.changes.length with
  | none=>simp
  | some l=>exact (repN_spec _ _ hp).1.2.2
 clear hb1 ho hi f1 K0;have f0:=bkC (v:=.slice A0 r.records.length C0) K1.out 0 rfl;have f1:=bkC (v:=.slice A1 r.changes.length C1) K1.out 1 rfl
 by_cases hl:r.changes.length≤48
 case neg =>
  have d1:((r.changes.length:Int)≤48)↔False:=by simp<;>omega
  have d2:decide ((r.changes.length:Int)≤48)=false:=by simp<;>omega
  have HE2:Hid (regB r=false):=by show _=_;rw[HE.out,decide_eq_false hl];rfl
  go_wp2;go_ret;exact⟨by rw[HE2.out];rfl,B1.out⟩
 have d2:(r.changes.length:Int)≤48:=by omega
 rw[decide_eq_true hl,Bool.true_and] at HE;generalize hL:(repR r.changes).1=L at *;generalize hB:(repR r.changes).2=Bb at *;clear hL hB
 cases Bb with
 | false =>
  have HE2:Hid (regB r=false):=by show _=_;rw[HE.out];rfl
  go_wp2;go_ret;exact⟨by rw[HE2.out];rfl,B1.out⟩
 | true =>
  rw[Bool.true_and] at HE;go_wp2_with fail;refine (equalRecord_any L r.records _ _ w1.heap.size w1 (HO.out.rd HI.out) ((H0.out.below B1.out).mono (by omega)) (Nat.le_refl _) (by omega) (by omega)).mono ?_;rintro e w2 ⟨rfl,hb2⟩;have B2:=Lib.hid (B1.out.trans (hb2.mono (by omega)));clear hb2;go_wp2;go_ret;exact⟨by rw[HE.out];rfl,B2.out⟩
theorem laterB_pos {r:DRegister} {day:Int} (h:0<r.changes.length):laterB r day=decide (day<(r.changes[r.changes.length-1]'(by omega)).day):=by
 unfold laterB;rw[List.getLast?_eq_getElem?,List.getElem?_eq_getElem (by omega)]
theorem laterB_zero {r:DRegister} {day:Int} (h:r.changes.length=0):laterB r day=false:=by
 unfold laterB;rw[List.eq_nil_of_length_eq_zero h]
 rfl
theorem isLater_any (r:DRegister) (day:Int) (v0 v1:Value) (B:Nat) (w:World) (h1:Rd B w (DChange.sT r.changes) v1) (hB:B≤w.heap.size) (hn1:r.changes.length≤1048576) :
  Calls Tryz.prog 21 #[.agg #[v0,v1],.int .i64 day] w fun e w'=>e=.returned (.bool (laterB r day))∧Below w.heap.size w w':=by
 obtain⟨A1,C1,rfl,_,_,hcells⟩:=DChange.rd h1;clear h1
 by_cases h0:r.changes.length=0
 ·have HE:=Lib.hid (laterB_zero (day:=day) h0)
  have HN:Hid ((r.changes.length:Int)=0):=by show _=_;omega
  clear hcells;generalize hL:r.changes.length=n at *;obtain rfl:n=0:=h0;clear hL;go_enter Tryz.func21,Tryz.ntmps21;go_wp2;go_ret;exact⟨by rw[HE.out];rfl,below_alloc _ _⟩
 ·have HE:=Lib.hid (laterB_pos (day:=day) (show 0<r.changes.length by omega))
  have hlt:r.changes.length-1<r.changes.length:=by omega
  have hpos:0<r.changes.length:=by omega
  obtain⟨b,off,rfl,hbl,hat⟩:=hcells hpos;have s0:=(hat (r.changes.length-1) hlt).1;clear hcells hat;generalize (r.changes[r.changes.length-1]'(by omega)).day=D at *;generalize hL:r.changes.length=n at *;obtain⟨m,rfl⟩:∃ m,n=m+1:=⟨n-1,by omega⟩
  rw[Nat.add_sub_cancel] at s0;clear hL;have i3:decide ((0:Int)<(m:Int)+1)=true:=decide_eq_true (by omega);have i4:(m:Int)≤1048576:=by omega
  have i5:(0:Int)≤(m:Int):=by omega
  have i6:(m:Int)<(m:Int)+1:=by omega
  have hbw:b<w.heap.size:=by omega
  go_enter Tryz.func21,Tryz.ntmps21;go_wp2;go_ret;exact⟨by rw[HE.out];rfl,below_alloc _ _⟩
end Go.Proofs.YtmkkiglcpedkiaaGreatDoor
namespace Go.Proofs.YtmkkiglcpedkiaaGreatDoor
open Go.RowKit
section
variable {r:DRegister} {key value:ByteArray} {day:Int}
theorem setRecR_1 (h:regB r=false):setRecR r key value day=(⟨[],[]⟩,1):=by unfold setRecR;rw[if_neg (by simp[h])]
theorem setRecR_2 (h:regB r=true) (h2:nameB key=false):setRecR r key value day=(⟨[],[]⟩,1):=by unfold setRecR;rw[if_pos h,if_neg (by simp[h2])]
theorem setRecR_3 (h:regB r=true) (h2:nameB key=true) (h3:valueB value=false):setRecR r key value day=(⟨[],[]⟩,1):=by unfold setRecR;rw[if_pos h,if_pos h2,if_neg (by simp[h3])]
theorem setRecR_4 (h:regB r=true) (h2:nameB key=true) (h3:valueB value=true) (h4:dayB day=false):setRecR r key value day=(⟨[],[]⟩,2):=by unfold setRecR;rw[if_pos h,if_pos h2,if_pos h3,if_neg (by simp[h4])]
end
end Go.Proofs.YtmkkiglcpedkiaaGreatDoor
