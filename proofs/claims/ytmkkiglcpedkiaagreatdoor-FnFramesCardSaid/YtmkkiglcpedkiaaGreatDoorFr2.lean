/- Contract: DropRecord of the reference, of a valid register. -/
import Derived.Test.YtmkkiglcpedkiaaGreatDoorReg13
import Derived.Test.YtmkkiglcpedkiaaGreatDoorFq2
set_option linter.unusedVariables false
set_option linter.unusedSimpArgs false
namespace Go.Proofs.YtmkkiglcpedkiaaGreatDoor
open Go.RowKit
theorem upOk_app (cs:List DChange) (c:DChange) {k:Nat} (hk:k<cs.length):upOk changeB dayLe (cs++[c]) k=upOk changeB dayLe cs k:=by
 have hk2:k<(cs++[c]).length:=by rw[List.length_append];simp<;>omega
 by_cases h0:k=0
 ·subst h0
  rw[upOk_zero hk,upOk_zero hk2,List.getElem_append_left hk]
 ·rw[upOk_pos (by omega) hk,upOk_pos (by omega) hk2,List.getElem_append_left hk,List.getElem_append_left (show k-1<cs.length by omega)]
theorem repN_app (cs:List DChange) (c:DChange):∀ k,k≤cs.length→repN (cs++[c]) k=repN cs k:=by
 intro k
 induction k with
 | zero=>intro _;rfl
 | succ k ih =>
  intro hk;unfold repN;rw[ih (by omega),upOk_app cs c (show k<cs.length by omega),List.getElem?_append_left (show k<cs.length by omega)]
theorem regB_parts {r:DRegister} (h:regB r=true):repN r.changes r.changes.length=some r.records:=by
 unfold regB at h;rw[Bool.and_eq_true] at h
 cases hr:repN r.changes r.changes.length with
 | none=>rw[hr] at h;cases h.2
 | some l =>
  rw[hr] at h;rw[sameRs_iff.1 h.2]
theorem addR_ok {r:DRegister} {key value:ByteArray} {day:Int} (h:regB r=true) (h2:nameB key=true) (h3:eqS value emptyS=true∨valueB value=true) (h4:dayB day=true) (h5:(addR r key value day).2=0):regB (addR r key value day).1=true:=by
 obtain⟨hrec,_,hl,hn⟩:=regB_state h;have hp:=regB_parts h;unfold addR at h5 ⊢
 by_cases a1:laterB r day=true
 ·rw[if_pos a1] at h5;cases h5
 rw[if_neg a1] at h5 ⊢
 by_cases a2:(eqS value emptyS&&eqS (valOf r.records key) emptyS)=true
 ·rw[if_pos a2] at h5;cases h5
 rw[if_neg a2] at h5 ⊢
 by_cases a3:eqS value (valOf r.records key)=true
 ·rw[if_pos a3] at h5;cases h5
 rw[if_neg a3] at h5 ⊢
 by_cases a4:32<(putL r.records key value).length
 ·rw[if_pos a4] at h5;cases h5
 rw[if_neg a4] at h5 ⊢
 by_cases a5:r.changes.length=48
 ·rw[if_pos a5] at h5;cases h5
 rw[if_neg a5];clear h5;obtain⟨c,hc⟩:∃ c:DChange,c=⟨day,key,valOf r.records key,value⟩:=⟨_,rfl⟩
 rw[← hc];have hv:eqS (valOf r.records key) emptyS=true∨valueB (valOf r.records key)=true:=by
  unfold valOf
  cases hf:r.records.find? (fun x=>eqS x.key key) with
  | none=>exact Or.inl (eqS_refl _)
  | some x =>
   have:=hrec x (List.mem_of_find?_eq_some hf);unfold recB at this;rw[Bool.and_eq_true] at this;exact Or.inr this.2
 have hcb:changeB c=true:=by
  unfold changeB;rw[hc];simp only[Bool.and_eq_true,Bool.or_eq_true,Bool.not_eq_true'];refine⟨h4,h2,hv,h3,?_⟩
  cases he:eqS (valOf r.records key) value with
  | false=>rfl
  | true=>exact absurd (eqS_iff.2 (eqS_iff.1 he).symm) a3
 have hup:upOk changeB dayLe (r.changes++[c]) r.changes.length=true:=by
  have hk2:r.changes.length<(r.changes++[c]).length:=by simp
  by_cases h0:r.changes.length=0
  ·simp only[h0]
   rw[upOk_zero (by omega)];have:(r.changes++[c])[0]'(by omega)=c:=by
    have e:r.changes = []:=List.eq_nil_of_length_eq_zero h0;simp[e]
   rw[this];exact hcb
  ·rw[upOk_pos (by omega) hk2]
   have e1:(r.changes++[c])[r.changes.length]=c:=by simp
   rw[e1,hcb,Bool.true_and,List.getElem_append_left (show r.changes.length-1<r.changes.length by omega)];unfold laterB at a1;rw[List.getLast?_eq_getElem?,List.getElem?_eq_getElem (show r.changes.length-1<r.changes.length by omega)] at a1;simp only[decide_eq_true_eq] at a1;unfold dayLe;rw[hc];exact decide_eq_true (by show _≤day;omega)
 unfold regB;simp only[List.length_append,List.length_singleton];have hr1:repN (r.changes++[c]) (r.changes.length+1)=some (putL r.records key value):=by
  unfold repN;rw[repN_app _ _ _ (Nat.le_refl _),hp];have:(r.changes++[c])[r.changes.length]? = some c:=by simp
  rw[this];simp only;rw[if_pos hup];unfold patS;rw[hc];simp only;rw[if_pos (eqS_refl _),if_pos (by omega)]
 rw[hr1];simp only[Bool.and_eq_true,decide_eq_true_eq];exact⟨by omega,sameRs_iff.2 rfl⟩
def dropRecR (r:DRegister) (key:ByteArray) (day:Int):DRegister × Int :=
 if nameB key=true then (if dayB day=true then addR r key emptyS day else (⟨[],[]⟩,2)) else (⟨[],[]⟩,1)
theorem dropRecR_ok {r:DRegister} {key:ByteArray} {day:Int} (h:regB r=true) (h5:(dropRecR r key day).2=0):regB (dropRecR r key day).1=true:=by
 unfold dropRecR at h5 ⊢
 by_cases h2:nameB key=true
 ·rw[if_pos h2] at h5 ⊢
  by_cases h3:dayB day=true
  ·rw[if_pos h3] at h5 ⊢
   exact addR_ok h h2 (Or.inl (eqS_refl _)) h3 h5
  ·rw[if_neg h3] at h5;cases h5
 ·rw[if_neg h2] at h5;cases h5
theorem setRecR_ok {r:DRegister} {key value:ByteArray} {day:Int} (h:regB r=true) (h5:(setRecR r key value day).2=0):regB (setRecR r key value day).1=true:=by
 by_cases h2:nameB key=true
 case neg=>unfold setRecR at h5;rw[if_pos h,if_neg h2] at h5;cases h5
 by_cases h3:valueB value=true
 case neg=>unfold setRecR at h5;rw[if_pos h,if_pos h2,if_neg h3] at h5;cases h5
 by_cases h4:dayB day=true
 case neg=>unfold setRecR at h5;rw[if_pos h,if_pos h2,if_pos h3,if_neg h4] at h5;cases h5
 rw[setRecR_add h h2 h3 h4] at h5 ⊢;exact addR_ok h h2 (Or.inr h3) h4 h5
theorem regB_small {r:DRegister} (h:regB r=true):r.records.length≤32∧r.changes.length≤48∧(∀ x ∈ r.records,x.key.size≤1000∧x.value.size≤1000)∧∀ x ∈ r.changes,(0≤x.day∧x.day≤99999)∧x.key.size≤1000∧x.old_.size≤1000∧x.new_.size≤1000:=by
 obtain⟨hrec,_,hl,hn⟩:=regB_state h;obtain⟨_,_,_,hc,_⟩:=reg_changes h;have hv:∀ {s:ByteArray},valueB s=true→s.size≤1000:=fun {s} h=>by
  unfold valueB at h;simp only[Bool.and_eq_true,decide_eq_true_eq] at h;omega
 have hnm:∀ {s:ByteArray},nameB s=true→s.size≤1000:=fun {s} h=>by
  unfold nameB at h;simp only[Bool.and_eq_true,decide_eq_true_eq] at h;omega
 have hvo:∀ {s:ByteArray},(eqS s emptyS || valueB s)=true→s.size≤1000:=fun {s} h=>by
  rw[Bool.or_eq_true] at h
  rcases h with h|h
  ·rw[eqS_iff.1 h];decide
  ·exact hv h
 refine⟨hl,hn,fun x hx=>?_,fun x hx=>?_⟩
 ·have:=hrec x hx
  unfold recB at this;rw[Bool.and_eq_true] at this;exact⟨hnm this.1,hv this.2⟩
 ·have:=changeB_parts (hc x hx)
  exact⟨this.1,hnm this.2.1,hvo this.2.2.1,hvo this.2.2.2⟩
set_option maxHeartbeats 8000000
set_option maxRecDepth 100000
theorem dropRecR_2 {r:DRegister} {key:ByteArray} {day:Int} (h2:nameB key=false):dropRecR r key day=(⟨[],[]⟩,1):=by unfold dropRecR;rw[if_neg (by simp[h2])]
theorem dropRecR_4 {r:DRegister} {key:ByteArray} {day:Int} (h2:nameB key=true) (h4:dayB day=false):dropRecR r key day=(⟨[],[]⟩,2):=by unfold dropRecR;rw[if_pos h2,if_neg (by simp[h4])]
theorem dropRecR_add {r:DRegister} {key:ByteArray} {day:Int} (h2:nameB key=true) (h4:dayB day=true):dropRecR r key day=addR r key emptyS day:=by unfold dropRecR;rw[if_pos h2,if_pos h4]
theorem sDropRecord_any (r:DRegister) (key:ByteArray) (day:Int) (vr0 vr1:Value) (w:World) (rr0:Rd w.heap.size w (DRecord.sT r.records) vr0) (rr1:Rd w.heap.size w (DChange.sT r.changes) vr1) (h1:regB r=true) (hk_r:r.ok) (hs_key:key.size≤1048576) (hk_day:I64 day) :
  Calls Tryz.prog 31 #[.agg #[vr0,vr1],.string key,.int .i64 day] w (NewR (dropRecR r key day) w):=by
 have hq:=regB_small h1;have hl0:r.records.length≤1048576:=by omega
 have hl1:r.changes.length≤1048576:=by omega
 clear hq;obtain⟨A0,C0,rfl,_,_,_⟩:=DRecord.rd rr0;obtain⟨A1,C1,rfl,_,_,_⟩:=DChange.rd rr1;have hkk:key.size≤maxLen:=by unfold maxLen;omega
 by_cases h2:nameB key=true
 case neg =>
  replace h2:nameB key=false:=Bool.eq_false_iff.2 h2;have HE:=Lib.hid (dropRecR_2 (r:=r) (day:=day) h2);have BB0_:Below w.heap.size w ((w.alloc (.cells #[.slice A0 r.records.length C0,.slice A1 r.changes.length C1] 27)).alloc (.cells #[.slice none 0 0,.slice none 0 0] 27)):=Below.alloc (Below.alloc (Below.refl _ _) (by first|exact Nat.le_refl _|(simp;done)|(simp<;>omega)) _) (by first|exact Nat.le_refl _|(simp;done)|(simp<;>omega)) _;have zz0:w.heap.size+2≤((w.alloc (.cells #[.slice A0 r.records.length C0,.slice A1 r.changes.length C1] 27)).alloc (.cells #[.slice none 0 0,.slice none 0 0] 27)).heap.size:=by simp
  have k_R:((w.alloc (.cells #[.slice A0 r.records.length C0,.slice A1 r.changes.length C1] 27)).alloc (.cells #[.slice none 0 0,.slice none 0 0] 27)).heap[w.heap.size]? = some (.cells #[.slice A0 r.records.length C0,.slice A1 r.changes.length C1] 27 (0,0)):=by
   have h:=bkN w #[.slice A0 r.records.length C0,.slice A1 r.changes.length C1] 27;replace h:=bkA h (by first|(simp;done)|(simp<;>omega)) (.cells #[.slice none 0 0,.slice none 0 0] 27);exact h
  have KR_0:=Lib.hid k_R;have k_O:((w.alloc (.cells #[.slice A0 r.records.length C0,.slice A1 r.changes.length C1] 27)).alloc (.cells #[.slice none 0 0,.slice none 0 0] 27)).heap[w.heap.size+1]? = some (.cells #[.slice none 0 0,.slice none 0 0] 27 (0,0)):=by
   have h:=bkN (w.alloc (.cells #[.slice A0 r.records.length C0,.slice A1 r.changes.length C1] 27)) #[.slice none 0 0,.slice none 0 0] 27;rw[show (w.alloc (.cells #[.slice A0 r.records.length C0,.slice A1 r.changes.length C1] 27)).heap.size=w.heap.size+1 by simp] at h;exact h
  have KO_0:=Lib.hid k_O;clear k_R k_O;have BB_0:=Lib.hid BB0_;clear BB0_;go_enter Tryz.func31,Tryz.ntmps31;go_upto_region 1 with (fail);generalize ((w.alloc (.cells #[.slice A0 r.records.length C0,.slice A1 r.changes.length C1] 27)).alloc (.cells #[.slice none 0 0,.slice none 0 0] 27))=W0 at *;have p0:=bkC (v:=.slice A0 r.records.length C0) KR_0.out 0 rfl;have p1:=bkC (v:=.slice A1 r.changes.length C1) KR_0.out 1 rfl;have PP0:=Lib.hid p0;have PP1:=Lib.hid p1;clear p0 p1;have fR0:=bkC (v:=.slice A0 r.records.length C0) KR_0.out 0 rfl;have fR1:=bkC (v:=.slice A1 r.changes.length C1) KR_0.out 1 rfl;go_wp2_with fail;refine (l28Ok_any r _ _ w.heap.size _ ((rr0.below BB_0.out).mono (by omega)) ((rr1.below BB_0.out).mono (by omega)) PP0.out PP1.out (by omega) hl0 hl1 hk_r).mono ?_;rintro e X1 ⟨rfl,hb⟩;clear fR0 fR1;have KR_1:=Lib.hid (bkB KR_0.out hb (by omega));have KO_1:=Lib.hid (bkB KO_0.out hb (by omega));have BB_1:=Lib.hid (BB_0.out.trans (hb.mono (by omega)));have zz1:W0.heap.size≤X1.heap.size:=hb.size;clear KR_0 KO_0 BB_0 hb;rw[h1];go_wp2_with fail;refine (l01Name_any key _ hkk).mono ?_;rintro e _ ⟨rfl,rfl⟩;rw[h2];have fR0:=bkC (v:=.slice A0 r.records.length C0) KR_1.out 0 rfl;have fR1:=bkC (v:=.slice A1 r.changes.length C1) KR_1.out 1 rfl;have fO0:=bkC (v:=.slice none 0 0) KO_1.out 0 rfl;have fO1:=bkC (v:=.slice none 0 0) KO_1.out 1 rfl;have zO:=bkF KO_1.out;go_wp2;have BF:=Lib.hid (((BB_1.out).setCell (p:=⟨w.heap.size+1,0,none⟩) (by show w.heap.size≤w.heap.size+1;omega) (.slice none 0 0)).setCell (p:=⟨w.heap.size+1,1,none⟩) (by show w.heap.size≤w.heap.size+1;omega) (.slice none 0 0));refine bodyPost_ret (v:=.tuple #[.agg #[.slice none 0 0,.slice none 0 0],.int .i64 1]) (by simp[results,Tryz.results31,go_sem, *]) rfl ?_;exact NewR.zero HE.out rfl BF.out
 by_cases h4:dayB day=true
 case neg =>
  replace h4:dayB day=false:=Bool.eq_false_iff.2 h4;have HE:=Lib.hid (dropRecR_4 (r:=r) h2 h4);have BB0_:Below w.heap.size w ((w.alloc (.cells #[.slice A0 r.records.length C0,.slice A1 r.changes.length C1] 27)).alloc (.cells #[.slice none 0 0,.slice none 0 0] 27)):=Below.alloc (Below.alloc (Below.refl _ _) (by first|exact Nat.le_refl _|(simp;done)|(simp<;>omega)) _) (by first|exact Nat.le_refl _|(simp;done)|(simp<;>omega)) _;have zz0:w.heap.size+2≤((w.alloc (.cells #[.slice A0 r.records.length C0,.slice A1 r.changes.length C1] 27)).alloc (.cells #[.slice none 0 0,.slice none 0 0] 27)).heap.size:=by simp
  have k_R:((w.alloc (.cells #[.slice A0 r.records.length C0,.slice A1 r.changes.length C1] 27)).alloc (.cells #[.slice none 0 0,.slice none 0 0] 27)).heap[w.heap.size]? = some (.cells #[.slice A0 r.records.length C0,.slice A1 r.changes.length C1] 27 (0,0)):=by
   have h:=bkN w #[.slice A0 r.records.length C0,.slice A1 r.changes.length C1] 27;replace h:=bkA h (by first|(simp;done)|(simp<;>omega)) (.cells #[.slice none 0 0,.slice none 0 0] 27);exact h
  have KR_0:=Lib.hid k_R;have k_O:((w.alloc (.cells #[.slice A0 r.records.length C0,.slice A1 r.changes.length C1] 27)).alloc (.cells #[.slice none 0 0,.slice none 0 0] 27)).heap[w.heap.size+1]? = some (.cells #[.slice none 0 0,.slice none 0 0] 27 (0,0)):=by
   have h:=bkN (w.alloc (.cells #[.slice A0 r.records.length C0,.slice A1 r.changes.length C1] 27)) #[.slice none 0 0,.slice none 0 0] 27;rw[show (w.alloc (.cells #[.slice A0 r.records.length C0,.slice A1 r.changes.length C1] 27)).heap.size=w.heap.size+1 by simp] at h;exact h
  have KO_0:=Lib.hid k_O;clear k_R k_O;have BB_0:=Lib.hid BB0_;clear BB0_;go_enter Tryz.func31,Tryz.ntmps31;go_upto_region 1 with (fail);generalize ((w.alloc (.cells #[.slice A0 r.records.length C0,.slice A1 r.changes.length C1] 27)).alloc (.cells #[.slice none 0 0,.slice none 0 0] 27))=W0 at *;have p0:=bkC (v:=.slice A0 r.records.length C0) KR_0.out 0 rfl;have p1:=bkC (v:=.slice A1 r.changes.length C1) KR_0.out 1 rfl;have PP0:=Lib.hid p0;have PP1:=Lib.hid p1;clear p0 p1;have fR0:=bkC (v:=.slice A0 r.records.length C0) KR_0.out 0 rfl;have fR1:=bkC (v:=.slice A1 r.changes.length C1) KR_0.out 1 rfl;go_wp2_with fail;refine (l28Ok_any r _ _ w.heap.size _ ((rr0.below BB_0.out).mono (by omega)) ((rr1.below BB_0.out).mono (by omega)) PP0.out PP1.out (by omega) hl0 hl1 hk_r).mono ?_;rintro e X1 ⟨rfl,hb⟩;clear fR0 fR1;have KR_1:=Lib.hid (bkB KR_0.out hb (by omega));have KO_1:=Lib.hid (bkB KO_0.out hb (by omega));have BB_1:=Lib.hid (BB_0.out.trans (hb.mono (by omega)));have zz1:W0.heap.size≤X1.heap.size:=hb.size;clear KR_0 KO_0 BB_0 hb;rw[h1];go_wp2_with fail;refine (l01Name_any key _ hkk).mono ?_;rintro e _ ⟨rfl,rfl⟩;rw[h2];go_wp2_with fail;refine (l28Day_any day _).mono ?_;rintro e _ ⟨rfl,rfl⟩;rw[h4];have fR0:=bkC (v:=.slice A0 r.records.length C0) KR_1.out 0 rfl;have fR1:=bkC (v:=.slice A1 r.changes.length C1) KR_1.out 1 rfl;have fO0:=bkC (v:=.slice none 0 0) KO_1.out 0 rfl;have fO1:=bkC (v:=.slice none 0 0) KO_1.out 1 rfl;have zO:=bkF KO_1.out;go_wp2;have BF:=Lib.hid (((BB_1.out).setCell (p:=⟨w.heap.size+1,0,none⟩) (by show w.heap.size≤w.heap.size+1;omega) (.slice none 0 0)).setCell (p:=⟨w.heap.size+1,1,none⟩) (by show w.heap.size≤w.heap.size+1;omega) (.slice none 0 0));refine bodyPost_ret (v:=.tuple #[.agg #[.slice none 0 0,.slice none 0 0],.int .i64 2]) (by simp[results,Tryz.results31,go_sem, *]) rfl ?_;exact NewR.zero HE.out rfl BF.out
 have HE:=Lib.hid (dropRecR_add (r:=r) h2 h4);obtain⟨_,s2,s3,s4⟩:=regB_state h1;have HS:=Lib.hid s2;clear s2;have BB0_:Below w.heap.size w ((w.alloc (.cells #[.slice A0 r.records.length C0,.slice A1 r.changes.length C1] 27)).alloc (.cells #[.slice none 0 0,.slice none 0 0] 27)):=Below.alloc (Below.alloc (Below.refl _ _) (by first|exact Nat.le_refl _|(simp;done)|(simp<;>omega)) _) (by first|exact Nat.le_refl _|(simp;done)|(simp<;>omega)) _;have zz0:w.heap.size+2≤((w.alloc (.cells #[.slice A0 r.records.length C0,.slice A1 r.changes.length C1] 27)).alloc (.cells #[.slice none 0 0,.slice none 0 0] 27)).heap.size:=by simp
 have k_R:((w.alloc (.cells #[.slice A0 r.records.length C0,.slice A1 r.changes.length C1] 27)).alloc (.cells #[.slice none 0 0,.slice none 0 0] 27)).heap[w.heap.size]? = some (.cells #[.slice A0 r.records.length C0,.slice A1 r.changes.length C1] 27 (0,0)):=by
  have h:=bkN w #[.slice A0 r.records.length C0,.slice A1 r.changes.length C1] 27;replace h:=bkA h (by first|(simp;done)|(simp<;>omega)) (.cells #[.slice none 0 0,.slice none 0 0] 27);exact h
 have KR_0:=Lib.hid k_R;have k_O:((w.alloc (.cells #[.slice A0 r.records.length C0,.slice A1 r.changes.length C1] 27)).alloc (.cells #[.slice none 0 0,.slice none 0 0] 27)).heap[w.heap.size+1]? = some (.cells #[.slice none 0 0,.slice none 0 0] 27 (0,0)):=by
  have h:=bkN (w.alloc (.cells #[.slice A0 r.records.length C0,.slice A1 r.changes.length C1] 27)) #[.slice none 0 0,.slice none 0 0] 27;rw[show (w.alloc (.cells #[.slice A0 r.records.length C0,.slice A1 r.changes.length C1] 27)).heap.size=w.heap.size+1 by simp] at h;exact h
 have KO_0:=Lib.hid k_O;clear k_R k_O;have BB_0:=Lib.hid BB0_;clear BB0_;go_enter Tryz.func31,Tryz.ntmps31;go_upto_region 1 with (fail);generalize ((w.alloc (.cells #[.slice A0 r.records.length C0,.slice A1 r.changes.length C1] 27)).alloc (.cells #[.slice none 0 0,.slice none 0 0] 27))=W0 at *;have p0:=bkC (v:=.slice A0 r.records.length C0) KR_0.out 0 rfl;have p1:=bkC (v:=.slice A1 r.changes.length C1) KR_0.out 1 rfl;have PP0:=Lib.hid p0;have PP1:=Lib.hid p1;clear p0 p1;have fR0:=bkC (v:=.slice A0 r.records.length C0) KR_0.out 0 rfl;have fR1:=bkC (v:=.slice A1 r.changes.length C1) KR_0.out 1 rfl;go_wp2_with fail;refine (l28Ok_any r _ _ w.heap.size _ ((rr0.below BB_0.out).mono (by omega)) ((rr1.below BB_0.out).mono (by omega)) PP0.out PP1.out (by omega) hl0 hl1 hk_r).mono ?_;rintro e X1 ⟨rfl,hb⟩;clear fR0 fR1;have KR_1:=Lib.hid (bkB KR_0.out hb (by omega));have KO_1:=Lib.hid (bkB KO_0.out hb (by omega));have BB_1:=Lib.hid (BB_0.out.trans (hb.mono (by omega)));have zz1:W0.heap.size≤X1.heap.size:=hb.size;clear KR_0 KO_0 BB_0 hb;rw[h1];go_wp2_with fail;refine (l01Name_any key _ hkk).mono ?_;rintro e _ ⟨rfl,rfl⟩;rw[h2];go_wp2_with fail;refine (l28Day_any day _).mono ?_;rintro e _ ⟨rfl,rfl⟩;rw[h4];have p0:=bkC (v:=.slice A0 r.records.length C0) KR_1.out 0 rfl;have p1:=bkC (v:=.slice A1 r.changes.length C1) KR_1.out 1 rfl;have PP2:=Lib.hid p0;have PP3:=Lib.hid p1;clear p0 p1;go_wp2_with fail;refine (l28Add_any r key emptyS day A0 C0 A1 C1 w.heap.size _ ((rr0.below BB_1.out).mono (by omega)) ((rr1.below BB_1.out).mono (by omega)) PP2.out PP3.out (by omega) (by omega) (by omega) HS.out).mono ?_;rintro e X2 ⟨a0,c0,a1,c1,fp,rfl,hb,ov,iv⟩;have KR_2:=Lib.hid (bkB KR_1.out hb (by omega));have KO_2:=Lib.hid (bkB KO_1.out hb (by omega));have BB_2:=Lib.hid (BB_1.out.trans (hb.mono (by omega)));have zz2:X1.heap.size≤X2.heap.size:=hb.size;clear KR_1 KO_1 BB_1 hb;have OV:=Lib.hid ov;have IV:=Lib.hid iv;clear ov iv;generalize hW:addR r key emptyS day=WR at *;clear hW;have fO0:=bkC (v:=.slice none 0 0) KO_2.out 0 rfl;have fO1:=bkC (v:=.slice none 0 0) KO_2.out 1 rfl;have zO:=bkF KO_2.out;have INE:¬ (w.heap.size+1 ∈ fp):=fun e=>by have:=IV.out _ e;omega
 have HINE:=Lib.hid INE;clear INE;go_wp2;have BF:=Lib.hid (((BB_2.out).setCell (p:=⟨w.heap.size+1,0,none⟩) (by show w.heap.size≤w.heap.size+1;omega) (.slice a0 WR.1.records.length c0)).setCell (p:=⟨w.heap.size+1,1,none⟩) (by show w.heap.size≤w.heap.size+1;omega) (.slice a1 WR.1.changes.length c1));refine bodyPost_ret (v:=.tuple #[.agg #[.slice a0 WR.1.records.length c0,.slice a1 WR.1.changes.length c1],.int .i64 WR.2]) (by simp[results,Tryz.results31,go_sem, *]) rfl ?_;rw[HE.out];exact⟨a0,c0,a1,c1,fp,rfl,BF.out,(OV.out.setFar (p:=⟨w.heap.size+1,0,none⟩) HINE.out _).setFar (p:=⟨w.heap.size+1,1,none⟩) HINE.out _,by simp only[size_setCell];exact IV.out.mono (by omega) (Nat.le_refl _)⟩
end Go.Proofs.YtmkkiglcpedkiaaGreatDoor
