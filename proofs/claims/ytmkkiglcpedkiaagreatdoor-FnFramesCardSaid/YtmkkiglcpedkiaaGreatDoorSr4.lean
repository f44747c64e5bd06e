/- Contracts: a register as a text, for the program and for the reference. Conditions: bounded sizes; the library's own variables hold what they hold at the start. -/
import Derived.Test.YtmkkiglcpedkiaaGreatDoorSr3
import Derived.Test.YtmkkiglcpedkiaaGreatDoorReg11
set_option linter.unusedVariables false
set_option linter.unusedSimpArgs false
namespace Go.Proofs.YtmkkiglcpedkiaaGreatDoor
open Go.RowKit
set_option maxHeartbeats 8000000
set_option maxRecDepth 100000
def textK (r:DRegister) (k:Nat):List UInt8:=headL (r.changes.length:Int)++10::(r.changes.take k).flatMap (fun x=>lineL x++[10])
def saveR (r:DRegister):ByteArray × Int:=if regB r then (ofL (textK r r.changes.length),0) else (⟨#[]⟩,1)
theorem textK_zero (r:DRegister):textK r 0=headL (r.changes.length:Int)++[10]:=by unfold textK;simp
theorem textK_succ (r:DRegister) (k:Nat) (h:k<r.changes.length):textK r (k+1)=textK r k++(lineL r.changes[k]++[10]):=by
 unfold textK;rw[List.take_succ_eq_append_getElem h,List.flatMap_append];simp
theorem textK_len (r:DRegister) (hk:∀ x ∈ r.changes,ChSmall x) (hn:r.changes.length≤1048576) (k:Nat) (h:k≤r.changes.length):(textK r k).length≤31+k*4000101:=by
 induction k with
 | zero =>
  rw[textK_zero,List.length_append];have:=headL_len (I64_nat (n:=r.changes.length) (by omega));simp<;>omega
 | succ k ih =>
  have h1:=ih (by omega);rw[textK_succ r k (by omega),List.length_append,List.length_append];have:=lineL_len (hk _ (List.getElem_mem (show k<r.changes.length by omega)));simp<;>omega
theorem regB_len {r:DRegister} (h:regB r=true):r.changes.length≤48:=by
 unfold regB at h;simp only[Bool.and_eq_true,decide_eq_true_eq] at h;exact h.1
theorem iSaveRegister_any (r:DRegister) (v0 v1:Value) (w:World) (L:LibW w) (h0:Rd w.heap.size w (DRecord.sT r.records) v0) (h1:Rd w.heap.size w (DChange.sT r.changes) v1) (hn0:r.records.length≤1048576) (hn1:r.changes.length≤1048576) (hok:r.ok) (hk:∀ x ∈ r.changes,ChSmall x) :
  Calls Tryz.prog 6 #[.agg #[v0,v1]] w fun e w'=>e=.returned (.tuple #[.string (saveR r).1,.int .i64 (saveR r).2])∧Below w.heap.size w w':=by
 obtain⟨A0,C0,rfl,_,_,_⟩:=DRecord.rd h0;have HR1:=Lib.hid h1;obtain⟨A1,C1,rfl,hlc,hcm,hcl⟩:=DChange.rd h1;obtain⟨W0,hW0,b0,z0,k0⟩:=boxes1 w #[(Value.slice A0 r.records.length C0),(Value.slice A1 r.changes.length C1)] 27;have HW0:=Lib.hid hW0;have B0:=Lib.hid b0;have K0:=Lib.hid k0;clear hW0 b0 k0;have HD:Hid (∀ W,Below W0.heap.size W0 W→W.cell? ⟨w.heap.size,0,none⟩=some (Value.slice A0 r.records.length C0)∧W.cell? ⟨w.heap.size,1,none⟩=some (Value.slice A1 r.changes.length C1)):=fun W hW=>⟨bkC (bkB K0.out hW (by omega)) 0 rfl,bkC (bkB K0.out hW (by omega)) 1 rfl⟩
 have HH:Hid (∀ W,Below W0.heap.size W0 W→Below w.heap.size w W):=fun W hW=>B0.out.trans (hW.mono (by omega))
 have HLW:Hid (∀ W,Below W0.heap.size W0 W→LibW W):=fun W hW=>L.mono (HH.out W hW)
 have CV:Hid (Calls Tryz.prog 15 #[.agg #[.slice A0 r.records.length C0,.slice A1 r.changes.length C1]] W0 fun e w'=>e=.returned (.bool (regB r))∧Below W0.heap.size W0 w'):=validRegister_any r _ _ W0 ((h0.below B0.out).mono B0.out.size) ((h1.below B0.out).mono B0.out.size) hn0 hn1 hok;have HCL:=Lib.hid hcl;clear L h0 h1 hcl
 by_cases hv:regB r=true
 case neg =>
  have hv':regB r=false:=Bool.eq_false_iff.2 hv;rw[hv'] at CV;have HE:Hid (saveR r=(⟨#[]⟩,1)):=by show _=_;unfold saveR;rw[if_neg hv]
  clear hv hv';go_enter Tryz.func6,Tryz.ntmps6;go_upto_region 1 with (fail);rw[HW0.out];obtain⟨t0,t1⟩:=HD.out _ (Below.refl _ _);go_wp2_with (go_at_call 15;with_reducible refine CV.out.mono ?_;rintro e w1 ⟨rfl,hb1⟩);go_ret2;exact⟨by rw[HE.out];rfl,HH.out _ hb1⟩
 rw[hv] at CV;have h48:=regB_len hv;have HE:Hid (saveR r=(ofL (textK r r.changes.length),0)):=by show _=_;unfold saveR;rw[if_pos hv]
 have HTL:Hid (∀ k,k≤r.changes.length→(ofL (textK r k)).size≤31+k*4000101):=fun k h=>textK_len r hk hn1 k h
 have HHD:Hid (∀ W,LibW W→Calls Tryz.prog 16 #[.int .i64 (r.changes.length:Int)] W fun e w'=>e=.returned (.string (ofL (headL (r.changes.length:Int))))∧Below W.heap.size W w'):=fun W hW=>registerHead_any _ (I64_nat (by omega)) W hW
 have hhl:=headL_len (I64_nat (n:=r.changes.length) (by omega));have HT0:Hid (ofL (headL (r.changes.length:Int))++⟨#[10]⟩=ofL (textK r 0)):=by show _=_;rw[textK_zero,← ofL_appN];rfl
 have m0:(ofL (headL (r.changes.length:Int))).size≤30:=hhl;have c1:(⟨#[10]⟩:ByteArray).size=1:=rfl;generalize ofL (headL (r.changes.length:Int))=sh at *;have a0:=fun W:World=>run_string_add_sum (P:=Tryz.prog) (w:=W) sh ⟨#[10]⟩ (by rw[c1];omega)
 have HK:=Lib.hid hk;have HC1:=Lib.hid c1;have h48i:(r.changes.length:Int)≤48:=by omega
 clear hv hk hhl m0 c1;go_enter Tryz.func6,Tryz.ntmps6;go_upto_region 1 with (fail);rw[HW0.out];obtain⟨t0,t1⟩:=HD.out _ (Below.refl _ _);go_wp2_with fail;refine CV.out.mono ?_;rintro e w1 ⟨rfl,hb1⟩;have HB1:=Lib.hid hb1;clear hb1 CV t0 t1;obtain⟨t0,t1⟩:=HD.out _ HB1.out;go_wp2_with fail;refine (HHD.out _ (HLW.out _ HB1.out)).mono ?_;rintro e w2 ⟨rfl,hb2⟩;have HB2:=Lib.hid (HB1.out.trans (hb2.mono HB1.out.size));clear hb2 t0 t1;obtain⟨t0,t1⟩:=HD.out _ HB2.out;go_wp2;rw[HT0.out];clear a0 t0 t1;go_loopw [4,18] (fun v i wr=>∃ (k:Nat),k≤r.changes.length∧i=.int .i64 k∧v=.string (ofL (textK r k))∧Below w2.heap.size w2 wr) (fun _ i wr=>r.changes.length-(intOf i).toNat)
 case atStart=>exact⟨0,Nat.zero_le _,rfl,rfl,Below.refl _ _⟩
 case round =>
  obtain⟨k,hk,rfl,rfl,hb⟩:=hrel;have HB:=Lib.hid hb;have HBW:=Lib.hid (HB2.out.trans (hb.mono HB2.out.size));have zr:=hb.size;clear hb
  by_cases hlt:k<r.changes.length
  ·obtain⟨b,off,rfl,hbb,hat⟩:=HCL.out (by omega)
   obtain⟨s0,s1,s2,s3⟩:=hat k hlt;have hbw:=HH.out _ HBW.out;rw[← bat hbw b _ hbb] at s0 s1 s2 s3;have yb:b<wr.heap.size:=by have:=hbw.size;omega
   have HTS:=Lib.hid (textK_succ r k hlt);have hx:=HK.out _ (List.getElem_mem hlt);have ltk:=HTL.out k hk;generalize r.changes[k]=x at *;have HLN:Hid (∀ W,LibW W→Calls Tryz.prog 17 #[.agg #[.int .i64 x.day,.string x.key,.string x.old_,.string x.new_]] W fun e w'=>e=.returned (.string (ofL (lineL x)))∧Below W.heap.size W w'):=fun W hW=>changeLine_any x hx W hW
   have ml:(ofL (lineL x)).size≤4000100:=lineL_len hx;have HTX:Hid (ofL (textK r k)++(ofL (lineL x)++⟨#[10]⟩)=ofL (textK r (k+1))):=by
    show _=_
    rw[HTS.out,show (⟨#[10]⟩:ByteArray)=ofL [10] from rfl,ofL_appN,ofL_appN]
   generalize ofL (lineL x)=sl at *;generalize ofL (textK r k)=st at *;have e1:=fun W:World=>run_string_add_sum (P:=Tryz.prog) (w:=W) sl ⟨#[10]⟩ (by rw[HC1.out];omega)
   have e2:=fun W:World=>run_string_add_sum (P:=Tryz.prog) (w:=W) st (sl++⟨#[10]⟩) (by rw[ByteArray.size_append,HC1.out];omega)
   clear hx ltk ml hat hbw;go_upto_region 7 with (fail);obtain⟨W3,hW3,b3,z3,k3⟩:=boxes1 wr #[.int .i64 x.day,.string x.key,.string x.old_,.string x.new_] 44;rw[hW3];clear hW3;have q0:=bkC (v:=.int .i64 x.day) k3 0 rfl;have q1:=bkC (v:=.string x.key) k3 1 rfl;have q2:=bkC (v:=.string x.old_) k3 2 rfl;have q3:=bkC (v:=.string x.new_) k3 3 rfl;have HB3:=Lib.hid (HBW.out.trans (b3.mono HBW.out.size));have HB3':=Lib.hid (HB.out.trans (b3.mono zr));clear b3 k3 s0 s1 s2 s3;go_wp2_with fail;refine (HLN.out _ (HLW.out _ HB3.out)).mono ?_;rintro e w4 ⟨rfl,hb4⟩;have HB4:=Lib.hid (HB3'.out.trans (hb4.mono HB3'.out.size));clear hb4 q0 q1 q2 q3;go_wp2;rw[HTX.out];go_roundw
   case rel=>exact⟨k+1,by omega,by go_num,rfl,HB4.out⟩
   case measure=>simp[intOf];omega
  ·obtain rfl:k=r.changes.length:=by omega
   go_wp2;go_ret2;exact⟨by rw[HE.out];rfl,HH.out _ HBW.out⟩
theorem l28Save_any (r:DRegister) (v0:Value) (A1:Option Addr) (C1 bp:Nat) (w:World) (h1:Rd w.heap.size w (DChange.sT r.changes) (.slice A1 r.changes.length C1)) (p0:w.cell? ⟨bp,0,none⟩=some v0) (p1:w.cell? ⟨bp,1,none⟩=some (.slice A1 r.changes.length C1)) (h48:r.changes.length≤48) (hk:∀ x ∈ r.changes,ChSmall x) :
  Calls Tryz.prog 25 #[.pointer (some ⟨bp,0,none⟩)] w fun e w'=>e=.returned (.string (ofL (textK r r.changes.length)))∧Below w.heap.size w w':=by
 obtain⟨_,_,e1,hlc,hcm,hcl⟩:=DChange.rd h1;injection e1 with e1 _ e3;subst e1 e3;have hbp:=cell_lt p1
 dsimp only at hbp
 have HP:Hid (∀ W,Below w.heap.size w W→W.cell? ⟨bp,1,none⟩=some (.slice A1 r.changes.length C1)):=fun W hW=>(bat hW bp _ hbp).trans p1
 have HCL:=Lib.hid hcl;have HTL:Hid (∀ k,k≤r.changes.length→(ofL (textK r k)).size≤31+k*4000101):=fun k h=>textK_len r hk (by omega) k h
 have HHD:Hid (∀ W,Calls Tryz.prog 53 #[.int .i64 (r.changes.length:Int)] W fun e w'=>e=.returned (.string (ofL (Go.Lib.itoa (r.changes.length:Int))))∧Below W.heap.size W w'):=fun W=>l01Dec_any _ (I64_nat (by omega)) W
 have hI:=I64_nat (n:=r.changes.length) (by omega);have hhl:=Go.Lib.itoa_length_le _ hI.1 hI.2;have HT0:Hid (⟨#[114,101,103,105,115,116,101,114,32]⟩++ofL (Go.Lib.itoa (r.changes.length:Int))++⟨#[10]⟩=ofL (textK r 0)):=by
  show _=_
  rw[textK_zero];unfold headL REG;rw[show (⟨#[10]⟩:ByteArray)=ofL [10] from rfl,show (⟨#[114,101,103,105,115,116,101,114,32]⟩:ByteArray)=ofL [114,101,103,105,115,116,101,114,32] from rfl,ofL_appN,ofL_appN]
 have m0:(ofL (Go.Lib.itoa (r.changes.length:Int))).size≤21:=hhl;have c1:(⟨#[10]⟩:ByteArray).size=1:=rfl;have c9:(⟨#[114,101,103,105,115,116,101,114,32]⟩:ByteArray).size=9:=rfl;generalize ofL (Go.Lib.itoa (r.changes.length:Int))=sh at *;have a0:=fun W:World=>run_string_add_sum (P:=Tryz.prog) (w:=W) ⟨#[114,101,103,105,115,116,101,114,32]⟩ sh (by rw[c9];omega)
 have a1:=fun W:World=>run_string_add_sum (P:=Tryz.prog) (w:=W) (⟨#[114,101,103,105,115,116,101,114,32]⟩++sh) ⟨#[10]⟩ (by rw[ByteArray.size_append,c9,c1];omega)
 have HK:=Lib.hid hk;have HC1:=Lib.hid c1;have h48i:(r.changes.length:Int)≤48:=by omega
 clear hk hhl m0 c1 c9 hcl h1 hI p0;go_enter Tryz.func25,Tryz.ntmps25;go_wp2_with fail;refine (HHD.out _).mono ?_;rintro e w2 ⟨rfl,hb2⟩;have HB2:=Lib.hid hb2;clear hb2 p1;go_wp2;rw[HT0.out];clear a0 a1;go_loopw [3,4] (fun v i wr=>∃ (k:Nat),k≤r.changes.length∧i=.int .i64 k∧v=.string (ofL (textK r k))∧Below w.heap.size w wr) (fun _ i wr=>r.changes.length-(intOf i).toNat)
 case atStart=>exact⟨0,Nat.zero_le _,rfl,rfl,HB2.out⟩
 case round =>
  obtain⟨k,hk,rfl,rfl,hb⟩:=hrel;have HB:=Lib.hid hb;have zr:=hb.size;have p1:=HP.out _ hb;clear hb
  by_cases hlt:k<r.changes.length
  ·obtain⟨b,off,rfl,hbb,hat⟩:=HCL.out (by omega)
   obtain⟨s0,s1,s2,s3⟩:=hat k hlt;rw[← bat HB.out b _ hbb] at s0 s1 s2 s3;have yb:b<wr.heap.size:=by omega
   have HTS:=Lib.hid (textK_succ r k hlt);have hx:=HK.out _ (List.getElem_mem hlt);have ltk:=HTL.out k hk;generalize r.changes[k]=x at *;have HLN:Hid (Calls Tryz.prog 54 #[.pointer (some ⟨b,off+k*4,none⟩)] wr fun e w'=>e=.returned (.string (ofL (lineL x)))∧Below wr.heap.size wr w'):=l28Frame_any x hx b (off+k*4) wr s0 s1 s2 s3;have ml:(ofL (lineL x)).size≤4000100:=lineL_len hx;have HTX:Hid (ofL (textK r k)++(ofL (lineL x)++⟨#[10]⟩)=ofL (textK r (k+1))):=by
    show _=_
    rw[HTS.out,show (⟨#[10]⟩:ByteArray)=ofL [10] from rfl,ofL_appN,ofL_appN]
   generalize ofL (lineL x)=sl at *;generalize ofL (textK r k)=st at *;have e1:=fun W:World=>run_string_add_sum (P:=Tryz.prog) (w:=W) sl ⟨#[10]⟩ (by rw[HC1.out];omega)
   have e2:=fun W:World=>run_string_add_sum (P:=Tryz.prog) (w:=W) st (sl++⟨#[10]⟩) (by rw[ByteArray.size_append,HC1.out];omega)
   clear hx ltk ml hat s0 s1 s2 s3;go_wp2_with fail;refine HLN.out.mono ?_;rintro e w4 ⟨rfl,hb4⟩;have HB4:=Lib.hid (HB.out.trans (hb4.mono zr));clear hb4 p1;go_wp2;rw[HTX.out];go_roundw
   case rel=>exact⟨k+1,by omega,by go_num,rfl,HB4.out⟩
   case measure=>simp[intOf];omega
  ·obtain rfl:k=r.changes.length:=by omega
   go_wp2;go_ret;exact⟨rfl,HB.out⟩
theorem sSaveRegister_any (r:DRegister) (v0 v1:Value) (w:World) (h0:Rd w.heap.size w (DRecord.sT r.records) v0) (h1:Rd w.heap.size w (DChange.sT r.changes) v1) (hn0:r.records.length≤1048576) (hn1:r.changes.length≤1048576) (hok:r.ok) (hk:∀ x ∈ r.changes,ChSmall x) :
  Calls Tryz.prog 10 #[.agg #[v0,v1]] w fun e w'=>e=.returned (.tuple #[.string (saveR r).1,.int .i64 (saveR r).2])∧Below w.heap.size w w':=by
 obtain⟨A0,C0,rfl,_,_,_⟩:=DRecord.rd h0;obtain⟨A1,C1,rfl,_,_,_⟩:=DChange.rd h1;obtain⟨W0,hW0,b0,z0,k0⟩:=boxes1 w #[(Value.slice A0 r.records.length C0),(Value.slice A1 r.changes.length C1)] 27;have HW0:=Lib.hid hW0;have B0:=Lib.hid b0;have K0:=Lib.hid k0;clear hW0 b0 k0;have HD:Hid (∀ W,Below W0.heap.size W0 W→W.cell? ⟨w.heap.size,0,none⟩=some (Value.slice A0 r.records.length C0)∧W.cell? ⟨w.heap.size,1,none⟩=some (Value.slice A1 r.changes.length C1)):=fun W hW=>⟨bkC (bkB K0.out hW (by omega)) 0 rfl,bkC (bkB K0.out hW (by omega)) 1 rfl⟩
 have HH:Hid (∀ W,Below W0.heap.size W0 W→Below w.heap.size w W):=fun W hW=>B0.out.trans (hW.mono (by omega))
 have t:=HD.out _ (Below.refl _ _);have CV:Hid (Calls Tryz.prog 24 #[.pointer (some ⟨w.heap.size,0,none⟩)] W0 fun e w'=>e=.returned (.bool (regB r))∧Below W0.heap.size W0 w'):=l28Ok_any r _ _ w.heap.size W0 ((h0.below B0.out).mono B0.out.size) ((h1.below B0.out).mono B0.out.size) t.1 t.2 (by omega) hn0 hn1 hok;have HS:Hid (regB r=true→∀ W,Below W0.heap.size W0 W→Calls Tryz.prog 25 #[.pointer (some ⟨w.heap.size,0,none⟩)] W fun e w'=>e=.returned (.string (ofL (textK r r.changes.length)))∧Below W.heap.size W w'):=fun hv W hW =>
  l28Save_any r _ A1 C1 w.heap.size W ((h1.below (HH.out W hW)).mono (HH.out W hW).size) (HD.out W hW).1 (HD.out W hW).2 (regB_len hv) hk
 clear h0 h1 t
 by_cases hv:regB r=true
 case neg =>
  have hv':regB r=false:=Bool.eq_false_iff.2 hv;rw[hv'] at CV;have HE:Hid (saveR r=(⟨#[]⟩,1)):=by show _=_;unfold saveR;rw[if_neg hv]
  clear hv hv' HS;go_enter Tryz.func10,Tryz.ntmps10;go_upto_region 1 with (fail);rw[HW0.out];go_wp2_with (go_at_call 24;with_reducible refine CV.out.mono ?_;rintro e w1 ⟨rfl,hb1⟩);go_ret2;exact⟨by rw[HE.out];rfl,HH.out _ hb1⟩
 rw[hv] at CV;have HSV:=Lib.hid (HS.out hv);have HE:Hid (saveR r=(ofL (textK r r.changes.length),0)):=by show _=_;unfold saveR;rw[if_pos hv]
 clear hv HS;generalize ofL (textK r r.changes.length)=tx at *;go_enter Tryz.func10,Tryz.ntmps10;go_upto_region 1 with (fail);rw[HW0.out];go_wp2_with (first|(go_at_call 24;with_reducible refine CV.out.mono ?_;rintro e w1 ⟨rfl,hb1⟩)|(go_at_call 25;with_reducible refine (HSV.out _ hb1).mono ?_;rintro e w2 ⟨rfl,hb2⟩));go_ret2;exact⟨by rw[HE.out];rfl,HH.out _ (hb1.trans (hb2.mono hb1.size))⟩
end Go.Proofs.YtmkkiglcpedkiaaGreatDoor
