/- The walk of the law FnRequests: it returns true. -/
import Derived.Test.YtpodllefipleiaaGreatDoorTq4
import Derived.Test.YtpodllefipleiaaGreatDoorTq7
import Derived.Test.YtpodllefipleiaaGreatDoorRq1
set_option linter.unusedVariables false
set_option linter.unusedSimpArgs false
namespace Go.Proofs.YtpodllefipleiaaGreatDoor.fnRequests
open Go.RowKit
set_option maxHeartbeats 32000000
set_option maxRecDepth 100000
theorem reqText_size {x:DRequest} (h:SmR x):(zbb x).size≤1048576:=by
 unfold zbb
 split
 ·have hj:=join_len [bl x.id,bl x.applicant,bl x.partner,zag [x.low,x.high,x.filed,x.deadline],zaq x.state] 32 200000 (fun p hp=>by
   simp only[List.mem_cons,List.not_mem_nil,or_false] at hp
   rcases hp with rfl|rfl|rfl|rfl|rfl
   ·have:(bl x.id).length=x.id.size:=rfl
    have:=h.id;omega
   ·have:(bl x.applicant).length=x.applicant.size:=rfl
    have:=h.applicant;omega
   ·have:(bl x.partner).length=x.partner.size:=rfl
    have:=h.partner;omega
   ·unfold zag
    split
    ·simp
    ·split
     ·simp
     ·split
      ·have:=join_len ([x.low,x.high,x.filed,x.deadline].map Go.Lib.itoa) 44 21 (fun p hp=>by
        obtain⟨n,hn,rfl⟩:=List.mem_map.1 hp;have hk:=h.ok;simp only[List.mem_cons,List.not_mem_nil,or_false] at hn
        rcases hn with rfl|rfl|rfl|rfl
        ·exact Go.Lib.itoa_length_le _ hk.low.1 hk.low.2
        ·exact Go.Lib.itoa_length_le _ hk.high.1 hk.high.2
        ·exact Go.Lib.itoa_length_le _ hk.filed.1 hk.filed.2
        ·exact Go.Lib.itoa_length_le _ hk.deadline.1 hk.deadline.2)
       simp at this ⊢;omega
      ·simp
   ·have:=stateText_len x.state;omega)
  show (Go.Lib.join _ [32]).length≤1048576
  simp at hj ⊢;omega
 ·exact Nat.zero_le _
theorem reqB_ft {x:DRequest} (h:reqB x=true):(0≤x.filed∧x.filed≤x.deadline)∧x.deadline≤99999:=by
 unfold reqB inB at h;simp only[Bool.and_eq_true,decide_eq_true_eq] at h;omega
theorem inState_self {x:DRequest} (h:x.state=1):zai x 1=x:=by
 unfold zai
 cases x
 simp at h;simp[h]
theorem walk (code more:List UInt8) (v0 v1:Value) (w:World) (L:LibW w) (h0:Rd w.heap.size w (bsT code) v0) (h1:Rd w.heap.size w (bsT more) v1) :
  Calls Tryz.prog 4 #[v0,v1] w fun e w'=>e=.returned (.bool true)∧Below w.heap.size w w':=by
 have HLA:=Lib.hid (b10Long_any code v0 w h0);have HLB:=Lib.hid (b10Long_any more v1 w h1);have HP:=Lib.hid (DrawFileRequest_any code v0 w h0);have HL:=Lib.hid L;obtain⟨x0,y0,rfl,_,_,_⟩:=h0.bs;obtain⟨x1,y1,rfl,_,_,_⟩:=h1.bs;clear h0 h1 L
 by_cases hlong:decide ((1048576:Int)<(code.length:Int))=true
 ·rw[hlong] at HLA
  clear hlong;go_enter Tryz.func4,Tryz.ntmps4;go_wp2_with (fail)
  go_at_call 5
  refine HLA.out.mono ?_;rintro e w' ⟨rfl,rfl⟩;go_wp2;go_ret;exact⟨rfl,Below.refl _ _⟩
 rw[Bool.not_eq_true] at hlong;rw[hlong] at HLA;clear hlong
 by_cases hlong:decide ((1048576:Int)<(more.length:Int))=true
 ·rw[hlong] at HLB
  clear hlong;go_enter Tryz.func4,Tryz.ntmps4;go_wp2_with (fail)
  go_at_call 5
  refine HLA.out.mono ?_;rintro e w' ⟨rfl,rfl⟩;go_wp2_with (fail)
  go_at_call 5
  refine HLB.out.mono ?_;rintro e w' ⟨rfl,rfl⟩;go_wp2;go_ret;exact⟨rfl,Below.refl _ _⟩
 rw[Bool.not_eq_true] at hlong;rw[hlong] at HLB;clear hlong;go_enter Tryz.func4,Tryz.ntmps4;go_wp2_with (fail)
 go_at_call 5
 refine HLA.out.mono ?_;rintro e w' ⟨rfl,rfl⟩;go_wp2_with (fail)
 go_at_call 5
 refine HLB.out.mono ?_;rintro e w' ⟨rfl,rfl⟩;clear HLA HLB;go_wp2_with (fail)
 go_at_call 14
 refine HP.out.mono ?_;rintro e w1 ⟨l,x,a,c,fp,hl,hsm,hx,rfl,ho,hi,b1⟩;have z1:=b1.size;have RL:=Lib.hid fun (W:World) (hW:Below w1.heap.size w1 W)=>((ho.rd hi).below hW).mono hW.size
 have HSM:=Lib.hid hsm;have HX:=Lib.hid hx;have B1:=Lib.hid b1;have HL1:=Lib.hid fun (W:World) (hW:Below w1.heap.size w1 W)=>HL.out.mono (B1.out.trans (hW.mono z1))
 clear hsm hx ho hi b1 HP HL;go_upto_region 4 with (fail);obtain⟨W2,hW2,b2,z2,k2⟩:=zas w1 #[.string x.id,.string x.applicant,.string x.partner,.int .i64 x.low,.int .i64 x.high,.int .i64 x.filed,.int .i64 x.deadline,.int .i64 x.state] 45;rw[hW2];clear hW2;have B2:=Lib.hid b2;have K2:=Lib.hid k2;clear b2 k2;have KB:=Lib.hid fun (W:World) (hW:Below W2.heap.size W2 W)=>bkB K2.out hW (by omega)
 have kb:=K2.out;have t0:=bkC kb 0 rfl;have t1:=bkC kb 1 rfl;have t2:=bkC kb 2 rfl;have t3:=bkC kb 3 rfl;have t4:=bkC kb 4 rfl;have t5:=bkC kb 5 rfl;have t6:=bkC kb 6 rfl;have t7:=bkC kb 7 rfl;clear kb;go_wp2_with (fail)
 go_at_call 15
 refine (iFileRequest_any l x HX.out.ok _ W2 (RL.out W2 B2.out) (fun y hy=>(HSM.out y hy).ok) (by omega)).mono ?_;rintro e w3 ⟨hb,hres⟩;have z3:=hb.size;have B3:=Lib.hid (B2.out.trans (hb.mono (by omega)));have C3:=Lib.hid hb;clear hb t0 t1 t2 t3 t4 t5 t6 t7 B2
 rcases hres with ⟨cd,hcd,rfl⟩|⟨k,fa,fc,ffp,hrl,hrx,hst,hn24,hft,hno,rfl,hfo,hfi⟩
 ·have hcb:(cd != 0)=true:=by rw[bne_iff_ne];exact hcd
  clear hcd;go_wp2;go_ret;exact⟨rfl,B1.out.trans (B3.out.mono z1)⟩
 have hk:=hft.le;have RF:=Lib.hid fun (W:World) (hW:Below w3.heap.size w3 W)=>((hfo.rd hfi).below hW).mono hW.size
 have HREF:Hid (zai x 1=x):=inState_self hst;have HV1:Hid (za6 (zao l x k)=true):=ins_ok hrl hrx (by omega) hft;have HV2:Hid (za6 (zao l (zai x 2) k)=true):=ins_ok hrl (inState_ok hrx (by decide) (by decide)) (by omega) hft;have HV3:Hid (za6 (zao l (zai x 3) k)=true):=ins_ok hrl (inState_ok hrx (by decide) (by decide)) (by omega) hft;have HM2:Hid (mayR (zao l (zai x 2) k) x.applicant x.partner x.low x.high=true):=may_on hrl hrx (by omega) hft;have HM3:Hid (mayR (zao l (zai x 3) k) x.applicant x.partner x.low x.high=mayR l x.applicant x.partner x.low x.high):=may_off hrl hrx (by omega) hft (Or.inl rfl) _ _ _ _;have HM4:Hid (mayR (zao l (zai x 4) k) x.applicant x.partner x.low x.high=mayR l x.applicant x.partner x.low x.high):=may_off hrl hrx (by omega) hft (Or.inr rfl) _ _ _ _;have HOL:Hid (∀ z ∈ l,z.ok):=fun z hz=>(HSM.out z hz).ok
 have HOX:=Lib.hid HX.out.ok;have HO2:Hid (zai x 2).ok:=⟨HX.out.ok.id,HX.out.ok.applicant,HX.out.ok.partner,HX.out.ok.low,HX.out.ok.high,HX.out.ok.filed,HX.out.ok.deadline,⟨by show -9223372036854775808≤(2:Int);omega,by show (2:Int)≤9223372036854775807;omega⟩⟩
 have HO3:Hid (zai x 3).ok:=⟨HX.out.ok.id,HX.out.ok.applicant,HX.out.ok.partner,HX.out.ok.low,HX.out.ok.high,HX.out.ok.filed,HX.out.ok.deadline,⟨by show -9223372036854775808≤(3:Int);omega,by show (3:Int)≤9223372036854775807;omega⟩⟩
 have HO4:Hid (zai x 4).ok:=⟨HX.out.ok.id,HX.out.ok.applicant,HX.out.ok.partner,HX.out.ok.low,HX.out.ok.high,HX.out.ok.filed,HX.out.ok.deadline,⟨by show -9223372036854775808≤(4:Int);omega,by show (4:Int)≤9223372036854775807;omega⟩⟩
 have HNO:=Lib.hid hno;obtain⟨⟨fd0,fd1⟩,fd2⟩:=reqB_ft hrx;have HA1:Hid (ansC x x.filed=0):=by show _=_;unfold ansC;rw[if_neg (by simpa using hst),if_pos (by unfold inB;simp<;>omega)]
 have HA2:Hid (ansC x x.deadline=0):=by show _=_;unfold ansC;rw[if_neg (by simpa using hst),if_pos (by unfold inB;simp<;>omega)]
 have HA3:Hid (ansC x (x.deadline+1)=2):=by show _=_;unfold ansC;rw[if_neg (by simpa using hst),if_neg (by unfold inB;simp<;>omega)]
 have HA4:Hid (ansC (zai x 2) x.filed=6):=by show _=_;unfold ansC zai;rw[if_pos (by show (2:Int)≠1;decide)]
 have HA5:Hid (wdC (zai x 2)=0):=by show _=_;unfold wdC zai;rw[if_neg (by show ¬((2:Int)=3∨(2:Int)=4);decide)]
 have HA6:Hid (wdC (zai x 3)=6):=by show _=_;unfold wdC zai;rw[if_pos (by show (3:Int)=3∨(3:Int)=4;decide)]
 have HTX:Hid (reqR (zbb x)=some x):=req_back hrx;have HSZ:=reqText_size HX.out;have hln:=zaz l x hk;have hk9:l.length≤900:=by omega
 rw[hln];have RF2:Hid (∀ W:World,Below w3.heap.size w3 W→Rd W.heap.size W (DRequest.sT (zao l x k)) (.slice fa (l.length+1) fc)):=fun W hW=>by rw[← hln];exact RF.out W hW
 generalize hst2:zbb x=st at *;have HST:=Lib.hid hst2;have Q0:=Lib.hid (Below.refl w3.heap.size w3);clear hrl hrx hst hft hno hfo hfi hst2 RF hln HSM;have kb:=KB.out _ C3.out;have t0:=bkC kb 0 rfl;have t1:=bkC kb 1 rfl;have t2:=bkC kb 2 rfl;have t3:=bkC kb 3 rfl;have t4:=bkC kb 4 rfl;have t5:=bkC kb 5 rfl;have t6:=bkC kb 6 rfl;have t7:=bkC kb 7 rfl;clear kb;go_wp2_with (fail)
 go_at_call 17
 refine (requestText_any x (by have:=HX.out.id;omega) (by have:=HX.out.applicant;omega) (by have:=HX.out.partner;omega) w3 (HL1.out w3 B3.out)).mono ?_;rintro e w4 ⟨rfl,hb⟩;have Q4:=Lib.hid (Q0.out.trans (hb.mono (by have:=Q0.out.size;omega)));clear Q0;have z4:=hb.size;have B4:=Lib.hid (B3.out.trans (hb.mono (by omega)));have C4:=Lib.hid (C3.out.trans (hb.mono (by omega)));clear hb t0 t1 t2 t3 t4 t5 t6 t7 C3 B3;rw[HST.out];have kb:=KB.out _ C4.out;clear kb;go_wp2_with (fail)
 go_at_call 16
 refine (iReadRequest_any st HSZ w4 (HL1.out w4 B4.out)).mono ?_;rintro e w5 ⟨he,hb⟩;have Q5:=Lib.hid (Q4.out.trans (hb.mono (by have:=Q4.out.size;omega)));clear Q4;have z5:=hb.size;have B5:=Lib.hid (B4.out.trans (hb.mono (by omega)));have C5:=Lib.hid (C4.out.trans (hb.mono (by omega)));clear hb  C4 B4;rw[HTX.out] at he;simp only[Option.getD_some,Option.isSome_some] at he;subst he;clear HTX HSZ HST;go_upto_region 8 with (fail);obtain⟨W9,hW9,hb,z9,k9⟩:=zas w5 #[.string x.id,.string x.applicant,.string x.partner,.int .i64 x.low,.int .i64 x.high,.int .i64 x.filed,.int .i64 x.deadline,.int .i64 x.state] 45;rw[hW9];clear hW9;have Q6:=Lib.hid (Q5.out.trans (hb.mono (by have:=Q5.out.size;omega)));clear Q5;have K9:=Lib.hid k9;clear k9;have z6:=hb.size;have B6:=Lib.hid (B5.out.trans (hb.mono (by omega)));have C6:=Lib.hid (C5.out.trans (hb.mono (by omega)));clear hb  C5 B5;have kb:=KB.out _ C6.out;clear kb;go_wp2_with (fail)
 go_at_call 18
 refine (zav (zao l x k) _ _ W9 (RF2.out W9 Q6.out) (Nat.le_refl _) (ins_oks HOL.out HOX.out) (by rw[zaz l x hk];omega)).mono ?_;rintro e w7 ⟨rfl,hb⟩;have K10:=Lib.hid (bkB K9.out hb (by omega));have Q7:=Lib.hid (Q6.out.trans (hb.mono (by have:=Q6.out.size;omega)));clear Q6;have z7:=hb.size;have B7:=Lib.hid (B6.out.trans (hb.mono (by omega)));have C7:=Lib.hid (C6.out.trans (hb.mono (by omega)));clear hb  C6 B6;rw[HV1.out];have kb:=KB.out _ C7.out;have t0:=bkC kb 0 rfl;have t1:=bkC kb 1 rfl;have t2:=bkC kb 2 rfl;have t3:=bkC kb 3 rfl;have t4:=bkC kb 4 rfl;have t5:=bkC kb 5 rfl;have t6:=bkC kb 6 rfl;have t7:=bkC kb 7 rfl;have r0:=bkC K10.out 0 rfl;have r1:=bkC K10.out 1 rfl;have r2:=bkC K10.out 2 rfl;have r3:=bkC K10.out 3 rfl;have r4:=bkC K10.out 4 rfl;have r5:=bkC K10.out 5 rfl;have r6:=bkC K10.out 6 rfl;have r7:=bkC K10.out 7 rfl;clear kb;go_wp2_with (fail)
 go_at_call 19
 clear K10 r0 r1 r2 r3 r4 r5 r6 r7;refine (answer_yes l x k hk HNO.out x.filed _ w7 (RF2.out w7 Q7.out) HOL.out HOX.out hk9 HV1.out).mono ?_;rintro e w8 ⟨hb,h1,h2⟩;obtain⟨aG,cG,fG,rfl,oG,iG⟩:=h2 HA1.out;have RG:=Lib.hid (oG.rd iG);clear h1 h2 oG iG;have Q8:=Lib.hid (Q7.out.trans (hb.mono (by have:=Q7.out.size;omega)));clear Q7;have z8:=hb.size;have B8:=Lib.hid (B7.out.trans (hb.mono (by omega)));have C8:=Lib.hid (C7.out.trans (hb.mono (by omega)));clear hb t0 t1 t2 t3 t4 t5 t6 t7 C7 B7;have kb:=KB.out _ C8.out;have t0:=bkC kb 0 rfl;have t6:=bkC kb 6 rfl;clear kb;go_wp2_with (fail)
 go_at_call 19
 refine (answer_no l x k hk HNO.out x.deadline _ w8 (RF2.out w8 Q8.out) HOL.out HOX.out hk9 HV1.out).mono ?_;rintro e w9 ⟨hb,h1,h2⟩;obtain⟨aH,cH,fH,rfl,oH,iH⟩:=h2 HA2.out;have RH:=Lib.hid (oH.rd iH);clear h1 h2 oH iH;have RG_9:=Lib.hid ((RG.out.below hb).mono hb.size);clear RG;have Q9:=Lib.hid (Q8.out.trans (hb.mono (by have:=Q8.out.size;omega)));clear Q8;have z9:=hb.size;have B9:=Lib.hid (B8.out.trans (hb.mono (by omega)));have C9:=Lib.hid (C8.out.trans (hb.mono (by omega)));clear hb t0 t6 C8 B8;have kb:=KB.out _ C9.out;have t0:=bkC kb 0 rfl;have t6:=bkC kb 6 rfl;clear kb;go_wp2_with (fail)
 go_at_call 19
 refine (answer_yes l x k hk HNO.out (x.deadline+1) _ w9 (RF2.out w9 Q9.out) HOL.out HOX.out hk9 HV1.out).mono ?_;rintro e w10 ⟨hb,h1,h2⟩;have he:=h1 (by rw[HA3.out];decide);rw[HA3.out] at he;subst he;clear h1 h2;have RG_10:=Lib.hid ((RG_9.out.below hb).mono hb.size);clear RG_9;have RH_10:=Lib.hid ((RH.out.below hb).mono hb.size);clear RH;have Q10:=Lib.hid (Q9.out.trans (hb.mono (by have:=Q9.out.size;omega)));clear Q9;have z10:=hb.size;have B10:=Lib.hid (B9.out.trans (hb.mono (by omega)));have C10:=Lib.hid (C9.out.trans (hb.mono (by omega)));clear hb t0 t6 C9 B9;have kb:=KB.out _ C10.out;have t0:=bkC kb 0 rfl;have t5:=bkC kb 5 rfl;clear kb;go_wp2_with (fail)
 go_at_call 19
 refine (answer_no l (zai x 2) k hk HNO.out x.filed _ w10 RG_10.out HOL.out HO2.out hk9 HV2.out).mono ?_;rintro e w11 ⟨hb,h1,h2⟩;have he:=h1 (by rw[HA4.out];decide);rw[HA4.out] at he;subst he;clear h1 h2;have RG_11:=Lib.hid ((RG_10.out.below hb).mono hb.size);clear RG_10;have RH_11:=Lib.hid ((RH_10.out.below hb).mono hb.size);clear RH_10;have Q11:=Lib.hid (Q10.out.trans (hb.mono (by have:=Q10.out.size;omega)));clear Q10;have z11:=hb.size;have B11:=Lib.hid (B10.out.trans (hb.mono (by omega)));have C11:=Lib.hid (C10.out.trans (hb.mono (by omega)));clear hb t0 t5 C10 B10;have kb:=KB.out _ C11.out;have t0:=bkC kb 0 rfl;clear kb;go_wp2_with (fail)
 go_at_call 20
 refine (withdraw_ins l (zai x 2) k hk HNO.out _ w11 RG_11.out HOL.out HO2.out hk9 HV2.out).mono ?_;rintro e w12 ⟨hb,h1,h2⟩;obtain⟨aK,cK,fK,rfl,oK,iK⟩:=h2 HA5.out;have RK:=Lib.hid (oK.rd iK);clear h1 h2 oK iK;have RG_12:=Lib.hid ((RG_11.out.below hb).mono hb.size);clear RG_11;have RH_12:=Lib.hid ((RH_11.out.below hb).mono hb.size);clear RH_11;have Q12:=Lib.hid (Q11.out.trans (hb.mono (by have:=Q11.out.size;omega)));clear Q11;have z12:=hb.size;have B12:=Lib.hid (B11.out.trans (hb.mono (by omega)));have C12:=Lib.hid (C11.out.trans (hb.mono (by omega)));clear hb t0 C11 B11;have kb:=KB.out _ C12.out;have t0:=bkC kb 0 rfl;clear kb;go_wp2_with (fail)
 go_at_call 20
 refine (withdraw_ins l (zai x 3) k hk HNO.out _ w12 RH_12.out HOL.out HO3.out hk9 HV3.out).mono ?_;rintro e w13 ⟨hb,h1,h2⟩;have he:=h1 (by rw[HA6.out];decide);rw[HA6.out] at he;subst he;clear h1 h2;have RG_13:=Lib.hid ((RG_12.out.below hb).mono hb.size);clear RG_12;have RH_13:=Lib.hid ((RH_12.out.below hb).mono hb.size);clear RH_12;have RK_13:=Lib.hid ((RK.out.below hb).mono hb.size);clear RK;have Q13:=Lib.hid (Q12.out.trans (hb.mono (by have:=Q12.out.size;omega)));clear Q12;have z13:=hb.size;have B13:=Lib.hid (B12.out.trans (hb.mono (by omega)));have C13:=Lib.hid (C12.out.trans (hb.mono (by omega)));clear hb t0 C12 B12;have kb:=KB.out _ C13.out;have t1:=bkC kb 1 rfl;have t2:=bkC kb 2 rfl;have t3:=bkC kb 3 rfl;have t4:=bkC kb 4 rfl;clear kb;go_wp2_with (fail)
 go_at_call 21
 refine (mayUse_any l x.applicant x.partner x.low x.high _ w13 (RL.out w13 B13.out) HOL.out (by omega)).mono ?_;rintro e w14 ⟨rfl,hb⟩;have RG_14:=Lib.hid ((RG_13.out.below hb).mono hb.size);clear RG_13;have RH_14:=Lib.hid ((RH_13.out.below hb).mono hb.size);clear RH_13;have RK_14:=Lib.hid ((RK_13.out.below hb).mono hb.size);clear RK_13;have Q14:=Lib.hid (Q13.out.trans (hb.mono (by have:=Q13.out.size;omega)));clear Q13;have z14:=hb.size;have B14:=Lib.hid (B13.out.trans (hb.mono (by omega)));have C14:=Lib.hid (C13.out.trans (hb.mono (by omega)));clear hb t1 t2 t3 t4 C13 B13;generalize mayR l x.applicant x.partner x.low x.high=MB at *;have hmm:(MB == MB)=true:=by simp
 have kb:=KB.out _ C14.out;have t1:=bkC kb 1 rfl;have t2:=bkC kb 2 rfl;have t3:=bkC kb 3 rfl;have t4:=bkC kb 4 rfl;clear kb;go_wp2_with (fail)
 go_at_call 21
 refine (mayUse_any (zao l (zai x 2) k) x.applicant x.partner x.low x.high _ w14 RG_14.out (ins_oks HOL.out HO2.out) (by rw[zaz l _ hk];omega)).mono ?_;rintro e w15 ⟨rfl,hb⟩;have RG_15:=Lib.hid ((RG_14.out.below hb).mono hb.size);clear RG_14;have RH_15:=Lib.hid ((RH_14.out.below hb).mono hb.size);clear RH_14;have RK_15:=Lib.hid ((RK_14.out.below hb).mono hb.size);clear RK_14;have Q15:=Lib.hid (Q14.out.trans (hb.mono (by have:=Q14.out.size;omega)));clear Q14;have z15:=hb.size;have B15:=Lib.hid (B14.out.trans (hb.mono (by omega)));have C15:=Lib.hid (C14.out.trans (hb.mono (by omega)));clear hb t1 t2 t3 t4 C14 B14;rw[HM2.out];have kb:=KB.out _ C15.out;have t1:=bkC kb 1 rfl;have t2:=bkC kb 2 rfl;have t3:=bkC kb 3 rfl;have t4:=bkC kb 4 rfl;clear kb;go_wp2_with (fail)
 go_at_call 21
 refine (mayUse_any (zao l (zai x 3) k) x.applicant x.partner x.low x.high _ w15 RH_15.out (ins_oks HOL.out HO3.out) (by rw[zaz l _ hk];omega)).mono ?_;rintro e w16 ⟨rfl,hb⟩;have RG_16:=Lib.hid ((RG_15.out.below hb).mono hb.size);clear RG_15;have RH_16:=Lib.hid ((RH_15.out.below hb).mono hb.size);clear RH_15;have RK_16:=Lib.hid ((RK_15.out.below hb).mono hb.size);clear RK_15;have Q16:=Lib.hid (Q15.out.trans (hb.mono (by have:=Q15.out.size;omega)));clear Q15;have z16:=hb.size;have B16:=Lib.hid (B15.out.trans (hb.mono (by omega)));have C16:=Lib.hid (C15.out.trans (hb.mono (by omega)));clear hb t1 t2 t3 t4 C15 B15;rw[HM3.out];have kb:=KB.out _ C16.out;have t1:=bkC kb 1 rfl;have t2:=bkC kb 2 rfl;have t3:=bkC kb 3 rfl;have t4:=bkC kb 4 rfl;clear kb;go_wp2_with (fail)
 go_at_call 21
 refine (mayUse_any (zao l (zai x 4) k) x.applicant x.partner x.low x.high _ w16 RK_16.out (ins_oks HOL.out HO4.out) (by rw[zaz l _ hk];omega)).mono ?_;rintro e w17 ⟨rfl,hb⟩;have RG_17:=Lib.hid ((RG_16.out.below hb).mono hb.size);clear RG_16;have RH_17:=Lib.hid ((RH_16.out.below hb).mono hb.size);clear RH_16;have RK_17:=Lib.hid ((RK_16.out.below hb).mono hb.size);clear RK_16;have Q17:=Lib.hid (Q16.out.trans (hb.mono (by have:=Q16.out.size;omega)));clear Q16;have z17:=hb.size;have B17:=Lib.hid (B16.out.trans (hb.mono (by omega)));have C17:=Lib.hid (C16.out.trans (hb.mono (by omega)));clear hb t1 t2 t3 t4 C16 B16;rw[HM4.out];go_wp2;go_ret;exact⟨rfl,B1.out.trans (B17.out.mono z1)⟩
end Go.Proofs.YtpodllefipleiaaGreatDoor.fnRequests
