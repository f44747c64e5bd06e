/- Contract: the fit of samples by the program. Conditions: a bounded number; the library's table holds what it holds at the start. -/
import Derived.Test.YtpodllefipleiaaGreatDoorTn6
set_option linter.unusedVariables false
set_option linter.unusedSimpArgs false
namespace Go.Proofs.YtpodllefipleiaaGreatDoor
open Go.RowKit
set_option maxHeartbeats 16000000
set_option maxRecDepth 100000
structure FitR (l:List DSample) (o s c:Int):Prop where
 good:c=0→za9 l=true∧2≤l.length∧((pts l).length:Int)*sDD (pts l)≠sD (pts l)*sD (pts l)∧o=offF (pts l)∧s=zan (pts l)∧fitB o s=true
 bad:c≠0→o=0∧s=0
def FitP (l:List DSample) (w:World) (e:Ending) (w':World):Prop:=∃ o s c:Int,I64 o∧I64 s∧e=.returned (.tuple #[.agg #[.int .i64 o,.int .i64 s],.int .i64 c])∧FitR l o s c∧Below w.heap.size w w'
theorem FitR.none (l:List DSample) (c:Int) (h:c≠0):FitR l 0 0 c:=⟨fun e=>absurd e h,fun _=>⟨rfl,rfl⟩⟩
theorem fitSamples_any (l:List DSample) (v:Value) (w:World) (L:LibW w) (h:Rd w.heap.size w (DSample.sT l) v) (hn:l.length≤65):Calls Tryz.prog 7 #[v] w (FitP l w):=by
 have HV:=Lib.hid fun (W:World) (hW:Below w.heap.size w W)=>zau l v w.heap.size W (h.below hW) hW.size (by omega)
 obtain⟨a,c,rfl,hnc,hcm,hcl⟩:=DSample.rd h;have HCL:=Lib.hid hcl;have HL:=Lib.hid L;clear h hcl L;go_enter Tryz.func7,Tryz.ntmps7;go_upto_region 1 with (fail);obtain⟨W0,hW0,b0,z0,k0⟩:=zbi w #[.int .i64 0,.int .i64 0] 27;rw[hW0];clear hW0;have B0:=Lib.hid b0;have K0:=Lib.hid k0;clear b0 k0;go_wp2_with (fail)
 go_at_call 24
 refine (HV.out W0 B0.out).mono ?_;rintro e W1 ⟨rfl,b1⟩;have z1:=b1.size;have B1:=Lib.hid (B0.out.trans (b1.mono (by omega)));have K1:=Lib.hid (bkB K0.out b1 (by omega));clear b1 K0 B0 HV
 by_cases hv:za9 l=true
 case neg =>
  have hv':za9 l=false:=Bool.eq_false_iff.2 hv;rw[hv'];clear hv hv' HCL;have q0:=bkC K1.out 0 rfl;have q1:=bkC K1.out 1 rfl;have f0:=bkF K1.out 0;have f1:=bkF K1.out 1;go_wp2;exact bodyPost_ret (v:=.tuple #[.agg #[.int .i64 0,.int .i64 0],.int .i64 1]) (by simp[results,Tryz.results7,go_sem, *]) rfl ⟨0,0,1,⟨by omega,by omega⟩,⟨by omega,by omega⟩,rfl,FitR.none l 1 (by decide),(B1.out.setCell (Nat.le_refl _) _).setCell (Nat.le_refl _) _⟩
 rw[hv];have hv2:=smpsB_bd hv;have h64:=hv2.1;have HB:=Lib.hid hv2.2;have HVV:=Lib.hid hv;have HPT:=Lib.hid fun (k:Nat)=>sums_bd (pts (l.take k)) (by rw[pts_len,List.length_take];omega) (fun x hx=>pts_ptB hv x (by rw[← pts_take] at hx;exact List.mem_of_mem_take hx))
 clear hv hv2;go_wp2;go_loopw [5,6,7,8,21] (fun x y u z i wr=>∃ k:Nat,k≤l.length∧i=.int .i64 k∧x=.int .i64 (sD (pts (l.take k)))∧y=.int .i64 (sY (pts (l.take k)))∧u=.int .i64 (sDD (pts (l.take k)))∧z=.int .i64 (sDY (pts (l.take k)))∧Below W1.heap.size W1 wr) (fun _ _ _ _ i wr=>l.length-(intOf i).toNat)
 case atStart=>exact⟨0,Nat.zero_le _,rfl,rfl,rfl,rfl,rfl,Below.refl _ _⟩
 case round =>
  obtain⟨k,hk,rfl,rfl,rfl,rfl,rfl,hb⟩:=hrel;have zr:=hb.size;have HBR:=Lib.hid hb;have HBW:=Lib.hid (B1.out.trans (hb.mono (by omega)));obtain⟨⟨x0,x1⟩,⟨y0,y1⟩,⟨u0,u1⟩,⟨v0,v1⟩⟩:=HPT.out k;clear hb
  by_cases hlt:k<l.length
  ·obtain⟨b,off,rfl,hbl,hat⟩:=HCL.out (by omega)
   obtain⟨s0,s1⟩:=hat k hlt;rw[← bat HBW.out b _ hbl] at s0 s1;obtain⟨⟨d0,d1⟩,⟨e0,e1⟩⟩:=smpB_bd (HB.out l[k] (List.getElem_mem hlt));have HSS:=Lib.hid (sums_succ l k hlt);have hbd2:=HPT.out (k+1);rw[HSS.out.1,HSS.out.2.1,HSS.out.2.2.1,HSS.out.2.2.2] at hbd2;obtain⟨⟨x2,x3⟩,⟨y2,y3⟩,⟨u2,u3⟩,⟨v2,v3⟩⟩:=hbd2;obtain⟨lg0,lg1⟩:=lgI_bd (n:=l[k].distance) (by omega);have p0:=zbp (a:=lgI l[k].distance) (b:=lgI l[k].distance) (A:=190000) (B:=190000) (by omega) (by omega) (by omega) (by omega) (by omega);have p1:=zbp (a:=lgI l[k].distance) (b:=l[k].level) (A:=190000) (B:=300000) (by omega) (by omega) (by omega) (by omega) (by omega);have CL:Hid (∀ W:World,LibW W→Calls Tryz.prog 25 #[.int .i64 l[k].distance] W fun e w'=>e=.returned (.int .i64 (lgI l[k].distance))∧Below W.heap.size W w'):=fun W hW=>iLogDb_any _ (by omega) (by omega) W hW
   clear hat;generalize lgI l[k].distance=lg at *;generalize l[k].distance=dd at *;generalize l[k].level=ll at *;generalize sD (pts (l.take k))=X at *;generalize sY (pts (l.take k))=Y at *;generalize sDD (pts (l.take k))=U at *;generalize sDY (pts (l.take k))=V at *;have yb:b<wr.heap.size:=by have:=HBW.out.size;omega
   go_upto_region 7 with (fail);obtain⟨W2,hW2,b2,z2,k2⟩:=zbi wr #[.int .i64 dd,.int .i64 ll] 41;rw[hW2];clear hW2;have q0:=bkC (v:=.int .i64 dd) k2 0 rfl;have K2:=Lib.hid k2;have HBR2:=Lib.hid (HBR.out.trans (b2.mono zr));have HL2:=Lib.hid (HL.out.mono (HBW.out.trans (b2.mono HBW.out.size)));clear b2 k2 s0 s1;go_wp2_with (fail)
   go_at_call 25
   refine (CL.out _ HL2.out).mono ?_;rintro e W3 ⟨rfl,b3⟩;have z3:=b3.size;have k3:=bkB K2.out b3 (by omega);have q1:=bkC (v:=.int .i64 ll) k3 1 rfl;have HBR3:=Lib.hid (HBR2.out.trans (b3.mono (by omega)));have o0:=overC (w0:=W3) (show wr.heap.size<W3.heap.size by omega);clear b3 k3 q0 K2 HBR2 HL2 CL;go_upto_region 8 with (fail);refine zae W3.heap.size W3 (Below.refl _ _) (by kernel_rfl) (by kernel_rfl) ?_
   repeat (go_big_quiet_step (fail))
   refine wpQuiet_nil ?_;rintro _ ⟨Z,rfl⟩;have HBR4:=Lib.hid (HBR3.out.trans ((zad W3.heap.size W3 Z).mono (by omega)));clear o0 q1;generalize over W3.heap.size W3 Z=W4 at *;go_wp2;go_roundw
   case rel=>exact⟨k+1,by omega,by go_num,by rw[HSS.out.1],by rw[HSS.out.2.1],by rw[HSS.out.2.2.1],by rw[HSS.out.2.2.2],HBR4.out⟩
   case measure=>simp[intOf];omega
  ·obtain rfl:k=l.length:=by omega
   have hpt:=HPT.out l.length;have HPA:=Lib.hid fun x hx=>pts_ptB HVV.out x hx
   rw[List.take_length] at x0 x1 y0 y1 u0 u1 v0 v1 hpt ⊢;clear hpt HCL HB HPT;have n0:(0:Int)≤(l.length:Int):=by omega
   have n1:(l.length:Int)≤64:=by omega
   have HPL:=Lib.hid (pts_len l);obtain⟨pu0,pu1⟩:=zbp (a:=(l.length:Int)) (b:=sDD (pts l)) (A:=64) (B:=2310400000000) n0 n1 (by omega) u1 (by omega);obtain⟨pv0,pv1⟩:=zbp (a:=(l.length:Int)) (b:=sDY (pts l)) (A:=64) (B:=3648000000000) n0 n1 v0 v1 (by omega);obtain⟨px0,px1⟩:=zbp (a:=sD (pts l)) (b:=sD (pts l)) (A:=12160000) (B:=12160000) x0 x1 (by omega) x1 (by omega);obtain⟨py0,py1⟩:=zbp (a:=sD (pts l)) (b:=sY (pts l)) (A:=12160000) (B:=19200000) x0 x1 y0 y1 (by omega);have k1:=bkB K1.out HBR.out (by omega);have HK:=Lib.hid k1;clear k1 K1
   by_cases c2:(l.length:Int)<2
   ·have f0:=bkF HK.out 0
    have f1:=bkF HK.out 1;have q0:=bkC HK.out 0 rfl;have q1:=bkC HK.out 1 rfl;generalize sD (pts l)=X at *;generalize sY (pts l)=Y at *;generalize sDD (pts l)=U at *;generalize sDY (pts l)=V at *;go_wp2;exact bodyPost_ret (v:=.tuple #[.agg #[.int .i64 0,.int .i64 0],.int .i64 6]) (by simp[results,Tryz.results7,go_sem, *]) rfl ⟨0,0,6,⟨by omega,by omega⟩,⟨by omega,by omega⟩,rfl,FitR.none l 6 (by decide),(HBW.out.setCell (Nat.le_refl _) _).setCell (Nat.le_refl _) _⟩
   by_cases c3:(l.length:Int)*sDD (pts l)=sD (pts l)*sD (pts l)
   ·have f0:=bkF HK.out 0
    have f1:=bkF HK.out 1;have q0:=bkC HK.out 0 rfl;have q1:=bkC HK.out 1 rfl;generalize sD (pts l)=X at *;generalize sY (pts l)=Y at *;generalize sDD (pts l)=U at *;generalize sDY (pts l)=V at *;have c4:((l.length:Int)*U == X*X)=true:=by rw[beq_iff_eq];exact c3
    have c5:decide ((l.length:Int)<2)=false:=decide_eq_false c2;clear c3 c2;go_wp2;exact bodyPost_ret (v:=.tuple #[.agg #[.int .i64 0,.int .i64 0],.int .i64 6]) (by simp[results,Tryz.results7,go_sem, *]) rfl ⟨0,0,6,⟨by omega,by omega⟩,⟨by omega,by omega⟩,rfl,FitR.none l 6 (by decide),(HBW.out.setCell (Nat.le_refl _) _).setCell (Nat.le_refl _) _⟩
   have hne:((pts l).length:Int)*sDD (pts l)≠sD (pts l)*sD (pts l):=by rw[pts_len];exact c3
   have hsp:=slope_pos (pts l);obtain⟨sb0,sb1⟩:=slope_bd (pts l) (fun x hx=>(HPA.out x hx).2) hne;have HSL:Hid (zan (pts l)=rdiv (-1000*((l.length:Int)*sDY (pts l)-sD (pts l)*sY (pts l))) ((l.length:Int)*sDD (pts l)-sD (pts l)*sD (pts l))):=by show _=_;unfold zan;rw[pts_len]
   have HOF:Hid (offF (pts l)=rdiv (1000*sY (pts l)+zan (pts l)*sD (pts l)) (1000*(l.length:Int))):=by show _=_;unfold offF;rw[pts_len]
   have HGD:Hid (∀ b:Bool,b=fitB (offF (pts l)) (zan (pts l))→b=true→FitR l (offF (pts l)) (zan (pts l)) 0):=fun b hb ht=>⟨fun _=>⟨HVV.out,by omega,hne,rfl,rfl,by rw[← hb];exact ht⟩,fun h=>absurd rfl h⟩
   rw[pts_len] at hsp;have hd1:1≤(l.length:Int)*sDD (pts l)-sD (pts l)*sD (pts l):=by omega
   obtain⟨ps0,ps1⟩:=zbp (a:=sD (pts l)) (b:=zan (pts l)) (A:=12160000) (B:=600000001) x0 x1 (by omega) (by omega) (by omega);rw[Int.mul_comm (sD (pts l)) (zan (pts l))] at ps0 ps1;have hob:=rdiv_bd (a:=1000*sY (pts l)+zan (pts l)*sD (pts l)) (b:=1000*(l.length:Int)) (by omega) 8000000000000000 (by omega) (by omega);rw[← HOF.out] at hob;have CD1:Hid (∀ W:World,Calls Tryz.prog 26 #[.int .i64 (-1000*((l.length:Int)*sDY (pts l)-sD (pts l)*sY (pts l))),.int .i64 ((l.length:Int)*sDD (pts l)-sD (pts l)*sD (pts l))] W fun e w'=>e=.returned (.int .i64 (zan (pts l)))∧Below W.heap.size W w'):=fun W=>by
    rw[HSL.out];exact divRound_any _ _ hd1 (by omega) (by omega) (by omega) W
   have CD2:Hid (∀ W:World,Calls Tryz.prog 26 #[.int .i64 (1000*sY (pts l)+zan (pts l)*sD (pts l)),.int .i64 (1000*(l.length:Int))] W fun e w'=>e=.returned (.int .i64 (offF (pts l)))∧Below W.heap.size W w'):=fun W=>by
    rw[HOF.out];exact divRound_any _ _ (by omega) (by omega) (by omega) (by omega) W
   have c4:((l.length:Int)*sDD (pts l) == sD (pts l)*sD (pts l))=false:=by rw[beq_eq_false_iff_ne];exact c3
   have c5:decide ((l.length:Int)<2)=false:=decide_eq_false c2;clear HSL HOF hne hsp c3 HPA;generalize zan (pts l)=SL at *;generalize offF (pts l)=OF at *;generalize sD (pts l)=X at *;generalize sY (pts l)=Y at *;generalize sDD (pts l)=U at *;generalize sDY (pts l)=V at *;go_wp2_with (fail)
   go_at_call 26
   refine (CD1.out _).mono ?_;rintro e W2 ⟨rfl,b2⟩;have z2:=b2.size;have HB2:=Lib.hid (HBW.out.trans (b2.mono HBW.out.size));have HK2:=Lib.hid (bkB HK.out b2 (by omega));clear b2 HK CD1 HBR HBW;go_upto_region 13 with (fail);obtain⟨W3,hW3,b3,z3,k3⟩:=zbi W2 #[.int .i64 0,.int .i64 SL] 27;rw[hW3];clear hW3;have HB3:=Lib.hid (HB2.out.trans (b3.mono HB2.out.size));have HK3:=Lib.hid (bkB HK2.out b3 (by omega));have HF3:=Lib.hid k3;have q1:=bkC k3 1 rfl;clear b3 k3 HK2 HB2;go_wp2_with (fail)
   go_at_call 26
   refine (CD2.out _).mono ?_;rintro e W4 ⟨rfl,b4⟩;have z4:=b4.size;have HB4:=Lib.hid (HB3.out.trans (b4.mono HB3.out.size));have HK4:=Lib.hid (bkB HK3.out b4 (by omega));have HF4:=Lib.hid (bkB HF3.out b4 (by omega));clear b4 HK3 HB3 HF3 q1 CD2;have q0:=bkC HF4.out 0 rfl;have f0:=bkF HF4.out 0;go_upto_region 14 with (fail);have HF5:=Lib.hid (bkS0 HF4.out (.int .i64 OF));have HK5:=Lib.hid (bkO HK4.out (p:=⟨W2.heap.size,0,none⟩) (by show w.heap.size≠W2.heap.size;omega) (.int .i64 OF));have HB5:=Lib.hid (HB4.out.setCell (p:=⟨W2.heap.size,0,none⟩) (show w.heap.size≤W2.heap.size by omega) (.int .i64 OF));have z5:(W4.setCell ⟨W2.heap.size,0,none⟩ (.int .i64 OF)).heap.size=W4.heap.size:=zak _ _ _;generalize W4.setCell ⟨W2.heap.size,0,none⟩ (.int .i64 OF)=W5 at *;clear HF4 HK4 HB4 q0 f0;have q0:=bkC HF5.out 0 rfl;have q1:=bkC HF5.out 1 rfl;go_wp2_with (fail)
   go_at_call 27
   refine (zbg OF SL W5).mono ?_;rintro e W6 ⟨rfl,b6⟩;have z6:=b6.size;have HB6:=Lib.hid (HB5.out.trans (b6.mono HB5.out.size));have HK6:=Lib.hid (bkB HK5.out b6 (by omega));have HF6:=Lib.hid (bkB HF5.out b6 (by omega));clear b6 HK5 HB5 HF5 q0 q1;generalize hfb:fitB OF SL=fb at *;have q0:=bkC HK6.out 0 rfl;have q1:=bkC HK6.out 1 rfl;have f0:=bkF HK6.out 0;have f1:=bkF HK6.out 1;have r0:=bkC HF6.out 0 rfl;have r1:=bkC HF6.out 1 rfl
   cases fb with
   | true =>
    have HG:=Lib.hid (HGD.out true rfl rfl);clear HGD hfb;go_wp2;exact bodyPost_ret (v:=.tuple #[.agg #[.int .i64 OF,.int .i64 SL],.int .i64 0]) (by simp[results,Tryz.results7,go_sem, *]) rfl ⟨OF,SL,0,⟨by omega,by omega⟩,⟨by omega,by omega⟩,rfl,HG.out,(HB6.out.setCell (Nat.le_refl _) _).setCell (Nat.le_refl _) _⟩
   | false =>
    clear HGD hfb;go_wp2;exact bodyPost_ret (v:=.tuple #[.agg #[.int .i64 0,.int .i64 0],.int .i64 2]) (by simp[results,Tryz.results7,go_sem, *]) rfl ⟨0,0,2,⟨by omega,by omega⟩,⟨by omega,by omega⟩,rfl,FitR.none l 2 (by decide),(HB6.out.setCell (Nat.le_refl _) _).setCell (Nat.le_refl _) _⟩
end Go.Proofs.YtpodllefipleiaaGreatDoor
