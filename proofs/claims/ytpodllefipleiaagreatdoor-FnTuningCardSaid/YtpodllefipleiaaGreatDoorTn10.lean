/- Contract: samples that are near to a fit, by the program. Conditions: valid samples, a valid fit and limit; the library's table holds what it holds at the start. -/
import Derived.Test.YtpodllefipleiaaGreatDoorTn9
set_option linter.unusedVariables false
set_option linter.unusedSimpArgs false
namespace Go.Proofs.YtpodllefipleiaaGreatDoor
open Go.RowKit
set_option maxHeartbeats 8000000
set_option maxRecDepth 100000
def farB (o s m:Int) (x:DSample):Bool:=decide (m<max (difF o s (lgI x.distance,x.level)) (-(difF o s (lgI x.distance,x.level))))
theorem trimClosure_any (x:DSample) (hx:smpB x=true) (o s m:Int) (hf:fitB o s=true) (bF bM:Nat) (w:World) (L:LibW w)
  (k0:w.cell? ⟨bF,0,none⟩=some (.int .i64 o)) (k1:w.cell? ⟨bF,1,none⟩=some (.int .i64 s)) (k2:w.cell? ⟨bM,0,none⟩=some (.int .i64 m)) (yF:bF<w.heap.size) (yM:bM<w.heap.size) :
  Calls Tryz.prog 39 #[.agg #[.int .i64 x.distance,.int .i64 x.level],.pointer (some ⟨bF,0,none⟩),.pointer (some ⟨bM,0,none⟩)] w fun e w'=>e=.returned (.bool (farB o s m x))∧Below w.heap.size w w':=by
 obtain⟨⟨d0,d1⟩,⟨e0,e1⟩⟩:=smpB_bd hx;have hpt:=ptB_of hx;obtain⟨_,_,⟨v0,v1⟩⟩:=levF_bd (d:=lgI x.distance) hf hpt.1.1 hpt.1.2;have hdb:=difF_bd hf hpt;have CL:Hid (∀ W:World,LibW W→Calls Tryz.prog 29 #[.agg #[.int .i64 o,.int .i64 s],.int .i64 x.distance] W fun e w'=>e=.returned (.int .i64 (levF o s (lgI x.distance)))∧Below W.heap.size W w'):=fun W hW=>fitLevel_any o s _ hf d0 d1 W hW
 have CA:Hid (∀ W:World,Calls Tryz.prog 40 #[.int .i64 (x.level-levF o s (lgI x.distance))] W fun e w'=>e=.returned (.int .i64 (max (x.level-levF o s (lgI x.distance)) (-(x.level-levF o s (lgI x.distance)))))∧Below W.heap.size W w'):=fun W=>absW_any _ (by omega) (by omega) W
 have HE:Hid (farB o s m x=decide (m<max (x.level-levF o s (lgI x.distance)) (-(x.level-levF o s (lgI x.distance))))):=rfl;have HL:=Lib.hid L;clear hpt hdb hf hx L;generalize farB o s m x=FB at *;generalize levF o s (lgI x.distance)=LV at *;generalize x.distance=dd at *;generalize x.level=ll at *;generalize max (ll-LV) (-(ll-LV))=AV at *;go_enter Tryz.func39,Tryz.ntmps39;go_upto_region 1 with (fail);obtain⟨W1,hW1,b1,z1,kx⟩:=zbi w #[.int .i64 dd,.int .i64 ll] 41;rw[hW1];clear hW1;have HB:=Lib.hid b1;have HL1:=Lib.hid (HL.out.mono b1);have s0:=bkC (v:=.int .i64 dd) kx 0 rfl;have s1:=bkC (v:=.int .i64 ll) kx 1 rfl;rw[← bat b1 bF _ yF] at k0 k1;rw[← bat b1 bM _ yM] at k2;have oX:=overC (w0:=W1) (show w.heap.size<W1.heap.size by omega);have oF:=overC (w0:=W1) (show bF<W1.heap.size by omega);have oM:=overC (w0:=W1) (show bM<W1.heap.size by omega);clear b1 kx;refine zae W1.heap.size W1 (Below.refl _ _) (by kernel_rfl) (by kernel_rfl) ?_
 repeat (go_big_quiet_step (first|(go_at_call 29;with_reducible exact zay (Nat.le_refl _) (CL.out _ (HL1.out.mono (zad _ _ _))))|(go_at_call 40;with_reducible exact zay (Nat.le_refl _) (CA.out _))))
 refine wpQuiet_nil ?_;rintro _ ⟨Y,rfl⟩;have HB2:=Lib.hid (HB.out.trans ((zad W1.heap.size W1 Y).mono HB.out.size));clear oX oF oM s0 s1 k0 k1 k2;generalize over W1.heap.size W1 Y=W2 at *;go_wp2;go_ret;exact⟨by rw[HE.out];rfl,HB2.out⟩
def TrimP (l:List DSample) (o s m:Int) (w:World) (e:Ending) (w':World):Prop:=∃ (a:Option Addr) (c:Nat),e=.returned (.tuple #[.slice a (l.filter fun x=>!farB o s m x).length c,.int .i64 0])∧Rd w'.heap.size w' (DSample.sT (l.filter fun x=>!farB o s m x)) (.slice a (l.filter fun x=>!farB o s m x).length c)∧Below w.heap.size w w'
theorem trimSamples_any (l:List DSample) (o s m:Int) (v:Value) (w:World) (L:LibW w) (h:Rd w.heap.size w (DSample.sT l) v) (hv:za9 l=true) (hf:fitB o s=true) (hm0:0≤m) (hm1:m≤600000) :
  Calls Tryz.prog 12 #[v,.agg #[.int .i64 o,.int .i64 s],.int .i64 m] w (TrimP l o s m w):=by
 have hv2:=smpsB_bd hv;have h64:=hv2.1;have HV:=Lib.hid fun (W:World) (hW:Below w.heap.size w W)=>hv ▸ zau l v w.heap.size W (h.below hW) hW.size (by omega)
 have HC:=Lib.hid fun (W:World) (hW:Below w.heap.size w W)=>cloneSample_any l v W ((h.below hW).mono hW.size) (by omega)
 have CV:Hid (∀ W:World,Calls Tryz.prog 27 #[.agg #[.int .i64 o,.int .i64 s]] W fun e w'=>e=.returned (.bool true)∧Below W.heap.size W w'):=fun W=>hf ▸ zbg o s W
 have CM:Hid (∀ W,Calls Tryz.prog 36 #[.int .i64 m] W fun e w'=>e=.returned (.bool true)∧W=w'):=fun W=>by
  have:=limitOk_any m W
  rwa [show inB m 0 600000=true by unfold inB;rw[decide_eq_true hm0,decide_eq_true hm1];rfl] at this
 have HB:=Lib.hid hv2.2;have HF:=Lib.hid hf;have HL:=Lib.hid L;obtain⟨a,c,rfl,hnc,hcm,hcl⟩:=DSample.rd h;clear h hcl hv hv2 hf L hm0 hm1;go_enter Tryz.func12,Tryz.ntmps12;go_upto_region 1 with (fail);obtain⟨W0,hW0,b0,z0,k0,k1⟩:=boxes2 w #[.int .i64 o,.int .i64 s] 27 #[.int .i64 m] 2;rw[hW0];clear hW0;have B0:=Lib.hid b0;have K0:=Lib.hid k0;have K1:=Lib.hid k1;clear b0 k0 k1;go_wp2_with (fail)
 go_at_call 24
 refine (HV.out W0 B0.out).mono ?_;rintro e W1 ⟨rfl,b1⟩;have z1:=b1.size;have B1:=Lib.hid (B0.out.trans (b1.mono (by omega)));have K2:=Lib.hid (bkB K0.out b1 (by omega));have K3:=Lib.hid (bkB K1.out b1 (by omega));clear b1 K0 K1 B0 HV;have q0:=bkC K2.out 0 rfl;have q1:=bkC K2.out 1 rfl;go_wp2_with (fail)
 go_at_call 27
 refine (CV.out W1).mono ?_;rintro e W2 ⟨rfl,b2⟩;have z2:=b2.size;have B2:=Lib.hid (B1.out.trans (b2.mono (by omega)));have K4:=Lib.hid (bkB K2.out b2 (by omega));have K5:=Lib.hid (bkB K3.out b2 (by omega));clear b2 K2 K3 B1 q0 q1 CV;have q2:=bkC K5.out 0 rfl;go_wp2_with (go_at_call 36;refine (CM.out _).mono ?_;rintro e W3 ⟨rfl,rfl⟩)
 go_at_call 38
 refine (HC.out _ B2.out).mono ?_;rintro e W4 ⟨a4,c4,fp4,rfl,b4,o4,i4⟩;have z4:=b4.size;have B4:=Lib.hid (B2.out.trans (b4.mono (by omega)));have K6:=Lib.hid (bkB K4.out b4 (by omega));have K7:=Lib.hid (bkB K5.out b4 (by omega));clear b4 q2 K4 K5 CM HC
 have HDL:=Lib.hid (deleteFuncSample_any l (farB o s m) 39 [.pointer (some ⟨w.heap.size,0,none⟩),.pointer (some ⟨w.heap.size+1,0,none⟩)] a4 c4 _ fp4 W4 o4 i4 (by omega) (by omega) (fun _ _=>by kernel_rfl) (fun x hx W hW=>by
  have yw:=hW.size;have k6:=(hW.block _ (by omega)).trans K6.out;have k7:=(hW.block _ (by omega)).trans K7.out;have bw:Below w.heap.size w W:=B4.out.trans (hW.mono (by omega))
  exact trimClosure_any x (HB.out x hx) o s m HF.out _ _ W (HL.out.mono bw) (bkC k6 0 rfl) (bkC k6 1 rfl) (bkC k7 0 rfl) (by omega) (by omega)))
 clear o4 i4 K6 K7 HB HF HL;generalize hR:(l.filter fun x=>!farB o s m x)=R at *;have HRE:=Lib.hid hR;clear hR;go_wp2_with (fail)
 go_at_call 37
 refine HDL.out.mono ?_;rintro e W5 ⟨fp5,rfl,b5,o5,i5⟩;have H5:=Lib.hid (And.intro b5 (And.intro o5 i5));clear b5 o5 i5 HDL;go_wp2;go_ret2;obtain⟨b5,o5,i5⟩:=H5.out;unfold TrimP;rw[HRE.out];exact⟨a4,c4,rfl,o5.rd i5,B4.out.trans (b5.mono (by omega))⟩
end Go.Proofs.YtpodllefipleiaaGreatDoor
