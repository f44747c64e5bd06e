/- The walk of the law FnTuning: it returns true. -/
import Derived.Test.YtpodllefipleiaaGreatDoorTn10
set_option linter.unusedVariables false
set_option linter.unusedSimpArgs false
namespace Go.Proofs.YtpodllefipleiaaGreatDoor.fnTuning
open Go.RowKit
set_option maxHeartbeats 16000000
set_option maxRecDepth 100000
theorem text_size {l:List DSample} (hn:l.length≤65) (hk:∀ x ∈ l,x.ok):(ofL (zab l)).size≤1048576:=by
 show (zab l).length≤1048576
 unfold zab
 split
 ·split
  ·decide
  ·have:=join_len (l.map zac) 32 43 (fun x hx=>by
    obtain⟨n,hn,rfl⟩:=List.mem_map.1 hx
    exact smpText_len n (hk n hn))
   rw[List.length_map] at this;exact Nat.le_trans this (by omega)
 ·simp
theorem walk (code more:List UInt8) (v0 v1:Value) (w:World) (L:LibW w) (h0:Rd w.heap.size w (bsT code) v0) (h1:Rd w.heap.size w (bsT more) v1) :
  Calls Tryz.prog 3 #[v0,v1] w fun e w'=>e=.returned (.bool true)∧Below w.heap.size w w':=by
 have HLA:=Lib.hid (b10Long_any code v0 w h0);have HLB:=Lib.hid (b10Long_any more v1 w h1);have HP:=Lib.hid (DrawFitSamples_any code v0 w h0);have HM:=Lib.hid fun (W:World) (hW:Below w.heap.size w W)=>DrawResidualOf_any more v1 W ((h1.below hW).mono hW.size)
 have HL:=Lib.hid L;obtain⟨x0,y0,rfl,_,_,_⟩:=h0.bs;obtain⟨x1,y1,rfl,_,_,_⟩:=h1.bs;clear h0 h1 L
 by_cases hlong:decide ((1048576:Int)<(code.length:Int))=true
 ·rw[hlong] at HLA
  clear hlong;go_enter Tryz.func3,Tryz.ntmps3;go_wp2_with (fail)
  go_at_call 5
  refine HLA.out.mono ?_;rintro e w' ⟨rfl,rfl⟩;go_wp2;go_ret;exact⟨rfl,Below.refl _ _⟩
 rw[Bool.not_eq_true] at hlong;rw[hlong] at HLA;clear hlong
 by_cases hlong:decide ((1048576:Int)<(more.length:Int))=true
 ·rw[hlong] at HLB
  clear hlong;go_enter Tryz.func3,Tryz.ntmps3;go_wp2_with (fail)
  go_at_call 5
  refine HLA.out.mono ?_;rintro e w' ⟨rfl,rfl⟩;go_wp2_with (fail)
  go_at_call 5
  refine HLB.out.mono ?_;rintro e w' ⟨rfl,rfl⟩;go_wp2;go_ret;exact⟨rfl,Below.refl _ _⟩
 rw[Bool.not_eq_true] at hlong;rw[hlong] at HLB;clear hlong;go_enter Tryz.func3,Tryz.ntmps3;go_wp2_with (fail)
 go_at_call 5
 refine HLA.out.mono ?_;rintro e w' ⟨rfl,rfl⟩;go_wp2_with (fail)
 go_at_call 5
 refine HLB.out.mono ?_;rintro e w' ⟨rfl,rfl⟩;clear HLA HLB;go_wp2_with (fail)
 go_at_call 6
 refine HP.out.mono ?_;rintro e w1 ⟨l,a,c,fp,hl,hk,rfl,ho,hi,b1⟩;have z1:=b1.size;have RL:=Lib.hid fun (W:World) (hW:Below w1.heap.size w1 W)=>((ho.rd hi).below hW).mono hW.size
 have HK:=Lib.hid hk;have B1:=Lib.hid b1;have HL1:=Lib.hid fun (W:World) (hW:Below w1.heap.size w1 W)=>HL.out.mono (B1.out.trans (hW.mono z1))
 clear hk ho hi b1 HP HL;go_wp2_with (fail)
 go_at_call 7
 refine (fitSamples_any l _ w1 (HL1.out w1 (Below.refl _ _)) (RL.out w1 (Below.refl _ _)) hl).mono ?_;rintro e w2 ⟨o,s,cd,ho1,hs1,rfl,hfr,b2⟩;have z2:=b2.size;have HO:=Lib.hid (And.intro ho1 hs1);have HFR:=Lib.hid hfr;have B2:=Lib.hid b2;clear ho1 hs1 hfr b2;go_upto_region 5 with (fail);obtain⟨W3,hW3,b3,z3,k3⟩:=zbi w2 #[.int .i64 o,.int .i64 s] 27;rw[hW3];clear hW3;have B3:=Lib.hid (B2.out.trans (b3.mono z2));have K3:=Lib.hid k3;clear b3 k3 B2
 by_cases hc:cd=0
 case neg =>
  obtain⟨rfl,rfl⟩:=HFR.out.bad hc;have hcb:(cd != 0)=true:=by rw[bne_iff_ne];exact hc
  have q0:=bkC K3.out 0 rfl;have q1:=bkC K3.out 1 rfl;clear hc;go_wp2;go_ret;exact⟨rfl,B1.out.trans (B3.out.mono z1)⟩
 obtain⟨hv,hn2,hD,hof,hsl,hfb⟩:=HFR.out.good hc;subst hc;have HV:=Lib.hid hv;have HFB:=Lib.hid hfb;have HLAW:Hid (∀ o2 s2:Int,devF (pts l) o s≤devF (pts l) o2 s2+30):=fun o2 s2=>by
  rw[hof,hsl];exact fit_law (pts l) (by rw[pts_len];omega) hD o2 s2
 have h64:=(smpsB_bd hv).1;have HTX:Hid (zas (bl (ofL (zab l)))=some l):=by
  show _=_
  rw[bl_ofL];exact samples_back hv (fun e=>by rw[e] at hn2;simp at hn2)
 have HSZ:=text_size hl HK.out;clear hof hsl hD hv hfb HFR;generalize hst:ofL (zab l)=st at *;go_wp2_with (fail)
 go_at_call 8
 refine (HM.out W3 (B1.out.trans (B3.out.mono z1))).mono ?_;rintro e w4 ⟨a2,n2,c2,o2,s2,ho2,hs2,rfl,b4⟩;have z4:=b4.size;have HO2:=Lib.hid (And.intro ho2 hs2);have B4:=Lib.hid (B3.out.trans (b4.mono (by omega)));have K4:=Lib.hid (bkB K3.out b4 (by omega));clear ho2 hs2 b4 HM K3 B3;go_upto_region 8 with (fail);obtain⟨W5,hW5,b5,z5,k5⟩:=zbi w4 #[.int .i64 o2,.int .i64 s2] 27;rw[hW5];clear hW5;have B5:=Lib.hid (B4.out.trans (b5.mono (by omega)));have K5:=Lib.hid (bkB K4.out b5 (by omega));have J5:=Lib.hid k5;clear b5 k5 B4 K4;have q0:=bkC K5.out 0 rfl;have q1:=bkC K5.out 1 rfl;go_wp2_with (fail)
 go_at_call 9
 refine (residualOf_any l o s _ W5 (HL1.out W5 B5.out) (RL.out W5 B5.out) HV.out (by omega)).mono ?_;rintro e w6 ⟨x,cx,hx,rfl,hx2,hx3,b6⟩;obtain rfl:=hx3 HFB.out;obtain rfl:=hx2 rfl;have z6:=b6.size;have B6:=Lib.hid (B5.out.trans (b6.mono (by omega)));have K6:=Lib.hid (bkB K5.out b6 (by omega));have J6:=Lib.hid (bkB J5.out b6 (by omega));clear b6 B5 K5 J5 q0 q1 hx2 hx3;have q0:=bkC J6.out 0 rfl;have q1:=bkC J6.out 1 rfl;go_wp2_with (fail)
 go_at_call 9
 refine (residualOf_any l o2 s2 _ w6 (HL1.out w6 B6.out) (RL.out w6 B6.out) HV.out (by omega)).mono ?_;rintro e w7 ⟨y,cy,hy,rfl,hy2,_,b7⟩;have z7:=b7.size;have B7:=Lib.hid (B6.out.trans (b7.mono (by omega)));have K7:=Lib.hid (bkB K6.out b7 (by omega));have HXY:Hid (cy=0→devF (pts l) o s≤y+30):=fun h=>by rw[hy2 h];exact HLAW.out o2 s2
 clear b7 B6 K6 J6 q0 q1 hy2 HLAW;generalize devF (pts l) o s=DX at *;go_wp2_with (fail)
 go_at_call 11
 refine (samplesText_any l _ _ w7 (HL1.out w7 B7.out) (RL.out w7 B7.out) (Nat.le_refl _) (by omega) HK.out).mono ?_;rintro e w8 ⟨rfl,b8⟩;have z8:=b8.size;have B8:=Lib.hid (B7.out.trans (b8.mono (by omega)));have K8:=Lib.hid (bkB K7.out b8 (by omega));rw[hst];clear b8 B7 K7;go_wp2_with (fail)
 go_at_call 10
 refine (iReadSamples_any st HSZ w8 (HL1.out w8 B8.out)).mono ?_;intro e w9 hrp;rw[HTX.out] at hrp;obtain⟨a9,c9,fp9,rfl,b9,_,_⟩:=hrp;have z9:=b9.size;have B9:=Lib.hid (B8.out.trans (b9.mono (by omega)));have K9:=Lib.hid (bkB K8.out b9 (by omega));have HTR:=Lib.hid fun (W:World) (hW:Below w1.heap.size w1 W)=>trimSamples_any l o s 3000 _ W (HL1.out W hW) (RL.out W hW) HV.out HFB.out (by omega) (by omega)
 clear b9 B8 K8 HTX HSZ hst;have q0:=bkC K9.out 0 rfl;have q1:=bkC K9.out 1 rfl;obtain⟨hx0,hx1⟩:=hx;obtain⟨hy0,hy1⟩:=hy;have ln:((l.length:Int) != (l.length:Int))=false:=by simp
 go_upto_region 11 with (fail);go_cut [89] (fun s89 wx=>s89=.bool false∧wx=w9)
 case first =>
  by_cases hcy:cy=0
  ·subst hcy
   have hle:=HXY.out rfl;have hgt:decide (DX > y+30)=false:=decide_eq_false (by omega);clear HXY;go_wp2;go_meet;exact⟨rfl,rfl⟩
  ·have e1:(cy == 0)=false:=by rw[beq_eq_false_iff_ne];exact hcy
   clear hcy HXY;go_wp2;go_meet;exact⟨rfl,rfl⟩
 case rest =>
  obtain⟨rfl,rfl⟩:=hcut;clear HXY hx0 hx1 hy0 hy1 ln;have hfl:(l.filter fun x=>!farB o s 3000 x).length≤l.length:=List.length_filter_le _ _;have HNR:Hid (∀ x ∈ l.filter (fun x=>!farB o s 3000 x),smpB x=true∧max (difF o s (lgI x.distance,x.level)) (-(difF o s (lgI x.distance,x.level)))≤3000):=fun x hx=>by
   obtain⟨h1,h2⟩:=List.mem_filter.1 hx;refine⟨(smpsB_bd HV.out).2 x h1,?_⟩;unfold farB at h2
   simpa using h2
  go_wp2_with (fail)
  go_at_call 12
  refine (HTR.out wc B9.out).mono ?_;rintro e w10 ⟨a10,c10,rfl,hrd,b10⟩;have z10:=b10.size;have B10:=Lib.hid (B9.out.trans (b10.mono (by omega)));have K10:=Lib.hid (bkB K9.out b10 (by omega));clear b10 B9 K9 HTR q0 q1;generalize (l.filter fun x=>!farB o s 3000 x)=R at *;obtain⟨a11,c11,e11,hnc,hcm,hcl⟩:=DSample.rd hrd;injection e11 with e12 _ e13;subst e12 e13;have HCL:=Lib.hid hcl;clear hrd hcl;have hfi:decide ((R.length:Int) > (l.length:Int))=false:=decide_eq_false (by omega);have ri:(R.length:Int)≤65:=by omega
  go_wp2;go_loopw [18] (fun i wr=>∃ k:Nat,k≤R.length∧i=.int .i64 k∧Below w10.heap.size w10 wr) (fun i wr=>R.length-(intOf i).toNat)
  case atStart=>exact⟨0,Nat.zero_le _,rfl,Below.refl _ _⟩
  case round =>
   obtain⟨k,hk,rfl,hb⟩:=hrel;have zr:=hb.size;have HB:=Lib.hid hb;clear hb
   by_cases hlt:k<R.length
   ·obtain⟨b,off,rfl,hbl,hat⟩:=HCL.out (by omega)
    obtain⟨t0,t1⟩:=hat k hlt;rw[← bat HB.out b _ hbl] at t0 t1;obtain⟨hsb,hnear⟩:=HNR.out R[k] (List.getElem_mem hlt);obtain⟨⟨d0,d1⟩,⟨e0,e1⟩⟩:=smpB_bd hsb;have hpt:=ptB_of hsb;obtain⟨_,_,⟨lv0,lv1⟩⟩:=levF_bd (d:=lgI R[k].distance) HFB.out hpt.1.1 hpt.1.2;have hkf:=bkB K10.out HB.out (by omega);have q0:=bkC hkf 0 rfl;have q1:=bkC hkf 1 rfl;have CL:Hid (∀ W:World,Below wr.heap.size wr W→Calls Tryz.prog 13 #[.agg #[.int .i64 o,.int .i64 s],.int .i64 R[k].distance] W fun e w'=>e=.returned (.tuple #[.int .i64 (levF o s (lgI R[k].distance)),.int .i64 0])∧Below W.heap.size W w'):=fun W hW=>levelOfFit_any o s _ HFB.out d0 d1 W (HL1.out W (B10.out.trans ((HB.out.trans (hW.mono zr)).mono (by omega))))
    have hdf:difF o s (lgI R[k].distance,R[k].level)=R[k].level-levF o s (lgI R[k].distance):=rfl;rw[hdf] at hnear;have i1:¬ (R[k].level-levF o s (lgI R[k].distance) > 3000):=by omega
    have i2:¬ (levF o s (lgI R[k].distance)-R[k].level > 3000):=by omega
    have i1':=decide_eq_false i1;have i2':=decide_eq_false i2;clear hat hnear hdf hpt hsb hkf i1 i2;generalize levF o s (lgI R[k].distance)=LV at *;generalize R[k].distance=dd at *;generalize R[k].level=ll at *;have yb:b<wr.heap.size:=by omega
    have yf:w2.heap.size<wr.heap.size:=by omega
    have oF:=overC (w0:=wr) yf;have oB:=overC (w0:=wr) yb;go_upto_region 19 with (fail);refine zae wr.heap.size wr (Below.refl _ _) (by kernel_rfl) (by kernel_rfl) ?_
    repeat (go_big_quiet_step (first|(go_at_call 13;with_reducible exact zay (Nat.le_refl _) (CL.out _ (zad _ _ _)))))
    refine wpQuiet_nil ?_;rintro _ ⟨Z,rfl⟩;have hX:=zad wr.heap.size wr Z;rw[← bat hX b _ yb] at t1;clear oF oB q0 q1 t0;generalize over wr.heap.size wr Z=wz at *;have HBZ:=Lib.hid (HB.out.trans (hX.mono zr));clear hX;go_wp2;go_roundw
    case rel=>exact⟨k+1,by omega,by go_num,HBZ.out⟩
    case measure=>simp[intOf];omega
   ·obtain rfl:k=R.length:=by omega
    go_wp2;go_ret;exact⟨rfl,B1.out.trans ((B10.out.trans (HB.out.mono (by omega))).mono z1)⟩
end Go.Proofs.YtpodllefipleiaaGreatDoor.fnTuning
