/- Contracts: places in a terrain, for the program and for the reference. Conditions: bounded sizes. -/
import Derived.Test.YtpakghepnahooaaGreatDoorPl1
import Derived.Test.YtpakghepnahooaaGreatDoorBox
import Derived.Test.YtpakghepnahooaaGreatDoorOverTail
import Derived.Lib.MinMax
import Derived.Test.YtpakghepnahooaaGreatDoorNetD
set_option linter.unusedVariables false
set_option linter.unusedSimpArgs false
namespace Go.Proofs.YtpakghepnahooaaGreatDoor
set_option maxHeartbeats 8000000
set_option maxRecDepth 100000
open Go.RowKit
def cntB (x:DBand):Int:=(x.high-x.low).tdiv x.raster
def zcn (x:DBand):Bool:=za4 x.name&&(inB x.low 1 100000000&&(inB x.high x.low 100000000&&(inB x.raster 1 100000&&(inB (cntB x) 1 1000&&((x.duplex == 0) || inB x.duplex (x.high-x.low) (100000000-x.high))))))
theorem cntB_of {x:DBand} (h:0≤x.high-x.low):cntB x=(x.high-x.low) / x.raster:=Int.tdiv_eq_ediv_of_nonneg h
theorem zdr (x:DBand) (h1:1≤x.low) (h2:x.low≤100000000) (h3:1≤x.high) (h4:x.high≤100000000) (h5:1≤x.raster) (h6:x.raster≤100000) (h7:x.low≤x.high) (w:World) :
  Calls Tryz.prog 88 #[.agg #[IQ x.name,J x.low,J x.high,J x.raster,J x.duplex]] w fun e w'=>e=.returned (J (cntB x))∧OI w w w':=by
 have h8:0≤x.high-x.low:=II
 have HC:=IJ (cntB_of h8);go_enter Tryz.func88,Tryz.ntmps88;go_wp2;go_ret;exact⟨by rw[HC.out];rfl,(Below.refl _ _).alloc (Nat.le_refl _) _⟩
theorem validBand_any (x:DBand) (k0:x.name.size≤maxLen) (w:World) :
  Calls Tryz.prog 84 #[.agg #[IQ x.name,J x.low,J x.high,J x.raster,J x.duplex]] w fun e w'=>e=.returned (.bool (zcn x))∧OI w w w':=by
 have B0:Hid (OI w w (w.alloc (.cells #[IQ x.name,J x.low,J x.high,J x.raster,J x.duplex] 102))):=(Below.alloc (Below.refl _ _) (by first|exact Nat.le_refl _|(simp;done)|(simp<;>omega)) _)
 have HD:Hid (∀ W:World,OI (w.alloc (.cells #[IQ x.name,J x.low,J x.high,J x.raster,J x.duplex] 102)).heap.size (w.alloc (.cells #[IQ x.name,J x.low,J x.high,J x.raster,J x.duplex] 102)) W→(W.cell? ⟨w,0,none⟩=some (IQ x.name)∧W.cell? ⟨w,1,none⟩=some (J x.low)∧W.cell? ⟨w,2,none⟩=some (J x.high)∧W.cell? ⟨w,3,none⟩=some (J x.raster)∧W.cell? ⟨w,4,none⟩=some (J x.duplex))):=fun W hW=>⟨by rw[hW.cell (p:=⟨w,0,none⟩) (by first|(simp;done)|(simp<;>omega))];simp[go_sem],by rw[hW.cell (p:=⟨w,1,none⟩) (by first|(simp;done)|(simp<;>omega))];simp[go_sem],by rw[hW.cell (p:=⟨w,2,none⟩) (by first|(simp;done)|(simp<;>omega))];simp[go_sem],by rw[hW.cell (p:=⟨w,3,none⟩) (by first|(simp;done)|(simp<;>omega))];simp[go_sem],by rw[hW.cell (p:=⟨w,4,none⟩) (by first|(simp;done)|(simp<;>omega))];simp[go_sem]⟩
 have HB:Hid (OI (w.alloc (.cells #[IQ x.name,J x.low,J x.high,J x.raster,J x.duplex] 102)).heap.size (w.alloc (.cells #[IQ x.name,J x.low,J x.high,J x.raster,J x.duplex] 102)) (w.alloc (.cells #[IQ x.name,J x.low,J x.high,J x.raster,J x.duplex] 102))):=Below.refl _ _
 by_cases h0:za4 x.name=true
 case neg =>
  replace h0:za4 x.name=false:=Bool.eq_false_iff.2 h0;have HE:Hid (zcn x=false):=by show _=_;unfold zcn;simp only[h0]<;>rfl
  go_enter Tryz.func84,Tryz.ntmps84;go_wp2_with (first|(go_at_call 85;refine (zal _ _ (by assumption)).mono ?_;rintro e w1 ⟨rfl,rfl⟩)|(go_at_call 34;refine (zai _ _ _ _).mono ?_;rintro e w1 ⟨rfl,rfl⟩)|(go_at_call 88;refine (zdr x II II II II II II II _).mono ?_;rintro e w2 ⟨rfl,hb2⟩;(try clear t0 t1 t2 t3 t4);replace HB:=IJ (HB.out.trans (hb2.mono HB.out.size));clear hb2;obtain⟨t0,t1,t2,t3,t4⟩:=HD.out _ HB.out));go_ret;exact⟨by rw[HE.out];rfl,by exact B0.out.trans (HB.out.mono (by first|exact Nat.le_refl _|(simp;done)|(simp<;>omega)))⟩
 by_cases h1:inB x.low 1 100000000=true
 case neg =>
  replace h1:inB x.low 1 100000000=false:=Bool.eq_false_iff.2 h1;have HE:Hid (zcn x=false):=by show _=_;unfold zcn;simp only[h0,h1]<;>rfl
  go_enter Tryz.func84,Tryz.ntmps84;go_wp2_with (first|(go_at_call 85;refine (zal _ _ (by assumption)).mono ?_;rintro e w1 ⟨rfl,rfl⟩)|(go_at_call 34;refine (zai _ _ _ _).mono ?_;rintro e w1 ⟨rfl,rfl⟩)|(go_at_call 88;refine (zdr x II II II II II II II _).mono ?_;rintro e w2 ⟨rfl,hb2⟩;(try clear t0 t1 t2 t3 t4);replace HB:=IJ (HB.out.trans (hb2.mono HB.out.size));clear hb2;obtain⟨t0,t1,t2,t3,t4⟩:=HD.out _ HB.out));go_ret;exact⟨by rw[HE.out];rfl,by exact B0.out.trans (HB.out.mono (by first|exact Nat.le_refl _|(simp;done)|(simp<;>omega)))⟩
 obtain⟨hah1,hbh1⟩:=zau.1 h1
 by_cases h2:inB x.high x.low 100000000=true
 case neg =>
  replace h2:inB x.high x.low 100000000=false:=Bool.eq_false_iff.2 h2;have HE:Hid (zcn x=false):=by show _=_;unfold zcn;simp only[h0,h1,h2]<;>rfl
  go_enter Tryz.func84,Tryz.ntmps84;go_wp2_with (first|(go_at_call 85;refine (zal _ _ (by assumption)).mono ?_;rintro e w1 ⟨rfl,rfl⟩)|(go_at_call 34;refine (zai _ _ _ _).mono ?_;rintro e w1 ⟨rfl,rfl⟩)|(go_at_call 88;refine (zdr x II II II II II II II _).mono ?_;rintro e w2 ⟨rfl,hb2⟩;(try clear t0 t1 t2 t3 t4);replace HB:=IJ (HB.out.trans (hb2.mono HB.out.size));clear hb2;obtain⟨t0,t1,t2,t3,t4⟩:=HD.out _ HB.out));go_ret;exact⟨by rw[HE.out];rfl,by exact B0.out.trans (HB.out.mono (by first|exact Nat.le_refl _|(simp;done)|(simp<;>omega)))⟩
 obtain⟨hah2,hbh2⟩:=zau.1 h2
 by_cases h3:inB x.raster 1 100000=true
 case neg =>
  replace h3:inB x.raster 1 100000=false:=Bool.eq_false_iff.2 h3;have HE:Hid (zcn x=false):=by show _=_;unfold zcn;simp only[h0,h1,h2,h3]<;>rfl
  go_enter Tryz.func84,Tryz.ntmps84;go_wp2_with (first|(go_at_call 85;refine (zal _ _ (by assumption)).mono ?_;rintro e w1 ⟨rfl,rfl⟩)|(go_at_call 34;refine (zai _ _ _ _).mono ?_;rintro e w1 ⟨rfl,rfl⟩)|(go_at_call 88;refine (zdr x II II II II II II II _).mono ?_;rintro e w2 ⟨rfl,hb2⟩;(try clear t0 t1 t2 t3 t4);replace HB:=IJ (HB.out.trans (hb2.mono HB.out.size));clear hb2;obtain⟨t0,t1,t2,t3,t4⟩:=HD.out _ HB.out));go_ret;exact⟨by rw[HE.out];rfl,by exact B0.out.trans (HB.out.mono (by first|exact Nat.le_refl _|(simp;done)|(simp<;>omega)))⟩
 obtain⟨hah3,hbh3⟩:=zau.1 h3
 by_cases h4:inB (cntB x) 1 1000=true
 case neg =>
  replace h4:inB (cntB x) 1 1000=false:=Bool.eq_false_iff.2 h4;have HE:Hid (zcn x=false):=by show _=_;unfold zcn;simp only[h0,h1,h2,h3,h4]<;>rfl
  go_enter Tryz.func84,Tryz.ntmps84;go_wp2_with (first|(go_at_call 85;refine (zal _ _ (by assumption)).mono ?_;rintro e w1 ⟨rfl,rfl⟩)|(go_at_call 34;refine (zai _ _ _ _).mono ?_;rintro e w1 ⟨rfl,rfl⟩)|(go_at_call 88;refine (zdr x II II II II II II II _).mono ?_;rintro e w2 ⟨rfl,hb2⟩;(try clear t0 t1 t2 t3 t4);replace HB:=IJ (HB.out.trans (hb2.mono HB.out.size));clear hb2;obtain⟨t0,t1,t2,t3,t4⟩:=HD.out _ HB.out));go_ret;exact⟨by rw[HE.out];rfl,by exact B0.out.trans (HB.out.mono (by first|exact Nat.le_refl _|(simp;done)|(simp<;>omega)))⟩
 by_cases h5:(x.duplex == 0)=true
 case neg =>
  replace h5:(x.duplex == 0)=false:=Bool.eq_false_iff.2 h5
  by_cases h6:inB x.duplex (x.high-x.low) (100000000-x.high)=true
  case neg =>
   replace h6:inB x.duplex (x.high-x.low) (100000000-x.high)=false:=Bool.eq_false_iff.2 h6;have HE:Hid (zcn x=false):=by show _=_;unfold zcn;simp only[h0,h1,h2,h3,h4,h5,h6]<;>rfl
   go_enter Tryz.func84,Tryz.ntmps84;go_wp2_with (first|(go_at_call 85;refine (zal _ _ (by assumption)).mono ?_;rintro e w1 ⟨rfl,rfl⟩)|(go_at_call 34;refine (zai _ _ _ _).mono ?_;rintro e w1 ⟨rfl,rfl⟩)|(go_at_call 88;refine (zdr x II II II II II II II _).mono ?_;rintro e w2 ⟨rfl,hb2⟩;(try clear t0 t1 t2 t3 t4);replace HB:=IJ (HB.out.trans (hb2.mono HB.out.size));clear hb2;obtain⟨t0,t1,t2,t3,t4⟩:=HD.out _ HB.out));go_ret;exact⟨by rw[HE.out];rfl,by exact B0.out.trans (HB.out.mono (by first|exact Nat.le_refl _|(simp;done)|(simp<;>omega)))⟩
  have HE:Hid (zcn x=true):=by show _=_;unfold zcn;simp only[h0,h1,h2,h3,h4,h5,h6]<;>rfl
  go_enter Tryz.func84,Tryz.ntmps84;go_wp2_with (first|(go_at_call 85;refine (zal _ _ (by assumption)).mono ?_;rintro e w1 ⟨rfl,rfl⟩)|(go_at_call 34;refine (zai _ _ _ _).mono ?_;rintro e w1 ⟨rfl,rfl⟩)|(go_at_call 88;refine (zdr x II II II II II II II _).mono ?_;rintro e w2 ⟨rfl,hb2⟩;(try clear t0 t1 t2 t3 t4);replace HB:=IJ (HB.out.trans (hb2.mono HB.out.size));clear hb2;obtain⟨t0,t1,t2,t3,t4⟩:=HD.out _ HB.out));go_ret;exact⟨by rw[HE.out];rfl,by exact B0.out.trans (HB.out.mono (by first|exact Nat.le_refl _|(simp;done)|(simp<;>omega)))⟩
 have HE:Hid (zcn x=true):=by show _=_;unfold zcn;simp only[h0,h1,h2,h3,h4,h5]<;>rfl
 go_enter Tryz.func84,Tryz.ntmps84;go_wp2_with (first|(go_at_call 85;refine (zal _ _ (by assumption)).mono ?_;rintro e w1 ⟨rfl,rfl⟩)|(go_at_call 34;refine (zai _ _ _ _).mono ?_;rintro e w1 ⟨rfl,rfl⟩)|(go_at_call 88;refine (zdr x II II II II II II II _).mono ?_;rintro e w2 ⟨rfl,hb2⟩;(try clear t0 t1 t2 t3 t4);replace HB:=IJ (HB.out.trans (hb2.mono HB.out.size));clear hb2;obtain⟨t0,t1,t2,t3,t4⟩:=HD.out _ HB.out));go_ret;exact⟨by rw[HE.out];rfl,by exact B0.out.trans (HB.out.mono (by first|exact Nat.le_refl _|(simp;done)|(simp<;>omega)))⟩
open Go.RowKit
open Go.RowKit
def gBand (l:List DBand) (i:Nat):DBand:=l.getD i ⟨⟨#[]⟩,0,0,0,0⟩
theorem zel {l:List DBand} {i:Nat} (h:i<l.length):l[i]=gBand l i:=by simp[gBand,h]
def zfc (p x:DBand):Bool:=ltS p.name x.name
def zdz (l:List DBand):Bool:=decide (l.length≤8)&&zay zcn zfc l
theorem iValidBands_any (l:List DBand) (v:Value) (B:Nat) (w:World) (h:Rd B w (DBand.sT l) v) (hB:B≤w.heap.size) (hk:∀ x ∈ l,x.ok) (hn:l.length≤1099511627776) :
  Calls Tryz.prog 48 #[v] w fun e w'=>e=.returned (.bool (zdz l))∧OI w w w':=by
 obtain⟨a,c,rfl,hnc,hcm,hcells⟩:=DBand.rd h;clear h;have HCL:=IJ hcells;clear hcells
 by_cases hlim:l.length≤8
 case neg =>
  have hx:8<l.length:=II
  have hx2:(8:Int)<(l.length:Int):=II
  have HE:Hid (zdz l=false):=by show _=_;unfold zdz;rw[decide_eq_false hlim];simp
  go_enter Tryz.func48,Tryz.ntmps48;go_wp2;go_ret;exact⟨by rw[HE.out];rfl,Below.refl _ _⟩
 have hli:(l.length:Int)≤8:=II
 have HE:Hid (zdz l=zay zcn zfc l):=by show _=_;unfold zdz;rw[decide_eq_true hlim];simp
 go_enter Tryz.func48,Tryz.ntmps48;go_wp2;go_loopw [10] (fun i wr=>∃ (k:Nat),k≤l.length∧i=J k∧(∀ j,j<k→upOk zcn zfc l j=true)∧OI w w wr) (fun i wr=>l.length-(intOf i).toNat)
 case atStart=>exact⟨0,Nat.zero_le _,rfl,fun j hj=>absurd hj II,Below.refl _ _⟩
 case round =>
  obtain⟨k,hk1,rfl,hno,hb⟩:=hrel;have HN:=IJ hno;have HB:=IJ hb;have zb:=hb.size;clear hno hb
  by_cases hlt:k<l.length
  ·obtain⟨b,off,ea,hbl,hat⟩:=HCL.out II
   subst ea;obtain⟨s0,s1,s2,s3,s4⟩:=hat k hlt;have hok:=hk _ (List.getElem_mem hlt);have ks0:=hok.name;have hbw:b<w.heap.size:=II
   rw[← bat HB.out b _ hbw] at s0 s1 s2 s3 s4;have sp:0<k→wr.cell? ⟨b,off+(k-1)*5,none⟩=some (IQ (gBand l (k-1)).name):=fun h=>by
    have t:=(hat (k-1) II).1;rw[← bat HB.out b _ hbw,zel (show k-1<l.length by omega)] at t;exact t
   have SP:=IJ sp;clear sp hat;have HUN:Hid (zcn (gBand l k)=false→zay zcn zfc l=false):=fun h=>zaw hlt (zdl hlt (by rw[zel hlt];exact h))
   have HUZ:Hid (k=0→zcn (gBand l k)=true→upOk zcn zfc l k=true):=fun e h=>by subst e;rw[zca hlt,zel hlt];exact h
   have HUP:Hid (0<k→upOk zcn zfc l k=(zcn (gBand l k)&&zfc (gBand l (k-1)) (gBand l k))):=fun h=>by rw[zcc h hlt,zel hlt,zel (show k-1<l.length by omega)]
   rw[zel hlt] at s0 s1 s2 s3 s4 ks0;generalize hA:gBand l k=A at *;generalize hP:gBand l (k-1)=P at *;clear hA hP hok;have i1:(0:Int)≤(k:Int):=II
   have i2:(k:Int)<(l.length:Int):=II
   have yb:b<wr.heap.size:=II
   have HV:Hid (∀ W:World,Calls Tryz.prog 84 #[.agg #[IQ A.name,J A.low,J A.high,J A.raster,J A.duplex]] W fun e w'=>e=.returned (.bool (zcn A))∧OI W W w'):=fun W=>validBand_any A ks0 W
   go_wp2;have b1:OI wr wr (wr.alloc (.cells #[IQ A.name,J A.low,J A.high,J A.raster,J A.duplex] 102)):=(Below.refl _ _).alloc (Nat.le_refl _) _;have f0:(wr.alloc (.cells #[IQ A.name,J A.low,J A.high,J A.raster,J A.duplex] 102)).cell? ⟨wr,0,none⟩=some (IQ A.name):=by simp[go_sem]
   have f1:(wr.alloc (.cells #[IQ A.name,J A.low,J A.high,J A.raster,J A.duplex] 102)).cell? ⟨wr,1,none⟩=some (J A.low):=by simp[go_sem]
   have f2:(wr.alloc (.cells #[IQ A.name,J A.low,J A.high,J A.raster,J A.duplex] 102)).cell? ⟨wr,2,none⟩=some (J A.high):=by simp[go_sem]
   have f3:(wr.alloc (.cells #[IQ A.name,J A.low,J A.high,J A.raster,J A.duplex] 102)).cell? ⟨wr,3,none⟩=some (J A.raster):=by simp[go_sem]
   have f4:(wr.alloc (.cells #[IQ A.name,J A.low,J A.high,J A.raster,J A.duplex] 102)).cell? ⟨wr,4,none⟩=some (J A.duplex):=by simp[go_sem]
   have fz:wr.heap.size<(wr.alloc (.cells #[IQ A.name,J A.low,J A.high,J A.raster,J A.duplex] 102)).heap.size:=by simp
   generalize hW1:(wr.alloc (.cells #[IQ A.name,J A.low,J A.high,J A.raster,J A.duplex] 102))=W1 at *;have BH:=IJ (HB.out.trans (b1.mono II));have B1:=IJ b1;have zz:=b1.size;clear b1 hW1
   by_cases c1:zcn A=true
   case neg =>
    replace c1:zcn A=false:=Bool.eq_false_iff.2 c1;have HF:Hid (zay zcn zfc l=false):=HUN.out c1;have oX:=zam (w0:=W1) fz;have oB:=zam (w0:=W1) (show b<W1.heap.size by omega);rw[c1] at HV;refine zab W1.heap.size W1 (Below.refl _ _) JI JI ?_
    repeat (go_big_quiet_step ((go_at_call 84;exact zae (Nat.le_refl _) (HV.out _))))
    refine wpQuiet_nil ?_;rintro _ ⟨X,rfl⟩;have hX:=zaa W1.heap.size W1 X;clear oB oX;generalize over W1.heap.size W1 X=w2 at *;have BF:=IJ (BH.out.trans (hX.mono II));clear hX;have HQ:Hid (zdz l=false):=by show _=_;rw[HE.out];exact HF.out
    go_wp2;go_ret;exact⟨by rw[HQ.out];rfl,BF.out⟩
   have HM:Hid (zcn A=true):=c1
   by_cases c3:0<k
   case neg =>
    have i8:decide (0<k)=false:=by simpa using c3
    have HF:Hid (upOk zcn zfc l k=true):=HUZ.out II HM.out;have oX:=zam (w0:=W1) fz;have oB:=zam (w0:=W1) (show b<W1.heap.size by omega);rw[c1] at HV;refine zab W1.heap.size W1 (Below.refl _ _) JI JI ?_
    repeat (go_big_quiet_step ((go_at_call 84;exact zae (Nat.le_refl _) (HV.out _))))
    refine wpQuiet_nil ?_;rintro _ ⟨X,rfl⟩;have hX:=zaa W1.heap.size W1 X;clear oB oX;generalize over W1.heap.size W1 X=w2 at *;have BF:=IJ (BH.out.trans (hX.mono II));clear hX;go_wp2;go_roundw
    case rel=>exact⟨k+1,II,by go_num,zbm HN.out (HF.out),BF.out⟩
    case measure=>simp[intOf];omega
   have i3:IntKind.i64.wrap ((k:Int)-1)=(k:Int)-1:=IntWalk.i64_in _ II;have i4:(0:Int)≤(k:Int)-1:=II
   have i6:(k:Int)-1<(l.length:Int):=II
   have i7:(1:Int)≤(k:Int):=II
   have i8:decide (0<k)=true:=by simpa using c3
   have i5:((k:Int)-1).toNat=k-1:=II
   by_cases c4:ltS P.name A.name=true
   case neg =>
    replace c4:ltS P.name A.name=false:=Bool.eq_false_iff.2 c4;have le4:=zd1 c4;have HF:Hid (zay zcn zfc l=false):=zaw hlt (by rw[HUP.out c3,show zfc P A=false from c4];simp);have fp:=(bat B1.out b _ yb).trans (SP.out c3);have oX:=zam (w0:=W1) fz;have oB:=zam (w0:=W1) (show b<W1.heap.size by omega);rw[c1] at HV;refine zab W1.heap.size W1 (Below.refl _ _) JI JI ?_
    repeat (go_big_quiet_step ((go_at_call 84;exact zae (Nat.le_refl _) (HV.out _))))
    refine wpQuiet_nil ?_;rintro _ ⟨X,rfl⟩;have hX:=zaa W1.heap.size W1 X;clear oB oX;generalize over W1.heap.size W1 X=w2 at *;have BF:=IJ (BH.out.trans (hX.mono II));clear hX;clear i3 i5;have HQ:Hid (zdz l=false):=by show _=_;rw[HE.out];exact HF.out
    go_wp2;go_ret;exact⟨by rw[HQ.out];rfl,BF.out⟩
   have le4:=zez c4;have HF:Hid (upOk zcn zfc l k=true):=by show _=_;rw[HUP.out c3,Bool.and_eq_true];exact⟨HM.out,c4⟩
   have fp:=(bat B1.out b _ yb).trans (SP.out c3);have oX:=zam (w0:=W1) fz;have oB:=zam (w0:=W1) (show b<W1.heap.size by omega);rw[c1] at HV;refine zab W1.heap.size W1 (Below.refl _ _) JI JI ?_
   repeat (go_big_quiet_step ((go_at_call 84;exact zae (Nat.le_refl _) (HV.out _))))
   refine wpQuiet_nil ?_;rintro _ ⟨X,rfl⟩;have hX:=zaa W1.heap.size W1 X;clear oB oX;generalize over W1.heap.size W1 X=w2 at *;have BF:=IJ (BH.out.trans (hX.mono II));clear hX;clear i3 i5;go_wp2;go_roundw
   case rel=>exact⟨k+1,II,by go_num,zbm HN.out (HF.out),BF.out⟩
   case measure=>simp[intOf];omega
  ·obtain rfl:k=l.length:=II
   have HR:Hid (zay zcn zfc l=true):=zb4 HN.out;have HQ:Hid (zdz l=true):=by show _=_;rw[HE.out];exact HR.out
   go_wp2;go_ret;exact⟨by rw[HQ.out];rfl,HB.out⟩
open Go.RowKit
open Go.RowKit
set_option maxHeartbeats 8000000
set_option maxRecDepth 100000
open Go.RowKit
def sizeB (s w h:Int):Bool:=inB s 1 10000&&(inB w 2 24&&(inB h 2 24&&decide (max (w-1) (h-1)*s≤200000)))
theorem mulB {m s:Int} (h1:0≤m) (h2:m≤23) (h3:1≤s) (h4:s≤10000):0≤m*s∧m*s≤230000:=by
 refine⟨Int.mul_nonneg h1 II,?_⟩;have:=Int.mul_le_mul h2 h4 II II;omega
theorem mulW {a b:Int} (h1:2≤a) (h2:a≤24) (h3:2≤b) (h4:b≤24):4≤a*b∧a*b≤576:=by
 have h5:=Int.mul_le_mul h2 h4 II II;have h6:=Int.mul_le_mul h1 h3 II II;omega
def ze0 (t:DTerrain):Bool:=sizeB t.step t.width t.height&&(((t.heights.length:Int) == t.width*t.height)&&(((t.clutter.length:Int) == (t.heights.length:Int))&&((t.heights.all fun n=>inB n 0 90000)&&(t.clutter.all fun n=>inB n 0 7))))
theorem zeo (s w h:Int) (W:World) :
  Calls Tryz.prog 41 #[J s,J w,J h] W fun e w'=>e=.returned (.bool (sizeB s w h))∧W=w':=by
 by_cases h0:inB s 1 10000=true
 case neg =>
  replace h0:inB s 1 10000=false:=Bool.eq_false_iff.2 h0;have HE:Hid (sizeB s w h=false):=by show _=_;unfold sizeB;simp only[h0]<;>rfl
  go_enter Tryz.func41,Tryz.ntmps41;go_wp2_with (first|(go_at_call 34;refine (zai _ _ _ _).mono ?_;rintro e w1 ⟨rfl,rfl⟩));go_ret;exact⟨by rw[HE.out];rfl,by rfl⟩
 obtain⟨hah0,hbh0⟩:=zau.1 h0
 by_cases h1:inB w 2 24=true
 case neg =>
  replace h1:inB w 2 24=false:=Bool.eq_false_iff.2 h1;have HE:Hid (sizeB s w h=false):=by show _=_;unfold sizeB;simp only[h0,h1]<;>rfl
  go_enter Tryz.func41,Tryz.ntmps41;go_wp2_with (first|(go_at_call 34;refine (zai _ _ _ _).mono ?_;rintro e w1 ⟨rfl,rfl⟩));go_ret;exact⟨by rw[HE.out];rfl,by rfl⟩
 obtain⟨hah1,hbh1⟩:=zau.1 h1
 by_cases h2:inB h 2 24=true
 case neg =>
  replace h2:inB h 2 24=false:=Bool.eq_false_iff.2 h2;have HE:Hid (sizeB s w h=false):=by show _=_;unfold sizeB;simp only[h0,h1,h2]<;>rfl
  go_enter Tryz.func41,Tryz.ntmps41;go_wp2_with (first|(go_at_call 34;refine (zai _ _ _ _).mono ?_;rintro e w1 ⟨rfl,rfl⟩));go_ret;exact⟨by rw[HE.out];rfl,by rfl⟩
 obtain⟨hah2,hbh2⟩:=zau.1 h2
 by_cases h3:max (w-1) (h-1)*s≤200000
 case neg =>
  have hd3:decide (max (w-1) (h-1)*s≤200000)=false:=decide_eq_false h3;replace h3:200000<max (w-1) (h-1)*s:=II
  have hm0:0≤max (w-1) (h-1):=II
  have hm1:max (w-1) (h-1)≤23:=II
  obtain⟨hm2,hm3⟩:=mulB hm0 hm1 hah0 hbh0;have HE:Hid (sizeB s w h=false):=by show _=_;unfold sizeB;simp only[h0,h1,h2,hd3]<;>rfl
  go_enter Tryz.func41,Tryz.ntmps41;go_wp2_with (first|(go_at_call 34;refine (zai _ _ _ _).mono ?_;rintro e w1 ⟨rfl,rfl⟩));go_ret;exact⟨by rw[HE.out];rfl,by rfl⟩
 have hd3:decide (max (w-1) (h-1)*s≤200000)=true:=decide_eq_true h3;have hm0:0≤max (w-1) (h-1):=II
 have hm1:max (w-1) (h-1)≤23:=II
 obtain⟨hm2,hm3⟩:=mulB hm0 hm1 hah0 hbh0;have HE:Hid (sizeB s w h=true):=by show _=_;unfold sizeB;simp only[h0,h1,h2,hd3]<;>rfl
 go_enter Tryz.func41,Tryz.ntmps41;go_wp2_with (first|(go_at_call 34;refine (zai _ _ _ _).mono ?_;rintro e w1 ⟨rfl,rfl⟩));go_ret;exact⟨by rw[HE.out];rfl,by rfl⟩
theorem sizeB_bounds {s w h:Int} (e:sizeB s w h=true):2≤w∧w≤24∧2≤h∧h≤24:=by
 unfold sizeB at e;simp only[inB,Bool.and_eq_true,decide_eq_true_eq] at e;omega
theorem validTerrain_any (t:DTerrain) (vh vc:Value) (B:Nat) (w:World) (hh:Rd B w (zat t.heights) vh) (hc:Rd B w (zat t.clutter) vc) (hB:B≤w.heap.size) (m0:t.heights.length≤1099511627776) (m1:t.clutter.length≤1099511627776) :
  Calls Tryz.prog 31 #[.agg #[J t.step,J t.width,J t.height,vh,vc]] w fun e w'=>e=.returned (.bool (ze0 t))∧OI w w w':=by
 obtain⟨ah,ch,eh,_,_,_⟩:=Rd.ints hh;obtain⟨ac,cc,ec,_,_,_⟩:=Rd.ints hc;subst eh ec;have HH:=IJ hh;have HC:=IJ hc;clear hh hc;have mz0:(t.heights.length:Int)≤1099511627776:=II
 have mz1:(t.clutter.length:Int)≤1099511627776:=II
 have B0:Hid (OI w w (w.alloc (.cells #[J t.step,J t.width,J t.height,IZ ah t.heights.length ch,IZ ac t.clutter.length cc] 26))):=(Below.alloc (Below.refl _ _) (by first|exact Nat.le_refl _|(simp;done)|(simp<;>omega)) _)
 have HD:Hid (∀ W:World,OI (w.alloc (.cells #[J t.step,J t.width,J t.height,IZ ah t.heights.length ch,IZ ac t.clutter.length cc] 26)).heap.size (w.alloc (.cells #[J t.step,J t.width,J t.height,IZ ah t.heights.length ch,IZ ac t.clutter.length cc] 26)) W→(W.cell? ⟨w,0,none⟩=some (J t.step)∧W.cell? ⟨w,1,none⟩=some (J t.width)∧W.cell? ⟨w,2,none⟩=some (J t.height)∧W.cell? ⟨w,3,none⟩=some (IZ ah t.heights.length ch)∧W.cell? ⟨w,4,none⟩=some (IZ ac t.clutter.length cc))):=fun W hW=>⟨by rw[hW.cell (p:=⟨w,0,none⟩) (by first|(simp;done)|(simp<;>omega))];simp[go_sem],by rw[hW.cell (p:=⟨w,1,none⟩) (by first|(simp;done)|(simp<;>omega))];simp[go_sem],by rw[hW.cell (p:=⟨w,2,none⟩) (by first|(simp;done)|(simp<;>omega))];simp[go_sem],by rw[hW.cell (p:=⟨w,3,none⟩) (by first|(simp;done)|(simp<;>omega))];simp[go_sem],by rw[hW.cell (p:=⟨w,4,none⟩) (by first|(simp;done)|(simp<;>omega))];simp[go_sem]⟩
 have HB:Hid (OI (w.alloc (.cells #[J t.step,J t.width,J t.height,IZ ah t.heights.length ch,IZ ac t.clutter.length cc] 26)).heap.size (w.alloc (.cells #[J t.step,J t.width,J t.height,IZ ah t.heights.length ch,IZ ac t.clutter.length cc] 26)) (w.alloc (.cells #[J t.step,J t.width,J t.height,IZ ah t.heights.length ch,IZ ac t.clutter.length cc] 26))):=Below.refl _ _;have C0:Hid (∀ W:World,OI (w.alloc (.cells #[J t.step,J t.width,J t.height,IZ ah t.heights.length ch,IZ ac t.clutter.length cc] 26)).heap.size (w.alloc (.cells #[J t.step,J t.width,J t.height,IZ ah t.heights.length ch,IZ ac t.clutter.length cc] 26)) W→Calls Tryz.prog 43 #[IZ ah t.heights.length ch,J 0,J 90000] W fun e w'=>e=.returned (.bool (t.heights.all fun n=>inB n 0 90000))∧OI W W w'):=fun W hW=>zdu _ _ _ _ B W (HH.out.below ((B0.out.trans (hW.mono (by simp))).mono hB)) (by have:=hW.size;simp at this;omega) II
 have C1:Hid (∀ W:World,OI (w.alloc (.cells #[J t.step,J t.width,J t.height,IZ ah t.heights.length ch,IZ ac t.clutter.length cc] 26)).heap.size (w.alloc (.cells #[J t.step,J t.width,J t.height,IZ ah t.heights.length ch,IZ ac t.clutter.length cc] 26)) W→Calls Tryz.prog 43 #[IZ ac t.clutter.length cc,J 0,J 7] W fun e w'=>e=.returned (.bool (t.clutter.all fun n=>inB n 0 7))∧OI W W w'):=fun W hW=>zdu _ _ _ _ B W (HC.out.below ((B0.out.trans (hW.mono (by simp))).mono hB)) (by have:=hW.size;simp at this;omega) II
 by_cases h0:sizeB t.step t.width t.height=true
 case neg =>
  replace h0:sizeB t.step t.width t.height=false:=Bool.eq_false_iff.2 h0;have HE:Hid (ze0 t=false):=by show _=_;unfold ze0;simp only[h0]<;>rfl
  go_enter Tryz.func31,Tryz.ntmps31;go_wp2_with (first|(go_at_call 41;refine (zeo _ _ _ _).mono ?_;rintro e w1 ⟨rfl,rfl⟩)|(go_at_call 43;with_reducible refine (C0.out _ HB.out).mono ?_;rintro e w2 ⟨rfl,hb2⟩;(try clear t0 t1 t2 t3 t4);replace HB:=IJ (HB.out.trans (hb2.mono HB.out.size));clear hb2;obtain⟨t0,t1,t2,t3,t4⟩:=HD.out _ HB.out)|(go_at_call 43;with_reducible refine (C1.out _ HB.out).mono ?_;rintro e w2 ⟨rfl,hb2⟩;(try clear t0 t1 t2 t3 t4);replace HB:=IJ (HB.out.trans (hb2.mono HB.out.size));clear hb2;obtain⟨t0,t1,t2,t3,t4⟩:=HD.out _ HB.out));go_ret;exact⟨by rw[HE.out];rfl,by exact B0.out.trans (HB.out.mono (by first|exact Nat.le_refl _|(simp;done)|(simp<;>omega)))⟩
 obtain⟨hw1,hw2,hg1,hg2⟩:=sizeB_bounds h0;obtain⟨hq1,hq2⟩:=mulW hw1 hw2 hg1 hg2
 by_cases h1:((t.heights.length:Int) == t.width*t.height)=true
 case neg =>
  replace h1:((t.heights.length:Int) == t.width*t.height)=false:=Bool.eq_false_iff.2 h1;have HE:Hid (ze0 t=false):=by show _=_;unfold ze0;simp only[h0,h1]<;>rfl
  go_enter Tryz.func31,Tryz.ntmps31;go_wp2_with (first|(go_at_call 41;refine (zeo _ _ _ _).mono ?_;rintro e w1 ⟨rfl,rfl⟩)|(go_at_call 43;with_reducible refine (C0.out _ HB.out).mono ?_;rintro e w2 ⟨rfl,hb2⟩;(try clear t0 t1 t2 t3 t4);replace HB:=IJ (HB.out.trans (hb2.mono HB.out.size));clear hb2;obtain⟨t0,t1,t2,t3,t4⟩:=HD.out _ HB.out)|(go_at_call 43;with_reducible refine (C1.out _ HB.out).mono ?_;rintro e w2 ⟨rfl,hb2⟩;(try clear t0 t1 t2 t3 t4);replace HB:=IJ (HB.out.trans (hb2.mono HB.out.size));clear hb2;obtain⟨t0,t1,t2,t3,t4⟩:=HD.out _ HB.out));go_ret;exact⟨by rw[HE.out];rfl,by exact B0.out.trans (HB.out.mono (by first|exact Nat.le_refl _|(simp;done)|(simp<;>omega)))⟩
 by_cases h2:((t.clutter.length:Int) == (t.heights.length:Int))=true
 case neg =>
  replace h2:((t.clutter.length:Int) == (t.heights.length:Int))=false:=Bool.eq_false_iff.2 h2;have HE:Hid (ze0 t=false):=by show _=_;unfold ze0;simp only[h0,h1,h2]<;>rfl
  go_enter Tryz.func31,Tryz.ntmps31;go_wp2_with (first|(go_at_call 41;refine (zeo _ _ _ _).mono ?_;rintro e w1 ⟨rfl,rfl⟩)|(go_at_call 43;with_reducible refine (C0.out _ HB.out).mono ?_;rintro e w2 ⟨rfl,hb2⟩;(try clear t0 t1 t2 t3 t4);replace HB:=IJ (HB.out.trans (hb2.mono HB.out.size));clear hb2;obtain⟨t0,t1,t2,t3,t4⟩:=HD.out _ HB.out)|(go_at_call 43;with_reducible refine (C1.out _ HB.out).mono ?_;rintro e w2 ⟨rfl,hb2⟩;(try clear t0 t1 t2 t3 t4);replace HB:=IJ (HB.out.trans (hb2.mono HB.out.size));clear hb2;obtain⟨t0,t1,t2,t3,t4⟩:=HD.out _ HB.out));go_ret;exact⟨by rw[HE.out];rfl,by exact B0.out.trans (HB.out.mono (by first|exact Nat.le_refl _|(simp;done)|(simp<;>omega)))⟩
 by_cases h3:(t.heights.all fun n=>inB n 0 90000)=true
 case neg =>
  replace h3:(t.heights.all fun n=>inB n 0 90000)=false:=Bool.eq_false_iff.2 h3;have HE:Hid (ze0 t=false):=by show _=_;unfold ze0;simp only[h0,h1,h2,h3]<;>rfl
  go_enter Tryz.func31,Tryz.ntmps31;go_wp2_with (first|(go_at_call 41;refine (zeo _ _ _ _).mono ?_;rintro e w1 ⟨rfl,rfl⟩)|(go_at_call 43;with_reducible refine (C0.out _ HB.out).mono ?_;rintro e w2 ⟨rfl,hb2⟩;(try clear t0 t1 t2 t3 t4);replace HB:=IJ (HB.out.trans (hb2.mono HB.out.size));clear hb2;obtain⟨t0,t1,t2,t3,t4⟩:=HD.out _ HB.out)|(go_at_call 43;with_reducible refine (C1.out _ HB.out).mono ?_;rintro e w2 ⟨rfl,hb2⟩;(try clear t0 t1 t2 t3 t4);replace HB:=IJ (HB.out.trans (hb2.mono HB.out.size));clear hb2;obtain⟨t0,t1,t2,t3,t4⟩:=HD.out _ HB.out));go_ret;exact⟨by rw[HE.out];rfl,by exact B0.out.trans (HB.out.mono (by first|exact Nat.le_refl _|(simp;done)|(simp<;>omega)))⟩
 by_cases h4:(t.clutter.all fun n=>inB n 0 7)=true
 case neg =>
  replace h4:(t.clutter.all fun n=>inB n 0 7)=false:=Bool.eq_false_iff.2 h4;have HE:Hid (ze0 t=false):=by show _=_;unfold ze0;simp only[h0,h1,h2,h3,h4]<;>rfl
  go_enter Tryz.func31,Tryz.ntmps31;go_wp2_with (first|(go_at_call 41;refine (zeo _ _ _ _).mono ?_;rintro e w1 ⟨rfl,rfl⟩)|(go_at_call 43;with_reducible refine (C0.out _ HB.out).mono ?_;rintro e w2 ⟨rfl,hb2⟩;(try clear t0 t1 t2 t3 t4);replace HB:=IJ (HB.out.trans (hb2.mono HB.out.size));clear hb2;obtain⟨t0,t1,t2,t3,t4⟩:=HD.out _ HB.out)|(go_at_call 43;with_reducible refine (C1.out _ HB.out).mono ?_;rintro e w2 ⟨rfl,hb2⟩;(try clear t0 t1 t2 t3 t4);replace HB:=IJ (HB.out.trans (hb2.mono HB.out.size));clear hb2;obtain⟨t0,t1,t2,t3,t4⟩:=HD.out _ HB.out));go_ret;exact⟨by rw[HE.out];rfl,by exact B0.out.trans (HB.out.mono (by first|exact Nat.le_refl _|(simp;done)|(simp<;>omega)))⟩
 have HE:Hid (ze0 t=true):=by show _=_;unfold ze0;simp only[h0,h1,h2,h3,h4]<;>rfl
 go_enter Tryz.func31,Tryz.ntmps31;go_wp2_with (first|(go_at_call 41;refine (zeo _ _ _ _).mono ?_;rintro e w1 ⟨rfl,rfl⟩)|(go_at_call 43;with_reducible refine (C0.out _ HB.out).mono ?_;rintro e w2 ⟨rfl,hb2⟩;(try clear t0 t1 t2 t3 t4);replace HB:=IJ (HB.out.trans (hb2.mono HB.out.size));clear hb2;obtain⟨t0,t1,t2,t3,t4⟩:=HD.out _ HB.out)|(go_at_call 43;with_reducible refine (C1.out _ HB.out).mono ?_;rintro e w2 ⟨rfl,hb2⟩;(try clear t0 t1 t2 t3 t4);replace HB:=IJ (HB.out.trans (hb2.mono HB.out.size));clear hb2;obtain⟨t0,t1,t2,t3,t4⟩:=HD.out _ HB.out));go_ret;exact⟨by rw[HE.out];rfl,by exact B0.out.trans (HB.out.mono (by first|exact Nat.le_refl _|(simp;done)|(simp<;>omega)))⟩
open Go.RowKit
def rowI (m:List (List Int)) (i:Nat):List Int:=m.getD i []
theorem rowI_eq {m:List (List Int)} {i:Nat} (h:i<m.length):m[i]=rowI m i:=by simp[rowI,h]
theorem Rd.rows {B:Nat} {w:World} {m:List (List Int)} {a:Option Addr} {c:Nat} (h:Rd B w (intssT m) (IZ a m.length c)) (hm:0<m.length) :
  ∃ b off,a=some ⟨b,off,none⟩∧b<B∧∀ i,i<m.length→∃ ai ci,w.cell? ⟨b,off+i,none⟩=some (IZ ai (rowI m i).length ci)∧Rd B w (zat (rowI m i)) (IZ ai (rowI m i).length ci)∧(0<(rowI m i).length→∃ bi oi,ai=some ⟨bi,oi,none⟩∧bi<B ∧
   ∀ j,j<(rowI m i).length→w.cell? ⟨bi,oi+j,none⟩=some (J (gi (rowI m i) j))):=by
 obtain⟨a',c',he,_,_,hcl⟩:=Rd.intss h;injection he with e1 _ e3;subst e1 e3;obtain⟨b,off,ha,hb,hat⟩:=hcl hm;refine⟨b,off,ha,hb,fun i hi=>?_⟩;obtain⟨u,hu,hr⟩:=hat i hi;rw[rowI_eq hi] at hr;obtain⟨ai,ci,rfl,_,_,hci⟩:=Rd.ints hr;refine⟨ai,ci,hu,hr,fun hp=>?_⟩;obtain⟨bi,oi,e,hbi,hc⟩:=hci hp;exact⟨bi,oi,e,hbi,fun j hj=>by rw[hc j hj,gi_eq hj]⟩
end Go.Proofs.YtpakghepnahooaaGreatDoor
namespace Go.Proofs.YtpakghepnahooaaGreatDoor
open Go.RowKit
set_option maxHeartbeats 2000000
set_option maxRecDepth 100000
def zee (t:DTerrain) (q:DPoint):Bool:=inB q.x 0 ((t.width-1)*t.step)&&inB q.y 0 ((t.height-1)*t.step)
theorem has_any (t:DTerrain) (q:DPoint) (v3 v4:Value) (hw:2≤t.width∧t.width≤24) (hh:2≤t.height∧t.height≤24) (m1:0≤(t.width-1)*t.step∧(t.width-1)*t.step≤230000) (m2:0≤(t.height-1)*t.step∧(t.height-1)*t.step≤230000) (w:World) :
  Calls Tryz.prog 36 #[.agg #[J t.step,J t.width,J t.height,v3,v4],.agg #[J q.x,J q.y]] w fun e w'=>e=.returned (.bool (zee t q))∧OI w w w':=by
 obtain⟨w1_,w2_⟩:=hw;obtain⟨h1_,h2_⟩:=hh;obtain⟨m11,m12⟩:=m1;obtain⟨m21,m22⟩:=m2;have B0:Hid (OI w w ((w.alloc (.cells #[J t.step,J t.width,J t.height,v3,v4] 26)).alloc (.cells #[J q.x,J q.y] 53))):=(Below.alloc (Below.alloc (Below.refl _ _) (by first|exact Nat.le_refl _|(simp;done)|(simp<;>omega)) _) (by first|exact Nat.le_refl _|(simp;done)|(simp<;>omega)) _)
 have HD:Hid (∀ W:World,OI ((w.alloc (.cells #[J t.step,J t.width,J t.height,v3,v4] 26)).alloc (.cells #[J q.x,J q.y] 53)).heap.size ((w.alloc (.cells #[J t.step,J t.width,J t.height,v3,v4] 26)).alloc (.cells #[J q.x,J q.y] 53)) W→(W.cell? ⟨w,0,none⟩=some (J t.step)∧W.cell? ⟨w,1,none⟩=some (J t.width)∧W.cell? ⟨w,2,none⟩=some (J t.height)∧W.cell? ⟨w,3,none⟩=some (v3)∧W.cell? ⟨w,4,none⟩=some (v4)∧W.cell? ⟨w.heap.size+1,0,none⟩=some (J q.x)∧W.cell? ⟨w.heap.size+1,1,none⟩=some (J q.y))):=fun W hW=>⟨by rw[hW.cell (p:=⟨w,0,none⟩) (by first|(simp;done)|(simp<;>omega))];simp[go_sem],by rw[hW.cell (p:=⟨w,1,none⟩) (by first|(simp;done)|(simp<;>omega))];simp[go_sem],by rw[hW.cell (p:=⟨w,2,none⟩) (by first|(simp;done)|(simp<;>omega))];simp[go_sem],by rw[hW.cell (p:=⟨w,3,none⟩) (by first|(simp;done)|(simp<;>omega))];simp[go_sem],by rw[hW.cell (p:=⟨w,4,none⟩) (by first|(simp;done)|(simp<;>omega))];simp[go_sem],by rw[hW.cell (p:=⟨w.heap.size+1,0,none⟩) (by first|(simp;done)|(simp<;>omega))];simp[go_sem],by rw[hW.cell (p:=⟨w.heap.size+1,1,none⟩) (by first|(simp;done)|(simp<;>omega))];simp[go_sem]⟩
 have HB:Hid (OI ((w.alloc (.cells #[J t.step,J t.width,J t.height,v3,v4] 26)).alloc (.cells #[J q.x,J q.y] 53)).heap.size ((w.alloc (.cells #[J t.step,J t.width,J t.height,v3,v4] 26)).alloc (.cells #[J q.x,J q.y] 53)) ((w.alloc (.cells #[J t.step,J t.width,J t.height,v3,v4] 26)).alloc (.cells #[J q.x,J q.y] 53))):=Below.refl _ _
 by_cases h0:inB q.x 0 ((t.width-1)*t.step)=true
 case neg =>
  replace h0:inB q.x 0 ((t.width-1)*t.step)=false:=Bool.eq_false_iff.2 h0;have HE:Hid (zee t q=false):=by show _=_;unfold zee;simp only[h0]<;>rfl
  go_enter Tryz.func36,Tryz.ntmps36;go_wp2_with (first|(go_at_call 34;refine (zai _ _ _ _).mono ?_;rintro e w1 ⟨rfl,rfl⟩));go_ret;exact⟨by rw[HE.out];rfl,by exact B0.out.trans (HB.out.mono (by first|exact Nat.le_refl _|(simp;done)|(simp<;>omega)))⟩
 by_cases h1:inB q.y 0 ((t.height-1)*t.step)=true
 case neg =>
  replace h1:inB q.y 0 ((t.height-1)*t.step)=false:=Bool.eq_false_iff.2 h1;have HE:Hid (zee t q=false):=by show _=_;unfold zee;simp only[h0,h1]<;>rfl
  go_enter Tryz.func36,Tryz.ntmps36;go_wp2_with (first|(go_at_call 34;refine (zai _ _ _ _).mono ?_;rintro e w1 ⟨rfl,rfl⟩));go_ret;exact⟨by rw[HE.out];rfl,by exact B0.out.trans (HB.out.mono (by first|exact Nat.le_refl _|(simp;done)|(simp<;>omega)))⟩
 have HE:Hid (zee t q=true):=by show _=_;unfold zee;simp only[h0,h1]<;>rfl
 go_enter Tryz.func36,Tryz.ntmps36;go_wp2_with (first|(go_at_call 34;refine (zai _ _ _ _).mono ?_;rintro e w1 ⟨rfl,rfl⟩));go_ret;exact⟨by rw[HE.out];rfl,by exact B0.out.trans (HB.out.mono (by first|exact Nat.le_refl _|(simp;done)|(simp<;>omega)))⟩
end Go.Proofs.YtpakghepnahooaaGreatDoor
