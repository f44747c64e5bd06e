/- Contracts: bands by name, where a channel begins, whether a channel is of a band: for the program and for the reference. Conditions: bounded sizes. -/
import Derived.Test.YtpakghepnahooaaGreatDoorTer
import Derived.Test.YtpakghepnahooaaGreatDoorNetG0
set_option linter.unusedVariables false
set_option linter.unusedSimpArgs false
namespace Go.Proofs.YtpakghepnahooaaGreatDoor
open Go.RowKit
set_option maxHeartbeats 2000000
set_option maxRecDepth 100000
def zcu (l:List DBand) (nm:ByteArray):Int:=za8 (fun x:DBand=>eqS x.name nm) l
theorem indexFuncBand_any (l:List DBand) (p:DBand→Bool) (fn:FuncId) (cap:List Value) (v:Value) (B:Nat) (w:World) (h:Rd B w (DBand.sT l) v) (hB:B≤w.heap.size) (hn:l.length≤1099511627776)
  (hcf:∀ (args:Array Value) (W:World),(callFunc fn args).run Tryz.prog W=.ok (.enter fn args) W)
  (hf:∀ x ∈ l,∀ W:World,OI w w W→Calls Tryz.prog fn (Value.agg #[IQ x.name,J x.low,J x.high,J x.raster,J x.duplex]::cap).toArray W fun e W'=>e=.returned (.bool (p x))∧OI W W W') :
  Calls Tryz.prog 86 #[v,.func (.func fn) #[] cap.toArray] w fun e w'=>e=.returned (J (za8 p l))∧OI w w w':=by
 obtain⟨a,c,rfl,hnc,hcm,hcells⟩:=DBand.rd h;clear h;have hnb:(l.length:Int)≤1099511627776:=II
 have HF:=IJ hf;clear hf;go_enter Tryz.func86,Tryz.ntmps86;go_wp2;go_loopw [8] (fun i wr=>∃ (k:Nat),k≤l.length∧i=J k∧(l.take k).any p=false∧OI w w wr) (fun i wr=>l.length-(intOf i).toNat)
 case atStart=>exact⟨0,Nat.zero_le _,rfl,by simp,Below.refl _ _⟩
 case round =>
  obtain⟨k,hk,rfl,hno,hb⟩:=hrel;have HN:=IJ hno;clear hno
  by_cases hlt:k<l.length
  ·obtain⟨b,off,rfl,hbl,hat⟩:=hcells II
   obtain⟨s0,s1,s2,s3,s4⟩:=hat k hlt;rw[← hb.cell (p:=⟨b,_,none⟩) (show b<w.heap.size by omega)] at s0 s1 s2 s3 s4;have HB:=IJ hb;clear hcells hat hb;go_wp2_with fail;refine (HF.out l[k] (List.getElem_mem hlt)  _ HB.out).mono ?_;rintro e w1 ⟨rfl,hb1⟩;have HB1:=IJ (HB.out.trans (hb1.mono HB.out.size));clear hb1
   by_cases hp:p l[k]=true
   ·go_wp2
    go_ret;exact⟨by rw[zcp p l k hlt hp HN.out];rfl,HB1.out⟩
   ·have hp':p l[k]=false:=by simpa using hp
    clear hp;go_wp2;go_roundw
    case rel=>exact⟨k+1,II,by go_num,by rw[zb8 p l k hlt,HN.out,hp'];rfl,HB1.out⟩
    case measure=>simp[intOf];omega
  ·obtain rfl:k=l.length:=II
   clear hcells;go_wp2;go_ret;have:=HN.out;rw[List.take_length] at this;exact⟨by rw[zb7 p l this];rfl,hb⟩
theorem bandNamed_any (l:List DBand) (nm:ByteArray) (v:Value) (B:Nat) (w:World) (h:Rd B w (DBand.sT l) v) (hB:B≤w.heap.size) (hn:l.length≤1099511627776) :
  Calls Tryz.prog 50 #[v,IQ nm] w fun e w'=>e=.returned (J (zcu l nm))∧OI w w w':=by
 have b0:OI w w (w.alloc (.cells #[IQ nm] 9)):=(Below.refl _ _).alloc (Nat.le_refl _) _
 have HC:=IJ (indexFuncBand_any l (fun x:DBand=>eqS x.name nm) 87 [.pointer (some ⟨w,0,none⟩)] v B (w.alloc (.cells #[IQ nm] 9)) (h.below (b0.mono hB)) (by simp<;>omega) hn (fun _ _=>by kernel_rfl) (fun x _ W hW=>by
  have c1:W.cell? ⟨w,0,none⟩=some (IQ nm):=by rw[hW.cell (p:=⟨w,0,none⟩) (by simp)];simp[go_sem]
  have c2:w.heap.size<W.heap.size:=by have:=hW.size;simp at this;omega
  clear hW;go_enter Tryz.func87,Tryz.ntmps87;go_wp2;go_ret
  exact⟨rfl,(Below.refl _ _).alloc (Nat.le_refl _) _⟩))
 have B0:=IJ b0;clear b0 h;unfold zcu;generalize za8 (fun x:DBand=>eqS x.name nm) l=r at *;go_enter Tryz.func50,Tryz.ntmps50;go_wp2_with fail;refine (HC.out).mono ?_;rintro e w1 ⟨rfl,hb1⟩;go_wp2;go_ret;exact⟨rfl,B0.out.trans (hb1.mono (by simp))⟩
theorem bandB_facts {x:DBand} (h:zcn x=true):1≤x.low∧x.low≤100000000∧x.low≤x.high∧x.high≤100000000∧1≤x.raster∧x.raster≤100000∧1≤cntB x∧cntB x≤1000:=by
 unfold zcn at h;simp only[inB,Bool.and_eq_true,decide_eq_true_eq] at h;omega
theorem mulC {c r:Int} (h1:-1≤c) (h2:c≤1000) (h3:0≤r) (h4:r≤100000):-100000≤c*r∧c*r≤100000000:=by
 have h5:=Int.mul_le_mul_of_nonneg_right h1 h3;have h6:=Int.mul_le_mul h2 h4 h3 II;omega
theorem begin_any (x:DBand) (c:Int) (h1:0≤x.low) (h2:x.low≤100000000) (h3:0≤x.raster) (h4:x.raster≤100000) (h5:-1≤c) (h6:c≤1000) (w:World) :
  Calls Tryz.prog 52 #[.agg #[IQ x.name,J x.low,J x.high,J x.raster,J x.duplex],J c] w fun e w'=>e=.returned (J (x.low+c*x.raster))∧OI w w w':=by
 obtain⟨h7,h8⟩:=mulC h5 h6 h3 h4;go_enter Tryz.func52,Tryz.ntmps52;go_wp2;go_ret;exact⟨rfl,(Below.refl _ _).alloc (Nat.le_refl _) _⟩
theorem code_any (x:DBand) (c:Int) (h:zcn x=true) (hn:x.name.size≤maxLen) (w:World) :
  Calls Tryz.prog 51 #[.agg #[IQ x.name,J x.low,J x.high,J x.raster,J x.duplex],J c] w fun e w'=>e=.returned (J (if inB c 0 (cntB x-1) then 0 else 2))∧OI w w w':=by
 obtain⟨f1,f2,f3,f4,f5,f6,f7,f8⟩:=bandB_facts h;have B0:Hid (OI w w (w.alloc (.cells #[IQ x.name,J x.low,J x.high,J x.raster,J x.duplex] 102))):=(Below.alloc (Below.refl _ _) (by first|exact Nat.le_refl _|(simp;done)|(simp<;>omega)) _)
 have HD:Hid (∀ W:World,OI (w.alloc (.cells #[IQ x.name,J x.low,J x.high,J x.raster,J x.duplex] 102)).heap.size (w.alloc (.cells #[IQ x.name,J x.low,J x.high,J x.raster,J x.duplex] 102)) W→(W.cell? ⟨w,0,none⟩=some (IQ x.name)∧W.cell? ⟨w,1,none⟩=some (J x.low)∧W.cell? ⟨w,2,none⟩=some (J x.high)∧W.cell? ⟨w,3,none⟩=some (J x.raster)∧W.cell? ⟨w,4,none⟩=some (J x.duplex))):=fun W hW=>⟨by rw[hW.cell (p:=⟨w,0,none⟩) (by first|(simp;done)|(simp<;>omega))];simp[go_sem],by rw[hW.cell (p:=⟨w,1,none⟩) (by first|(simp;done)|(simp<;>omega))];simp[go_sem],by rw[hW.cell (p:=⟨w,2,none⟩) (by first|(simp;done)|(simp<;>omega))];simp[go_sem],by rw[hW.cell (p:=⟨w,3,none⟩) (by first|(simp;done)|(simp<;>omega))];simp[go_sem],by rw[hW.cell (p:=⟨w,4,none⟩) (by first|(simp;done)|(simp<;>omega))];simp[go_sem]⟩
 have HB:Hid (OI (w.alloc (.cells #[IQ x.name,J x.low,J x.high,J x.raster,J x.duplex] 102)).heap.size (w.alloc (.cells #[IQ x.name,J x.low,J x.high,J x.raster,J x.duplex] 102)) (w.alloc (.cells #[IQ x.name,J x.low,J x.high,J x.raster,J x.duplex] 102))):=Below.refl _ _;have CV:Hid (∀ W:World,Calls Tryz.prog 84 #[.agg #[IQ x.name,J x.low,J x.high,J x.raster,J x.duplex]] W fun e w'=>e=.returned (.bool true)∧OI W W w'):=fun W=>by
  have t:=validBand_any x hn W;rw[h] at t;exact t
 have CC:Hid (∀ W:World,Calls Tryz.prog 88 #[.agg #[IQ x.name,J x.low,J x.high,J x.raster,J x.duplex]] W fun e w'=>e=.returned (J (cntB x))∧OI W W w'):=fun W=>zdr x f1 f2 II f4 f5 f6 f3 W
 have CW:Hid (∀ W:World,Calls Tryz.prog 34 #[J c,J 0,J (cntB x-1)] W fun e w'=>e=.returned (.bool (inB c 0 (cntB x-1)))∧W=w'):=fun W=>zai _ _ _ _
 clear h;generalize cntB x=m at *
 by_cases h0:inB c 0 (m-1)=true
 case neg =>
  replace h0:inB c 0 (m-1)=false:=Bool.eq_false_iff.2 h0;rw[h0] at CW;rw[h0];go_enter Tryz.func51,Tryz.ntmps51;go_wp2_with (first|(go_at_call 84;with_reducible refine (CV.out _).mono ?_;rintro e w2 ⟨rfl,hb2⟩;(try clear t0 t1 t2 t3 t4);replace HB:=IJ (HB.out.trans (hb2.mono HB.out.size));clear hb2;obtain⟨t0,t1,t2,t3,t4⟩:=HD.out _ HB.out)|(go_at_call 88;with_reducible refine (CC.out _).mono ?_;rintro e w2 ⟨rfl,hb2⟩;(try clear t0 t1 t2 t3 t4);replace HB:=IJ (HB.out.trans (hb2.mono HB.out.size));clear hb2;obtain⟨t0,t1,t2,t3,t4⟩:=HD.out _ HB.out)|(go_at_call 34;with_reducible refine (CW.out _).mono ?_;rintro e w1 ⟨rfl,rfl⟩));go_ret;exact⟨rfl,B0.out.trans (HB.out.mono (by first|exact Nat.le_refl _|(simp;done)|(simp<;>omega)))⟩
 rw[h0] at CW;rw[h0];go_enter Tryz.func51,Tryz.ntmps51;go_wp2_with (first|(go_at_call 84;with_reducible refine (CV.out _).mono ?_;rintro e w2 ⟨rfl,hb2⟩;(try clear t0 t1 t2 t3 t4);replace HB:=IJ (HB.out.trans (hb2.mono HB.out.size));clear hb2;obtain⟨t0,t1,t2,t3,t4⟩:=HD.out _ HB.out)|(go_at_call 88;with_reducible refine (CC.out _).mono ?_;rintro e w2 ⟨rfl,hb2⟩;(try clear t0 t1 t2 t3 t4);replace HB:=IJ (HB.out.trans (hb2.mono HB.out.size));clear hb2;obtain⟨t0,t1,t2,t3,t4⟩:=HD.out _ HB.out)|(go_at_call 34;with_reducible refine (CW.out _).mono ?_;rintro e w1 ⟨rfl,rfl⟩));go_ret;exact⟨rfl,B0.out.trans (HB.out.mono (by first|exact Nat.le_refl _|(simp;done)|(simp<;>omega)))⟩
theorem idxBand_lt (l:List DBand) (nm:ByteArray) (h:0≤zcu l nm):(zcu l nm).toNat<l.length∧((zcu l nm).toNat:Int)=zcu l nm:=by
 have:=firstIdx_bounds (fun x:DBand=>eqS x.name nm) l;unfold zcu at h ⊢;omega
end Go.Proofs.YtpakghepnahooaaGreatDoor
