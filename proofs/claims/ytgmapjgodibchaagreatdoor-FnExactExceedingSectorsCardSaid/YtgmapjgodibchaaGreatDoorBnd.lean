/- Contracts: bands by name, where a channel begins, whether a channel is of a band: for the program and for the reference. Conditions: bounded sizes. -/
import Derived.Test.YtgmapjgodibchaaGreatDoorPl4
import Derived.Test.YtgmapjgodibchaaGreatDoorEirp5
set_option linter.unusedVariables false
set_option linter.unusedSimpArgs false
namespace Go.Proofs.YtgmapjgodibchaaGreatDoor
open Go.RowKit
set_option maxHeartbeats 2000000
set_option maxRecDepth 100000
def zbu (l:List DBand) (nm:ByteArray):Int:=zba (fun x:DBand=>eqS x.name nm) l
theorem indexFuncBand_any (l:List DBand) (p:DBand→Bool) (fn:FuncId) (cap:List Value) (v:Value) (B:Nat) (w:World) (h:Rd B w (DBand.sT l) v) (hB:B≤w.heap.size) (hn:l.length≤1099511627776)
  (hcf:∀ (args:Array Value) (W:World),(callFunc fn args).run Tryz.prog W=.ok (.enter fn args) W)
  (hf:∀ x ∈ l,∀ W:World,IJ w w W→Calls Tryz.prog fn (Value.agg #[F x.name,I x.low,I x.high,I x.raster,I x.duplex]::cap).toArray W fun e W'=>e=.returned (.bool (p x))∧IJ W W W') :
  Calls Tryz.prog 122 #[v,.func (.func fn) #[] cap.toArray] w fun e w'=>e=.returned (I (zba p l))∧IJ w w w':=by
 obtain⟨a,c,rfl,hnc,hcm,hcells⟩:=DBand.rd h;clear h;have hnb:(l.length:Int)≤1099511627776:=O
 have HF:=J hf;clear hf;go_enter Tryz.func122,Tryz.ntmps122;go_wp2;go_loopw [8] (fun i wr=>∃ (k:Nat),k≤l.length∧i=I k∧(l.take k).any p=false∧IJ w w wr) (fun i wr=>l.length-(intOf i).toNat)
 case atStart=>exact⟨0,Nat.zero_le _,rfl,by simp,Below.refl _ _⟩
 case round =>
  obtain⟨k,hk,rfl,hno,hb⟩:=hrel;have HN:=J hno;clear hno
  by_cases hlt:k<l.length
  ·obtain⟨b,off,rfl,hbl,hat⟩:=hcells O
   obtain⟨s0,s1,s2,s3,s4⟩:=hat k hlt;rw[← hb.cell (p:=⟨b,_,none⟩) (show b<w.heap.size by omega)] at s0 s1 s2 s3 s4;have HB:=J hb;clear hcells hat hb;go_wp2_with fail;refine (HF.out l[k] (List.getElem_mem hlt)  _ HB.out).mono ?_;rintro e w1 ⟨rfl,hb1⟩;have HB1:=J (HB.out.trans (hb1.mono HB.out.size));clear hb1
   by_cases hp:p l[k]=true
   ·go_wp2
    go_ret;exact⟨by rw[zcu p l k hlt hp HN.out];rfl,HB1.out⟩
   ·have hp':p l[k]=false:=by simpa using hp
    clear hp;go_wp2;go_roundw
    case rel=>exact⟨k+1,O,by go_num,by rw[zb7 p l k hlt,HN.out,hp'];rfl,HB1.out⟩
    case measure=>simp[intOf];omega
  ·obtain rfl:k=l.length:=O
   clear hcells;go_wp2;go_ret;have:=HN.out;rw[List.take_length] at this;exact⟨by rw[zb6 p l this];rfl,hb⟩
theorem bandNamed_any (l:List DBand) (nm:ByteArray) (v:Value) (B:Nat) (w:World) (h:Rd B w (DBand.sT l) v) (hB:B≤w.heap.size) (hn:l.length≤1099511627776) :
  Calls Tryz.prog 74 #[v,F nm] w fun e w'=>e=.returned (I (zbu l nm))∧IJ w w w':=by
 have b0:IJ w w (w.alloc (.cells #[F nm] 9)):=(Below.refl _ _).alloc (Nat.le_refl _) _
 have HC:=J (indexFuncBand_any l (fun x:DBand=>eqS x.name nm) 123 [.pointer (some ⟨w,0,none⟩)] v B (w.alloc (.cells #[F nm] 9)) (h.below (b0.mono hB)) (by simp<;>omega) hn (fun _ _=>by kernel_rfl) (fun x _ W hW=>by
  have c1:W.cell? ⟨w,0,none⟩=some (F nm):=by rw[hW.cell (p:=⟨w,0,none⟩) (by simp)];simp[go_sem]
  have c2:w.heap.size<W.heap.size:=by have:=hW.size;simp at this;omega
  clear hW;go_enter Tryz.func123,Tryz.ntmps123;go_wp2;go_ret
  exact⟨rfl,(Below.refl _ _).alloc (Nat.le_refl _) _⟩))
 have B0:=J b0;clear b0 h;unfold zbu;generalize zba (fun x:DBand=>eqS x.name nm) l=r at *;go_enter Tryz.func74,Tryz.ntmps74;go_wp2_with fail;refine (HC.out).mono ?_;rintro e w1 ⟨rfl,hb1⟩;go_wp2;go_ret;exact⟨rfl,B0.out.trans (hb1.mono (by simp))⟩
theorem l15Find_any (l:List DBand) (nm:ByteArray) (v:Value) (B:Nat) (w:World) (h:Rd B w (DBand.sT l) v) (hB:B≤w.heap.size) (hn:l.length≤1099511627776) :
  Calls Tryz.prog 151 #[v,F nm] w fun e w'=>e=.returned (I (zbu l nm))∧w=w':=by
 obtain⟨a,c,rfl,hnc,hcm,hcells⟩:=DBand.rd h;clear h;have hnb:(l.length:Int)≤1099511627776:=O
 go_enter Tryz.func151,Tryz.ntmps151;go_wp2
 go_loop [5] (fun i=>∃ (k:Nat),k≤l.length∧i=I k∧(l.take k).any (fun x:DBand=>eqS x.name nm)=false) (fun i=>l.length-(intOf i).toNat)
 case atStart=>exact⟨0,Nat.zero_le _,rfl,by simp⟩
 case round =>
  obtain⟨k,hk,rfl,hno⟩:=hrel;have HN:=J hno;clear hno
  by_cases hlt:k<l.length
  ·obtain⟨b,off,rfl,hbl,hat⟩:=hcells O
   have s0:=(hat k hlt).1;clear hcells hat
   by_cases hp1:(l[k].name.toList == nm.toList)=true
   ·have HP:=J hp1
    go_wp2;go_ret;exact⟨by unfold zbu;rw[zcu (fun x:DBand=>eqS x.name nm) l k hlt HP.out HN.out];rfl,rfl⟩
   ·have hp':(l[k].name.toList == nm.toList)=false:=Bool.eq_false_iff.2 hp1
    have HP:=J hp';clear hp1;go_wp2
    go_round
    case rel=>exact⟨k+1,O,by go_num,by rw[zb7 _ l k hlt,HN.out];exact HP.out⟩
    case measure=>simp[intOf];omega
  ·obtain rfl:k=l.length:=O
   clear hcells;go_wp2;go_ret;have:=HN.out;rw[List.take_length] at this;exact⟨by unfold zbu;rw[zb6 _ l this];rfl,rfl⟩
theorem ze6 {x:DBand} (h:zbo x=true):1≤x.low∧x.low≤100000000∧x.low≤x.high∧x.high≤100000000∧1≤x.raster∧x.raster≤100000∧1≤cntB x∧cntB x≤1000:=by
 unfold zbo at h;simp only[inB,Bool.and_eq_true,decide_eq_true_eq] at h;omega
theorem mulC {c r:Int} (h1:-1≤c) (h2:c≤1000) (h3:0≤r) (h4:r≤100000):-100000≤c*r∧c*r≤100000000:=by
 have h5:=Int.mul_le_mul_of_nonneg_right h1 h3;have h6:=Int.mul_le_mul h2 h4 h3 O;omega
theorem begin_any (x:DBand) (c:Int) (h1:0≤x.low) (h2:x.low≤100000000) (h3:0≤x.raster) (h4:x.raster≤100000) (h5:-1≤c) (h6:c≤1000) (w:World) :
  Calls Tryz.prog 76 #[.agg #[F x.name,I x.low,I x.high,I x.raster,I x.duplex],I c] w fun e w'=>e=.returned (I (x.low+c*x.raster))∧IJ w w w':=by
 obtain⟨h7,h8⟩:=mulC h5 h6 h3 h4;go_enter Tryz.func76,Tryz.ntmps76;go_wp2;go_ret;exact⟨rfl,(Below.refl _ _).alloc (Nat.le_refl _) _⟩
theorem code_any (x:DBand) (c:Int) (h:zbo x=true) (hn:x.name.size≤maxLen) (w:World) :
  Calls Tryz.prog 75 #[.agg #[F x.name,I x.low,I x.high,I x.raster,I x.duplex],I c] w fun e w'=>e=.returned (I (if inB c 0 (cntB x-1) then 0 else 2))∧IJ w w w':=by
 obtain⟨f1,f2,f3,f4,f5,f6,f7,f8⟩:=ze6 h;have B0:Hid (IJ w w (w.alloc (.cells #[F x.name,I x.low,I x.high,I x.raster,I x.duplex] 123))):=(Below.alloc (Below.refl _ _) (by first|exact Nat.le_refl _|(simp;done)|(simp<;>omega)) _)
 have HD:Hid (∀ W:World,IJ (w.alloc (.cells #[F x.name,I x.low,I x.high,I x.raster,I x.duplex] 123)).heap.size (w.alloc (.cells #[F x.name,I x.low,I x.high,I x.raster,I x.duplex] 123)) W→(W.cell? ⟨w,0,none⟩=some (F x.name)∧W.cell? ⟨w,1,none⟩=some (I x.low)∧W.cell? ⟨w,2,none⟩=some (I x.high)∧W.cell? ⟨w,3,none⟩=some (I x.raster)∧W.cell? ⟨w,4,none⟩=some (I x.duplex))):=fun W hW=>⟨by rw[hW.cell (p:=⟨w,0,none⟩) (by first|(simp;done)|(simp<;>omega))];simp[go_sem],by rw[hW.cell (p:=⟨w,1,none⟩) (by first|(simp;done)|(simp<;>omega))];simp[go_sem],by rw[hW.cell (p:=⟨w,2,none⟩) (by first|(simp;done)|(simp<;>omega))];simp[go_sem],by rw[hW.cell (p:=⟨w,3,none⟩) (by first|(simp;done)|(simp<;>omega))];simp[go_sem],by rw[hW.cell (p:=⟨w,4,none⟩) (by first|(simp;done)|(simp<;>omega))];simp[go_sem]⟩
 have HB:Hid (IJ (w.alloc (.cells #[F x.name,I x.low,I x.high,I x.raster,I x.duplex] 123)).heap.size (w.alloc (.cells #[F x.name,I x.low,I x.high,I x.raster,I x.duplex] 123)) (w.alloc (.cells #[F x.name,I x.low,I x.high,I x.raster,I x.duplex] 123))):=Below.refl _ _;have CV:Hid (∀ W:World,Calls Tryz.prog 119 #[.agg #[F x.name,I x.low,I x.high,I x.raster,I x.duplex]] W fun e w'=>e=.returned (.bool true)∧IJ W W w'):=fun W=>by
  have t:=validBand_any x hn W;rw[h] at t;exact t
 have CC:Hid (∀ W:World,Calls Tryz.prog 124 #[.agg #[F x.name,I x.low,I x.high,I x.raster,I x.duplex]] W fun e w'=>e=.returned (I (cntB x))∧IJ W W w'):=fun W=>zdz x f1 f2 O f4 f5 f6 f3 W
 have CW:Hid (∀ W:World,Calls Tryz.prog 54 #[I c,I 0,I (cntB x-1)] W fun e w'=>e=.returned (.bool (inB c 0 (cntB x-1)))∧W=w'):=fun W=>zal _ _ _ _
 clear h;generalize cntB x=m at *
 by_cases h0:inB c 0 (m-1)=true
 case neg =>
  replace h0:inB c 0 (m-1)=false:=Bool.eq_false_iff.2 h0;rw[h0] at CW;rw[h0];go_enter Tryz.func75,Tryz.ntmps75;go_wp2_with (first|(go_at_call 119;with_reducible refine (CV.out _).mono ?_;rintro e w2 ⟨rfl,hb2⟩;(try clear t0 t1 t2 t3 t4);replace HB:=J (HB.out.trans (hb2.mono HB.out.size));clear hb2;obtain⟨t0,t1,t2,t3,t4⟩:=HD.out _ HB.out)|(go_at_call 124;with_reducible refine (CC.out _).mono ?_;rintro e w2 ⟨rfl,hb2⟩;(try clear t0 t1 t2 t3 t4);replace HB:=J (HB.out.trans (hb2.mono HB.out.size));clear hb2;obtain⟨t0,t1,t2,t3,t4⟩:=HD.out _ HB.out)|(go_at_call 54;with_reducible refine (CW.out _).mono ?_;rintro e w1 ⟨rfl,rfl⟩));go_ret;exact⟨rfl,B0.out.trans (HB.out.mono (by first|exact Nat.le_refl _|(simp;done)|(simp<;>omega)))⟩
 rw[h0] at CW;rw[h0];go_enter Tryz.func75,Tryz.ntmps75;go_wp2_with (first|(go_at_call 119;with_reducible refine (CV.out _).mono ?_;rintro e w2 ⟨rfl,hb2⟩;(try clear t0 t1 t2 t3 t4);replace HB:=J (HB.out.trans (hb2.mono HB.out.size));clear hb2;obtain⟨t0,t1,t2,t3,t4⟩:=HD.out _ HB.out)|(go_at_call 124;with_reducible refine (CC.out _).mono ?_;rintro e w2 ⟨rfl,hb2⟩;(try clear t0 t1 t2 t3 t4);replace HB:=J (HB.out.trans (hb2.mono HB.out.size));clear hb2;obtain⟨t0,t1,t2,t3,t4⟩:=HD.out _ HB.out)|(go_at_call 54;with_reducible refine (CW.out _).mono ?_;rintro e w1 ⟨rfl,rfl⟩));go_ret;exact⟨rfl,B0.out.trans (HB.out.mono (by first|exact Nat.le_refl _|(simp;done)|(simp<;>omega)))⟩
theorem l15Has_any (x:DBand) (c:Int) (b off:Nat) (h:zbo x=true) (w:World) (c0:w.cell? ⟨b,off,none⟩=some (F x.name)) (c1:w.cell? ⟨b,off+1,none⟩=some (I x.low)) (c2:w.cell? ⟨b,off+2,none⟩=some (I x.high)) (c3:w.cell? ⟨b,off+3,none⟩=some (I x.raster)) (c4:w.cell? ⟨b,off+4,none⟩=some (I x.duplex)) :
  Calls Tryz.prog 152 #[.pointer (some ⟨b,off,none⟩),I c] w fun e w'=>e=.returned (.bool (inB c 0 (cntB x-1)))∧IJ w w w':=by
 obtain⟨f1,f2,f3,f4,f5,f6,f7,f8⟩:=ze6 h;have CC:=J (zb1 x f1 f2 O f4 f5 f6 b off w c0 c1 c2 c3 c4);clear h;generalize cntB x=m at *;go_enter Tryz.func152,Tryz.ntmps152;go_wp2_with (first|(go_at_call 189;refine (CC.out).mono ?_;rintro e w2 ⟨rfl,hb2⟩)|(go_at_call 89;refine (zao _ _ _ _).mono ?_;rintro e w1 ⟨rfl,rfl⟩));go_ret;exact⟨rfl,hb2⟩
theorem idxBand_lt (l:List DBand) (nm:ByteArray) (h:0≤zbu l nm):(zbu l nm).toNat<l.length∧((zbu l nm).toNat:Int)=zbu l nm:=by
 have:=firstIdx_bounds (fun x:DBand=>eqS x.name nm) l;unfold zbu at h ⊢;omega
end Go.Proofs.YtgmapjgodibchaaGreatDoor
