/- Contracts: bands by name, where a channel begins, whether a channel is of a band: for the program and for the reference. Conditions: bounded sizes. -/
import Derived.Test.YtjfmkmcefnidcaaGreatPl10
import Derived.Test.YtjfmkmcefnidcaaGreatBox
namespace Go.Proofs.YtjfmkmcefnidcaaGreat
set_option maxHeartbeats 8000000
set_option maxRecDepth 100000
open Go.RowKit
set_option linter.unusedVariables false
set_option linter.unusedSimpArgs false
def idxBand (l:List DBand) (nm:ByteArray):Int:=firstIdx' (fun x:DBand=>eqS x.name nm) l
theorem indexFuncBand_any (l:List DBand) (p:DBand→Bool) (fn:FuncId) (cap:List Value) (v:Value) (B:Nat) (w:World) (h:Rd B w (DBand.sT l) v) (hB:B≤w.heap.size) (hn:l.length≤1099511627776)
  (hcf:∀ (args:Array Value) (W:World),(callFunc fn args).run Tryz.prog W=.ok (.enter fn args) W)
  (hf:∀ x ∈ l,∀ W:World,Below w.heap.size w W→Calls Tryz.prog fn (Value.agg #[.string x.name,.int .i64 x.low,.int .i64 x.high,.int .i64 x.raster,.int .i64 x.duplex]::cap).toArray W fun e W'=>e=.returned (.bool (p x))∧Below W.heap.size W W') :
  Calls Tryz.prog 242 #[v,.func (.func fn) #[] cap.toArray] w fun e w'=>e=.returned (.int .i64 (firstIdx' p l))∧Below w.heap.size w w':=by
 obtain⟨a,c,rfl,hnc,hcm,hcells⟩:=DBand.rd h
 clear h
 have hnb:(l.length:Int)≤1099511627776:=by omega
 have HF:=Lib.hid hf
 clear hf
 go_enter Tryz.func242,Tryz.ntmps242
 go_wp2
 go_loopw [8] (fun i wr=>∃ (k:Nat),k≤l.length∧i=.int .i64 k∧(l.take k).any p=false∧Below w.heap.size w wr) (fun i wr=>l.length-(intOf i).toNat)
 case atStart=>exact⟨0,Nat.zero_le _,rfl,by simp,Below.refl _ _⟩
 case round =>
  obtain⟨k,hk,rfl,hno,hb⟩:=hrel
  have HN:=Lib.hid hno
  clear hno
  by_cases hlt:k<l.length
  ·obtain⟨b,off,rfl,hbl,hat⟩:=hcells (by omega)
   obtain⟨s0,s1,s2,s3,s4⟩:=hat k hlt
   rw[← hb.cell (p:=⟨b,_,none⟩) (show b<w.heap.size by omega)] at s0 s1 s2 s3 s4
   have HB:=Lib.hid hb
   clear hcells hat hb
   go_wp2_with fail
   refine (HF.out l[k] (List.getElem_mem hlt)  _ HB.out).mono ?_
   rintro e w1 ⟨rfl,hb1⟩
   have HB1:=Lib.hid (HB.out.trans (hb1.mono HB.out.size))
   clear hb1
   by_cases hp:p l[k]=true
   ·go_wp2
    go_ret
    exact⟨by rw[firstIdx_at p l k hlt hp HN.out];rfl,HB1.out⟩
   ·have hp':p l[k]=false:=by simpa using hp
    clear hp
    go_wp2
    go_roundw
    case rel=>exact⟨k+1,by omega,by go_num,by rw[any_take_succ p l k hlt,HN.out,hp'];rfl,HB1.out⟩
    case measure=>simp[intOf];omega
  ·obtain rfl:k=l.length:=by omega
   clear hcells
   go_wp2
   go_ret
   have:=HN.out
   rw[List.take_length] at this
   exact⟨by rw[firstIdx_none p l this];rfl,hb⟩
theorem bandNamed_any (l:List DBand) (nm:ByteArray) (v:Value) (B:Nat) (w:World) (h:Rd B w (DBand.sT l) v) (hB:B≤w.heap.size) (hn:l.length≤1099511627776) :
  Calls Tryz.prog 228 #[v,.string nm] w fun e w'=>e=.returned (.int .i64 (idxBand l nm))∧Below w.heap.size w w':=by
 have b0:Below w.heap.size w (w.alloc (.cells #[.string nm] 9)):=(Below.refl _ _).alloc (Nat.le_refl _) _
 have HC:=Lib.hid (indexFuncBand_any l (fun x:DBand=>eqS x.name nm) 243 [.pointer (some ⟨w.heap.size,0,none⟩)] v B (w.alloc (.cells #[.string nm] 9)) (h.below (b0.mono hB)) (by simp;omega) hn (fun _ _=>by kernel_rfl) (fun x _ W hW=>by
  have c1:W.cell? ⟨w.heap.size,0,none⟩=some (.string nm):=by rw[hW.cell (p:=⟨w.heap.size,0,none⟩) (by simp)];simp[go_sem]
  have c2:w.heap.size<W.heap.size:=by have:=hW.size;simp at this;omega
  clear hW
  go_enter Tryz.func243,Tryz.ntmps243
  go_wp2
  go_ret
  exact⟨rfl,(Below.refl _ _).alloc (Nat.le_refl _) _⟩))
 have B0:=Lib.hid b0
 clear b0 h
 unfold idxBand
 generalize firstIdx' (fun x:DBand=>eqS x.name nm) l=r at *
 go_enter Tryz.func228,Tryz.ntmps228
 go_wp2_with fail
 refine (HC.out).mono ?_
 rintro e w1 ⟨rfl,hb1⟩
 go_wp2
 go_ret
 exact⟨rfl,B0.out.trans (hb1.mono (by simp))⟩
theorem l15Find_any (l:List DBand) (nm:ByteArray) (v:Value) (B:Nat) (w:World) (h:Rd B w (DBand.sT l) v) (hB:B≤w.heap.size) (hn:l.length≤1099511627776) :
  Calls Tryz.prog 186 #[v,.string nm] w fun e w'=>e=.returned (.int .i64 (idxBand l nm))∧w=w':=by
 obtain⟨a,c,rfl,hnc,hcm,hcells⟩:=DBand.rd h
 clear h
 have hnb:(l.length:Int)≤1099511627776:=by omega
 go_enter Tryz.func186,Tryz.ntmps186
 go_wp2
 go_loop [5] (fun i=>∃ (k:Nat),k≤l.length∧i=.int .i64 k∧(l.take k).any (fun x:DBand=>eqS x.name nm)=false) (fun i=>l.length-(intOf i).toNat)
 case atStart=>exact⟨0,Nat.zero_le _,rfl,by simp⟩
 case round =>
  obtain⟨k,hk,rfl,hno⟩:=hrel
  have HN:=Lib.hid hno
  clear hno
  by_cases hlt:k<l.length
  ·obtain⟨b,off,rfl,hbl,hat⟩:=hcells (by omega)
   have s0:=(hat k hlt).1
   clear hcells hat
   by_cases hp1:(l[k].name.toList == nm.toList)=true
   ·have HP:=Lib.hid hp1
    go_wp2
    go_ret
    exact⟨by unfold idxBand;rw[firstIdx_at (fun x:DBand=>eqS x.name nm) l k hlt HP.out HN.out];rfl,rfl⟩
   ·have hp':(l[k].name.toList == nm.toList)=false:=Bool.eq_false_iff.2 hp1
    have HP:=Lib.hid hp'
    clear hp1
    go_wp2
    go_round
    case rel=>exact⟨k+1,by omega,by go_num,by rw[any_take_succ _ l k hlt,HN.out];exact HP.out⟩
    case measure=>simp[intOf];omega
  ·obtain rfl:k=l.length:=by omega
   clear hcells
   go_wp2
   go_ret
   have:=HN.out
   rw[List.take_length] at this
   exact⟨by unfold idxBand;rw[firstIdx_none _ l this];rfl,rfl⟩
theorem bandB_facts {x:DBand} (h:bandB x=true):1≤x.low∧x.low≤100000000∧x.low≤x.high∧x.high≤100000000∧1≤x.raster∧x.raster≤100000∧1≤cntB x∧cntB x≤1000:=by
 unfold bandB at h
 simp only[inB,Bool.and_eq_true,decide_eq_true_eq] at h
 omega
theorem mulC {c r:Int} (h1:-1≤c) (h2:c≤1000) (h3:0≤r) (h4:r≤100000):-100000≤c*r∧c*r≤100000000:=by
 have h5:=Int.mul_le_mul_of_nonneg_right h1 h3
 have h6:=Int.mul_le_mul h2 h4 h3 (by omega)
 omega
theorem begin_any (x:DBand) (c:Int) (h1:0≤x.low) (h2:x.low≤100000000) (h3:0≤x.raster) (h4:x.raster≤100000) (h5:-1≤c) (h6:c≤1000) (w:World) :
  Calls Tryz.prog 193 #[.agg #[.string x.name,.int .i64 x.low,.int .i64 x.high,.int .i64 x.raster,.int .i64 x.duplex],.int .i64 c] w fun e w'=>e=.returned (.int .i64 (x.low+c*x.raster))∧Below w.heap.size w w':=by
 obtain⟨h7,h8⟩:=mulC h5 h6 h3 h4
 go_enter Tryz.func193,Tryz.ntmps193
 go_wp2
 go_ret
 exact⟨rfl,(Below.refl _ _).alloc (Nat.le_refl _) _⟩
theorem code_any (x:DBand) (c:Int) (h:bandB x=true) (hn:x.name.size≤maxLen) (w:World) :
  Calls Tryz.prog 229 #[.agg #[.string x.name,.int .i64 x.low,.int .i64 x.high,.int .i64 x.raster,.int .i64 x.duplex],.int .i64 c] w fun e w'=>e=.returned (.int .i64 (if inB c 0 (cntB x-1) then 0 else 2))∧Below w.heap.size w w':=by
 obtain⟨f1,f2,f3,f4,f5,f6,f7,f8⟩:=bandB_facts h
 have B0:Hid (Below w.heap.size w (w.alloc (.cells #[.string x.name,.int .i64 x.low,.int .i64 x.high,.int .i64 x.raster,.int .i64 x.duplex] 77))):=(Below.alloc (Below.refl _ _) (by first|exact Nat.le_refl _|(simp;done)|(simp;omega)) _)
 have HD:Hid (∀ W:World,Below (w.alloc (.cells #[.string x.name,.int .i64 x.low,.int .i64 x.high,.int .i64 x.raster,.int .i64 x.duplex] 77)).heap.size (w.alloc (.cells #[.string x.name,.int .i64 x.low,.int .i64 x.high,.int .i64 x.raster,.int .i64 x.duplex] 77)) W→(W.cell? ⟨w.heap.size,0,none⟩=some (.string x.name)∧W.cell? ⟨w.heap.size,1,none⟩=some (.int .i64 x.low)∧W.cell? ⟨w.heap.size,2,none⟩=some (.int .i64 x.high)∧W.cell? ⟨w.heap.size,3,none⟩=some (.int .i64 x.raster)∧W.cell? ⟨w.heap.size,4,none⟩=some (.int .i64 x.duplex))):=fun W hW=>⟨by rw[hW.cell (p:=⟨w.heap.size,0,none⟩) (by first|(simp;done)|(simp;omega))];simp[go_sem],by rw[hW.cell (p:=⟨w.heap.size,1,none⟩) (by first|(simp;done)|(simp;omega))];simp[go_sem],by rw[hW.cell (p:=⟨w.heap.size,2,none⟩) (by first|(simp;done)|(simp;omega))];simp[go_sem],by rw[hW.cell (p:=⟨w.heap.size,3,none⟩) (by first|(simp;done)|(simp;omega))];simp[go_sem],by rw[hW.cell (p:=⟨w.heap.size,4,none⟩) (by first|(simp;done)|(simp;omega))];simp[go_sem]⟩
 have HB:Hid (Below (w.alloc (.cells #[.string x.name,.int .i64 x.low,.int .i64 x.high,.int .i64 x.raster,.int .i64 x.duplex] 77)).heap.size (w.alloc (.cells #[.string x.name,.int .i64 x.low,.int .i64 x.high,.int .i64 x.raster,.int .i64 x.duplex] 77)) (w.alloc (.cells #[.string x.name,.int .i64 x.low,.int .i64 x.high,.int .i64 x.raster,.int .i64 x.duplex] 77))):=Below.refl _ _
 have CV:Hid (∀ W:World,Calls Tryz.prog 169 #[.agg #[.string x.name,.int .i64 x.low,.int .i64 x.high,.int .i64 x.raster,.int .i64 x.duplex]] W fun e w'=>e=.returned (.bool true)∧Below W.heap.size W w'):=fun W=>by
  have t:=validBand_any x hn W
  rw[h] at t
  exact t
 have CC:Hid (∀ W:World,Calls Tryz.prog 215 #[.agg #[.string x.name,.int .i64 x.low,.int .i64 x.high,.int .i64 x.raster,.int .i64 x.duplex]] W fun e w'=>e=.returned (.int .i64 (cntB x))∧Below W.heap.size W w'):=fun W=>count_any x f1 f2 (by omega) f4 f5 f6 f3 W
 have CW:Hid (∀ W:World,Calls Tryz.prog 175 #[.int .i64 c,.int .i64 0,.int .i64 (cntB x-1)] W fun e w'=>e=.returned (.bool (inB c 0 (cntB x-1)))∧W=w'):=fun W=>within_any _ _ _ _
 clear h
 generalize cntB x=m at *
 by_cases h0:inB c 0 (m-1)=true
 case neg =>
  replace h0:inB c 0 (m-1)=false:=Bool.eq_false_iff.2 h0
  rw[h0] at CW
  rw[h0]
  go_enter Tryz.func229,Tryz.ntmps229
  go_wp2_with (first|(go_at_call 169;with_reducible refine (CV.out _).mono ?_;rintro e w2 ⟨rfl,hb2⟩;(try clear t0 t1 t2 t3 t4);replace HB:=Lib.hid (HB.out.trans (hb2.mono HB.out.size));clear hb2;obtain⟨t0,t1,t2,t3,t4⟩:=HD.out _ HB.out)|(go_at_call 215;with_reducible refine (CC.out _).mono ?_;rintro e w2 ⟨rfl,hb2⟩;(try clear t0 t1 t2 t3 t4);replace HB:=Lib.hid (HB.out.trans (hb2.mono HB.out.size));clear hb2;obtain⟨t0,t1,t2,t3,t4⟩:=HD.out _ HB.out)|(go_at_call 175;with_reducible refine (CW.out _).mono ?_;rintro e w1 ⟨rfl,rfl⟩))
  go_ret
  exact⟨rfl,B0.out.trans (HB.out.mono (by first|exact Nat.le_refl _|(simp;done)|(simp;omega)))⟩
 rw[h0] at CW
 rw[h0]
 go_enter Tryz.func229,Tryz.ntmps229
 go_wp2_with (first|(go_at_call 169;with_reducible refine (CV.out _).mono ?_;rintro e w2 ⟨rfl,hb2⟩;(try clear t0 t1 t2 t3 t4);replace HB:=Lib.hid (HB.out.trans (hb2.mono HB.out.size));clear hb2;obtain⟨t0,t1,t2,t3,t4⟩:=HD.out _ HB.out)|(go_at_call 215;with_reducible refine (CC.out _).mono ?_;rintro e w2 ⟨rfl,hb2⟩;(try clear t0 t1 t2 t3 t4);replace HB:=Lib.hid (HB.out.trans (hb2.mono HB.out.size));clear hb2;obtain⟨t0,t1,t2,t3,t4⟩:=HD.out _ HB.out)|(go_at_call 175;with_reducible refine (CW.out _).mono ?_;rintro e w1 ⟨rfl,rfl⟩))
 go_ret
 exact⟨rfl,B0.out.trans (HB.out.mono (by first|exact Nat.le_refl _|(simp;done)|(simp;omega)))⟩
theorem l15Has_any (x:DBand) (c:Int) (b off:Nat) (h:bandB x=true) (w:World) (c0:w.cell? ⟨b,off,none⟩=some (.string x.name)) (c1:w.cell? ⟨b,off+1,none⟩=some (.int .i64 x.low)) (c2:w.cell? ⟨b,off+2,none⟩=some (.int .i64 x.high)) (c3:w.cell? ⟨b,off+3,none⟩=some (.int .i64 x.raster)) (c4:w.cell? ⟨b,off+4,none⟩=some (.int .i64 x.duplex)) :
  Calls Tryz.prog 187 #[.pointer (some ⟨b,off,none⟩),.int .i64 c] w fun e w'=>e=.returned (.bool (inB c 0 (cntB x-1)))∧Below w.heap.size w w':=by
 obtain⟨f1,f2,f3,f4,f5,f6,f7,f8⟩:=bandB_facts h
 have CC:=Lib.hid (l15Count_any x f1 f2 (by omega) f4 f5 f6 b off w c0 c1 c2 c3 c4)
 clear h
 generalize cntB x=m at *
 go_enter Tryz.func187,Tryz.ntmps187
 go_wp2_with (first|(go_at_call 203;refine (CC.out).mono ?_;rintro e w2 ⟨rfl,hb2⟩)|(go_at_call 148;refine (l00In_any _ _ _ _).mono ?_;rintro e w1 ⟨rfl,rfl⟩))
 go_ret
 exact⟨rfl,hb2⟩
open Go.RowKit
set_option linter.unusedVariables false
set_option linter.unusedSimpArgs false
def codeP (p:DPlan) (nm:ByteArray):Int × Int:=if planB p=true then (if idxSector p.network.sectors nm<0 then (0,3) else (idxSector p.network.sectors nm,0)) else (0,1)
def hasB (p:DPlan) (x:DSector):Bool:=decide (0≤idxBand p.bands x.band)&&inB x.channel 0 (cntB (gBand p.bands (idxBand p.bands x.band).toNat)-1)
def bandN (p:DPlan) (x:DSector):DBand:=gBand p.bands (idxBand p.bands x.band).toNat
def rngLow (p:DPlan) (x:DSector):Int:=(bandN p x).low+x.channel*(bandN p x).raster
def rngHigh (p:DPlan) (x:DSector):Int:=(bandN p x).low+(x.channel+1)*(bandN p x).raster
theorem rngHigh_eq (p:DPlan) (x:DSector):rngHigh p x=rngLow p x+(bandN p x).raster:=by
 unfold rngHigh rngLow
 rw[Int.add_mul,Int.one_mul,Int.add_assoc]
theorem planB_bands {p:DPlan} (h:planB p=true) {j:Nat} (hj:j<p.bands.length):bandB (gBand p.bands j)=true:=by
 unfold planB bandsB at h
 simp only[Bool.and_eq_true] at h
 rw[← gBand_eq hj]
 exact rowOk_ok h.2.2.1.2 hj
theorem planB_sector {p:DPlan} (h:planB p=true) {k:Nat} (hk:k<p.network.sectors.length):sectorB (gSector p.network.sectors k)=true∧refersB p.network (gSector p.network.sectors k)=true:=by
 unfold planB netB at h
 simp only[Bool.and_eq_true] at h
 rw[← gSector_eq hk]
 have:=rowOk_ok h.2.1.2.2.2.2.2.2.2 hk
 simpa only[Bool.and_eq_true] using this
theorem sectorB_channel {x:DSector} (h:sectorB x=true):-1≤x.channel∧x.channel≤999:=by
 unfold sectorB at h
 simp only[Bool.and_eq_true] at h
 exact inB_true.1 h.2.2.2.2.2.2.2.2
theorem idxBand_lt (l:List DBand) (nm:ByteArray) (h:0≤idxBand l nm):(idxBand l nm).toNat<l.length∧((idxBand l nm).toNat:Int)=idxBand l nm:=by
 have:=firstIdx_bounds (fun x:DBand=>eqS x.name nm) l
 unfold idxBand at h ⊢
 omega
theorem idxSector_lt (l:List DSector) (nm:ByteArray) (h:0≤idxSector l nm):(idxSector l nm).toNat<l.length∧((idxSector l nm).toNat:Int)=idxSector l nm:=by
 have:=firstIdx_bounds (fun x:DSector=>eqS x.name nm) l
 unfold idxSector at h ⊢
 omega
theorem planCode_any (p:DPlan) (nm:ByteArray) (v3 v4 v5 v6 v7 v8 v9 v10 v11 v12:Value) (w:World) (h:PlanRd w.heap.size w p v3 v4 v5 v6 v7 v8 v9 v10 v11 v12) (hs:sizL p.tr≤1099511627776) (hk:p.ok) :
  Calls Tryz.prog 70 #[.agg #[.int .i64 p.terrain.step,.int .i64 p.terrain.width,.int .i64 p.terrain.height,v3,v4,v5,v6,v7,v8,v9,v10,v11,v12,.int .i64 p.day],.string nm] w fun e w'=>e=.returned (.tuple #[.int .i64 (codeP p nm).1,.int .i64 (codeP p nm).2])∧Below w.heap.size w w':=by
 have H:=Lib.hid h
 clear h
 have Z:=Lib.hid (PlanSz.of hs)
 obtain⟨W0,hW0,b0,z0,k0⟩:=boxes1 w #[.int .i64 p.terrain.step,.int .i64 p.terrain.width,.int .i64 p.terrain.height,v3,v4,v5,v6,v7,v8,v9,v10,v11,v12,.int .i64 p.day] 53
 have HW0:=Lib.hid hW0
 clear hW0
 have B0:=Lib.hid b0
 clear b0
 have K0:=Lib.hid k0
 clear k0
 have HD:Hid (∀ W:World,Below W0.heap.size W0 W→(W.cell? ⟨w.heap.size,0,none⟩=some (.int .i64 p.terrain.step)∧W.cell? ⟨w.heap.size,1,none⟩=some (.int .i64 p.terrain.width)∧W.cell? ⟨w.heap.size,2,none⟩=some (.int .i64 p.terrain.height)∧W.cell? ⟨w.heap.size,3,none⟩=some (v3)∧W.cell? ⟨w.heap.size,4,none⟩=some (v4)∧W.cell? ⟨w.heap.size,5,none⟩=some (v5)∧W.cell? ⟨w.heap.size,6,none⟩=some (v6)∧W.cell? ⟨w.heap.size,7,none⟩=some (v7)∧W.cell? ⟨w.heap.size,8,none⟩=some (v8)∧W.cell? ⟨w.heap.size,9,none⟩=some (v9)∧W.cell? ⟨w.heap.size,10,none⟩=some (v10)∧W.cell? ⟨w.heap.size,11,none⟩=some (v11)∧W.cell? ⟨w.heap.size,12,none⟩=some (v12)∧W.cell? ⟨w.heap.size,13,none⟩=some (.int .i64 p.day))):=fun W hW=>⟨bkC (bkB K0.out hW (by omega)) 0 rfl,bkC (bkB K0.out hW (by omega)) 1 rfl,bkC (bkB K0.out hW (by omega)) 2 rfl,bkC (bkB K0.out hW (by omega)) 3 rfl,bkC (bkB K0.out hW (by omega)) 4 rfl,bkC (bkB K0.out hW (by omega)) 5 rfl,bkC (bkB K0.out hW (by omega)) 6 rfl,bkC (bkB K0.out hW (by omega)) 7 rfl,bkC (bkB K0.out hW (by omega)) 8 rfl,bkC (bkB K0.out hW (by omega)) 9 rfl,bkC (bkB K0.out hW (by omega)) 10 rfl,bkC (bkB K0.out hW (by omega)) 11 rfl,bkC (bkB K0.out hW (by omega)) 12 rfl,bkC (bkB K0.out hW (by omega)) 13 rfl⟩
 have HB:Hid (Below W0.heap.size W0 W0):=Below.refl _ _
 have HH:Hid (∀ W:World,Below W0.heap.size W0 W→Below w.heap.size w W):=fun W hW=>B0.out.trans (hW.mono (by omega))
 have CV:Hid (∀ W:World,Below W0.heap.size W0 W→Calls Tryz.prog 52 #[.agg #[.int .i64 p.terrain.step,.int .i64 p.terrain.width,.int .i64 p.terrain.height,v3,v4,v5,v6,v7,v8,v9,v10,v11,v12,.int .i64 p.day]] W fun e w'=>e=.returned (.bool (planB p))∧Below W.heap.size W w'):=fun W hW=>iValidPlan_any p v3 v4 v5 v6 v7 v8 v9 v10 v11 v12 W ((H.out.below (HH.out W hW)).mono (HH.out W hW).size) hs hk
 have CS:Hid (∀ W:World,Below W0.heap.size W0 W→Calls Tryz.prog 135 #[.agg #[v5,v6,v7,v8],.string nm] W fun e w'=>e=.returned (.int .i64 (idxSector p.network.sectors nm))∧Below W.heap.size W w'):=fun W hW=>sectorNamed_any p.network.sectors nm v5 v6 v7 v8 w.heap.size W (H.out.r6.below (HH.out W hW)) (HH.out W hW).size Z.out.sectors
 by_cases h0:planB p=true
 case neg =>
  have HE:Hid (codeP p nm=(0,1)):=by show _=_;unfold codeP;rw[if_neg h0]
  replace h0:planB p=false:=Bool.eq_false_iff.2 h0
  rw[h0] at CV
  go_enter Tryz.func70,Tryz.ntmps70
  go_upto_region 1 with (fail)
  rw[HW0.out]
  obtain⟨t0,t1,t2,t3,t4,t5,t6,t7,t8,t9,t10,t11,t12,t13⟩:=HD.out _ HB.out
  go_wp2_with (first|(go_at_call 52;with_reducible refine (CV.out _ HB.out).mono ?_;rintro e w2 ⟨rfl,hb2⟩;(try clear t0 t1 t2 t3 t4 t5 t6 t7 t8 t9 t10 t11 t12 t13);replace HB:=Lib.hid (HB.out.trans (hb2.mono HB.out.size));clear hb2;obtain⟨t0,t1,t2,t3,t4,t5,t6,t7,t8,t9,t10,t11,t12,t13⟩:=HD.out _ HB.out)|(go_at_call 135;with_reducible refine (CS.out _ HB.out).mono ?_;rintro e w2 ⟨rfl,hb2⟩;(try clear t0 t1 t2 t3 t4 t5 t6 t7 t8 t9 t10 t11 t12 t13);replace HB:=Lib.hid (HB.out.trans (hb2.mono HB.out.size));clear hb2;obtain⟨t0,t1,t2,t3,t4,t5,t6,t7,t8,t9,t10,t11,t12,t13⟩:=HD.out _ HB.out))
  go_ret2
  exact⟨by rw[HE.out];rfl,HH.out _ HB.out⟩
 rw[h0] at CV
 by_cases h1:idxSector p.network.sectors nm<0
 case pos =>
  have HE:Hid (codeP p nm=(0,3)):=by show _=_;unfold codeP;rw[if_pos h0,if_pos h1]
  generalize idxSector p.network.sectors nm=r at *
  go_enter Tryz.func70,Tryz.ntmps70
  go_upto_region 1 with (fail)
  rw[HW0.out]
  obtain⟨t0,t1,t2,t3,t4,t5,t6,t7,t8,t9,t10,t11,t12,t13⟩:=HD.out _ HB.out
  go_wp2_with (first|(go_at_call 52;with_reducible refine (CV.out _ HB.out).mono ?_;rintro e w2 ⟨rfl,hb2⟩;(try clear t0 t1 t2 t3 t4 t5 t6 t7 t8 t9 t10 t11 t12 t13);replace HB:=Lib.hid (HB.out.trans (hb2.mono HB.out.size));clear hb2;obtain⟨t0,t1,t2,t3,t4,t5,t6,t7,t8,t9,t10,t11,t12,t13⟩:=HD.out _ HB.out)|(go_at_call 135;with_reducible refine (CS.out _ HB.out).mono ?_;rintro e w2 ⟨rfl,hb2⟩;(try clear t0 t1 t2 t3 t4 t5 t6 t7 t8 t9 t10 t11 t12 t13);replace HB:=Lib.hid (HB.out.trans (hb2.mono HB.out.size));clear hb2;obtain⟨t0,t1,t2,t3,t4,t5,t6,t7,t8,t9,t10,t11,t12,t13⟩:=HD.out _ HB.out))
  go_ret2
  exact⟨by rw[HE.out];rfl,HH.out _ HB.out⟩
 have HE:Hid (codeP p nm=(idxSector p.network.sectors nm,0)):=by show _=_;unfold codeP;rw[if_pos h0,if_neg h1]
 generalize idxSector p.network.sectors nm=r at *
 replace h1:0≤r:=by omega
 go_enter Tryz.func70,Tryz.ntmps70
 go_upto_region 1 with (fail)
 rw[HW0.out]
 obtain⟨t0,t1,t2,t3,t4,t5,t6,t7,t8,t9,t10,t11,t12,t13⟩:=HD.out _ HB.out
 go_wp2_with (first|(go_at_call 52;with_reducible refine (CV.out _ HB.out).mono ?_;rintro e w2 ⟨rfl,hb2⟩;(try clear t0 t1 t2 t3 t4 t5 t6 t7 t8 t9 t10 t11 t12 t13);replace HB:=Lib.hid (HB.out.trans (hb2.mono HB.out.size));clear hb2;obtain⟨t0,t1,t2,t3,t4,t5,t6,t7,t8,t9,t10,t11,t12,t13⟩:=HD.out _ HB.out)|(go_at_call 135;with_reducible refine (CS.out _ HB.out).mono ?_;rintro e w2 ⟨rfl,hb2⟩;(try clear t0 t1 t2 t3 t4 t5 t6 t7 t8 t9 t10 t11 t12 t13);replace HB:=Lib.hid (HB.out.trans (hb2.mono HB.out.size));clear hb2;obtain⟨t0,t1,t2,t3,t4,t5,t6,t7,t8,t9,t10,t11,t12,t13⟩:=HD.out _ HB.out))
 go_ret2
 exact⟨by rw[HE.out];rfl,HH.out _ HB.out⟩
theorem l30Ask_any (p:DPlan) (nm:ByteArray) (v3 v4 v5 v6 v7 v8 v9 v10 v11 v12:Value) (b off:Nat) (w:World) (h:PlanRd w.heap.size w p v3 v4 v5 v6 v7 v8 v9 v10 v11 v12) (hs:sizL p.tr≤1099511627776) (hk:p.ok) (c0:w.cell? ⟨b,off,none⟩=some (.int .i64 p.terrain.step)) (c1:w.cell? ⟨b,off+1,none⟩=some (.int .i64 p.terrain.width)) (c2:w.cell? ⟨b,off+2,none⟩=some (.int .i64 p.terrain.height)) (c3:w.cell? ⟨b,off+3,none⟩=some (v3)) (c4:w.cell? ⟨b,off+4,none⟩=some (v4)) (c5:w.cell? ⟨b,off+5,none⟩=some (v5)) (c6:w.cell? ⟨b,off+6,none⟩=some (v6)) (c7:w.cell? ⟨b,off+7,none⟩=some (v7)) (c8:w.cell? ⟨b,off+8,none⟩=some (v8)) (c9:w.cell? ⟨b,off+9,none⟩=some (v9)) (c10:w.cell? ⟨b,off+10,none⟩=some (v10)) (c11:w.cell? ⟨b,off+11,none⟩=some (v11)) (c12:w.cell? ⟨b,off+12,none⟩=some (v12)) (c13:w.cell? ⟨b,off+13,none⟩=some (.int .i64 p.day)) :
  Calls Tryz.prog 68 #[.pointer (some ⟨b,off,none⟩),.string nm] w fun e w'=>e=.returned (.tuple #[.int .i64 (codeP p nm).1,.int .i64 (codeP p nm).2])∧Below w.heap.size w w':=by
 have H:=Lib.hid h
 have Z:=Lib.hid (PlanSz.of hs)
 have hbl:=cell_lt c0
 dsimp only at hbl
 have CV:=Lib.hid (l30Ok_any p v3 v4 v5 v6 v7 v8 v9 v10 v11 v12 b off w h hs hk c0 c1 c2 c3 c4 c5 c6 c7 c8 c9 c10 c11 c12 c13)
 have HC6:Hid (∀ W:World,Below w.heap.size w W→W.cell? ⟨b,off+6,none⟩=some v6):=fun W hW=>(hW.cell (p:=⟨b,off+6,none⟩) hbl).trans c6
 have CS:Hid (∀ W:World,Below w.heap.size w W→Calls Tryz.prog 128 #[.pointer (some ⟨b,off+5,none⟩),.string nm] W fun e w'=>e=.returned (.int .i64 (idxSector p.network.sectors nm))∧W=w'):=fun W hW=>l14Find_off p.network.sectors nm v6 b (off+5) w.heap.size W (H.out.r6.below hW) hW.size (HC6.out W hW) Z.out.sectors
 clear h c0 c1 c2 c3 c4 c5 c6 c7 c8 c9 c10 c11 c12 c13
 by_cases h0:planB p=true
 case neg =>
  have HE:Hid (codeP p nm=(0,1)):=by show _=_;unfold codeP;rw[if_neg h0]
  replace h0:planB p=false:=Bool.eq_false_iff.2 h0
  rw[h0] at CV
  go_enter Tryz.func68,Tryz.ntmps68
  go_wp2_with (first|(go_at_call 44;refine (CV.out).mono ?_;rintro e w2 ⟨rfl,hb2⟩;have HB:=Lib.hid hb2;clear hb2)|(go_at_call 128;with_reducible refine (CS.out _ HB.out).mono ?_;rintro e w1 ⟨rfl,rfl⟩))
  go_ret2
  exact⟨by rw[HE.out];rfl,HB.out⟩
 rw[h0] at CV
 by_cases h1:idxSector p.network.sectors nm<0
 case pos =>
  have HE:Hid (codeP p nm=(0,3)):=by show _=_;unfold codeP;rw[if_pos h0,if_pos h1]
  generalize idxSector p.network.sectors nm=r at *
  go_enter Tryz.func68,Tryz.ntmps68
  go_wp2_with (first|(go_at_call 44;refine (CV.out).mono ?_;rintro e w2 ⟨rfl,hb2⟩;have HB:=Lib.hid hb2;clear hb2)|(go_at_call 128;with_reducible refine (CS.out _ HB.out).mono ?_;rintro e w1 ⟨rfl,rfl⟩))
  go_ret2
  exact⟨by rw[HE.out];rfl,HB.out⟩
 have HE:Hid (codeP p nm=(idxSector p.network.sectors nm,0)):=by show _=_;unfold codeP;rw[if_pos h0,if_neg h1]
 generalize idxSector p.network.sectors nm=r at *
 replace h1:0≤r:=by omega
 go_enter Tryz.func68,Tryz.ntmps68
 go_wp2_with (first|(go_at_call 44;refine (CV.out).mono ?_;rintro e w2 ⟨rfl,hb2⟩;have HB:=Lib.hid hb2;clear hb2)|(go_at_call 128;with_reducible refine (CS.out _ HB.out).mono ?_;rintro e w1 ⟨rfl,rfl⟩))
 go_ret2
 exact⟨by rw[HE.out];rfl,HB.out⟩
theorem bandOf_any (p:DPlan) (x:DSector) (v3 v4 v5 v6 v7 v8 v9 v10 v11 v12:Value) (w:World) (h9:Rd w.heap.size w (DBand.sT p.bands) v9) (hn:p.bands.length≤1099511627776) (hv:∀ j,j<p.bands.length→bandB (gBand p.bands j)=true) (hk:∀ y ∈ p.bands,y.ok) :
  Calls Tryz.prog 192 #[.agg #[.int .i64 p.terrain.step,.int .i64 p.terrain.width,.int .i64 p.terrain.height,v3,v4,v5,v6,v7,v8,v9,v10,v11,v12,.int .i64 p.day],.agg #[.string x.name,.string x.site,.string x.antenna,.string x.radio,.string x.band,.int .i64 x.azimuth,.int .i64 x.tilt,.int .i64 x.above,.int .i64 x.channel]] w fun e w'=>((hasB p x=true∧e=.returned (.tuple #[.agg #[.string (bandN p x).name,.int .i64 (bandN p x).low,.int .i64 (bandN p x).high,.int .i64 (bandN p x).raster,.int .i64 (bandN p x).duplex],.bool true]))∨(hasB p x=false∧e=.returned (.tuple #[.agg #[.string ⟨#[]⟩,.int .i64 0,.int .i64 0,.int .i64 0,.int .i64 0],.bool false])))∧Below w.heap.size w w':=by
 have H9:=Lib.hid h9
 obtain⟨a9,k9,e9,_,_,hcl⟩:=DBand.rd h9
 subst e9
 have HCL:=Lib.hid hcl
 clear hcl h9
 have m9:(p.bands.length:Int)≤1099511627776:=by omega
 obtain⟨W0,hW0,b0,z0,k0,k1,k2⟩:=boxes3 w #[.int .i64 p.terrain.step,.int .i64 p.terrain.width,.int .i64 p.terrain.height,v3,v4,v5,v6,v7,v8,.slice a9 p.bands.length k9,v10,v11,v12,.int .i64 p.day] 53 #[.string x.name,.string x.site,.string x.antenna,.string x.radio,.string x.band,.int .i64 x.azimuth,.int .i64 x.tilt,.int .i64 x.above,.int .i64 x.channel] 128 #[.string ⟨#[]⟩,.int .i64 0,.int .i64 0,.int .i64 0,.int .i64 0] 77
 have HW0:=Lib.hid hW0
 clear hW0
 have B0:=Lib.hid b0
 clear b0
 have K0:=Lib.hid k0
 clear k0
 have K1:=Lib.hid k1
 clear k1
 have K2:=Lib.hid k2
 clear k2
 have HD:Hid (∀ W:World,Below W0.heap.size W0 W→(W.cell? ⟨w.heap.size,0,none⟩=some (.int .i64 p.terrain.step)∧W.cell? ⟨w.heap.size,1,none⟩=some (.int .i64 p.terrain.width)∧W.cell? ⟨w.heap.size,2,none⟩=some (.int .i64 p.terrain.height)∧W.cell? ⟨w.heap.size,3,none⟩=some (v3)∧W.cell? ⟨w.heap.size,4,none⟩=some (v4)∧W.cell? ⟨w.heap.size,5,none⟩=some (v5)∧W.cell? ⟨w.heap.size,6,none⟩=some (v6)∧W.cell? ⟨w.heap.size,7,none⟩=some (v7)∧W.cell? ⟨w.heap.size,8,none⟩=some (v8)∧W.cell? ⟨w.heap.size,9,none⟩=some (.slice a9 p.bands.length k9)∧W.cell? ⟨w.heap.size,10,none⟩=some (v10)∧W.cell? ⟨w.heap.size,11,none⟩=some (v11)∧W.cell? ⟨w.heap.size,12,none⟩=some (v12)∧W.cell? ⟨w.heap.size,13,none⟩=some (.int .i64 p.day)∧W.cell? ⟨w.heap.size+1,0,none⟩=some (.string x.name)∧W.cell? ⟨w.heap.size+1,1,none⟩=some (.string x.site)∧W.cell? ⟨w.heap.size+1,2,none⟩=some (.string x.antenna)∧W.cell? ⟨w.heap.size+1,3,none⟩=some (.string x.radio)∧W.cell? ⟨w.heap.size+1,4,none⟩=some (.string x.band)∧W.cell? ⟨w.heap.size+1,5,none⟩=some (.int .i64 x.azimuth)∧W.cell? ⟨w.heap.size+1,6,none⟩=some (.int .i64 x.tilt)∧W.cell? ⟨w.heap.size+1,7,none⟩=some (.int .i64 x.above)∧W.cell? ⟨w.heap.size+1,8,none⟩=some (.int .i64 x.channel)∧W.cell? ⟨w.heap.size+2,0,none⟩=some (.string ⟨#[]⟩)∧W.cell? ⟨w.heap.size+2,1,none⟩=some (.int .i64 0)∧W.cell? ⟨w.heap.size+2,2,none⟩=some (.int .i64 0)∧W.cell? ⟨w.heap.size+2,3,none⟩=some (.int .i64 0)∧W.cell? ⟨w.heap.size+2,4,none⟩=some (.int .i64 0))):=fun W hW=>⟨bkC (bkB K0.out hW (by omega)) 0 rfl,bkC (bkB K0.out hW (by omega)) 1 rfl,bkC (bkB K0.out hW (by omega)) 2 rfl,bkC (bkB K0.out hW (by omega)) 3 rfl,bkC (bkB K0.out hW (by omega)) 4 rfl,bkC (bkB K0.out hW (by omega)) 5 rfl,bkC (bkB K0.out hW (by omega)) 6 rfl,bkC (bkB K0.out hW (by omega)) 7 rfl,bkC (bkB K0.out hW (by omega)) 8 rfl,bkC (bkB K0.out hW (by omega)) 9 rfl,bkC (bkB K0.out hW (by omega)) 10 rfl,bkC (bkB K0.out hW (by omega)) 11 rfl,bkC (bkB K0.out hW (by omega)) 12 rfl,bkC (bkB K0.out hW (by omega)) 13 rfl,bkC (bkB K1.out hW (by omega)) 0 rfl,bkC (bkB K1.out hW (by omega)) 1 rfl,bkC (bkB K1.out hW (by omega)) 2 rfl,bkC (bkB K1.out hW (by omega)) 3 rfl,bkC (bkB K1.out hW (by omega)) 4 rfl,bkC (bkB K1.out hW (by omega)) 5 rfl,bkC (bkB K1.out hW (by omega)) 6 rfl,bkC (bkB K1.out hW (by omega)) 7 rfl,bkC (bkB K1.out hW (by omega)) 8 rfl,bkC (bkB K2.out hW (by omega)) 0 rfl,bkC (bkB K2.out hW (by omega)) 1 rfl,bkC (bkB K2.out hW (by omega)) 2 rfl,bkC (bkB K2.out hW (by omega)) 3 rfl,bkC (bkB K2.out hW (by omega)) 4 rfl⟩
 have HB:Hid (Below W0.heap.size W0 W0):=Below.refl _ _
 have HH:Hid (∀ W:World,Below W0.heap.size W0 W→Below w.heap.size w W):=fun W hW=>B0.out.trans (hW.mono (by omega))
 have CN:Hid (∀ W:World,Below W0.heap.size W0 W→Calls Tryz.prog 228 #[.slice a9 p.bands.length k9,.string x.band] W fun e w'=>e=.returned (.int .i64 (idxBand p.bands x.band))∧Below W.heap.size W w'):=fun W hW=>bandNamed_any p.bands x.band _ w.heap.size W (H9.out.below (HH.out W hW)) (HH.out W hW).size hn
 by_cases h0:0≤idxBand p.bands x.band
 case neg =>
  have HE:Hid (hasB p x=false):=by show _=_;unfold hasB;rw[decide_eq_false h0];rfl
  generalize idxBand p.bands x.band=r at *
  replace h0:r<0:=by omega
  go_enter Tryz.func192,Tryz.ntmps192
  go_upto_region 1 with (fail)
  rw[HW0.out]
  obtain⟨t0,t1,t2,t3,t4,t5,t6,t7,t8,t9,t10,t11,t12,t13,t14,t15,t16,t17,t18,t19,t20,t21,t22,t23,t24,t25,t26,t27⟩:=HD.out _ HB.out
  go_upto_region 2 with (go_at_call 228;with_reducible refine (CN.out _ HB.out).mono ?_;rintro e w2 ⟨rfl,hb2⟩;(try clear t0 t1 t2 t3 t4 t5 t6 t7 t8 t9 t10 t11 t12 t13 t14 t15 t16 t17 t18 t19 t20 t21 t22 t23 t24 t25 t26 t27);replace HB:=Lib.hid (HB.out.trans (hb2.mono HB.out.size));clear hb2;obtain⟨t0,t1,t2,t3,t4,t5,t6,t7,t8,t9,t10,t11,t12,t13,t14,t15,t16,t17,t18,t19,t20,t21,t22,t23,t24,t25,t26,t27⟩:=HD.out _ HB.out)
  have zz:=HB.out.size
  have oP:=overC (w0:=w2) (show w.heap.size<w2.heap.size by omega)
  have oX:=overC (w0:=w2) (show w.heap.size+1<w2.heap.size by omega)
  refine wp_region_over w2.heap.size w2 (Below.refl _ _) (by kernel_rfl) (by kernel_rfl) ?_
  repeat (go_big_quiet_step (fail))
  refine wpQuiet_nil ?_
  rintro _ ⟨X,rfl⟩
  have hX:=over_below w2.heap.size w2 X
  clear oP oX t0 t1 t2 t3 t4 t5 t6 t7 t8 t9 t10 t11 t12 t13 t14 t15 t16 t17 t18 t19 t20 t21 t22 t23 t24 t25 t26 t27
  generalize over w2.heap.size w2 X=w3 at *
  have HB3:=Lib.hid (HB.out.trans (hX.mono HB.out.size))
  clear hX
  obtain⟨t0,t1,t2,t3,t4,t5,t6,t7,t8,t9,t10,t11,t12,t13,t14,t15,t16,t17,t18,t19,t20,t21,t22,t23,t24,t25,t26,t27⟩:=HD.out _ HB3.out
  have gz:=bkF (bkB K2.out HB3.out (by omega))
  have HB4:=Lib.hid (HH.out _ HB3.out)
  go_wp2
  refine bodyPost_ret (v:=.tuple #[.agg #[.string ⟨#[]⟩,.int .i64 0,.int .i64 0,.int .i64 0,.int .i64 0],.bool false]) (by simp[results,Tryz.results192,go_sem, *]) rfl ?_
  exact⟨Or.inr ⟨HE.out,rfl⟩,(bset (bset (bset (bset (bset HB4.out (by omega) 0 _) (by omega) 1 _) (by omega) 2 _) (by omega) 3 _) (by omega) 4 _)⟩
 obtain⟨hl,hlc⟩:=idxBand_lt _ _ h0
 have HE0:Hid (hasB p x=inB x.channel 0 (cntB (bandN p x)-1)):=by show _=_;unfold hasB;rw[decide_eq_true h0];rfl
 have hvb:=hv _ hl
 obtain⟨b,off,eb,hbl,hat⟩:=HCL.out (by omega)
 obtain⟨s0,s1,s2,s3,s4⟩:=hat _ hl
 have hnm:=(hk _ (List.getElem_mem hl)).name
 rw[gBand_eq hl] at s0 s1 s2 s3 s4 hnm
 have HBN:Hid (bandN p x=gBand p.bands (idxBand p.bands x.band).toNat):=rfl
 rw[← HBN.out] at hvb s0 s1 s2 s3 s4 hnm
 subst eb
 clear hat
 have HS:Hid (∀ W:World,Below W0.heap.size W0 W→(W.cell? ⟨b,off+(idxBand p.bands x.band).toNat*5,none⟩=some (.string (bandN p x).name)∧W.cell? ⟨b,off+(idxBand p.bands x.band).toNat*5+1,none⟩=some (.int .i64 (bandN p x).low)∧W.cell? ⟨b,off+(idxBand p.bands x.band).toNat*5+2,none⟩=some (.int .i64 (bandN p x).high)∧W.cell? ⟨b,off+(idxBand p.bands x.band).toNat*5+3,none⟩=some (.int .i64 (bandN p x).raster)∧W.cell? ⟨b,off+(idxBand p.bands x.band).toNat*5+4,none⟩=some (.int .i64 (bandN p x).duplex))):=fun W hW=>⟨(bat (HH.out W hW) b _ hbl).trans s0,(bat (HH.out W hW) b _ hbl).trans s1,(bat (HH.out W hW) b _ hbl).trans s2,(bat (HH.out W hW) b _ hbl).trans s3,(bat (HH.out W hW) b _ hbl).trans s4⟩
 clear s0 s1 s2 s3 s4 HBN
 have CC:Hid (∀ W:World,Calls Tryz.prog 229 #[.agg #[.string (bandN p x).name,.int .i64 (bandN p x).low,.int .i64 (bandN p x).high,.int .i64 (bandN p x).raster,.int .i64 (bandN p x).duplex],.int .i64 x.channel] W fun e w'=>e=.returned (.int .i64 (if inB x.channel 0 (cntB (bandN p x)-1) then 0 else 2))∧Below W.heap.size W w'):=fun W=>code_any (bandN p x) x.channel hvb hnm W
 generalize hq:(idxBand p.bands x.band).toNat=q at *
 rw[← hlc] at CN
 clear hlc hq hvb hnm h0
 generalize bandN p x=bd at *
 have i1:(0:Int)≤(q:Int):=by omega
 have i3:decide ((q:Int)<0)=false:=decide_eq_false (by omega)
 have i2:(q:Int)<(p.bands.length:Int):=by omega
 generalize cntB bd=m at *
 by_cases h1:inB x.channel 0 (m-1)=true
 case neg =>
  replace h1:inB x.channel 0 (m-1)=false:=Bool.eq_false_iff.2 h1
  rw[h1] at CC HE0
  have HE:Hid (hasB p x=false):=HE0.out
  clear h1
  go_enter Tryz.func192,Tryz.ntmps192
  go_upto_region 1 with (fail)
  rw[HW0.out]
  obtain⟨t0,t1,t2,t3,t4,t5,t6,t7,t8,t9,t10,t11,t12,t13,t14,t15,t16,t17,t18,t19,t20,t21,t22,t23,t24,t25,t26,t27⟩:=HD.out _ HB.out
  go_upto_region 2 with (go_at_call 228;with_reducible refine (CN.out _ HB.out).mono ?_;rintro e w2 ⟨rfl,hb2⟩;(try clear t0 t1 t2 t3 t4 t5 t6 t7 t8 t9 t10 t11 t12 t13 t14 t15 t16 t17 t18 t19 t20 t21 t22 t23 t24 t25 t26 t27);replace HB:=Lib.hid (HB.out.trans (hb2.mono HB.out.size));clear hb2;obtain⟨t0,t1,t2,t3,t4,t5,t6,t7,t8,t9,t10,t11,t12,t13,t14,t15,t16,t17,t18,t19,t20,t21,t22,t23,t24,t25,t26,t27⟩:=HD.out _ HB.out)
  have zz:=HB.out.size
  obtain⟨s0,s1,s2,s3,s4⟩:=HS.out _ HB.out
  have yb:b<w2.heap.size:=by omega
  have oP:=overC (w0:=w2) (show w.heap.size<w2.heap.size by omega)
  have oX:=overC (w0:=w2) (show w.heap.size+1<w2.heap.size by omega)
  have oB:=overC (w0:=w2) (show b<w2.heap.size by omega)
  refine wp_region_over w2.heap.size w2 (Below.refl _ _) (by kernel_rfl) (by kernel_rfl) ?_
  repeat (go_big_quiet_step ((go_at_call 229;exact over_left (Nat.le_refl _) (CC.out _))))
  refine wpQuiet_nil ?_
  rintro _ ⟨X,rfl⟩
  have hX:=over_below w2.heap.size w2 X
  clear oP oX oB t0 t1 t2 t3 t4 t5 t6 t7 t8 t9 t10 t11 t12 t13 t14 t15 t16 t17 t18 t19 t20 t21 t22 t23 t24 t25 t26 t27
  generalize over w2.heap.size w2 X=w3 at *
  have HB3:=Lib.hid (HB.out.trans (hX.mono HB.out.size))
  clear hX
  obtain⟨t0,t1,t2,t3,t4,t5,t6,t7,t8,t9,t10,t11,t12,t13,t14,t15,t16,t17,t18,t19,t20,t21,t22,t23,t24,t25,t26,t27⟩:=HD.out _ HB3.out
  have gz:=bkF (bkB K2.out HB3.out (by omega))
  have HB4:=Lib.hid (HH.out _ HB3.out)
  go_wp2
  refine bodyPost_ret (v:=.tuple #[.agg #[.string ⟨#[]⟩,.int .i64 0,.int .i64 0,.int .i64 0,.int .i64 0],.bool false]) (by simp[results,Tryz.results192,go_sem, *]) rfl ?_
  exact⟨Or.inr ⟨HE.out,rfl⟩,(bset (bset (bset (bset (bset HB4.out (by omega) 0 _) (by omega) 1 _) (by omega) 2 _) (by omega) 3 _) (by omega) 4 _)⟩
 rw[h1] at CC HE0
 have HE:Hid (hasB p x=true):=HE0.out
 clear h1
 go_enter Tryz.func192,Tryz.ntmps192
 go_upto_region 1 with (fail)
 rw[HW0.out]
 obtain⟨t0,t1,t2,t3,t4,t5,t6,t7,t8,t9,t10,t11,t12,t13,t14,t15,t16,t17,t18,t19,t20,t21,t22,t23,t24,t25,t26,t27⟩:=HD.out _ HB.out
 go_upto_region 2 with (go_at_call 228;with_reducible refine (CN.out _ HB.out).mono ?_;rintro e w2 ⟨rfl,hb2⟩;(try clear t0 t1 t2 t3 t4 t5 t6 t7 t8 t9 t10 t11 t12 t13 t14 t15 t16 t17 t18 t19 t20 t21 t22 t23 t24 t25 t26 t27);replace HB:=Lib.hid (HB.out.trans (hb2.mono HB.out.size));clear hb2;obtain⟨t0,t1,t2,t3,t4,t5,t6,t7,t8,t9,t10,t11,t12,t13,t14,t15,t16,t17,t18,t19,t20,t21,t22,t23,t24,t25,t26,t27⟩:=HD.out _ HB.out)
 have zz:=HB.out.size
 obtain⟨s0,s1,s2,s3,s4⟩:=HS.out _ HB.out
 have yb:b<w2.heap.size:=by omega
 have oP:=overC (w0:=w2) (show w.heap.size<w2.heap.size by omega)
 have oX:=overC (w0:=w2) (show w.heap.size+1<w2.heap.size by omega)
 have oB:=overC (w0:=w2) (show b<w2.heap.size by omega)
 refine wp_region_over w2.heap.size w2 (Below.refl _ _) (by kernel_rfl) (by kernel_rfl) ?_
 repeat (go_big_quiet_step ((go_at_call 229;exact over_left (Nat.le_refl _) (CC.out _))))
 refine wpQuiet_nil ?_
 rintro _ ⟨X,rfl⟩
 have hX:=over_below w2.heap.size w2 X
 clear oP oX oB t0 t1 t2 t3 t4 t5 t6 t7 t8 t9 t10 t11 t12 t13 t14 t15 t16 t17 t18 t19 t20 t21 t22 t23 t24 t25 t26 t27
 generalize over w2.heap.size w2 X=w3 at *
 have HB3:=Lib.hid (HB.out.trans (hX.mono HB.out.size))
 clear hX
 obtain⟨t0,t1,t2,t3,t4,t5,t6,t7,t8,t9,t10,t11,t12,t13,t14,t15,t16,t17,t18,t19,t20,t21,t22,t23,t24,t25,t26,t27⟩:=HD.out _ HB3.out
 have gz:=bkF (bkB K2.out HB3.out (by omega))
 have HB4:=Lib.hid (HH.out _ HB3.out)
 clear s0 s1 s2 s3 s4
 obtain⟨s0,s1,s2,s3,s4⟩:=HS.out _ HB3.out
 go_wp2
 refine bodyPost_ret (v:=.tuple #[.agg #[.string bd.name,.int .i64 bd.low,.int .i64 bd.high,.int .i64 bd.raster,.int .i64 bd.duplex],.bool true]) (by simp[results,Tryz.results192,go_sem, *]) rfl ?_
 exact⟨Or.inl ⟨HE.out,rfl⟩,(bset (bset (bset (bset (bset HB4.out (by omega) 0 _) (by omega) 1 _) (by omega) 2 _) (by omega) 3 _) (by omega) 4 _)⟩
open Go.RowKit
set_option linter.unusedVariables false
set_option linter.unusedSimpArgs false
def rngV (p:DPlan) (x:DSector):Int × Int × Bool:=if hasB p x=true then (rngLow p x,rngHigh p x,true) else (0,0,false)
theorem hasB_facts {p:DPlan} {x:DSector} (hv:∀ j,j<p.bands.length→bandB (gBand p.bands j)=true) (h:hasB p x=true) :
  0≤idxBand p.bands x.band∧bandB (bandN p x)=true∧0≤x.channel∧x.channel≤999:=by
 unfold hasB at h
 rw[Bool.and_eq_true] at h
 have h0:=of_decide_eq_true h.1
 have h1:=hv _ (idxBand_lt _ _ h0).1
 have h2:=inB_true.1 h.2
 have h3:=bandB_facts h1
 exact⟨h0,h1,h2.1,by omega⟩
theorem rangeOf_any (p:DPlan) (x:DSector) (v3 v4 v5 v6 v7 v8 v9 v10 v11 v12:Value) (w:World) (h9:Rd w.heap.size w (DBand.sT p.bands) v9) (hn:p.bands.length≤1099511627776) (hv:∀ j,j<p.bands.length→bandB (gBand p.bands j)=true) (hk:∀ y ∈ p.bands,y.ok) (hc1:-1≤x.channel) (hc2:x.channel≤999) :
  Calls Tryz.prog 138 #[.agg #[.int .i64 p.terrain.step,.int .i64 p.terrain.width,.int .i64 p.terrain.height,v3,v4,v5,v6,v7,v8,v9,v10,v11,v12,.int .i64 p.day],.agg #[.string x.name,.string x.site,.string x.antenna,.string x.radio,.string x.band,.int .i64 x.azimuth,.int .i64 x.tilt,.int .i64 x.above,.int .i64 x.channel]] w fun e w'=>e=.returned (.tuple #[.int .i64 (rngV p x).1,.int .i64 (rngV p x).2.1,.bool (rngV p x).2.2])∧Below w.heap.size w w':=by
 have H9:=Lib.hid h9
 clear h9
 obtain⟨W0,hW0,b0,z0,k0,k1⟩:=boxes2 w #[.int .i64 p.terrain.step,.int .i64 p.terrain.width,.int .i64 p.terrain.height,v3,v4,v5,v6,v7,v8,v9,v10,v11,v12,.int .i64 p.day] 53 #[.string x.name,.string x.site,.string x.antenna,.string x.radio,.string x.band,.int .i64 x.azimuth,.int .i64 x.tilt,.int .i64 x.above,.int .i64 x.channel] 128
 have HW0:=Lib.hid hW0
 clear hW0
 have B0:=Lib.hid b0
 clear b0
 have K0:=Lib.hid k0
 clear k0
 have K1:=Lib.hid k1
 clear k1
 have HD:Hid (∀ W:World,Below W0.heap.size W0 W→(W.cell? ⟨w.heap.size,0,none⟩=some (.int .i64 p.terrain.step)∧W.cell? ⟨w.heap.size,1,none⟩=some (.int .i64 p.terrain.width)∧W.cell? ⟨w.heap.size,2,none⟩=some (.int .i64 p.terrain.height)∧W.cell? ⟨w.heap.size,3,none⟩=some (v3)∧W.cell? ⟨w.heap.size,4,none⟩=some (v4)∧W.cell? ⟨w.heap.size,5,none⟩=some (v5)∧W.cell? ⟨w.heap.size,6,none⟩=some (v6)∧W.cell? ⟨w.heap.size,7,none⟩=some (v7)∧W.cell? ⟨w.heap.size,8,none⟩=some (v8)∧W.cell? ⟨w.heap.size,9,none⟩=some (v9)∧W.cell? ⟨w.heap.size,10,none⟩=some (v10)∧W.cell? ⟨w.heap.size,11,none⟩=some (v11)∧W.cell? ⟨w.heap.size,12,none⟩=some (v12)∧W.cell? ⟨w.heap.size,13,none⟩=some (.int .i64 p.day)∧W.cell? ⟨w.heap.size+1,0,none⟩=some (.string x.name)∧W.cell? ⟨w.heap.size+1,1,none⟩=some (.string x.site)∧W.cell? ⟨w.heap.size+1,2,none⟩=some (.string x.antenna)∧W.cell? ⟨w.heap.size+1,3,none⟩=some (.string x.radio)∧W.cell? ⟨w.heap.size+1,4,none⟩=some (.string x.band)∧W.cell? ⟨w.heap.size+1,5,none⟩=some (.int .i64 x.azimuth)∧W.cell? ⟨w.heap.size+1,6,none⟩=some (.int .i64 x.tilt)∧W.cell? ⟨w.heap.size+1,7,none⟩=some (.int .i64 x.above)∧W.cell? ⟨w.heap.size+1,8,none⟩=some (.int .i64 x.channel))):=fun W hW=>⟨bkC (bkB K0.out hW (by omega)) 0 rfl,bkC (bkB K0.out hW (by omega)) 1 rfl,bkC (bkB K0.out hW (by omega)) 2 rfl,bkC (bkB K0.out hW (by omega)) 3 rfl,bkC (bkB K0.out hW (by omega)) 4 rfl,bkC (bkB K0.out hW (by omega)) 5 rfl,bkC (bkB K0.out hW (by omega)) 6 rfl,bkC (bkB K0.out hW (by omega)) 7 rfl,bkC (bkB K0.out hW (by omega)) 8 rfl,bkC (bkB K0.out hW (by omega)) 9 rfl,bkC (bkB K0.out hW (by omega)) 10 rfl,bkC (bkB K0.out hW (by omega)) 11 rfl,bkC (bkB K0.out hW (by omega)) 12 rfl,bkC (bkB K0.out hW (by omega)) 13 rfl,bkC (bkB K1.out hW (by omega)) 0 rfl,bkC (bkB K1.out hW (by omega)) 1 rfl,bkC (bkB K1.out hW (by omega)) 2 rfl,bkC (bkB K1.out hW (by omega)) 3 rfl,bkC (bkB K1.out hW (by omega)) 4 rfl,bkC (bkB K1.out hW (by omega)) 5 rfl,bkC (bkB K1.out hW (by omega)) 6 rfl,bkC (bkB K1.out hW (by omega)) 7 rfl,bkC (bkB K1.out hW (by omega)) 8 rfl⟩
 have HB:Hid (Below W0.heap.size W0 W0):=Below.refl _ _
 have HH:Hid (∀ W:World,Below W0.heap.size W0 W→Below w.heap.size w W):=fun W hW=>B0.out.trans (hW.mono (by omega))
 have CB:Hid (∀ W:World,Below W0.heap.size W0 W→Calls Tryz.prog 192 #[.agg #[.int .i64 p.terrain.step,.int .i64 p.terrain.width,.int .i64 p.terrain.height,v3,v4,v5,v6,v7,v8,v9,v10,v11,v12,.int .i64 p.day],.agg #[.string x.name,.string x.site,.string x.antenna,.string x.radio,.string x.band,.int .i64 x.azimuth,.int .i64 x.tilt,.int .i64 x.above,.int .i64 x.channel]] W fun e w'=>((hasB p x=true∧e=.returned (.tuple #[.agg #[.string (bandN p x).name,.int .i64 (bandN p x).low,.int .i64 (bandN p x).high,.int .i64 (bandN p x).raster,.int .i64 (bandN p x).duplex],.bool true]))∨(hasB p x=false∧e=.returned (.tuple #[.agg #[.string ⟨#[]⟩,.int .i64 0,.int .i64 0,.int .i64 0,.int .i64 0],.bool false])))∧Below W.heap.size W w'):=fun W hW=>bandOf_any p x v3 v4 v5 v6 v7 v8 v9 v10 v11 v12 W ((H9.out.below (HH.out W hW)).mono (HH.out W hW).size) hn hv hk
 by_cases h0:hasB p x=true
 case pos =>
  obtain⟨f0,f1,f2,f3⟩:=hasB_facts hv h0
  obtain⟨g1,g2,g3,g4,g5,g6,_,_⟩:=bandB_facts f1
  have HE:Hid (rngV p x=(rngLow p x,rngHigh p x,true)):=by show _=_;unfold rngV;rw[if_pos h0]
  have CB2:Hid (∀ W:World,Below W0.heap.size W0 W→Calls Tryz.prog 192 #[.agg #[.int .i64 p.terrain.step,.int .i64 p.terrain.width,.int .i64 p.terrain.height,v3,v4,v5,v6,v7,v8,v9,v10,v11,v12,.int .i64 p.day],.agg #[.string x.name,.string x.site,.string x.antenna,.string x.radio,.string x.band,.int .i64 x.azimuth,.int .i64 x.tilt,.int .i64 x.above,.int .i64 x.channel]] W fun e w'=>e=.returned (.tuple #[.agg #[.string (bandN p x).name,.int .i64 (bandN p x).low,.int .i64 (bandN p x).high,.int .i64 (bandN p x).raster,.int .i64 (bandN p x).duplex],.bool true])∧Below W.heap.size W w'):=fun W hW=>(CB.out W hW).mono fun e w' h=>by
   rcases h.1 with ⟨_,e⟩|⟨n,_⟩
   ·exact⟨e,h.2⟩
   ·rw[h0] at n;cases n
  have CL:Hid (∀ W:World,Calls Tryz.prog 193 #[.agg #[.string (bandN p x).name,.int .i64 (bandN p x).low,.int .i64 (bandN p x).high,.int .i64 (bandN p x).raster,.int .i64 (bandN p x).duplex],.int .i64 x.channel] W fun e w'=>e=.returned (.int .i64 (rngLow p x))∧Below W.heap.size W w'):=fun W=>begin_any (bandN p x) x.channel (by omega) g2 (by omega) g6 (by omega) (by omega) W
  have CH:Hid (∀ W:World,Calls Tryz.prog 193 #[.agg #[.string (bandN p x).name,.int .i64 (bandN p x).low,.int .i64 (bandN p x).high,.int .i64 (bandN p x).raster,.int .i64 (bandN p x).duplex],.int .i64 (x.channel+1)] W fun e w'=>e=.returned (.int .i64 (rngHigh p x))∧Below W.heap.size W w'):=fun W=>begin_any (bandN p x) (x.channel+1) (by omega) g2 (by omega) g6 (by omega) (by omega) W
  clear CB f0 f1 g1 g2 g3 g4 g5 g6 h0
  have CB:=Lib.hid CB2.out
  clear CB2
  generalize rngLow p x=lo at *
  generalize rngHigh p x=hi at *
  generalize bandN p x=bd at *
  go_enter Tryz.func138,Tryz.ntmps138
  go_upto_region 1 with (fail)
  rw[HW0.out]
  obtain⟨t0,t1,t2,t3,t4,t5,t6,t7,t8,t9,t10,t11,t12,t13,t14,t15,t16,t17,t18,t19,t20,t21,t22⟩:=HD.out _ HB.out
  go_upto_region 2 with (go_at_call 192;with_reducible refine (CB.out _ HB.out).mono ?_;rintro e w2 ⟨rfl,hb2⟩;(try clear t0 t1 t2 t3 t4 t5 t6 t7 t8 t9 t10 t11 t12 t13 t14 t15 t16 t17 t18 t19 t20 t21 t22);replace HB:=Lib.hid (HB.out.trans (hb2.mono HB.out.size));clear hb2;obtain⟨t0,t1,t2,t3,t4,t5,t6,t7,t8,t9,t10,t11,t12,t13,t14,t15,t16,t17,t18,t19,t20,t21,t22⟩:=HD.out _ HB.out)
  have HX:Hid (Below W0.heap.size W0 (w2.alloc (.cells #[.string bd.name,.int .i64 bd.low,.int .i64 bd.high,.int .i64 bd.raster,.int .i64 bd.duplex] 77))):=HB.out.alloc HB.out.size _
  have kb:=bkN w2 #[.string bd.name,.int .i64 bd.low,.int .i64 bd.high,.int .i64 bd.raster,.int .i64 bd.duplex] 77
  have zb:w2.heap.size<(w2.alloc (.cells #[.string bd.name,.int .i64 bd.low,.int .i64 bd.high,.int .i64 bd.raster,.int .i64 bd.duplex] 77)).heap.size:=by simp
  have zw:=HB.out.size
  generalize (w2.alloc (.cells #[.string bd.name,.int .i64 bd.low,.int .i64 bd.high,.int .i64 bd.raster,.int .i64 bd.duplex] 77))=w3 at *
  clear t0 t1 t2 t3 t4 t5 t6 t7 t8 t9 t10 t11 t12 t13 t14 t15 t16 t17 t18 t19 t20 t21 t22
  replace HB:=Lib.hid HX.out
  clear HX
  obtain⟨t0,t1,t2,t3,t4,t5,t6,t7,t8,t9,t10,t11,t12,t13,t14,t15,t16,t17,t18,t19,t20,t21,t22⟩:=HD.out _ HB.out
  have q0:=bkC (v:=.string bd.name) kb 0 rfl
  have q1:=bkC (v:=.int .i64 bd.low) kb 1 rfl
  have q2:=bkC (v:=.int .i64 bd.high) kb 2 rfl
  have q3:=bkC (v:=.int .i64 bd.raster) kb 3 rfl
  have q4:=bkC (v:=.int .i64 bd.duplex) kb 4 rfl
  have oP:=overC (w0:=w3) (show w.heap.size+1<w3.heap.size by omega)
  have oB:=overC (w0:=w3) (show w2.heap.size<w3.heap.size by omega)
  refine wp_region_over w3.heap.size w3 (Below.refl _ _) (by kernel_rfl) (by kernel_rfl) ?_
  repeat (go_big_quiet_step (first|(go_at_call 193;with_reducible exact over_left (Nat.le_refl _) (CL.out _))|(go_at_call 193;with_reducible exact over_left (Nat.le_refl _) (CH.out _))))
  refine wpQuiet_nil ?_
  rintro _ ⟨X,rfl⟩
  have hX:=over_below w3.heap.size w3 X
  clear oP oB
  generalize over w3.heap.size w3 X=w4 at *
  have HB4:=Lib.hid (HB.out.trans (hX.mono HB.out.size))
  clear hX
  go_wp2
  refine bodyPost_ret (v:=.tuple #[.int .i64 (lo),.int .i64 (hi),.bool true]) (by simp[results,Tryz.results138,go_sem, *]) rfl ?_
  exact⟨by rw[HE.out],HH.out _ HB4.out⟩
 replace h0:hasB p x=false:=Bool.eq_false_iff.2 h0
 have HE:Hid (rngV p x=(0,0,false)):=by show _=_;unfold rngV;rw[if_neg (by rw[h0];simp)]
 have CB2:Hid (∀ W:World,Below W0.heap.size W0 W→Calls Tryz.prog 192 #[.agg #[.int .i64 p.terrain.step,.int .i64 p.terrain.width,.int .i64 p.terrain.height,v3,v4,v5,v6,v7,v8,v9,v10,v11,v12,.int .i64 p.day],.agg #[.string x.name,.string x.site,.string x.antenna,.string x.radio,.string x.band,.int .i64 x.azimuth,.int .i64 x.tilt,.int .i64 x.above,.int .i64 x.channel]] W fun e w'=>e=.returned (.tuple #[.agg #[.string ⟨#[]⟩,.int .i64 0,.int .i64 0,.int .i64 0,.int .i64 0],.bool false])∧Below W.heap.size W w'):=fun W hW=>(CB.out W hW).mono fun e w' h=>by
  rcases h.1 with ⟨n,_⟩|⟨_,e⟩
  ·rw[h0] at n;cases n
  ·exact⟨e,h.2⟩
 have CL:Hid (∀ W:World,Calls Tryz.prog 193 #[.agg #[.string ⟨#[]⟩,.int .i64 0,.int .i64 0,.int .i64 0,.int .i64 0],.int .i64 x.channel] W fun e w'=>e=.returned (.int .i64 0)∧Below W.heap.size W w'):=fun W=>by
  have t:=begin_any ⟨⟨#[]⟩,0,0,0,0⟩ x.channel (by decide) (by decide) (by decide) (by decide) (by omega) (by omega) W
  simp only[Int.mul_zero,Int.add_zero] at t
  exact t
 have CH:Hid (∀ W:World,Calls Tryz.prog 193 #[.agg #[.string ⟨#[]⟩,.int .i64 0,.int .i64 0,.int .i64 0,.int .i64 0],.int .i64 (x.channel+1)] W fun e w'=>e=.returned (.int .i64 0)∧Below W.heap.size W w'):=fun W=>by
  have t:=begin_any ⟨⟨#[]⟩,0,0,0,0⟩ (x.channel+1) (by decide) (by decide) (by decide) (by decide) (by omega) (by omega) W
  simp only[Int.mul_zero,Int.add_zero] at t
  exact t
 clear CB h0
 have CB:=Lib.hid CB2.out
 clear CB2
 go_enter Tryz.func138,Tryz.ntmps138
 go_upto_region 1 with (fail)
 rw[HW0.out]
 obtain⟨t0,t1,t2,t3,t4,t5,t6,t7,t8,t9,t10,t11,t12,t13,t14,t15,t16,t17,t18,t19,t20,t21,t22⟩:=HD.out _ HB.out
 go_upto_region 2 with (go_at_call 192;with_reducible refine (CB.out _ HB.out).mono ?_;rintro e w2 ⟨rfl,hb2⟩;(try clear t0 t1 t2 t3 t4 t5 t6 t7 t8 t9 t10 t11 t12 t13 t14 t15 t16 t17 t18 t19 t20 t21 t22);replace HB:=Lib.hid (HB.out.trans (hb2.mono HB.out.size));clear hb2;obtain⟨t0,t1,t2,t3,t4,t5,t6,t7,t8,t9,t10,t11,t12,t13,t14,t15,t16,t17,t18,t19,t20,t21,t22⟩:=HD.out _ HB.out)
 have HX:Hid (Below W0.heap.size W0 (w2.alloc (.cells #[.string ⟨#[]⟩,.int .i64 0,.int .i64 0,.int .i64 0,.int .i64 0] 77))):=HB.out.alloc HB.out.size _
 have kb:=bkN w2 #[.string ⟨#[]⟩,.int .i64 0,.int .i64 0,.int .i64 0,.int .i64 0] 77
 have zb:w2.heap.size<(w2.alloc (.cells #[.string ⟨#[]⟩,.int .i64 0,.int .i64 0,.int .i64 0,.int .i64 0] 77)).heap.size:=by simp
 have zw:=HB.out.size
 generalize (w2.alloc (.cells #[.string ⟨#[]⟩,.int .i64 0,.int .i64 0,.int .i64 0,.int .i64 0] 77))=w3 at *
 clear t0 t1 t2 t3 t4 t5 t6 t7 t8 t9 t10 t11 t12 t13 t14 t15 t16 t17 t18 t19 t20 t21 t22
 replace HB:=Lib.hid HX.out
 clear HX
 obtain⟨t0,t1,t2,t3,t4,t5,t6,t7,t8,t9,t10,t11,t12,t13,t14,t15,t16,t17,t18,t19,t20,t21,t22⟩:=HD.out _ HB.out
 have q0:=bkC (v:=.string ⟨#[]⟩) kb 0 rfl
 have q1:=bkC (v:=.int .i64 0) kb 1 rfl
 have q2:=bkC (v:=.int .i64 0) kb 2 rfl
 have q3:=bkC (v:=.int .i64 0) kb 3 rfl
 have q4:=bkC (v:=.int .i64 0) kb 4 rfl
 have oP:=overC (w0:=w3) (show w.heap.size+1<w3.heap.size by omega)
 have oB:=overC (w0:=w3) (show w2.heap.size<w3.heap.size by omega)
 refine wp_region_over w3.heap.size w3 (Below.refl _ _) (by kernel_rfl) (by kernel_rfl) ?_
 repeat (go_big_quiet_step (first|(go_at_call 193;with_reducible exact over_left (Nat.le_refl _) (CL.out _))|(go_at_call 193;with_reducible exact over_left (Nat.le_refl _) (CH.out _))))
 refine wpQuiet_nil ?_
 rintro _ ⟨X,rfl⟩
 have hX:=over_below w3.heap.size w3 X
 clear oP oB
 generalize over w3.heap.size w3 X=w4 at *
 have HB4:=Lib.hid (HB.out.trans (hX.mono HB.out.size))
 clear hX
 go_wp2
 refine bodyPost_ret (v:=.tuple #[.int .i64 (0),.int .i64 (0),.bool false]) (by simp[results,Tryz.results138,go_sem, *]) rfl ?_
 exact⟨by rw[HE.out],HH.out _ HB4.out⟩
theorem l30Range_any (p:DPlan) (k:Nat) (v3 v4 v5 v6 v7 v8 v9 v10 v11 v12:Value) (b off:Nat) (w:World) (h:PlanRd w.heap.size w p v3 v4 v5 v6 v7 v8 v9 v10 v11 v12) (hs:sizL p.tr≤1099511627776) (hk:p.ok) (hp:planB p=true) (hkl:k<p.network.sectors.length) (c0:w.cell? ⟨b,off,none⟩=some (.int .i64 p.terrain.step)) (c6:w.cell? ⟨b,off+6,none⟩=some v6) (c9:w.cell? ⟨b,off+9,none⟩=some v9) :
  Calls Tryz.prog 131 #[.pointer (some ⟨b,off,none⟩),.int .i64 (k:Int)] w fun e w'=>e=.returned (.tuple #[.int .i64 (rngV p (gSector p.network.sectors k)).1,.int .i64 (rngV p (gSector p.network.sectors k)).2.1,.bool (rngV p (gSector p.network.sectors k)).2.2])∧Below w.heap.size w w':=by
 have H:=Lib.hid h
 clear h
 have Z:=Lib.hid (PlanSz.of hs)
 have hbl:=cell_lt c0
 dsimp only at hbl
 clear c0
 have hsec:=planB_sector hp hkl
 obtain⟨hc1,hc2⟩:=sectorB_channel hsec.1
 have hv:∀ j,j<p.bands.length→bandB (gBand p.bands j)=true:=fun j hj=>planB_bands hp hj
 obtain⟨a6,k6,e6,_,_,hcl6⟩:=DSector.rd H.out.r6
 subst e6
 obtain⟨bs,os,es,hbs,hat6⟩:=hcl6 (by omega)
 subst es
 obtain⟨-,-,-,-,x4,-,-,-,x8⟩:=hat6 k hkl
 rw[gSector_eq hkl] at x4 x8
 clear hcl6 hat6 hsec
 have CF:Hid (∀ W:World,Below w.heap.size w W→Calls Tryz.prog 186 #[v9,.string (gSector p.network.sectors k).band] W fun e w'=>e=.returned (.int .i64 (idxBand p.bands (gSector p.network.sectors k).band))∧W=w'):=fun W hW=>l15Find_any p.bands _ v9 w.heap.size W (H.out.r9.below hW) hW.size Z.out.bands
 generalize gSector p.network.sectors k=x at *
 obtain⟨a9,k9,e9,_,_,hcl⟩:=DBand.rd H.out.r9
 subst e9
 have HCL:=Lib.hid hcl
 clear hcl
 have m6:(p.network.sectors.length:Int)≤1099511627776:=by have:=Z.out.sectors;omega
 have m9:(p.bands.length:Int)≤1099511627776:=by have:=Z.out.bands;omega
 have i1:(0:Int)≤(k:Int):=by omega
 have i2:(k:Int)<(p.network.sectors.length:Int):=by omega
 have HC:Hid (∀ W:World,Below w.heap.size w W→(W.cell? ⟨b,off+6,none⟩=some (.slice (some ⟨bs,os,none⟩) p.network.sectors.length k6)∧W.cell? ⟨b,off+9,none⟩=some (.slice a9 p.bands.length k9)∧W.cell? ⟨bs,os+k*9+4,none⟩=some (.string x.band)∧W.cell? ⟨bs,os+k*9+8,none⟩=some (.int .i64 x.channel))):=fun W hW=>⟨(hW.cell (p:=⟨b,_,none⟩) hbl).trans c6,(hW.cell (p:=⟨b,_,none⟩) hbl).trans c9,(hW.cell (p:=⟨bs,_,none⟩) hbs).trans x4,(hW.cell (p:=⟨bs,_,none⟩) hbs).trans x8⟩
 have HB:Hid (Below w.heap.size w w):=Below.refl _ _
 by_cases h0:0≤idxBand p.bands x.band
 case neg =>
  have HE:Hid (rngV p x=(0,0,false)):=by show _=_;unfold rngV hasB;rw[decide_eq_false h0];rfl
  generalize idxBand p.bands x.band=r at *
  replace h0:r<0:=by omega
  go_enter Tryz.func131,Tryz.ntmps131
  go_upto_region 2 with (fail)
  have o0:=overC (w0:=w) (show b<w.heap.size by omega)
  have o1:=overC (w0:=w) (show bs<w.heap.size by omega)
  refine wp_region_over w.heap.size w (Below.refl _ _) (by kernel_rfl) (by kernel_rfl) ?_
  repeat (go_big_quiet_step ((go_at_call 186;exact over_same (CF.out _ (over_below _ _ _)))))
  refine wpQuiet_nil ?_
  rintro _ ⟨X,rfl⟩
  have hX:=over_below w.heap.size w X
  clear o0 o1
  generalize over w.heap.size w X=w1 at *
  replace HB:=Lib.hid (HB.out.trans (hX.mono HB.out.size))
  have z1:=HB.out.size
  clear hX
  clear c6 c9 x4 x8
  obtain⟨c6,c9,x4,x8⟩:=HC.out _ HB.out
  go_upto_region 3 with (fail)
  have o0:=overC (w0:=w1) (show b<w1.heap.size by omega)
  have o1:=overC (w0:=w1) (show bs<w1.heap.size by omega)
  refine wp_region_over w1.heap.size w1 (Below.refl _ _) (by kernel_rfl) (by kernel_rfl) ?_
  repeat (go_big_quiet_step (fail))
  refine wpQuiet_nil ?_
  rintro _ ⟨X,rfl⟩
  have hX:=over_below w1.heap.size w1 X
  clear o0 o1
  generalize over w1.heap.size w1 X=w2 at *
  replace HB:=Lib.hid (HB.out.trans (hX.mono HB.out.size))
  have z2:=HB.out.size
  clear hX
  go_wp2
  refine bodyPost_ret (v:=.tuple #[.int .i64 (0),.int .i64 (0),.bool false]) (by simp[results,Tryz.results131,go_sem, *]) rfl ?_
  exact⟨by rw[HE.out],HB.out⟩
 obtain⟨hl,hlc⟩:=idxBand_lt _ _ h0
 have hvb:=hv _ hl
 obtain⟨bb,ob,eb,hbb,hat⟩:=HCL.out (by omega)
 subst eb
 obtain⟨s0,s1,s2,s3,s4⟩:=hat _ hl
 rw[gBand_eq hl] at s0 s1 s2 s3 s4
 have HBN:Hid (bandN p x=gBand p.bands (idxBand p.bands x.band).toNat):=rfl
 rw[← HBN.out] at hvb s0 s1 s2 s3 s4
 have HE0:Hid (hasB p x=inB x.channel 0 (cntB (bandN p x)-1)):=by show _=_;unfold hasB;rw[decide_eq_true h0];rfl
 clear hat HBN
 have HS:Hid (∀ W:World,Below w.heap.size w W→(W.cell? ⟨bb,ob+(idxBand p.bands x.band).toNat*5,none⟩=some (.string (bandN p x).name)∧W.cell? ⟨bb,ob+(idxBand p.bands x.band).toNat*5+1,none⟩=some (.int .i64 (bandN p x).low)∧W.cell? ⟨bb,ob+(idxBand p.bands x.band).toNat*5+2,none⟩=some (.int .i64 (bandN p x).high)∧W.cell? ⟨bb,ob+(idxBand p.bands x.band).toNat*5+3,none⟩=some (.int .i64 (bandN p x).raster)∧W.cell? ⟨bb,ob+(idxBand p.bands x.band).toNat*5+4,none⟩=some (.int .i64 (bandN p x).duplex))):=fun W hW=>⟨(bat hW bb _ hbb).trans s0,(bat hW bb _ hbb).trans s1,(bat hW bb _ hbb).trans s2,(bat hW bb _ hbb).trans s3,(bat hW bb _ hbb).trans s4⟩
 clear s0 s1 s2 s3 s4
 have CH:Hid (∀ W:World,Below w.heap.size w W→Calls Tryz.prog 187 #[.pointer (some ⟨bb,ob+(idxBand p.bands x.band).toNat*5,none⟩),.int .i64 x.channel] W fun e w'=>e=.returned (.bool (inB x.channel 0 (cntB (bandN p x)-1)))∧Below W.heap.size W w'):=fun W hW=>by
  obtain⟨s0,s1,s2,s3,s4⟩:=HS.out W hW
  exact l15Has_any (bandN p x) x.channel bb _ hvb W s0 s1 s2 s3 s4
 obtain⟨g1,g2,g3,g4,g5,g6,g7,g8⟩:=bandB_facts hvb
 have HRL:Hid (rngLow p x=(bandN p x).low+x.channel*(bandN p x).raster):=rfl
 have HRH:=Lib.hid (rngHigh_eq p x)
 have HRV:Hid (rngV p x=if hasB p x=true then (rngLow p x,rngHigh p x,true) else (0,0,false)):=rfl
 generalize hq:(idxBand p.bands x.band).toNat=q at *
 rw[← hlc] at CF
 clear hlc hvb h0
 generalize bandN p x=bd at *
 generalize cntB bd=m at *
 have j1:(0:Int)≤(q:Int):=by omega
 have j2:(q:Int)<(p.bands.length:Int):=by omega
 have j3:decide ((q:Int)<0)=false:=decide_eq_false (by omega)
 clear hq
 by_cases h1:x.channel<0
 case pos =>
  have HE:Hid (rngV p x=(0,0,false)):=by
   show _=_
   rw[HRV.out,HE0.out,show inB x.channel 0 (m-1)=false from by rw[inB_false];omega]
   rfl
  have j4:decide (x.channel<0)=true:=decide_eq_true h1
  go_enter Tryz.func131,Tryz.ntmps131
  go_upto_region 2 with (fail)
  have o0:=overC (w0:=w) (show b<w.heap.size by omega)
  have o1:=overC (w0:=w) (show bs<w.heap.size by omega)
  refine wp_region_over w.heap.size w (Below.refl _ _) (by kernel_rfl) (by kernel_rfl) ?_
  repeat (go_big_quiet_step ((go_at_call 186;exact over_same (CF.out _ (over_below _ _ _)))))
  refine wpQuiet_nil ?_
  rintro _ ⟨X,rfl⟩
  have hX:=over_below w.heap.size w X
  clear o0 o1
  generalize over w.heap.size w X=w1 at *
  replace HB:=Lib.hid (HB.out.trans (hX.mono HB.out.size))
  have z1:=HB.out.size
  clear hX
  clear c6 c9 x4 x8
  obtain⟨c6,c9,x4,x8⟩:=HC.out _ HB.out
  go_upto_region 3 with (fail)
  have o0:=overC (w0:=w1) (show b<w1.heap.size by omega)
  have o1:=overC (w0:=w1) (show bs<w1.heap.size by omega)
  refine wp_region_over w1.heap.size w1 (Below.refl _ _) (by kernel_rfl) (by kernel_rfl) ?_
  repeat (go_big_quiet_step (fail))
  refine wpQuiet_nil ?_
  rintro _ ⟨X,rfl⟩
  have hX:=over_below w1.heap.size w1 X
  clear o0 o1
  generalize over w1.heap.size w1 X=w2 at *
  replace HB:=Lib.hid (HB.out.trans (hX.mono HB.out.size))
  have z2:=HB.out.size
  clear hX
  go_wp2
  refine bodyPost_ret (v:=.tuple #[.int .i64 (0),.int .i64 (0),.bool false]) (by simp[results,Tryz.results131,go_sem, *]) rfl ?_
  exact⟨by rw[HE.out],HB.out⟩
 replace h1:0≤x.channel:=by omega
 have j4:decide (x.channel<0)=false:=decide_eq_false (by omega)
 by_cases h2:inB x.channel 0 (m-1)=true
 case neg =>
  replace h2:inB x.channel 0 (m-1)=false:=Bool.eq_false_iff.2 h2
  rw[h2] at CH HE0
  have HE:Hid (rngV p x=(0,0,false)):=by show _=_;rw[HRV.out,HE0.out];rfl
  clear h2
  go_enter Tryz.func131,Tryz.ntmps131
  go_upto_region 2 with (fail)
  have o0:=overC (w0:=w) (show b<w.heap.size by omega)
  have o1:=overC (w0:=w) (show bs<w.heap.size by omega)
  refine wp_region_over w.heap.size w (Below.refl _ _) (by kernel_rfl) (by kernel_rfl) ?_
  repeat (go_big_quiet_step ((go_at_call 186;exact over_same (CF.out _ (over_below _ _ _)))))
  refine wpQuiet_nil ?_
  rintro _ ⟨X,rfl⟩
  have hX:=over_below w.heap.size w X
  clear o0 o1
  generalize over w.heap.size w X=w1 at *
  replace HB:=Lib.hid (HB.out.trans (hX.mono HB.out.size))
  have z1:=HB.out.size
  clear hX
  clear c6 c9 x4 x8
  obtain⟨c6,c9,x4,x8⟩:=HC.out _ HB.out
  go_upto_region 3 with (fail)
  have o0:=overC (w0:=w1) (show b<w1.heap.size by omega)
  have o1:=overC (w0:=w1) (show bs<w1.heap.size by omega)
  refine wp_region_over w1.heap.size w1 (Below.refl _ _) (by kernel_rfl) (by kernel_rfl) ?_
  repeat (go_big_quiet_step ((go_at_call 187;exact over_left (Nat.le_refl _) (CH.out _ (HB.out.trans ((over_below _ _ _).mono HB.out.size))))))
  refine wpQuiet_nil ?_
  rintro _ ⟨X,rfl⟩
  have hX:=over_below w1.heap.size w1 X
  clear o0 o1
  generalize over w1.heap.size w1 X=w2 at *
  replace HB:=Lib.hid (HB.out.trans (hX.mono HB.out.size))
  have z2:=HB.out.size
  clear hX
  go_wp2
  refine bodyPost_ret (v:=.tuple #[.int .i64 (0),.int .i64 (0),.bool false]) (by simp[results,Tryz.results131,go_sem, *]) rfl ?_
  exact⟨by rw[HE.out],HB.out⟩
 rw[h2] at CH HE0
 have HE:Hid (rngV p x=(rngLow p x,rngHigh p x,true)):=by show _=_;rw[HRV.out,HE0.out,if_pos rfl]
 clear h2
 obtain⟨y1,y2⟩:=mulC (c:=x.channel) (r:=bd.raster) (by omega) (by omega) (by omega) g6
 go_enter Tryz.func131,Tryz.ntmps131
 go_upto_region 2 with (fail)
 have o0:=overC (w0:=w) (show b<w.heap.size by omega)
 have o1:=overC (w0:=w) (show bs<w.heap.size by omega)
 refine wp_region_over w.heap.size w (Below.refl _ _) (by kernel_rfl) (by kernel_rfl) ?_
 repeat (go_big_quiet_step ((go_at_call 186;exact over_same (CF.out _ (over_below _ _ _)))))
 refine wpQuiet_nil ?_
 rintro _ ⟨X,rfl⟩
 have hX:=over_below w.heap.size w X
 clear o0 o1
 generalize over w.heap.size w X=w1 at *
 replace HB:=Lib.hid (HB.out.trans (hX.mono HB.out.size))
 have z1:=HB.out.size
 clear hX
 clear c6 c9 x4 x8
 obtain⟨c6,c9,x4,x8⟩:=HC.out _ HB.out
 go_upto_region 3 with (fail)
 have o0:=overC (w0:=w1) (show b<w1.heap.size by omega)
 have o1:=overC (w0:=w1) (show bs<w1.heap.size by omega)
 refine wp_region_over w1.heap.size w1 (Below.refl _ _) (by kernel_rfl) (by kernel_rfl) ?_
 repeat (go_big_quiet_step ((go_at_call 187;exact over_left (Nat.le_refl _) (CH.out _ (HB.out.trans ((over_below _ _ _).mono HB.out.size))))))
 refine wpQuiet_nil ?_
 rintro _ ⟨X,rfl⟩
 have hX:=over_below w1.heap.size w1 X
 clear o0 o1
 generalize over w1.heap.size w1 X=w2 at *
 replace HB:=Lib.hid (HB.out.trans (hX.mono HB.out.size))
 have z2:=HB.out.size
 clear hX
 clear c6 c9 x4 x8
 obtain⟨c6,c9,x4,x8⟩:=HC.out _ HB.out
 obtain⟨s0,s1,s2,s3,s4⟩:=HS.out _ HB.out
 go_upto_region 5 with (fail)
 have o0:=overC (w0:=w2) (show b<w2.heap.size by omega)
 have o1:=overC (w0:=w2) (show bs<w2.heap.size by omega)
 have o2:=overC (w0:=w2) (show bb<w2.heap.size by omega)
 refine wp_region_over w2.heap.size w2 (Below.refl _ _) (by kernel_rfl) (by kernel_rfl) ?_
 repeat (go_big_quiet_step (fail))
 refine wpQuiet_nil ?_
 rintro _ ⟨X,rfl⟩
 have hX:=over_below w2.heap.size w2 X
 clear o0 o1 o2
 generalize over w2.heap.size w2 X=w3 at *
 replace HB:=Lib.hid (HB.out.trans (hX.mono HB.out.size))
 have z3:=HB.out.size
 clear hX
 clear s0 s1 s2 s3 s4
 clear c6 c9 x4 x8
 obtain⟨c6,c9,x4,x8⟩:=HC.out _ HB.out
 obtain⟨s0,s1,s2,s3,s4⟩:=HS.out _ HB.out
 go_upto_region 6 with (fail)
 have o0:=overC (w0:=w3) (show b<w3.heap.size by omega)
 have o1:=overC (w0:=w3) (show bs<w3.heap.size by omega)
 have o2:=overC (w0:=w3) (show bb<w3.heap.size by omega)
 refine wp_region_over w3.heap.size w3 (Below.refl _ _) (by kernel_rfl) (by kernel_rfl) ?_
 repeat (go_big_quiet_step (fail))
 refine wpQuiet_nil ?_
 rintro _ ⟨X,rfl⟩
 have hX:=over_below w3.heap.size w3 X
 clear o0 o1 o2
 generalize over w3.heap.size w3 X=w4 at *
 replace HB:=Lib.hid (HB.out.trans (hX.mono HB.out.size))
 have z4:=HB.out.size
 clear hX
 go_wp2
 refine bodyPost_ret (v:=.tuple #[.int .i64 (bd.low+x.channel*bd.raster),.int .i64 (bd.low+x.channel*bd.raster+bd.raster),.bool true]) (by simp[results,Tryz.results131,go_sem, *]) rfl ?_
 exact⟨by rw[HE.out,HRH.out,HRL.out],HB.out⟩
open Go.RowKit
set_option linter.unusedVariables false
set_option linter.unusedSimpArgs false
def secN (p:DPlan) (nm:ByteArray):DSector:=gSector p.network.sectors (idxSector p.network.sectors nm).toNat
def rangeR (p:DPlan) (nm:ByteArray):Int × Int × Int:=if (codeP p nm).2=0 then (if hasB p (secN p nm)=true then (rngLow p (secN p nm),rngHigh p (secN p nm),0) else (0,0,6)) else (0,0,(codeP p nm).2)
theorem codeP_cases (p:DPlan) (nm:ByteArray):(codeP p nm=(0,1))∨(codeP p nm=(0,3))∨(planB p=true∧0≤idxSector p.network.sectors nm∧codeP p nm=(idxSector p.network.sectors nm,0)):=by
 unfold codeP
 by_cases h:planB p=true
 ·rw[if_pos h]
  by_cases h1:idxSector p.network.sectors nm<0
  ·rw[if_pos h1];exact Or.inr (Or.inl rfl)
  ·rw[if_neg h1];exact Or.inr (Or.inr ⟨h,by omega,rfl⟩)
 ·rw[if_neg h];exact Or.inl rfl
end Go.Proofs.YtjfmkmcefnidcaaGreat
