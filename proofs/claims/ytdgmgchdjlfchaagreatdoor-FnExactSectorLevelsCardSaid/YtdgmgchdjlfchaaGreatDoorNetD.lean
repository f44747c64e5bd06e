/- Contracts: elements with a name, for the program and for the reference. Conditions: bounded lengths. -/
import Derived.Test.YtdgmgchdjlfchaaGreatDoorNetC
import Derived.Test.YtdgmgchdjlfchaaGreatDoorHNetwork
set_option linter.unusedVariables false
set_option linter.unusedSimpArgs false
namespace Go.Proofs.YtdgmgchdjlfchaaGreatDoor
open Go.RowKit
set_option maxHeartbeats 4000000
set_option maxRecDepth 100000
theorem indexFuncSite_any (l:List DSite) (p:DSite→Bool) (fn:FuncId) (cap:List Value) (v:Value) (B:Nat) (w:World) (h:Rd B w (DSite.sT l) v) (hB:B≤w.heap.size) (hn:l.length≤1099511627776)
  (hcf:∀ (args:Array Value) (W:World),(callFunc fn args).run Tryz.prog W=.ok (.enter fn args) W)
  (hf:∀ x ∈ l,∀ W:World,Below w.heap.size w W→Calls Tryz.prog fn (Value.agg #[.string x.name,.string x.holder,.int .i64 x.place.x,.int .i64 x.place.y]::cap).toArray W fun e W'=>e=.returned (.bool (p x))∧Below W.heap.size W W') :
  Calls Tryz.prog 162 #[v,.func (.func fn) #[] cap.toArray] w fun e w'=>e=.returned (.int .i64 (zbf p l))∧Below w.heap.size w w':=by
 obtain⟨a,c,rfl,hnc,hcm,hcells⟩:=DSite.rd h;clear h;have hnb:(l.length:Int)≤1099511627776:=by omega
 have HF:=Lib.hid hf;clear hf;go_enter Tryz.func162,Tryz.ntmps162;go_wp2;go_loopw [8] (fun i wr=>∃ (k:Nat),k≤l.length∧i=.int .i64 k∧(l.take k).any p=false∧Below w.heap.size w wr) (fun i wr=>l.length-(intOf i).toNat)
 case atStart=>exact⟨0,Nat.zero_le _,rfl,by simp,Below.refl _ _⟩
 case round =>
  obtain⟨k,hk,rfl,hno,hb⟩:=hrel;have HN:=Lib.hid hno;clear hno
  by_cases hlt:k<l.length
  ·obtain⟨b,off,rfl,hbl,hat⟩:=hcells (by omega)
   obtain⟨s0,s1,s2,s3⟩:=hat k hlt;rw[← hb.cell (p:=⟨b,_,none⟩) (show b<w.heap.size by omega)] at s0 s1 s2 s3;have HB:=Lib.hid hb;clear hcells hat hb;go_wp2_with fail;refine (HF.out l[k] (List.getElem_mem hlt)  _ HB.out).mono ?_;rintro e w1 ⟨rfl,hb1⟩;have HB1:=Lib.hid (HB.out.trans (hb1.mono HB.out.size));clear hb1
   by_cases hp:p l[k]=true
   ·go_wp2
    go_ret;exact⟨by rw[zcj p l k hlt hp HN.out];rfl,HB1.out⟩
   ·have hp':p l[k]=false:=by simpa using hp
    clear hp;go_wp2;go_roundw
    case rel=>exact⟨k+1,by omega,by go_num,by rw[zb1 p l k hlt,HN.out,hp'];rfl,HB1.out⟩
    case measure=>simp[intOf];omega
  ·obtain rfl:k=l.length:=by omega
   clear hcells;go_wp2;go_ret;have:=HN.out;rw[List.take_length] at this;exact⟨by rw[zb0 p l this];rfl,hb⟩
def zb6 (l:List DSite) (nm:ByteArray):Int:=zbf (fun x:DSite=>eqS x.name nm) l
theorem siteNamed_any (l:List DSite) (nm:ByteArray) (v0 v1 v2 v3:Value) (B:Nat) (w:World) (h:Rd B w (DSite.sT l) v0) (hB:B≤w.heap.size) (hn:l.length≤1099511627776) :
  Calls Tryz.prog 121 #[.agg #[v0,v1,v2,v3],.string nm] w fun e w'=>e=.returned (.int .i64 (zb6 l nm))∧Below w.heap.size w w':=by
 have b0:Below w.heap.size w ((w.alloc (.cells #[v0,v1,v2,v3] 46)).alloc (.cells #[.string nm] 9)):=((Below.refl _ _).alloc (Nat.le_refl _) _).alloc (by simp) _
 have HC:=Lib.hid (indexFuncSite_any l (fun x:DSite=>eqS x.name nm) 163 [.pointer (some ⟨w.heap.size+1,0,none⟩)] v0 B ((w.alloc (.cells #[v0,v1,v2,v3] 46)).alloc (.cells #[.string nm] 9)) (h.below (b0.mono hB)) (by simp<;>omega) hn (fun _ _=>by kernel_rfl) (fun x _  W hW=>by
  have c1:W.cell? ⟨w.heap.size+1,0,none⟩=some (.string nm):=by rw[hW.cell (p:=⟨w.heap.size+1,0,none⟩) (by simp)];simp[go_sem]
  have c2:w.heap.size+1<W.heap.size:=by have:=hW.size;simp at this;omega
  clear hW;go_enter Tryz.func163,Tryz.ntmps163;go_wp2;go_ret
  exact⟨rfl,(Below.refl _ _).alloc (Nat.le_refl _) _⟩))
 have B0:=Lib.hid b0;clear b0 h;unfold zb6;generalize zbf (fun x:DSite=>eqS x.name nm) l=r at *;go_enter Tryz.func121,Tryz.ntmps121;go_wp2_with fail;refine (HC.out).mono ?_;rintro e w1 ⟨rfl,hb1⟩;go_wp2;go_ret;exact⟨rfl,B0.out.trans (hb1.mono (by simp<;>omega))⟩
theorem l14FindSite_any (l:List DSite) (nm:ByteArray) (v:Value) (bp B:Nat) (w:World) (h:Rd B w (DSite.sT l) v) (hB:B≤w.heap.size) (hp:w.cell? ⟨bp,0,none⟩=some v) (hn:l.length≤1099511627776) :
  Calls Tryz.prog 92 #[.pointer (some ⟨bp,0,none⟩),.string nm] w fun e w'=>e=.returned (.int .i64 (zb6 l nm))∧w=w':=by
 obtain⟨a,c,rfl,hnc,hcm,hcells⟩:=DSite.rd h;clear h;have hnb:(l.length:Int)≤1099511627776:=by omega
 go_enter Tryz.func92,Tryz.ntmps92;go_wp2
 go_loop [5] (fun i=>∃ (k:Nat),k≤l.length∧i=.int .i64 k∧(l.take k).any (fun x:DSite=>eqS x.name nm)=false) (fun i=>l.length-(intOf i).toNat)
 case atStart=>exact⟨0,Nat.zero_le _,rfl,by simp⟩
 case round =>
  obtain⟨k,hk,rfl,hno⟩:=hrel;have HN:=Lib.hid hno;clear hno
  by_cases hlt:k<l.length
  ·obtain⟨b,off,rfl,hbl,hat⟩:=hcells (by omega)
   have s0:=(hat k hlt).1;clear hcells hat
   by_cases hp1:(l[k].name.toList == nm.toList)=true
   ·have HP:=Lib.hid hp1
    go_wp2;go_ret;exact⟨by unfold zb6;rw[zcj (fun x:DSite=>eqS x.name nm) l k hlt HP.out HN.out];rfl,rfl⟩
   ·have hp':(l[k].name.toList == nm.toList)=false:=Bool.eq_false_iff.2 hp1
    have HP:=Lib.hid hp';clear hp1;go_wp2
    go_round
    case rel=>exact⟨k+1,by omega,by go_num,by rw[zb1 _ l k hlt,HN.out];exact HP.out⟩
    case measure=>simp[intOf];omega
  ·obtain rfl:k=l.length:=by omega
   clear hcells;go_wp2;go_ret;have:=HN.out;rw[List.take_length] at this;exact⟨by unfold zb6;rw[zb0 _ l this];rfl,rfl⟩
theorem indexFuncSector_any (l:List DSector) (p:DSector→Bool) (fn:FuncId) (cap:List Value) (v:Value) (B:Nat) (w:World) (h:Rd B w (DSector.sT l) v) (hB:B≤w.heap.size) (hn:l.length≤1099511627776)
  (hcf:∀ (args:Array Value) (W:World),(callFunc fn args).run Tryz.prog W=.ok (.enter fn args) W)
  (hf:∀ x ∈ l,∀ W:World,Below w.heap.size w W→Calls Tryz.prog fn (Value.agg #[.string x.name,.string x.site,.string x.antenna,.string x.radio,.string x.band,.int .i64 x.azimuth,.int .i64 x.tilt,.int .i64 x.above,.int .i64 x.channel]::cap).toArray W fun e W'=>e=.returned (.bool (p x))∧Below W.heap.size W W') :
  Calls Tryz.prog 99 #[v,.func (.func fn) #[] cap.toArray] w fun e w'=>e=.returned (.int .i64 (zbf p l))∧Below w.heap.size w w':=by
 obtain⟨a,c,rfl,hnc,hcm,hcells⟩:=DSector.rd h;clear h;have hnb:(l.length:Int)≤1099511627776:=by omega
 have HF:=Lib.hid hf;clear hf;go_enter Tryz.func99,Tryz.ntmps99;go_wp2;go_loopw [8] (fun i wr=>∃ (k:Nat),k≤l.length∧i=.int .i64 k∧(l.take k).any p=false∧Below w.heap.size w wr) (fun i wr=>l.length-(intOf i).toNat)
 case atStart=>exact⟨0,Nat.zero_le _,rfl,by simp,Below.refl _ _⟩
 case round =>
  obtain⟨k,hk,rfl,hno,hb⟩:=hrel;have HN:=Lib.hid hno;clear hno
  by_cases hlt:k<l.length
  ·obtain⟨b,off,rfl,hbl,hat⟩:=hcells (by omega)
   obtain⟨s0,s1,s2,s3,s4,s5,s6,s7,s8⟩:=hat k hlt;rw[← hb.cell (p:=⟨b,_,none⟩) (show b<w.heap.size by omega)] at s0 s1 s2 s3 s4 s5 s6 s7 s8;have HB:=Lib.hid hb;clear hcells hat hb;go_wp2_with fail;refine (HF.out l[k] (List.getElem_mem hlt)  _ HB.out).mono ?_;rintro e w1 ⟨rfl,hb1⟩;have HB1:=Lib.hid (HB.out.trans (hb1.mono HB.out.size));clear hb1
   by_cases hp:p l[k]=true
   ·go_wp2
    go_ret;exact⟨by rw[zcj p l k hlt hp HN.out];rfl,HB1.out⟩
   ·have hp':p l[k]=false:=by simpa using hp
    clear hp;go_wp2;go_roundw
    case rel=>exact⟨k+1,by omega,by go_num,by rw[zb1 p l k hlt,HN.out,hp'];rfl,HB1.out⟩
    case measure=>simp[intOf];omega
  ·obtain rfl:k=l.length:=by omega
   clear hcells;go_wp2;go_ret;have:=HN.out;rw[List.take_length] at this;exact⟨by rw[zb0 p l this];rfl,hb⟩
def zaq (l:List DSector) (nm:ByteArray):Int:=zbf (fun x:DSector=>eqS x.name nm) l
theorem sectorNamed_any (l:List DSector) (nm:ByteArray) (v0 v1 v2 v3:Value) (B:Nat) (w:World) (h:Rd B w (DSector.sT l) v1) (hB:B≤w.heap.size) (hn:l.length≤1099511627776) :
  Calls Tryz.prog 53 #[.agg #[v0,v1,v2,v3],.string nm] w fun e w'=>e=.returned (.int .i64 (zaq l nm))∧Below w.heap.size w w':=by
 have b0:Below w.heap.size w ((w.alloc (.cells #[v0,v1,v2,v3] 46)).alloc (.cells #[.string nm] 9)):=((Below.refl _ _).alloc (Nat.le_refl _) _).alloc (by simp) _
 have HC:=Lib.hid (indexFuncSector_any l (fun x:DSector=>eqS x.name nm) 100 [.pointer (some ⟨w.heap.size+1,0,none⟩)] v1 B ((w.alloc (.cells #[v0,v1,v2,v3] 46)).alloc (.cells #[.string nm] 9)) (h.below (b0.mono hB)) (by simp<;>omega) hn (fun _ _=>by kernel_rfl) (fun x _  W hW=>by
  have c1:W.cell? ⟨w.heap.size+1,0,none⟩=some (.string nm):=by rw[hW.cell (p:=⟨w.heap.size+1,0,none⟩) (by simp)];simp[go_sem]
  have c2:w.heap.size+1<W.heap.size:=by have:=hW.size;simp at this;omega
  clear hW;go_enter Tryz.func100,Tryz.ntmps100;go_wp2;go_ret
  exact⟨rfl,(Below.refl _ _).alloc (Nat.le_refl _) _⟩))
 have B0:=Lib.hid b0;clear b0 h;unfold zaq;generalize zbf (fun x:DSector=>eqS x.name nm) l=r at *;go_enter Tryz.func53,Tryz.ntmps53;go_wp2_with fail;refine (HC.out).mono ?_;rintro e w1 ⟨rfl,hb1⟩;go_wp2;go_ret;exact⟨rfl,B0.out.trans (hb1.mono (by simp<;>omega))⟩
theorem l14Find_any (l:List DSector) (nm:ByteArray) (v:Value) (bp B:Nat) (w:World) (h:Rd B w (DSector.sT l) v) (hB:B≤w.heap.size) (hp:w.cell? ⟨bp,1,none⟩=some v) (hn:l.length≤1099511627776) :
  Calls Tryz.prog 44 #[.pointer (some ⟨bp,0,none⟩),.string nm] w fun e w'=>e=.returned (.int .i64 (zaq l nm))∧w=w':=by
 obtain⟨a,c,rfl,hnc,hcm,hcells⟩:=DSector.rd h;clear h;have hnb:(l.length:Int)≤1099511627776:=by omega
 go_enter Tryz.func44,Tryz.ntmps44;go_wp2
 go_loop [5] (fun i=>∃ (k:Nat),k≤l.length∧i=.int .i64 k∧(l.take k).any (fun x:DSector=>eqS x.name nm)=false) (fun i=>l.length-(intOf i).toNat)
 case atStart=>exact⟨0,Nat.zero_le _,rfl,by simp⟩
 case round =>
  obtain⟨k,hk,rfl,hno⟩:=hrel;have HN:=Lib.hid hno;clear hno
  by_cases hlt:k<l.length
  ·obtain⟨b,off,rfl,hbl,hat⟩:=hcells (by omega)
   have s0:=(hat k hlt).1;clear hcells hat
   by_cases hp1:(l[k].name.toList == nm.toList)=true
   ·have HP:=Lib.hid hp1
    go_wp2;go_ret;exact⟨by unfold zaq;rw[zcj (fun x:DSector=>eqS x.name nm) l k hlt HP.out HN.out];rfl,rfl⟩
   ·have hp':(l[k].name.toList == nm.toList)=false:=Bool.eq_false_iff.2 hp1
    have HP:=Lib.hid hp';clear hp1;go_wp2
    go_round
    case rel=>exact⟨k+1,by omega,by go_num,by rw[zb1 _ l k hlt,HN.out];exact HP.out⟩
    case measure=>simp[intOf];omega
  ·obtain rfl:k=l.length:=by omega
   clear hcells;go_wp2;go_ret;have:=HN.out;rw[List.take_length] at this;exact⟨by unfold zaq;rw[zb0 _ l this];rfl,rfl⟩
theorem indexFuncAntenna_any (l:List DAntenna) (p:DAntenna→Bool) (fn:FuncId) (cap:List Value) (v:Value) (B:Nat) (w:World) (h:Rd B w (DAntenna.sT l) v) (hB:B≤w.heap.size) (hn:l.length≤1099511627776)
  (hcf:∀ (args:Array Value) (W:World),(callFunc fn args).run Tryz.prog W=.ok (.enter fn args) W)
  (hf:∀ x ∈ l,∀ (u2 u3:Value),∀ W:World,Below w.heap.size w W→Calls Tryz.prog fn (Value.agg #[.string x.name,.int .i64 x.gain,u2,u3]::cap).toArray W fun e W'=>e=.returned (.bool (p x))∧Below W.heap.size W W') :
  Calls Tryz.prog 164 #[v,.func (.func fn) #[] cap.toArray] w fun e w'=>e=.returned (.int .i64 (zbf p l))∧Below w.heap.size w w':=by
 obtain⟨a,c,rfl,hnc,hcm,hcells⟩:=DAntenna.rd h;clear h;have hnb:(l.length:Int)≤1099511627776:=by omega
 have HF:=Lib.hid hf;clear hf;go_enter Tryz.func164,Tryz.ntmps164;go_wp2;go_loopw [8] (fun i wr=>∃ (k:Nat),k≤l.length∧i=.int .i64 k∧(l.take k).any p=false∧Below w.heap.size w wr) (fun i wr=>l.length-(intOf i).toNat)
 case atStart=>exact⟨0,Nat.zero_le _,rfl,by simp,Below.refl _ _⟩
 case round =>
  obtain⟨k,hk,rfl,hno,hb⟩:=hrel;have HN:=Lib.hid hno;clear hno
  by_cases hlt:k<l.length
  ·obtain⟨b,off,rfl,hbl,hat⟩:=hcells (by omega)
   obtain⟨s0,s1,⟨u2,s2,_⟩,⟨u3,s3,_⟩⟩:=hat k hlt;rw[← hb.cell (p:=⟨b,_,none⟩) (show b<w.heap.size by omega)] at s0 s1 s2 s3;have HB:=Lib.hid hb;clear hcells hat hb;go_wp2_with fail;refine (HF.out l[k] (List.getElem_mem hlt) u2 u3 _ HB.out).mono ?_;rintro e w1 ⟨rfl,hb1⟩;have HB1:=Lib.hid (HB.out.trans (hb1.mono HB.out.size));clear hb1
   by_cases hp:p l[k]=true
   ·go_wp2
    go_ret;exact⟨by rw[zcj p l k hlt hp HN.out];rfl,HB1.out⟩
   ·have hp':p l[k]=false:=by simpa using hp
    clear hp;go_wp2;go_roundw
    case rel=>exact⟨k+1,by omega,by go_num,by rw[zb1 p l k hlt,HN.out,hp'];rfl,HB1.out⟩
    case measure=>simp[intOf];omega
  ·obtain rfl:k=l.length:=by omega
   clear hcells;go_wp2;go_ret;have:=HN.out;rw[List.take_length] at this;exact⟨by rw[zb0 p l this];rfl,hb⟩
def zbi (l:List DAntenna) (nm:ByteArray):Int:=zbf (fun x:DAntenna=>eqS x.name nm) l
theorem zd2 (l:List DAntenna) (nm:ByteArray) (v0 v1 v2 v3:Value) (B:Nat) (w:World) (h:Rd B w (DAntenna.sT l) v2) (hB:B≤w.heap.size) (hn:l.length≤1099511627776) :
  Calls Tryz.prog 123 #[.agg #[v0,v1,v2,v3],.string nm] w fun e w'=>e=.returned (.int .i64 (zbi l nm))∧Below w.heap.size w w':=by
 have b0:Below w.heap.size w ((w.alloc (.cells #[v0,v1,v2,v3] 46)).alloc (.cells #[.string nm] 9)):=((Below.refl _ _).alloc (Nat.le_refl _) _).alloc (by simp) _
 have HC:=Lib.hid (indexFuncAntenna_any l (fun x:DAntenna=>eqS x.name nm) 165 [.pointer (some ⟨w.heap.size+1,0,none⟩)] v2 B ((w.alloc (.cells #[v0,v1,v2,v3] 46)).alloc (.cells #[.string nm] 9)) (h.below (b0.mono hB)) (by simp<;>omega) hn (fun _ _=>by kernel_rfl) (fun x _ u2 u3 W hW=>by
  have c1:W.cell? ⟨w.heap.size+1,0,none⟩=some (.string nm):=by rw[hW.cell (p:=⟨w.heap.size+1,0,none⟩) (by simp)];simp[go_sem]
  have c2:w.heap.size+1<W.heap.size:=by have:=hW.size;simp at this;omega
  clear hW;go_enter Tryz.func165,Tryz.ntmps165;go_wp2;go_ret
  exact⟨rfl,(Below.refl _ _).alloc (Nat.le_refl _) _⟩))
 have B0:=Lib.hid b0;clear b0 h;unfold zbi;generalize zbf (fun x:DAntenna=>eqS x.name nm) l=r at *;go_enter Tryz.func123,Tryz.ntmps123;go_wp2_with fail;refine (HC.out).mono ?_;rintro e w1 ⟨rfl,hb1⟩;go_wp2;go_ret;exact⟨rfl,B0.out.trans (hb1.mono (by simp<;>omega))⟩
theorem l14Antenna_any (l:List DAntenna) (nm:ByteArray) (v:Value) (bp B:Nat) (w:World) (h:Rd B w (DAntenna.sT l) v) (hB:B≤w.heap.size) (hp:w.cell? ⟨bp,2,none⟩=some v) (hn:l.length≤1099511627776) :
  Calls Tryz.prog 130 #[.pointer (some ⟨bp,0,none⟩),.string nm] w fun e w'=>e=.returned (.int .i64 (zbi l nm))∧w=w':=by
 obtain⟨a,c,rfl,hnc,hcm,hcells⟩:=DAntenna.rd h;clear h;have hnb:(l.length:Int)≤1099511627776:=by omega
 go_enter Tryz.func130,Tryz.ntmps130;go_wp2
 go_loop [5] (fun i=>∃ (k:Nat),k≤l.length∧i=.int .i64 k∧(l.take k).any (fun x:DAntenna=>eqS x.name nm)=false) (fun i=>l.length-(intOf i).toNat)
 case atStart=>exact⟨0,Nat.zero_le _,rfl,by simp⟩
 case round =>
  obtain⟨k,hk,rfl,hno⟩:=hrel;have HN:=Lib.hid hno;clear hno
  by_cases hlt:k<l.length
  ·obtain⟨b,off,rfl,hbl,hat⟩:=hcells (by omega)
   have s0:=(hat k hlt).1;clear hcells hat
   by_cases hp1:(l[k].name.toList == nm.toList)=true
   ·have HP:=Lib.hid hp1
    go_wp2;go_ret;exact⟨by unfold zbi;rw[zcj (fun x:DAntenna=>eqS x.name nm) l k hlt HP.out HN.out];rfl,rfl⟩
   ·have hp':(l[k].name.toList == nm.toList)=false:=Bool.eq_false_iff.2 hp1
    have HP:=Lib.hid hp';clear hp1;go_wp2
    go_round
    case rel=>exact⟨k+1,by omega,by go_num,by rw[zb1 _ l k hlt,HN.out];exact HP.out⟩
    case measure=>simp[intOf];omega
  ·obtain rfl:k=l.length:=by omega
   clear hcells;go_wp2;go_ret;have:=HN.out;rw[List.take_length] at this;exact⟨by unfold zbi;rw[zb0 _ l this];rfl,rfl⟩
theorem indexFuncRadio_any (l:List DRadio) (p:DRadio→Bool) (fn:FuncId) (cap:List Value) (v:Value) (B:Nat) (w:World) (h:Rd B w (DRadio.sT l) v) (hB:B≤w.heap.size) (hn:l.length≤1099511627776)
  (hcf:∀ (args:Array Value) (W:World),(callFunc fn args).run Tryz.prog W=.ok (.enter fn args) W)
  (hf:∀ x ∈ l,∀ (u5:Value),∀ W:World,Below w.heap.size w W→Calls Tryz.prog fn (Value.agg #[.string x.name,.int .i64 x.power,.int .i64 x.feeder,.int .i64 x.noise,.int .i64 x.width,u5]::cap).toArray W fun e W'=>e=.returned (.bool (p x))∧Below W.heap.size W W') :
  Calls Tryz.prog 191 #[v,.func (.func fn) #[] cap.toArray] w fun e w'=>e=.returned (.int .i64 (zbf p l))∧Below w.heap.size w w':=by
 obtain⟨a,c,rfl,hnc,hcm,hcells⟩:=DRadio.rd h;clear h;have hnb:(l.length:Int)≤1099511627776:=by omega
 have HF:=Lib.hid hf;clear hf;go_enter Tryz.func191,Tryz.ntmps191;go_wp2;go_loopw [8] (fun i wr=>∃ (k:Nat),k≤l.length∧i=.int .i64 k∧(l.take k).any p=false∧Below w.heap.size w wr) (fun i wr=>l.length-(intOf i).toNat)
 case atStart=>exact⟨0,Nat.zero_le _,rfl,by simp,Below.refl _ _⟩
 case round =>
  obtain⟨k,hk,rfl,hno,hb⟩:=hrel;have HN:=Lib.hid hno;clear hno
  by_cases hlt:k<l.length
  ·obtain⟨b,off,rfl,hbl,hat⟩:=hcells (by omega)
   obtain⟨s0,s1,s2,s3,s4,⟨u5,s5,_⟩⟩:=hat k hlt;rw[← hb.cell (p:=⟨b,_,none⟩) (show b<w.heap.size by omega)] at s0 s1 s2 s3 s4 s5;have HB:=Lib.hid hb;clear hcells hat hb;go_wp2_with fail;refine (HF.out l[k] (List.getElem_mem hlt) u5 _ HB.out).mono ?_;rintro e w1 ⟨rfl,hb1⟩;have HB1:=Lib.hid (HB.out.trans (hb1.mono HB.out.size));clear hb1
   by_cases hp:p l[k]=true
   ·go_wp2
    go_ret;exact⟨by rw[zcj p l k hlt hp HN.out];rfl,HB1.out⟩
   ·have hp':p l[k]=false:=by simpa using hp
    clear hp;go_wp2;go_roundw
    case rel=>exact⟨k+1,by omega,by go_num,by rw[zb1 p l k hlt,HN.out,hp'];rfl,HB1.out⟩
    case measure=>simp[intOf];omega
  ·obtain rfl:k=l.length:=by omega
   clear hcells;go_wp2;go_ret;have:=HN.out;rw[List.take_length] at this;exact⟨by rw[zb0 p l this];rfl,hb⟩
def zbx (l:List DRadio) (nm:ByteArray):Int:=zbf (fun x:DRadio=>eqS x.name nm) l
theorem radioNamed_any (l:List DRadio) (nm:ByteArray) (v0 v1 v2 v3:Value) (B:Nat) (w:World) (h:Rd B w (DRadio.sT l) v3) (hB:B≤w.heap.size) (hn:l.length≤1099511627776) :
  Calls Tryz.prog 149 #[.agg #[v0,v1,v2,v3],.string nm] w fun e w'=>e=.returned (.int .i64 (zbx l nm))∧Below w.heap.size w w':=by
 have b0:Below w.heap.size w ((w.alloc (.cells #[v0,v1,v2,v3] 46)).alloc (.cells #[.string nm] 9)):=((Below.refl _ _).alloc (Nat.le_refl _) _).alloc (by simp) _
 have HC:=Lib.hid (indexFuncRadio_any l (fun x:DRadio=>eqS x.name nm) 192 [.pointer (some ⟨w.heap.size+1,0,none⟩)] v3 B ((w.alloc (.cells #[v0,v1,v2,v3] 46)).alloc (.cells #[.string nm] 9)) (h.below (b0.mono hB)) (by simp<;>omega) hn (fun _ _=>by kernel_rfl) (fun x _ u5 W hW=>by
  have c1:W.cell? ⟨w.heap.size+1,0,none⟩=some (.string nm):=by rw[hW.cell (p:=⟨w.heap.size+1,0,none⟩) (by simp)];simp[go_sem]
  have c2:w.heap.size+1<W.heap.size:=by have:=hW.size;simp at this;omega
  clear hW;go_enter Tryz.func192,Tryz.ntmps192;go_wp2;go_ret
  exact⟨rfl,(Below.refl _ _).alloc (Nat.le_refl _) _⟩))
 have B0:=Lib.hid b0;clear b0 h;unfold zbx;generalize zbf (fun x:DRadio=>eqS x.name nm) l=r at *;go_enter Tryz.func149,Tryz.ntmps149;go_wp2_with fail;refine (HC.out).mono ?_;rintro e w1 ⟨rfl,hb1⟩;go_wp2;go_ret;exact⟨rfl,B0.out.trans (hb1.mono (by simp<;>omega))⟩
theorem l14Radio_any (l:List DRadio) (nm:ByteArray) (v:Value) (bp B:Nat) (w:World) (h:Rd B w (DRadio.sT l) v) (hB:B≤w.heap.size) (hp:w.cell? ⟨bp,3,none⟩=some v) (hn:l.length≤1099511627776) :
  Calls Tryz.prog 131 #[.pointer (some ⟨bp,0,none⟩),.string nm] w fun e w'=>e=.returned (.int .i64 (zbx l nm))∧w=w':=by
 obtain⟨a,c,rfl,hnc,hcm,hcells⟩:=DRadio.rd h;clear h;have hnb:(l.length:Int)≤1099511627776:=by omega
 go_enter Tryz.func131,Tryz.ntmps131;go_wp2
 go_loop [5] (fun i=>∃ (k:Nat),k≤l.length∧i=.int .i64 k∧(l.take k).any (fun x:DRadio=>eqS x.name nm)=false) (fun i=>l.length-(intOf i).toNat)
 case atStart=>exact⟨0,Nat.zero_le _,rfl,by simp⟩
 case round =>
  obtain⟨k,hk,rfl,hno⟩:=hrel;have HN:=Lib.hid hno;clear hno
  by_cases hlt:k<l.length
  ·obtain⟨b,off,rfl,hbl,hat⟩:=hcells (by omega)
   have s0:=(hat k hlt).1;clear hcells hat
   by_cases hp1:(l[k].name.toList == nm.toList)=true
   ·have HP:=Lib.hid hp1
    go_wp2;go_ret;exact⟨by unfold zbx;rw[zcj (fun x:DRadio=>eqS x.name nm) l k hlt HP.out HN.out];rfl,rfl⟩
   ·have hp':(l[k].name.toList == nm.toList)=false:=Bool.eq_false_iff.2 hp1
    have HP:=Lib.hid hp';clear hp1;go_wp2
    go_round
    case rel=>exact⟨k+1,by omega,by go_num,by rw[zb1 _ l k hlt,HN.out];exact HP.out⟩
    case measure=>simp[intOf];omega
  ·obtain rfl:k=l.length:=by omega
   clear hcells;go_wp2;go_ret;have:=HN.out;rw[List.take_length] at this;exact⟨by unfold zbx;rw[zb0 _ l this];rfl,rfl⟩
def zas (n:DNetwork) (x:DSector):Bool:=decide (0≤zb6 n.sites x.site)&&(decide (0≤zbi n.antennas x.antenna)&&decide (0≤zbx n.radios x.radio))
theorem l14Refers_any (n:DNetwork) (x:DSector) (v0 v2 v3:Value) (bp bx ox B:Nat) (w:World) (r0:Rd B w (DSite.sT n.sites) v0) (r2:Rd B w (DAntenna.sT n.antennas) v2) (r3:Rd B w (DRadio.sT n.radios) v3) (hB:B≤w.heap.size) (p0:w.cell? ⟨bp,0,none⟩=some v0) (p2:w.cell? ⟨bp,2,none⟩=some v2) (p3:w.cell? ⟨bp,3,none⟩=some v3) (c1:w.cell? ⟨bx,ox+1,none⟩=some (.string x.site)) (c2:w.cell? ⟨bx,ox+2,none⟩=some (.string x.antenna)) (c3:w.cell? ⟨bx,ox+3,none⟩=some (.string x.radio)) (l0:n.sites.length≤1099511627776) (l2:n.antennas.length≤1099511627776) (l3:n.radios.length≤1099511627776) :
  Calls Tryz.prog 90 #[.pointer (some ⟨bp,0,none⟩),.pointer (some ⟨bx,ox,none⟩)] w fun e w'=>e=.returned (.bool (zas n x))∧w=w':=by
 have HS:=Lib.hid (l14FindSite_any n.sites x.site v0 bp B w r0 hB p0 l0);have HA:=Lib.hid (l14Antenna_any n.antennas x.antenna v2 bp B w r2 hB p2 l2);have HR:=Lib.hid (l14Radio_any n.radios x.radio v3 bp B w r3 hB p3 l3);clear r0 r2 r3
 by_cases h0:decide (0≤zb6 n.sites x.site)=true
 ·skip
  by_cases h1:decide (0≤zbi n.antennas x.antenna)=true
  ·skip
   by_cases h2:decide (0≤zbx n.radios x.radio)=true
   ·skip
    have HE:Hid (zas n x=true):=by show _=_;unfold zas;simp only[h0,h1,h2]<;>rfl
    go_enter Tryz.func90,Tryz.ntmps90;go_wp2_with (first|(go_at_call 92;refine (HS.out).mono ?_;rintro e w1 ⟨rfl,rfl⟩)|(go_at_call 130;refine (HA.out).mono ?_;rintro e w1 ⟨rfl,rfl⟩)|(go_at_call 131;refine (HR.out).mono ?_;rintro e w1 ⟨rfl,rfl⟩));go_ret;exact⟨by rw[HE.out];rfl,by rfl⟩
   ·replace h2:decide (0≤zbx n.radios x.radio)=false:=Bool.eq_false_iff.2 h2
    have HE:Hid (zas n x=false):=by show _=_;unfold zas;simp only[h0,h1,h2]<;>rfl
    go_enter Tryz.func90,Tryz.ntmps90;go_wp2_with (first|(go_at_call 92;refine (HS.out).mono ?_;rintro e w1 ⟨rfl,rfl⟩)|(go_at_call 130;refine (HA.out).mono ?_;rintro e w1 ⟨rfl,rfl⟩)|(go_at_call 131;refine (HR.out).mono ?_;rintro e w1 ⟨rfl,rfl⟩));go_ret;exact⟨by rw[HE.out];rfl,by rfl⟩
  ·replace h1:decide (0≤zbi n.antennas x.antenna)=false:=Bool.eq_false_iff.2 h1
   have HE:Hid (zas n x=false):=by show _=_;unfold zas;simp only[h0,h1]<;>rfl
   go_enter Tryz.func90,Tryz.ntmps90;go_wp2_with (first|(go_at_call 92;refine (HS.out).mono ?_;rintro e w1 ⟨rfl,rfl⟩)|(go_at_call 130;refine (HA.out).mono ?_;rintro e w1 ⟨rfl,rfl⟩)|(go_at_call 131;refine (HR.out).mono ?_;rintro e w1 ⟨rfl,rfl⟩));go_ret;exact⟨by rw[HE.out];rfl,by rfl⟩
 ·replace h0:decide (0≤zb6 n.sites x.site)=false:=Bool.eq_false_iff.2 h0
  have HE:Hid (zas n x=false):=by show _=_;unfold zas;simp only[h0]<;>rfl
  go_enter Tryz.func90,Tryz.ntmps90;go_wp2_with (first|(go_at_call 92;refine (HS.out).mono ?_;rintro e w1 ⟨rfl,rfl⟩)|(go_at_call 130;refine (HA.out).mono ?_;rintro e w1 ⟨rfl,rfl⟩)|(go_at_call 131;refine (HR.out).mono ?_;rintro e w1 ⟨rfl,rfl⟩));go_ret;exact⟨by rw[HE.out];rfl,by rfl⟩
theorem hasParts_any (n:DNetwork) (x:DSector) (v0 v1 v2 v3:Value) (w:World) (r0:Rd w.heap.size w (DSite.sT n.sites) v0) (r2:Rd w.heap.size w (DAntenna.sT n.antennas) v2) (r3:Rd w.heap.size w (DRadio.sT n.radios) v3) (l0:n.sites.length≤1099511627776) (l2:n.antennas.length≤1099511627776) (l3:n.radios.length≤1099511627776) :
  Calls Tryz.prog 107 #[.agg #[v0,v1,v2,v3],.agg #[.string x.name,.string x.site,.string x.antenna,.string x.radio,.string x.band,.int .i64 x.azimuth,.int .i64 x.tilt,.int .i64 x.above,.int .i64 x.channel]] w fun e w'=>e=.returned (.bool (zas n x))∧Below w.heap.size w w':=by
 have b0:Below w.heap.size w ((w.alloc (.cells #[v0,v1,v2,v3] 46)).alloc (.cells #[.string x.name,.string x.site,.string x.antenna,.string x.radio,.string x.band,.int .i64 x.azimuth,.int .i64 x.tilt,.int .i64 x.above,.int .i64 x.channel] 102)):=((Below.refl _ _).alloc (Nat.le_refl _) _).alloc (by simp) _;have HS:Hid (∀ W:World,Below w.heap.size w W→Calls Tryz.prog 121 #[.agg #[v0,v1,v2,v3],.string x.site] W fun e w'=>e=.returned (.int .i64 (zb6 n.sites x.site))∧Below W.heap.size W w'):=fun W hW=>siteNamed_any n.sites x.site v0 v1 v2 v3 w.heap.size W (r0.below hW) hW.size l0
 have HA:Hid (∀ W:World,Below w.heap.size w W→Calls Tryz.prog 123 #[.agg #[v0,v1,v2,v3],.string x.antenna] W fun e w'=>e=.returned (.int .i64 (zbi n.antennas x.antenna))∧Below W.heap.size W w'):=fun W hW=>zd2 n.antennas x.antenna v0 v1 v2 v3 w.heap.size W (r2.below hW) hW.size l2
 have HR:Hid (∀ W:World,Below w.heap.size w W→Calls Tryz.prog 149 #[.agg #[v0,v1,v2,v3],.string x.radio] W fun e w'=>e=.returned (.int .i64 (zbx n.radios x.radio))∧Below W.heap.size W w'):=fun W hW=>radioNamed_any n.radios x.radio v0 v1 v2 v3 w.heap.size W (r3.below hW) hW.size l3
 have B0:=Lib.hid b0;clear b0 r0 r2 r3
 by_cases h0:decide (0≤zb6 n.sites x.site)=true
 ·skip
  by_cases h1:decide (0≤zbi n.antennas x.antenna)=true
  ·skip
   by_cases h2:decide (0≤zbx n.radios x.radio)=true
   ·skip
    have HE:Hid (zas n x=true):=by show _=_;unfold zas;simp only[h0,h1,h2]<;>rfl
    go_enter Tryz.func107,Tryz.ntmps107;go_wp2_with (first|(go_at_call 121;refine (HS.out _ B0.out).mono ?_;rintro e w1 ⟨rfl,hb1⟩;have B1:=Lib.hid (B0.out.trans (hb1.mono B0.out.size));obtain⟨qa1,_,ya1⟩:=zah hb1 (b:=w.heap.size) (by first|omega|(simp;done)|(simp<;>omega));obtain⟨qb1,_,yb1⟩:=zah hb1 (b:=w.heap.size+1) (by first|omega|(simp;done)|(simp<;>omega));clear hb1)|(go_at_call 123;refine (HA.out _ B1.out).mono ?_;rintro e w2 ⟨rfl,hb2⟩;have B2:=Lib.hid (B1.out.trans (hb2.mono B1.out.size));obtain⟨qa2,_,ya2⟩:=zah hb2 (b:=w.heap.size) (by first|omega|(simp;done)|(simp<;>omega));obtain⟨qb2,_,yb2⟩:=zah hb2 (b:=w.heap.size+1) (by first|omega|(simp;done)|(simp<;>omega));clear hb2)|(go_at_call 149;refine (HR.out _ B2.out).mono ?_;rintro e w3 ⟨rfl,hb3⟩;have B3:=Lib.hid (B2.out.trans (hb3.mono B2.out.size));obtain⟨qa3,_,ya3⟩:=zah hb3 (b:=w.heap.size) (by first|omega|(simp;done)|(simp<;>omega));obtain⟨qb3,_,yb3⟩:=zah hb3 (b:=w.heap.size+1) (by first|omega|(simp;done)|(simp<;>omega));clear hb3));go_ret;exact⟨by rw[HE.out];rfl,by first|exact B3.out|exact B2.out|exact B1.out⟩
   ·replace h2:decide (0≤zbx n.radios x.radio)=false:=Bool.eq_false_iff.2 h2
    have HE:Hid (zas n x=false):=by show _=_;unfold zas;simp only[h0,h1,h2]<;>rfl
    go_enter Tryz.func107,Tryz.ntmps107;go_wp2_with (first|(go_at_call 121;refine (HS.out _ B0.out).mono ?_;rintro e w1 ⟨rfl,hb1⟩;have B1:=Lib.hid (B0.out.trans (hb1.mono B0.out.size));obtain⟨qa1,_,ya1⟩:=zah hb1 (b:=w.heap.size) (by first|omega|(simp;done)|(simp<;>omega));obtain⟨qb1,_,yb1⟩:=zah hb1 (b:=w.heap.size+1) (by first|omega|(simp;done)|(simp<;>omega));clear hb1)|(go_at_call 123;refine (HA.out _ B1.out).mono ?_;rintro e w2 ⟨rfl,hb2⟩;have B2:=Lib.hid (B1.out.trans (hb2.mono B1.out.size));obtain⟨qa2,_,ya2⟩:=zah hb2 (b:=w.heap.size) (by first|omega|(simp;done)|(simp<;>omega));obtain⟨qb2,_,yb2⟩:=zah hb2 (b:=w.heap.size+1) (by first|omega|(simp;done)|(simp<;>omega));clear hb2)|(go_at_call 149;refine (HR.out _ B2.out).mono ?_;rintro e w3 ⟨rfl,hb3⟩;have B3:=Lib.hid (B2.out.trans (hb3.mono B2.out.size));obtain⟨qa3,_,ya3⟩:=zah hb3 (b:=w.heap.size) (by first|omega|(simp;done)|(simp<;>omega));obtain⟨qb3,_,yb3⟩:=zah hb3 (b:=w.heap.size+1) (by first|omega|(simp;done)|(simp<;>omega));clear hb3));go_ret;exact⟨by rw[HE.out];rfl,by first|exact B3.out|exact B2.out|exact B1.out⟩
  ·replace h1:decide (0≤zbi n.antennas x.antenna)=false:=Bool.eq_false_iff.2 h1
   have HE:Hid (zas n x=false):=by show _=_;unfold zas;simp only[h0,h1]<;>rfl
   go_enter Tryz.func107,Tryz.ntmps107;go_wp2_with (first|(go_at_call 121;refine (HS.out _ B0.out).mono ?_;rintro e w1 ⟨rfl,hb1⟩;have B1:=Lib.hid (B0.out.trans (hb1.mono B0.out.size));obtain⟨qa1,_,ya1⟩:=zah hb1 (b:=w.heap.size) (by first|omega|(simp;done)|(simp<;>omega));obtain⟨qb1,_,yb1⟩:=zah hb1 (b:=w.heap.size+1) (by first|omega|(simp;done)|(simp<;>omega));clear hb1)|(go_at_call 123;refine (HA.out _ B1.out).mono ?_;rintro e w2 ⟨rfl,hb2⟩;have B2:=Lib.hid (B1.out.trans (hb2.mono B1.out.size));obtain⟨qa2,_,ya2⟩:=zah hb2 (b:=w.heap.size) (by first|omega|(simp;done)|(simp<;>omega));obtain⟨qb2,_,yb2⟩:=zah hb2 (b:=w.heap.size+1) (by first|omega|(simp;done)|(simp<;>omega));clear hb2)|(go_at_call 149;refine (HR.out _ B2.out).mono ?_;rintro e w3 ⟨rfl,hb3⟩;have B3:=Lib.hid (B2.out.trans (hb3.mono B2.out.size));obtain⟨qa3,_,ya3⟩:=zah hb3 (b:=w.heap.size) (by first|omega|(simp;done)|(simp<;>omega));obtain⟨qb3,_,yb3⟩:=zah hb3 (b:=w.heap.size+1) (by first|omega|(simp;done)|(simp<;>omega));clear hb3));go_ret;exact⟨by rw[HE.out];rfl,by first|exact B3.out|exact B2.out|exact B1.out⟩
 ·replace h0:decide (0≤zb6 n.sites x.site)=false:=Bool.eq_false_iff.2 h0
  have HE:Hid (zas n x=false):=by show _=_;unfold zas;simp only[h0]<;>rfl
  go_enter Tryz.func107,Tryz.ntmps107;go_wp2_with (first|(go_at_call 121;refine (HS.out _ B0.out).mono ?_;rintro e w1 ⟨rfl,hb1⟩;have B1:=Lib.hid (B0.out.trans (hb1.mono B0.out.size));obtain⟨qa1,_,ya1⟩:=zah hb1 (b:=w.heap.size) (by first|omega|(simp;done)|(simp<;>omega));obtain⟨qb1,_,yb1⟩:=zah hb1 (b:=w.heap.size+1) (by first|omega|(simp;done)|(simp<;>omega));clear hb1)|(go_at_call 123;refine (HA.out _ B1.out).mono ?_;rintro e w2 ⟨rfl,hb2⟩;have B2:=Lib.hid (B1.out.trans (hb2.mono B1.out.size));obtain⟨qa2,_,ya2⟩:=zah hb2 (b:=w.heap.size) (by first|omega|(simp;done)|(simp<;>omega));obtain⟨qb2,_,yb2⟩:=zah hb2 (b:=w.heap.size+1) (by first|omega|(simp;done)|(simp<;>omega));clear hb2)|(go_at_call 149;refine (HR.out _ B2.out).mono ?_;rintro e w3 ⟨rfl,hb3⟩;have B3:=Lib.hid (B2.out.trans (hb3.mono B2.out.size));obtain⟨qa3,_,ya3⟩:=zah hb3 (b:=w.heap.size) (by first|omega|(simp;done)|(simp<;>omega));obtain⟨qb3,_,yb3⟩:=zah hb3 (b:=w.heap.size+1) (by first|omega|(simp;done)|(simp<;>omega));clear hb3));go_ret;exact⟨by rw[HE.out];rfl,by first|exact B3.out|exact B2.out|exact B1.out⟩
end Go.Proofs.YtdgmgchdjlfchaaGreatDoor
