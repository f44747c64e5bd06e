/- Contracts: elements with a name, for the program and for the reference. Conditions: bounded lengths. -/
import Derived.Test.YtgmapjgodibchaaGreatDoorNetC
import Derived.Test.YtgmapjgodibchaaGreatDoorHNetwork
set_option linter.unusedVariables false
set_option linter.unusedSimpArgs false
namespace Go.Proofs.YtgmapjgodibchaaGreatDoor
open Go.RowKit
set_option maxHeartbeats 4000000
set_option maxRecDepth 100000
theorem indexFuncSite_any (l:List DSite) (p:DSite→Bool) (fn:FuncId) (cap:List Value) (v:Value) (B:Nat) (w:World) (h:Rd B w (DSite.sT l) v) (hB:B≤w.heap.size) (hn:l.length≤1099511627776)
  (hcf:∀ (args:Array Value) (W:World),(callFunc fn args).run Tryz.prog W=.ok (.enter fn args) W)
  (hf:∀ x ∈ l,∀ W:World,IJ w w W→Calls Tryz.prog fn (Value.agg #[F x.name,F x.holder,I x.place.x,I x.place.y]::cap).toArray W fun e W'=>e=.returned (.bool (p x))∧IJ W W W') :
  Calls Tryz.prog 142 #[v,.func (.func fn) #[] cap.toArray] w fun e w'=>e=.returned (I (zbk p l))∧IJ w w w':=by
 obtain⟨a,c,rfl,hnc,hcm,hcells⟩:=DSite.rd h;clear h;have hnb:(l.length:Int)≤1099511627776:=O
 have HF:=J hf;clear hf;go_enter Tryz.func142,Tryz.ntmps142;go_wp2;go_loopw [8] (fun i wr=>∃ (k:Nat),k≤l.length∧i=I k∧(l.take k).any p=false∧IJ w w wr) (fun i wr=>l.length-(intOf i).toNat)
 case atStart=>exact⟨0,Nat.zero_le _,rfl,by simp,Below.refl _ _⟩
 case round =>
  obtain⟨k,hk,rfl,hno,hb⟩:=hrel;have HN:=J hno;clear hno
  by_cases hlt:k<l.length
  ·obtain⟨b,off,rfl,hbl,hat⟩:=hcells O
   obtain⟨s0,s1,s2,s3⟩:=hat k hlt;rw[← hb.cell (p:=⟨b,_,none⟩) (show b<w.heap.size by omega)] at s0 s1 s2 s3;have HB:=J hb;clear hcells hat hb;go_wp2_with fail;refine (HF.out l[k] (List.getElem_mem hlt)  _ HB.out).mono ?_;rintro e w1 ⟨rfl,hb1⟩;have HB1:=J (HB.out.trans (hb1.mono HB.out.size));clear hb1
   by_cases hp:p l[k]=true
   ·go_wp2
    go_ret;exact⟨by rw[zcy p l k hlt hp HN.out];rfl,HB1.out⟩
   ·have hp':p l[k]=false:=by simpa using hp
    clear hp;go_wp2;go_roundw
    case rel=>exact⟨k+1,O,by go_num,by rw[zce p l k hlt,HN.out,hp'];rfl,HB1.out⟩
    case measure=>simp[intOf];omega
  ·obtain rfl:k=l.length:=O
   clear hcells;go_wp2;go_ret;have:=HN.out;rw[List.take_length] at this;exact⟨by rw[zcd p l this];rfl,hb⟩
def zb9 (l:List DSite) (nm:ByteArray):Int:=zbk (fun x:DSite=>eqS x.name nm) l
theorem siteNamed_any (l:List DSite) (nm:ByteArray) (v0 v1 v2 v3:Value) (B:Nat) (w:World) (h:Rd B w (DSite.sT l) v0) (hB:B≤w.heap.size) (hn:l.length≤1099511627776) :
  Calls Tryz.prog 106 #[.agg #[v0,v1,v2,v3],F nm] w fun e w'=>e=.returned (I (zb9 l nm))∧IJ w w w':=by
 have b0:IJ w w ((w.alloc (.cells #[v0,v1,v2,v3] 44)).alloc (.cells #[F nm] 9)):=((Below.refl _ _).alloc (Nat.le_refl _) _).alloc (by simp) _
 have HC:=J (indexFuncSite_any l (fun x:DSite=>eqS x.name nm) 143 [.pointer (some ⟨w.heap.size+1,0,none⟩)] v0 B ((w.alloc (.cells #[v0,v1,v2,v3] 44)).alloc (.cells #[F nm] 9)) (h.below (b0.mono hB)) (by simp<;>omega) hn (fun _ _=>by kernel_rfl) (fun x _  W hW=>by
  have c1:W.cell? ⟨w.heap.size+1,0,none⟩=some (F nm):=by rw[hW.cell (p:=⟨w.heap.size+1,0,none⟩) (by simp)];simp[go_sem]
  have c2:w.heap.size+1<W.heap.size:=by have:=hW.size;simp at this;omega
  clear hW;go_enter Tryz.func143,Tryz.ntmps143;go_wp2;go_ret
  exact⟨rfl,(Below.refl _ _).alloc (Nat.le_refl _) _⟩))
 have B0:=J b0;clear b0 h;unfold zb9;generalize zbk (fun x:DSite=>eqS x.name nm) l=r at *;go_enter Tryz.func106,Tryz.ntmps106;go_wp2_with fail;refine (HC.out).mono ?_;rintro e w1 ⟨rfl,hb1⟩;go_wp2;go_ret;exact⟨rfl,B0.out.trans (hb1.mono (by simp<;>omega))⟩
theorem l14FindSite_any (l:List DSite) (nm:ByteArray) (v:Value) (bp B:Nat) (w:World) (h:Rd B w (DSite.sT l) v) (hB:B≤w.heap.size) (hp:w.cell? ⟨bp,0,none⟩=some v) (hn:l.length≤1099511627776) :
  Calls Tryz.prog 154 #[.pointer (some ⟨bp,0,none⟩),F nm] w fun e w'=>e=.returned (I (zb9 l nm))∧w=w':=by
 obtain⟨a,c,rfl,hnc,hcm,hcells⟩:=DSite.rd h;clear h;have hnb:(l.length:Int)≤1099511627776:=O
 go_enter Tryz.func154,Tryz.ntmps154;go_wp2
 go_loop [5] (fun i=>∃ (k:Nat),k≤l.length∧i=I k∧(l.take k).any (fun x:DSite=>eqS x.name nm)=false) (fun i=>l.length-(intOf i).toNat)
 case atStart=>exact⟨0,Nat.zero_le _,rfl,by simp⟩
 case round =>
  obtain⟨k,hk,rfl,hno⟩:=hrel;have HN:=J hno;clear hno
  by_cases hlt:k<l.length
  ·obtain⟨b,off,rfl,hbl,hat⟩:=hcells O
   have s0:=(hat k hlt).1;clear hcells hat
   by_cases hp1:(l[k].name.toList == nm.toList)=true
   ·have HP:=J hp1
    go_wp2;go_ret;exact⟨by unfold zb9;rw[zcy (fun x:DSite=>eqS x.name nm) l k hlt HP.out HN.out];rfl,rfl⟩
   ·have hp':(l[k].name.toList == nm.toList)=false:=Bool.eq_false_iff.2 hp1
    have HP:=J hp';clear hp1;go_wp2
    go_round
    case rel=>exact⟨k+1,O,by go_num,by rw[zce _ l k hlt,HN.out];exact HP.out⟩
    case measure=>simp[intOf];omega
  ·obtain rfl:k=l.length:=O
   clear hcells;go_wp2;go_ret;have:=HN.out;rw[List.take_length] at this;exact⟨by unfold zb9;rw[zcd _ l this];rfl,rfl⟩
def zbg (l:List DSector) (nm:ByteArray):Int:=zbk (fun x:DSector=>eqS x.name nm) l
theorem l14Find_any (l:List DSector) (nm:ByteArray) (v:Value) (bp B:Nat) (w:World) (h:Rd B w (DSector.sT l) v) (hB:B≤w.heap.size) (hp:w.cell? ⟨bp,1,none⟩=some v) (hn:l.length≤1099511627776) :
  Calls Tryz.prog 133 #[.pointer (some ⟨bp,0,none⟩),F nm] w fun e w'=>e=.returned (I (zbg l nm))∧w=w':=by
 obtain⟨a,c,rfl,hnc,hcm,hcells⟩:=DSector.rd h;clear h;have hnb:(l.length:Int)≤1099511627776:=O
 go_enter Tryz.func133,Tryz.ntmps133;go_wp2
 go_loop [5] (fun i=>∃ (k:Nat),k≤l.length∧i=I k∧(l.take k).any (fun x:DSector=>eqS x.name nm)=false) (fun i=>l.length-(intOf i).toNat)
 case atStart=>exact⟨0,Nat.zero_le _,rfl,by simp⟩
 case round =>
  obtain⟨k,hk,rfl,hno⟩:=hrel;have HN:=J hno;clear hno
  by_cases hlt:k<l.length
  ·obtain⟨b,off,rfl,hbl,hat⟩:=hcells O
   have s0:=(hat k hlt).1;clear hcells hat
   by_cases hp1:(l[k].name.toList == nm.toList)=true
   ·have HP:=J hp1
    go_wp2;go_ret;exact⟨by unfold zbg;rw[zcy (fun x:DSector=>eqS x.name nm) l k hlt HP.out HN.out];rfl,rfl⟩
   ·have hp':(l[k].name.toList == nm.toList)=false:=Bool.eq_false_iff.2 hp1
    have HP:=J hp';clear hp1;go_wp2
    go_round
    case rel=>exact⟨k+1,O,by go_num,by rw[zce _ l k hlt,HN.out];exact HP.out⟩
    case measure=>simp[intOf];omega
  ·obtain rfl:k=l.length:=O
   clear hcells;go_wp2;go_ret;have:=HN.out;rw[List.take_length] at this;exact⟨by unfold zbg;rw[zcd _ l this];rfl,rfl⟩
theorem indexFuncAntenna_any (l:List DAntenna) (p:DAntenna→Bool) (fn:FuncId) (cap:List Value) (v:Value) (B:Nat) (w:World) (h:Rd B w (DAntenna.sT l) v) (hB:B≤w.heap.size) (hn:l.length≤1099511627776)
  (hcf:∀ (args:Array Value) (W:World),(callFunc fn args).run Tryz.prog W=.ok (.enter fn args) W)
  (hf:∀ x ∈ l,∀ (u2 u3:Value),∀ W:World,IJ w w W→Calls Tryz.prog fn (Value.agg #[F x.name,I x.gain,u2,u3]::cap).toArray W fun e W'=>e=.returned (.bool (p x))∧IJ W W W') :
  Calls Tryz.prog 144 #[v,.func (.func fn) #[] cap.toArray] w fun e w'=>e=.returned (I (zbk p l))∧IJ w w w':=by
 obtain⟨a,c,rfl,hnc,hcm,hcells⟩:=DAntenna.rd h;clear h;have hnb:(l.length:Int)≤1099511627776:=O
 have HF:=J hf;clear hf;go_enter Tryz.func144,Tryz.ntmps144;go_wp2;go_loopw [8] (fun i wr=>∃ (k:Nat),k≤l.length∧i=I k∧(l.take k).any p=false∧IJ w w wr) (fun i wr=>l.length-(intOf i).toNat)
 case atStart=>exact⟨0,Nat.zero_le _,rfl,by simp,Below.refl _ _⟩
 case round =>
  obtain⟨k,hk,rfl,hno,hb⟩:=hrel;have HN:=J hno;clear hno
  by_cases hlt:k<l.length
  ·obtain⟨b,off,rfl,hbl,hat⟩:=hcells O
   obtain⟨s0,s1,⟨u2,s2,_⟩,⟨u3,s3,_⟩⟩:=hat k hlt;rw[← hb.cell (p:=⟨b,_,none⟩) (show b<w.heap.size by omega)] at s0 s1 s2 s3;have HB:=J hb;clear hcells hat hb;go_wp2_with fail;refine (HF.out l[k] (List.getElem_mem hlt) u2 u3 _ HB.out).mono ?_;rintro e w1 ⟨rfl,hb1⟩;have HB1:=J (HB.out.trans (hb1.mono HB.out.size));clear hb1
   by_cases hp:p l[k]=true
   ·go_wp2
    go_ret;exact⟨by rw[zcy p l k hlt hp HN.out];rfl,HB1.out⟩
   ·have hp':p l[k]=false:=by simpa using hp
    clear hp;go_wp2;go_roundw
    case rel=>exact⟨k+1,O,by go_num,by rw[zce p l k hlt,HN.out,hp'];rfl,HB1.out⟩
    case measure=>simp[intOf];omega
  ·obtain rfl:k=l.length:=O
   clear hcells;go_wp2;go_ret;have:=HN.out;rw[List.take_length] at this;exact⟨by rw[zcd p l this];rfl,hb⟩
def zbi (l:List DAntenna) (nm:ByteArray):Int:=zbk (fun x:DAntenna=>eqS x.name nm) l
theorem zd9 (l:List DAntenna) (nm:ByteArray) (v0 v1 v2 v3:Value) (B:Nat) (w:World) (h:Rd B w (DAntenna.sT l) v2) (hB:B≤w.heap.size) (hn:l.length≤1099511627776) :
  Calls Tryz.prog 108 #[.agg #[v0,v1,v2,v3],F nm] w fun e w'=>e=.returned (I (zbi l nm))∧IJ w w w':=by
 have b0:IJ w w ((w.alloc (.cells #[v0,v1,v2,v3] 44)).alloc (.cells #[F nm] 9)):=((Below.refl _ _).alloc (Nat.le_refl _) _).alloc (by simp) _
 have HC:=J (indexFuncAntenna_any l (fun x:DAntenna=>eqS x.name nm) 145 [.pointer (some ⟨w.heap.size+1,0,none⟩)] v2 B ((w.alloc (.cells #[v0,v1,v2,v3] 44)).alloc (.cells #[F nm] 9)) (h.below (b0.mono hB)) (by simp<;>omega) hn (fun _ _=>by kernel_rfl) (fun x _ u2 u3 W hW=>by
  have c1:W.cell? ⟨w.heap.size+1,0,none⟩=some (F nm):=by rw[hW.cell (p:=⟨w.heap.size+1,0,none⟩) (by simp)];simp[go_sem]
  have c2:w.heap.size+1<W.heap.size:=by have:=hW.size;simp at this;omega
  clear hW;go_enter Tryz.func145,Tryz.ntmps145;go_wp2;go_ret
  exact⟨rfl,(Below.refl _ _).alloc (Nat.le_refl _) _⟩))
 have B0:=J b0;clear b0 h;unfold zbi;generalize zbk (fun x:DAntenna=>eqS x.name nm) l=r at *;go_enter Tryz.func108,Tryz.ntmps108;go_wp2_with fail;refine (HC.out).mono ?_;rintro e w1 ⟨rfl,hb1⟩;go_wp2;go_ret;exact⟨rfl,B0.out.trans (hb1.mono (by simp<;>omega))⟩
theorem l14Antenna_any (l:List DAntenna) (nm:ByteArray) (v:Value) (bp B:Nat) (w:World) (h:Rd B w (DAntenna.sT l) v) (hB:B≤w.heap.size) (hp:w.cell? ⟨bp,2,none⟩=some v) (hn:l.length≤1099511627776) :
  Calls Tryz.prog 170 #[.pointer (some ⟨bp,0,none⟩),F nm] w fun e w'=>e=.returned (I (zbi l nm))∧w=w':=by
 obtain⟨a,c,rfl,hnc,hcm,hcells⟩:=DAntenna.rd h;clear h;have hnb:(l.length:Int)≤1099511627776:=O
 go_enter Tryz.func170,Tryz.ntmps170;go_wp2
 go_loop [5] (fun i=>∃ (k:Nat),k≤l.length∧i=I k∧(l.take k).any (fun x:DAntenna=>eqS x.name nm)=false) (fun i=>l.length-(intOf i).toNat)
 case atStart=>exact⟨0,Nat.zero_le _,rfl,by simp⟩
 case round =>
  obtain⟨k,hk,rfl,hno⟩:=hrel;have HN:=J hno;clear hno
  by_cases hlt:k<l.length
  ·obtain⟨b,off,rfl,hbl,hat⟩:=hcells O
   have s0:=(hat k hlt).1;clear hcells hat
   by_cases hp1:(l[k].name.toList == nm.toList)=true
   ·have HP:=J hp1
    go_wp2;go_ret;exact⟨by unfold zbi;rw[zcy (fun x:DAntenna=>eqS x.name nm) l k hlt HP.out HN.out];rfl,rfl⟩
   ·have hp':(l[k].name.toList == nm.toList)=false:=Bool.eq_false_iff.2 hp1
    have HP:=J hp';clear hp1;go_wp2
    go_round
    case rel=>exact⟨k+1,O,by go_num,by rw[zce _ l k hlt,HN.out];exact HP.out⟩
    case measure=>simp[intOf];omega
  ·obtain rfl:k=l.length:=O
   clear hcells;go_wp2;go_ret;have:=HN.out;rw[List.take_length] at this;exact⟨by unfold zbi;rw[zcd _ l this];rfl,rfl⟩
theorem indexFuncRadio_any (l:List DRadio) (p:DRadio→Bool) (fn:FuncId) (cap:List Value) (v:Value) (B:Nat) (w:World) (h:Rd B w (DRadio.sT l) v) (hB:B≤w.heap.size) (hn:l.length≤1099511627776)
  (hcf:∀ (args:Array Value) (W:World),(callFunc fn args).run Tryz.prog W=.ok (.enter fn args) W)
  (hf:∀ x ∈ l,∀ (u5:Value),∀ W:World,IJ w w W→Calls Tryz.prog fn (Value.agg #[F x.name,I x.power,I x.feeder,I x.noise,I x.width,u5]::cap).toArray W fun e W'=>e=.returned (.bool (p x))∧IJ W W W') :
  Calls Tryz.prog 186 #[v,.func (.func fn) #[] cap.toArray] w fun e w'=>e=.returned (I (zbk p l))∧IJ w w w':=by
 obtain⟨a,c,rfl,hnc,hcm,hcells⟩:=DRadio.rd h;clear h;have hnb:(l.length:Int)≤1099511627776:=O
 have HF:=J hf;clear hf;go_enter Tryz.func186,Tryz.ntmps186;go_wp2;go_loopw [8] (fun i wr=>∃ (k:Nat),k≤l.length∧i=I k∧(l.take k).any p=false∧IJ w w wr) (fun i wr=>l.length-(intOf i).toNat)
 case atStart=>exact⟨0,Nat.zero_le _,rfl,by simp,Below.refl _ _⟩
 case round =>
  obtain⟨k,hk,rfl,hno,hb⟩:=hrel;have HN:=J hno;clear hno
  by_cases hlt:k<l.length
  ·obtain⟨b,off,rfl,hbl,hat⟩:=hcells O
   obtain⟨s0,s1,s2,s3,s4,⟨u5,s5,_⟩⟩:=hat k hlt;rw[← hb.cell (p:=⟨b,_,none⟩) (show b<w.heap.size by omega)] at s0 s1 s2 s3 s4 s5;have HB:=J hb;clear hcells hat hb;go_wp2_with fail;refine (HF.out l[k] (List.getElem_mem hlt) u5 _ HB.out).mono ?_;rintro e w1 ⟨rfl,hb1⟩;have HB1:=J (HB.out.trans (hb1.mono HB.out.size));clear hb1
   by_cases hp:p l[k]=true
   ·go_wp2
    go_ret;exact⟨by rw[zcy p l k hlt hp HN.out];rfl,HB1.out⟩
   ·have hp':p l[k]=false:=by simpa using hp
    clear hp;go_wp2;go_roundw
    case rel=>exact⟨k+1,O,by go_num,by rw[zce p l k hlt,HN.out,hp'];rfl,HB1.out⟩
    case measure=>simp[intOf];omega
  ·obtain rfl:k=l.length:=O
   clear hcells;go_wp2;go_ret;have:=HN.out;rw[List.take_length] at this;exact⟨by rw[zcd p l this];rfl,hb⟩
def zby (l:List DRadio) (nm:ByteArray):Int:=zbk (fun x:DRadio=>eqS x.name nm) l
theorem radioNamed_any (l:List DRadio) (nm:ByteArray) (v0 v1 v2 v3:Value) (B:Nat) (w:World) (h:Rd B w (DRadio.sT l) v3) (hB:B≤w.heap.size) (hn:l.length≤1099511627776) :
  Calls Tryz.prog 141 #[.agg #[v0,v1,v2,v3],F nm] w fun e w'=>e=.returned (I (zby l nm))∧IJ w w w':=by
 have b0:IJ w w ((w.alloc (.cells #[v0,v1,v2,v3] 44)).alloc (.cells #[F nm] 9)):=((Below.refl _ _).alloc (Nat.le_refl _) _).alloc (by simp) _
 have HC:=J (indexFuncRadio_any l (fun x:DRadio=>eqS x.name nm) 187 [.pointer (some ⟨w.heap.size+1,0,none⟩)] v3 B ((w.alloc (.cells #[v0,v1,v2,v3] 44)).alloc (.cells #[F nm] 9)) (h.below (b0.mono hB)) (by simp<;>omega) hn (fun _ _=>by kernel_rfl) (fun x _ u5 W hW=>by
  have c1:W.cell? ⟨w.heap.size+1,0,none⟩=some (F nm):=by rw[hW.cell (p:=⟨w.heap.size+1,0,none⟩) (by simp)];simp[go_sem]
  have c2:w.heap.size+1<W.heap.size:=by have:=hW.size;simp at this;omega
  clear hW;go_enter Tryz.func187,Tryz.ntmps187;go_wp2;go_ret
  exact⟨rfl,(Below.refl _ _).alloc (Nat.le_refl _) _⟩))
 have B0:=J b0;clear b0 h;unfold zby;generalize zbk (fun x:DRadio=>eqS x.name nm) l=r at *;go_enter Tryz.func141,Tryz.ntmps141;go_wp2_with fail;refine (HC.out).mono ?_;rintro e w1 ⟨rfl,hb1⟩;go_wp2;go_ret;exact⟨rfl,B0.out.trans (hb1.mono (by simp<;>omega))⟩
theorem l14Radio_any (l:List DRadio) (nm:ByteArray) (v:Value) (bp B:Nat) (w:World) (h:Rd B w (DRadio.sT l) v) (hB:B≤w.heap.size) (hp:w.cell? ⟨bp,3,none⟩=some v) (hn:l.length≤1099511627776) :
  Calls Tryz.prog 171 #[.pointer (some ⟨bp,0,none⟩),F nm] w fun e w'=>e=.returned (I (zby l nm))∧w=w':=by
 obtain⟨a,c,rfl,hnc,hcm,hcells⟩:=DRadio.rd h;clear h;have hnb:(l.length:Int)≤1099511627776:=O
 go_enter Tryz.func171,Tryz.ntmps171;go_wp2
 go_loop [5] (fun i=>∃ (k:Nat),k≤l.length∧i=I k∧(l.take k).any (fun x:DRadio=>eqS x.name nm)=false) (fun i=>l.length-(intOf i).toNat)
 case atStart=>exact⟨0,Nat.zero_le _,rfl,by simp⟩
 case round =>
  obtain⟨k,hk,rfl,hno⟩:=hrel;have HN:=J hno;clear hno
  by_cases hlt:k<l.length
  ·obtain⟨b,off,rfl,hbl,hat⟩:=hcells O
   have s0:=(hat k hlt).1;clear hcells hat
   by_cases hp1:(l[k].name.toList == nm.toList)=true
   ·have HP:=J hp1
    go_wp2;go_ret;exact⟨by unfold zby;rw[zcy (fun x:DRadio=>eqS x.name nm) l k hlt HP.out HN.out];rfl,rfl⟩
   ·have hp':(l[k].name.toList == nm.toList)=false:=Bool.eq_false_iff.2 hp1
    have HP:=J hp';clear hp1;go_wp2
    go_round
    case rel=>exact⟨k+1,O,by go_num,by rw[zce _ l k hlt,HN.out];exact HP.out⟩
    case measure=>simp[intOf];omega
  ·obtain rfl:k=l.length:=O
   clear hcells;go_wp2;go_ret;have:=HN.out;rw[List.take_length] at this;exact⟨by unfold zby;rw[zcd _ l this];rfl,rfl⟩
def zar (n:DNetwork) (x:DSector):Bool:=decide (0≤zb9 n.sites x.site)&&(decide (0≤zbi n.antennas x.antenna)&&decide (0≤zby n.radios x.radio))
theorem l14Refers_any (n:DNetwork) (x:DSector) (v0 v2 v3:Value) (bp bx ox B:Nat) (w:World) (r0:Rd B w (DSite.sT n.sites) v0) (r2:Rd B w (DAntenna.sT n.antennas) v2) (r3:Rd B w (DRadio.sT n.radios) v3) (hB:B≤w.heap.size) (p0:w.cell? ⟨bp,0,none⟩=some v0) (p2:w.cell? ⟨bp,2,none⟩=some v2) (p3:w.cell? ⟨bp,3,none⟩=some v3) (c1:w.cell? ⟨bx,ox+1,none⟩=some (F x.site)) (c2:w.cell? ⟨bx,ox+2,none⟩=some (F x.antenna)) (c3:w.cell? ⟨bx,ox+3,none⟩=some (F x.radio)) (l0:n.sites.length≤1099511627776) (l2:n.antennas.length≤1099511627776) (l3:n.radios.length≤1099511627776) :
  Calls Tryz.prog 132 #[.pointer (some ⟨bp,0,none⟩),.pointer (some ⟨bx,ox,none⟩)] w fun e w'=>e=.returned (.bool (zar n x))∧w=w':=by
 have HS:=J (l14FindSite_any n.sites x.site v0 bp B w r0 hB p0 l0);have HA:=J (l14Antenna_any n.antennas x.antenna v2 bp B w r2 hB p2 l2);have HR:=J (l14Radio_any n.radios x.radio v3 bp B w r3 hB p3 l3);clear r0 r2 r3
 by_cases h0:decide (0≤zb9 n.sites x.site)=true
 ·skip
  by_cases h1:decide (0≤zbi n.antennas x.antenna)=true
  ·skip
   by_cases h2:decide (0≤zby n.radios x.radio)=true
   ·skip
    have HE:Hid (zar n x=true):=by show _=_;unfold zar;simp only[h0,h1,h2]<;>rfl
    go_enter Tryz.func132,Tryz.ntmps132;go_wp2_with (first|(go_at_call 154;refine (HS.out).mono ?_;rintro e w1 ⟨rfl,rfl⟩)|(go_at_call 170;refine (HA.out).mono ?_;rintro e w1 ⟨rfl,rfl⟩)|(go_at_call 171;refine (HR.out).mono ?_;rintro e w1 ⟨rfl,rfl⟩));go_ret;exact⟨by rw[HE.out];rfl,by rfl⟩
   ·replace h2:decide (0≤zby n.radios x.radio)=false:=Bool.eq_false_iff.2 h2
    have HE:Hid (zar n x=false):=by show _=_;unfold zar;simp only[h0,h1,h2]<;>rfl
    go_enter Tryz.func132,Tryz.ntmps132;go_wp2_with (first|(go_at_call 154;refine (HS.out).mono ?_;rintro e w1 ⟨rfl,rfl⟩)|(go_at_call 170;refine (HA.out).mono ?_;rintro e w1 ⟨rfl,rfl⟩)|(go_at_call 171;refine (HR.out).mono ?_;rintro e w1 ⟨rfl,rfl⟩));go_ret;exact⟨by rw[HE.out];rfl,by rfl⟩
  ·replace h1:decide (0≤zbi n.antennas x.antenna)=false:=Bool.eq_false_iff.2 h1
   have HE:Hid (zar n x=false):=by show _=_;unfold zar;simp only[h0,h1]<;>rfl
   go_enter Tryz.func132,Tryz.ntmps132;go_wp2_with (first|(go_at_call 154;refine (HS.out).mono ?_;rintro e w1 ⟨rfl,rfl⟩)|(go_at_call 170;refine (HA.out).mono ?_;rintro e w1 ⟨rfl,rfl⟩)|(go_at_call 171;refine (HR.out).mono ?_;rintro e w1 ⟨rfl,rfl⟩));go_ret;exact⟨by rw[HE.out];rfl,by rfl⟩
 ·replace h0:decide (0≤zb9 n.sites x.site)=false:=Bool.eq_false_iff.2 h0
  have HE:Hid (zar n x=false):=by show _=_;unfold zar;simp only[h0]<;>rfl
  go_enter Tryz.func132,Tryz.ntmps132;go_wp2_with (first|(go_at_call 154;refine (HS.out).mono ?_;rintro e w1 ⟨rfl,rfl⟩)|(go_at_call 170;refine (HA.out).mono ?_;rintro e w1 ⟨rfl,rfl⟩)|(go_at_call 171;refine (HR.out).mono ?_;rintro e w1 ⟨rfl,rfl⟩));go_ret;exact⟨by rw[HE.out];rfl,by rfl⟩
theorem hasParts_any (n:DNetwork) (x:DSector) (v0 v1 v2 v3:Value) (w:World) (r0:Rd w w (DSite.sT n.sites) v0) (r2:Rd w w (DAntenna.sT n.antennas) v2) (r3:Rd w w (DRadio.sT n.radios) v3) (l0:n.sites.length≤1099511627776) (l2:n.antennas.length≤1099511627776) (l3:n.radios.length≤1099511627776) :
  Calls Tryz.prog 105 #[.agg #[v0,v1,v2,v3],.agg #[F x.name,F x.site,F x.antenna,F x.radio,F x.band,I x.azimuth,I x.tilt,I x.above,I x.channel]] w fun e w'=>e=.returned (.bool (zar n x))∧IJ w w w':=by
 have b0:IJ w w ((w.alloc (.cells #[v0,v1,v2,v3] 44)).alloc (.cells #[F x.name,F x.site,F x.antenna,F x.radio,F x.band,I x.azimuth,I x.tilt,I x.above,I x.channel] 105)):=((Below.refl _ _).alloc (Nat.le_refl _) _).alloc (by simp) _;have HS:Hid (∀ W:World,IJ w w W→Calls Tryz.prog 106 #[.agg #[v0,v1,v2,v3],F x.site] W fun e w'=>e=.returned (I (zb9 n.sites x.site))∧IJ W W w'):=fun W hW=>siteNamed_any n.sites x.site v0 v1 v2 v3 w.heap.size W (r0.below hW) hW.size l0
 have HA:Hid (∀ W:World,IJ w w W→Calls Tryz.prog 108 #[.agg #[v0,v1,v2,v3],F x.antenna] W fun e w'=>e=.returned (I (zbi n.antennas x.antenna))∧IJ W W w'):=fun W hW=>zd9 n.antennas x.antenna v0 v1 v2 v3 w.heap.size W (r2.below hW) hW.size l2
 have HR:Hid (∀ W:World,IJ w w W→Calls Tryz.prog 141 #[.agg #[v0,v1,v2,v3],F x.radio] W fun e w'=>e=.returned (I (zby n.radios x.radio))∧IJ W W w'):=fun W hW=>radioNamed_any n.radios x.radio v0 v1 v2 v3 w.heap.size W (r3.below hW) hW.size l3
 have B0:=J b0;clear b0 r0 r2 r3
 by_cases h0:decide (0≤zb9 n.sites x.site)=true
 ·skip
  by_cases h1:decide (0≤zbi n.antennas x.antenna)=true
  ·skip
   by_cases h2:decide (0≤zby n.radios x.radio)=true
   ·skip
    have HE:Hid (zar n x=true):=by show _=_;unfold zar;simp only[h0,h1,h2]<;>rfl
    go_enter Tryz.func105,Tryz.ntmps105;go_wp2_with (first|(go_at_call 106;refine (HS.out _ B0.out).mono ?_;rintro e w1 ⟨rfl,hb1⟩;have B1:=J (B0.out.trans (hb1.mono B0.out.size));obtain⟨qa1,_,ya1⟩:=zah hb1 (b:=w.heap.size) OO;obtain⟨qb1,_,yb1⟩:=zah hb1 (b:=w.heap.size+1) OO;clear hb1)|(go_at_call 108;refine (HA.out _ B1.out).mono ?_;rintro e w2 ⟨rfl,hb2⟩;have B2:=J (B1.out.trans (hb2.mono B1.out.size));obtain⟨qa2,_,ya2⟩:=zah hb2 (b:=w.heap.size) OO;obtain⟨qb2,_,yb2⟩:=zah hb2 (b:=w.heap.size+1) OO;clear hb2)|(go_at_call 141;refine (HR.out _ B2.out).mono ?_;rintro e w3 ⟨rfl,hb3⟩;have B3:=J (B2.out.trans (hb3.mono B2.out.size));obtain⟨qa3,_,ya3⟩:=zah hb3 (b:=w.heap.size) OO;obtain⟨qb3,_,yb3⟩:=zah hb3 (b:=w.heap.size+1) OO;clear hb3));go_ret;exact⟨by rw[HE.out];rfl,by first|exact B3.out|exact B2.out|exact B1.out⟩
   ·replace h2:decide (0≤zby n.radios x.radio)=false:=Bool.eq_false_iff.2 h2
    have HE:Hid (zar n x=false):=by show _=_;unfold zar;simp only[h0,h1,h2]<;>rfl
    go_enter Tryz.func105,Tryz.ntmps105;go_wp2_with (first|(go_at_call 106;refine (HS.out _ B0.out).mono ?_;rintro e w1 ⟨rfl,hb1⟩;have B1:=J (B0.out.trans (hb1.mono B0.out.size));obtain⟨qa1,_,ya1⟩:=zah hb1 (b:=w.heap.size) OO;obtain⟨qb1,_,yb1⟩:=zah hb1 (b:=w.heap.size+1) OO;clear hb1)|(go_at_call 108;refine (HA.out _ B1.out).mono ?_;rintro e w2 ⟨rfl,hb2⟩;have B2:=J (B1.out.trans (hb2.mono B1.out.size));obtain⟨qa2,_,ya2⟩:=zah hb2 (b:=w.heap.size) OO;obtain⟨qb2,_,yb2⟩:=zah hb2 (b:=w.heap.size+1) OO;clear hb2)|(go_at_call 141;refine (HR.out _ B2.out).mono ?_;rintro e w3 ⟨rfl,hb3⟩;have B3:=J (B2.out.trans (hb3.mono B2.out.size));obtain⟨qa3,_,ya3⟩:=zah hb3 (b:=w.heap.size) OO;obtain⟨qb3,_,yb3⟩:=zah hb3 (b:=w.heap.size+1) OO;clear hb3));go_ret;exact⟨by rw[HE.out];rfl,by first|exact B3.out|exact B2.out|exact B1.out⟩
  ·replace h1:decide (0≤zbi n.antennas x.antenna)=false:=Bool.eq_false_iff.2 h1
   have HE:Hid (zar n x=false):=by show _=_;unfold zar;simp only[h0,h1]<;>rfl
   go_enter Tryz.func105,Tryz.ntmps105;go_wp2_with (first|(go_at_call 106;refine (HS.out _ B0.out).mono ?_;rintro e w1 ⟨rfl,hb1⟩;have B1:=J (B0.out.trans (hb1.mono B0.out.size));obtain⟨qa1,_,ya1⟩:=zah hb1 (b:=w.heap.size) OO;obtain⟨qb1,_,yb1⟩:=zah hb1 (b:=w.heap.size+1) OO;clear hb1)|(go_at_call 108;refine (HA.out _ B1.out).mono ?_;rintro e w2 ⟨rfl,hb2⟩;have B2:=J (B1.out.trans (hb2.mono B1.out.size));obtain⟨qa2,_,ya2⟩:=zah hb2 (b:=w.heap.size) OO;obtain⟨qb2,_,yb2⟩:=zah hb2 (b:=w.heap.size+1) OO;clear hb2)|(go_at_call 141;refine (HR.out _ B2.out).mono ?_;rintro e w3 ⟨rfl,hb3⟩;have B3:=J (B2.out.trans (hb3.mono B2.out.size));obtain⟨qa3,_,ya3⟩:=zah hb3 (b:=w.heap.size) OO;obtain⟨qb3,_,yb3⟩:=zah hb3 (b:=w.heap.size+1) OO;clear hb3));go_ret;exact⟨by rw[HE.out];rfl,by first|exact B3.out|exact B2.out|exact B1.out⟩
 ·replace h0:decide (0≤zb9 n.sites x.site)=false:=Bool.eq_false_iff.2 h0
  have HE:Hid (zar n x=false):=by show _=_;unfold zar;simp only[h0]<;>rfl
  go_enter Tryz.func105,Tryz.ntmps105;go_wp2_with (first|(go_at_call 106;refine (HS.out _ B0.out).mono ?_;rintro e w1 ⟨rfl,hb1⟩;have B1:=J (B0.out.trans (hb1.mono B0.out.size));obtain⟨qa1,_,ya1⟩:=zah hb1 (b:=w.heap.size) OO;obtain⟨qb1,_,yb1⟩:=zah hb1 (b:=w.heap.size+1) OO;clear hb1)|(go_at_call 108;refine (HA.out _ B1.out).mono ?_;rintro e w2 ⟨rfl,hb2⟩;have B2:=J (B1.out.trans (hb2.mono B1.out.size));obtain⟨qa2,_,ya2⟩:=zah hb2 (b:=w.heap.size) OO;obtain⟨qb2,_,yb2⟩:=zah hb2 (b:=w.heap.size+1) OO;clear hb2)|(go_at_call 141;refine (HR.out _ B2.out).mono ?_;rintro e w3 ⟨rfl,hb3⟩;have B3:=J (B2.out.trans (hb3.mono B2.out.size));obtain⟨qa3,_,ya3⟩:=zah hb3 (b:=w.heap.size) OO;obtain⟨qb3,_,yb3⟩:=zah hb3 (b:=w.heap.size+1) OO;clear hb3));go_ret;exact⟨by rw[HE.out];rfl,by first|exact B3.out|exact B2.out|exact B1.out⟩
end Go.Proofs.YtgmapjgodibchaaGreatDoor
