/- Contract: the search of a record by its key. Conditions: bounded lengths. -/
import Derived.Test.YtmkkiglcpedkiaaGreatDoorOrdS
import Derived.Lib.Bytealg
import Derived.Deep.DeepCutAuto
import Derived.Lib.Walk
import Derived.Test.YtmkkiglcpedkiaaGreatDoorHRegister
set_option linter.unusedVariables false
set_option linter.unusedSimpArgs false
namespace Go.Proofs.YtmkkiglcpedkiaaGreatDoor
open Go.RowKit
set_option maxHeartbeats 1000000
set_option maxRecDepth 100000
def cmpS (a b:ByteArray):Int:=Lib.compareBytes a.data.toList b.data.toList
theorem cmp_less:(a b:List UInt8)→(Lib.compareBytes a b<0↔Op.bytesLess a b=true):=by
 intro a
 induction a with
 | nil=>intro b;cases b<;>simp[Lib.compareBytes,Op.bytesLess]
 | cons x a ih =>
  intro b
  cases b with
  | nil=>simp[Lib.compareBytes,Op.bytesLess]
  | cons y b =>
   simp only[Lib.compareBytes,Op.bytesLess]
   by_cases h1:x<y
   ·simp[h1]
   ·by_cases h2:y<x
    ·have h3:(x == y)=false:=by rw[beq_eq_false_iff_ne];intro e;subst e;exact h1 h2
     simp[h1,h2,h3]
    ·have h3:x=y:=by
      apply UInt8.toNat_inj.1
      rw[UInt8.lt_iff_toNat_lt] at h1 h2;omega
     subst h3;simp[h1,ih]
theorem cmpS_lt (a b:ByteArray):decide (cmpS a b<0)=ltS a b:=by
 unfold cmpS ltS;rw[ByteArray.toList_eq,ByteArray.toList_eq]
 by_cases h:Op.bytesLess a.data.toList b.data.toList=true
 ·rw[h];simpa using (cmp_less _ _).2 h
 ·rw[Bool.eq_false_iff.2 h]
  have:=fun e=>h ((cmp_less _ _).1 e)
  simpa using this
theorem compareString_any (a b:ByteArray) (w:World) :
  Calls Tryz.prog 119 #[.string a,.string b] w fun e w'=>e=.returned (.int .i64 (cmpS a b))∧w=w':=by
 go_enter Tryz.func119,Tryz.ntmps119;go_wp2;rw[run_callFunc_extern Tryz.func138 (by kernel_rfl) (by kernel_rfl) (by kernel_rfl) (e:=Extern.BytealgCompare.compare) (by kernel_rfl),Lib.run_compareString];simp only[Result.andThen];rw[Oper.upon_value];go_wp2;go_ret;exact⟨rfl,rfl⟩
theorem stringsCompare_any (a b:ByteArray) (w:World) :
  Calls Tryz.prog 99 #[.string a,.string b] w fun e w'=>e=.returned (.int .i64 (cmpS a b))∧w=w':=by
 go_enter Tryz.func99,Tryz.ntmps99;go_wp2_with fail;refine (compareString_any _ _ _).mono ?_;rintro e _ ⟨rfl,rfl⟩;go_wp2;go_ret;exact⟨rfl,rfl⟩
set_option maxHeartbeats 2000000
set_option maxRecDepth 100000
theorem cmpRecord_any (x:DRecord) (y:ByteArray) (w:World):Calls Tryz.prog 98 #[.agg #[.string x.key,.string x.value],.string y] w fun e w'=>e=.returned (.int .i64 (cmpS x.key y))∧Below w.heap.size w w':=by
 go_enter Tryz.func98,Tryz.ntmps98;go_wp2_with fail;refine (stringsCompare_any _ _ _).mono ?_;rintro e _ ⟨rfl,rfl⟩;go_wp2;go_ret;exact⟨rfl,(Below.refl _ _).alloc (Nat.le_refl _) _⟩
def belRecord (l:List DRecord) (nm:ByteArray) (k:Nat):Bool:=match l[k]? with|some y=>decide (cmpS y.key nm<0)|none=>false
theorem belRecord_at {l:List DRecord} {nm:ByteArray} {k:Nat} (h:k<l.length):belRecord l nm k=decide (cmpS l[k].key nm<0):=by unfold belRecord;rw[List.getElem?_eq_getElem h]
def BinQ (l:List DRecord) (nm:ByteArray) (w:World) (e:Ending) (w':World):Prop:=∃ (k:Nat) (fd:Bool),k≤l.length∧e=.returned (.tuple #[.int .i64 (k:Int),.bool fd])∧Below w.heap.size w w'∧(0<k→belRecord l nm (k-1)=true)∧(k<l.length→belRecord l nm k=false)∧(fd=true↔∃ h:k<l.length,cmpS l[k].key nm=0)
theorem binRecord_any (l:List DRecord) (nm:ByteArray) (v:Value) (w:World) (h:Rd w.heap.size w (DRecord.sT l) v) (hn:l.length≤1048576) :
  Calls Tryz.prog 97 #[v,.string nm,.func (.func 98) #[] #[]] w (BinQ l nm w):=by
 obtain⟨a,c,rfl,hnc,hcm,hcells⟩:=DRecord.rd h;have HC:=Lib.hid hcells;clear h hcells;have hnb:(l.length:Int)≤1048576:=by omega
 go_enter Tryz.func97,Tryz.ntmps97;go_wp2;go_loopw [9,10] (fun vi vj wr=>∃ (i j:Nat),i≤j∧j≤l.length∧vi=.int .i64 i∧vj=.int .i64 j∧(0<i→belRecord l nm (i-1)=true)∧(j<l.length→belRecord l nm j=false)∧Below w.heap.size w wr) (fun vi vj wr=>(intOf vj-intOf vi).toNat)
 case atStart=>exact⟨0,l.length,Nat.zero_le _,Nat.le_refl _,rfl,rfl,fun h=>absurd h (by omega),fun h=>absurd h (by omega),Below.refl _ _⟩
 case round =>
  obtain⟨i,j,hij,hj,rfl,rfl,hlo,hhi,hb⟩:=hrel;have HLO:=Lib.hid hlo;have HHI:=Lib.hid hhi;have HB:=Lib.hid hb;have zr:w.heap.size≤wr.heap.size:=hb.size;clear hlo hhi hb
  by_cases hlt:i<j
  ·obtain⟨m,hm⟩:∃ m:Nat,((i:Int)+(j:Int)) / 2=(m:Int):=⟨((i+j) / 2),by omega⟩
   have hm1:i≤m:=by omega
   have hm2:m<j:=by omega
   have hml:m<l.length:=by omega
   have HM:=Lib.hid hm;clear hm;obtain⟨b,off,rfl,hbl,hat⟩:=HC.out (by omega);obtain⟨s0,s1⟩:=hat m hml;have ybw:b<wr.heap.size:=by omega
   rw[← HB.out.cell (p:=⟨b,_,none⟩) hbl] at s0 s1;have oB:=overC (w0:=wr) ybw;clear hat;go_upto_region 5 with (fail);rw[HM.out];have j1:(m:Int)<(l.length:Int):=by omega
   have j2:(0:Int)≤(m:Int):=by omega
   by_cases hd:cmpS l[m].key nm<0
   ·have hd2:decide (cmpS l[m].key nm<0)=true:=by simpa using hd
    have HD:Hid (belRecord l nm m=true):=by show _=_;rw[belRecord_at hml];exact hd2
    clear hd;go_wp2_with fail;refine (cmpRecord_any l[m] nm _).mono ?_;rintro e w2 ⟨rfl,hX⟩;have HX:=Lib.hid hX;clear hX s0 s1 oB;go_wp2;go_roundw
    case rel=>exact⟨m+1,j,by omega,by omega,by go_num,rfl,fun _=>HD.out,HHI.out,HB.out.trans (HX.out.mono (by omega))⟩
    case measure=>simp[intOf];omega
   ·have hd2:decide (cmpS l[m].key nm<0)=false:=by simpa using hd
    have HD:Hid (belRecord l nm m=false):=by show _=_;rw[belRecord_at hml];exact hd2
    clear hd;go_wp2_with fail;refine (cmpRecord_any l[m] nm _).mono ?_;rintro e w2 ⟨rfl,hX⟩;have HX:=Lib.hid hX;clear hX s0 s1 oB;go_wp2;go_roundw
    case rel=>exact⟨i,m,by omega,by omega,rfl,rfl,HLO.out,fun _=>HD.out,HB.out.trans (HX.out.mono (by omega))⟩
    case measure=>simp[intOf];omega
  ·obtain rfl:i=j:=by omega
   have BW:=Lib.hid HB.out;go_upto_region 8 with (fail)
   by_cases hil:i<l.length
   ·obtain⟨b,off,rfl,hbl,hat⟩:=HC.out (by omega)
    obtain⟨s0,s1⟩:=hat i hil;have ybw:b<wr.heap.size:=by omega
    rw[← BW.out.cell (p:=⟨b,_,none⟩) hbl] at s0 s1;have oB:=overC (w0:=wr) ybw;clear hat;have j1:(i:Int)<(l.length:Int):=by omega
    have j2:(0:Int)≤(i:Int):=by omega
    have j3:decide ((i:Int)<(l.length:Int))=true:=by simpa using j1
    have j4:decide (i<l.length)=true:=by simpa using hil
    have HFD:Hid ((cmpS l[i].key nm == 0)=true↔∃ h:i<l.length,cmpS l[i].key nm=0):=⟨fun h=>⟨hil,by simpa using h⟩,fun ⟨_,h⟩=>by simpa using h⟩
    go_wp2_with fail;refine (cmpRecord_any l[i] nm _).mono ?_;rintro e w2 ⟨rfl,hX⟩;have HX:=Lib.hid hX;clear hX s0 s1 oB;go_wp2;go_ret2;exact⟨i,_,by omega,rfl,BW.out.trans (HX.out.mono (by omega)),HLO.out,HHI.out,HFD.out⟩
   ·have j3:decide ((i:Int)<(l.length:Int))=false:=by simp<;>omega
    have j4:decide (i<l.length)=false:=by simp<;>omega
    go_wp2;go_ret2;exact⟨i,false,by omega,rfl,BW.out,HLO.out,HHI.out,⟨fun h=>(by cases h),fun ⟨h,_⟩=>absurd h hil⟩⟩
end Go.Proofs.YtmkkiglcpedkiaaGreatDoor
