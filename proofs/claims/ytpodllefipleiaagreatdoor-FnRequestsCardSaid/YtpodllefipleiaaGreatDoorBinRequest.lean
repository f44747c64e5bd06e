/- Contract: slices.BinarySearchFunc over Requests by their names. Conditions: bounded lengths. -/
import Derived.Test.YtpodllefipleiaaGreatDoorOrdS
import Derived.Lib.Bytealg
import Derived.Deep.DeepCutAuto
import Derived.Lib.Walk
import Derived.Test.YtpodllefipleiaaGreatDoorHRequest
set_option linter.unusedVariables false
set_option linter.unusedSimpArgs false
namespace Go.Proofs.YtpodllefipleiaaGreatDoor
open Go.RowKit
set_option maxHeartbeats 1000000
set_option maxRecDepth 100000
def cmpS (a b:ByteArray):Int:=Lib.compareBytes a.data.toList b.data.toList
theorem cmp_less:(a b:List UInt8)→(Lib.compareBytes a b<0↔Op.bytesLess a b=true):=by
 intro a
 induction a with
 | nil=>intro b;cases b<;>simp[Lib.compareBytes,Op.bytesLess]
 | cons x a ih =>
  intro b
  cases b with
  | nil=>simp[Lib.compareBytes,Op.bytesLess]
  | cons y b =>
   simp only[Lib.compareBytes,Op.bytesLess]
   by_cases h1:x<y
   ·simp[h1]
   ·by_cases h2:y<x
    ·have h3:(x == y)=false:=by rw[beq_eq_false_iff_ne];intro e;subst e;exact h1 h2
     simp[h1,h2,h3]
    ·have h3:x=y:=by
      apply UInt8.toNat_inj.1
      rw[UInt8.lt_iff_toNat_lt] at h1 h2;omega
     subst h3;simp[h1,ih]
theorem cmpS_lt (a b:ByteArray):decide (cmpS a b<0)=ltS a b:=by
 unfold cmpS ltS;rw[ByteArray.toList_eq,ByteArray.toList_eq]
 by_cases h:Op.bytesLess a.data.toList b.data.toList=true
 ·rw[h];simpa using (cmp_less _ _).2 h
 ·rw[Bool.eq_false_iff.2 h]
  have:=fun e=>h ((cmp_less _ _).1 e)
  simpa using this
theorem compareString_any (a b:ByteArray) (w:World) :
  Calls Tryz.prog 87 #[.string a,.string b] w fun e w'=>e=.returned (.int .i64 (cmpS a b))∧w=w':=by
 go_enter Tryz.func87,Tryz.ntmps87;go_wp2;rw[run_callFunc_extern Tryz.func108 (by kernel_rfl) (by kernel_rfl) (by kernel_rfl) (e:=Extern.BytealgCompare.compare) (by kernel_rfl),Lib.run_compareString];simp only[Result.andThen];rw[Oper.upon_value];go_wp2;go_ret;exact⟨rfl,rfl⟩
theorem stringsCompare_any (a b:ByteArray) (w:World) :
  Calls Tryz.prog 50 #[.string a,.string b] w fun e w'=>e=.returned (.int .i64 (cmpS a b))∧w=w':=by
 go_enter Tryz.func50,Tryz.ntmps50;go_wp2_with fail;refine (compareString_any _ _ _).mono ?_;rintro e _ ⟨rfl,rfl⟩;go_wp2;go_ret;exact⟨rfl,rfl⟩
def BinP (n:Nat) (lt:Nat→Bool) (w:World) (e:Ending) (w':World):Prop:=∃ (k:Nat) (fd:Bool),k≤n∧e=.returned (.tuple #[.int .i64 (k:Int),.bool fd])∧Below w.heap.size w w'∧(0<k→lt (k-1)=true)∧(k<n→lt k=false)
set_option maxHeartbeats 2000000
set_option maxRecDepth 100000
theorem zco (x y:DRequest) (w:World):Calls Tryz.prog 49 #[.agg #[.string x.id,.string x.applicant,.string x.partner,.int .i64 x.low,.int .i64 x.high,.int .i64 x.filed,.int .i64 x.deadline,.int .i64 x.state],.agg #[.string y.id,.string y.applicant,.string y.partner,.int .i64 y.low,.int .i64 y.high,.int .i64 y.filed,.int .i64 y.deadline,.int .i64 y.state]] w fun e w'=>e=.returned (.int .i64 (cmpS x.id y.id))∧Below w.heap.size w w':=by
 go_enter Tryz.func49,Tryz.ntmps49;go_wp2_with fail;refine (stringsCompare_any _ _ _).mono ?_;rintro e _ ⟨rfl,rfl⟩;go_wp2;go_ret;exact⟨rfl,((Below.refl _ _).alloc (Nat.le_refl _) _).alloc (by simp) _⟩
def zbe (l:List DRequest) (nm:ByteArray) (k:Nat):Bool:=match l[k]? with|some y=>decide (cmpS y.id nm<0)|none=>false
theorem zb9 {l:List DRequest} {nm:ByteArray} {k:Nat} (h:k<l.length):zbe l nm k=decide (cmpS l[k].id nm<0):=by unfold zbe;rw[List.getElem?_eq_getElem h]
theorem binRequest_any (l:List DRequest) (x:DRequest) (v:Value) (w:World) (h:Rd w.heap.size w (DRequest.sT l) v) (hn:l.length≤1048576) :
  Calls Tryz.prog 48 #[v,.agg #[.string x.id,.string x.applicant,.string x.partner,.int .i64 x.low,.int .i64 x.high,.int .i64 x.filed,.int .i64 x.deadline,.int .i64 x.state],.func (.func 49) #[] #[]] w (BinP l.length (zbe l x.id) w):=by
 obtain⟨a,c,rfl,hnc,hcm,hcells⟩:=DRequest.rd h;have HC:=Lib.hid hcells;clear h hcells;have hnb:(l.length:Int)≤1048576:=by omega
 have b0:Below w.heap.size w (w.alloc (.cells #[.string x.id,.string x.applicant,.string x.partner,.int .i64 x.low,.int .i64 x.high,.int .i64 x.filed,.int .i64 x.deadline,.int .i64 x.state] 45)):=(Below.refl _ _).alloc (Nat.le_refl _) _;have k0:(w.alloc (.cells #[.string x.id,.string x.applicant,.string x.partner,.int .i64 x.low,.int .i64 x.high,.int .i64 x.filed,.int .i64 x.deadline,.int .i64 x.state] 45)).heap[w.heap.size]? = some (.cells #[.string x.id,.string x.applicant,.string x.partner,.int .i64 x.low,.int .i64 x.high,.int .i64 x.filed,.int .i64 x.deadline,.int .i64 x.state] 45 (0,0)):=by show (w.heap.push _)[w.heap.size]? = _;simp
 have z0:(w.alloc (.cells #[.string x.id,.string x.applicant,.string x.partner,.int .i64 x.low,.int .i64 x.high,.int .i64 x.filed,.int .i64 x.deadline,.int .i64 x.state] 45)).heap.size=w.heap.size+1:=by simp
 go_enter Tryz.func48,Tryz.ntmps48;go_upto_region 2 with (fail);generalize w.alloc (.cells #[.string x.id,.string x.applicant,.string x.partner,.int .i64 x.low,.int .i64 x.high,.int .i64 x.filed,.int .i64 x.deadline,.int .i64 x.state] 45)=W at *;have B0:=Lib.hid b0;have K0:=Lib.hid k0;have Z0:=Lib.hid z0;have zl:w.heap.size<W.heap.size:=by omega
 clear b0 k0 z0;go_wp2;go_loopw [9,10] (fun vi vj wr=>∃ (i j:Nat),i≤j∧j≤l.length∧vi=.int .i64 i∧vj=.int .i64 j∧(0<i→zbe l x.id (i-1)=true)∧(j<l.length→zbe l x.id j=false)∧Below W.heap.size W wr) (fun vi vj wr=>(intOf vj-intOf vi).toNat)
 case atStart=>exact⟨0,l.length,Nat.zero_le _,Nat.le_refl _,rfl,rfl,fun h=>absurd h (by omega),fun h=>absurd h (by omega),Below.refl _ _⟩
 case round =>
  obtain⟨i,j,hij,hj,rfl,rfl,hlo,hhi,hb⟩:=hrel;have HLO:=Lib.hid hlo;have HHI:=Lib.hid hhi;have HB:=Lib.hid hb;have zr:W.heap.size≤wr.heap.size:=hb.size;clear hlo hhi hb
  by_cases hlt:i<j
  ·obtain⟨m,hm⟩:∃ m:Nat,((i:Int)+(j:Int)) / 2=(m:Int):=⟨((i+j) / 2),by omega⟩
   have hm1:i≤m:=by omega
   have hm2:m<j:=by omega
   have hml:m<l.length:=by omega
   have HM:=Lib.hid hm;clear hm;obtain⟨b,off,rfl,hbl,hat⟩:=HC.out (by omega);obtain⟨s0,s1,s2,s3,s4,s5,s6,s7⟩:=hat m hml;have ybw:b<wr.heap.size:=by omega
   have yt:w.heap.size<wr.heap.size:=by omega
   rw[← (B0.out.trans (HB.out.mono (by omega))).cell (p:=⟨b,_,none⟩) hbl] at s0 s1 s2 s3 s4 s5 s6 s7;have kr:=(HB.out.block w.heap.size (by omega)).trans K0.out;have t0:=(zae (w:=wr) kr 0).trans (show _=some (.string x.id) from rfl);have t1:=(zae (w:=wr) kr 1).trans (show _=some (.string x.applicant) from rfl);have t2:=(zae (w:=wr) kr 2).trans (show _=some (.string x.partner) from rfl);have t3:=(zae (w:=wr) kr 3).trans (show _=some (.int .i64 x.low) from rfl);have t4:=(zae (w:=wr) kr 4).trans (show _=some (.int .i64 x.high) from rfl);have t5:=(zae (w:=wr) kr 5).trans (show _=some (.int .i64 x.filed) from rfl);have t6:=(zae (w:=wr) kr 6).trans (show _=some (.int .i64 x.deadline) from rfl);have t7:=(zae (w:=wr) kr 7).trans (show _=some (.int .i64 x.state) from rfl);have oB:=za2 (w0:=wr) ybw;have oT:=za2 (w0:=wr) yt;clear hat kr;go_upto_region 5 with (fail);rw[HM.out];have j1:(m:Int)<(l.length:Int):=by omega
   have j2:(0:Int)≤(m:Int):=by omega
   by_cases hd:cmpS l[m].id x.id<0
   ·have hd2:decide (cmpS l[m].id x.id<0)=true:=by simpa using hd
    have HD:Hid (zbe l x.id m=true):=by show _=_;rw[zb9 hml];exact hd2
    clear hd;refine zac wr.heap.size wr (Below.refl _ _) (by kernel_rfl) (by kernel_rfl) ?_
    repeat (go_big_quiet_step (first|(go_at_call 49;exact za8 (Nat.le_refl _) (zco l[m] x _))))
    refine wpQuiet_nil ?_;rintro _ ⟨X,rfl⟩;have hX:=zad wr.heap.size wr X;clear oB oT s0 t0 s1 t1 s2 t2 s3 t3 s4 t4 s5 t5 s6 t6 s7 t7;generalize over wr.heap.size wr X=w2 at *;go_wp2;go_roundw
    case rel=>exact⟨m+1,j,by omega,by omega,by go_num,rfl,fun _=>HD.out,HHI.out,HB.out.trans (hX.mono (by omega))⟩
    case measure=>simp[intOf];omega
   ·have hd2:decide (cmpS l[m].id x.id<0)=false:=by simpa using hd
    have HD:Hid (zbe l x.id m=false):=by show _=_;rw[zb9 hml];exact hd2
    clear hd;refine zac wr.heap.size wr (Below.refl _ _) (by kernel_rfl) (by kernel_rfl) ?_
    repeat (go_big_quiet_step (first|(go_at_call 49;exact za8 (Nat.le_refl _) (zco l[m] x _))))
    refine wpQuiet_nil ?_;rintro _ ⟨X,rfl⟩;have hX:=zad wr.heap.size wr X;clear oB oT s0 t0 s1 t1 s2 t2 s3 t3 s4 t4 s5 t5 s6 t6 s7 t7;generalize over wr.heap.size wr X=w2 at *;go_wp2;go_roundw
    case rel=>exact⟨i,m,by omega,by omega,rfl,rfl,HLO.out,fun _=>HD.out,HB.out.trans (hX.mono (by omega))⟩
    case measure=>simp[intOf];omega
  ·obtain rfl:i=j:=by omega
   have BW:=Lib.hid (B0.out.trans (HB.out.mono (by omega)));go_upto_region 8 with (fail)
   by_cases hil:i<l.length
   ·obtain⟨b,off,rfl,hbl,hat⟩:=HC.out (by omega)
    obtain⟨s0,s1,s2,s3,s4,s5,s6,s7⟩:=hat i hil;have ybw:b<wr.heap.size:=by omega
    have yt:w.heap.size<wr.heap.size:=by omega
    rw[← BW.out.cell (p:=⟨b,_,none⟩) hbl] at s0 s1 s2 s3 s4 s5 s6 s7;have kr:=(HB.out.block w.heap.size (by omega)).trans K0.out;have t0:=(zae (w:=wr) kr 0).trans (show _=some (.string x.id) from rfl);have t1:=(zae (w:=wr) kr 1).trans (show _=some (.string x.applicant) from rfl);have t2:=(zae (w:=wr) kr 2).trans (show _=some (.string x.partner) from rfl);have t3:=(zae (w:=wr) kr 3).trans (show _=some (.int .i64 x.low) from rfl);have t4:=(zae (w:=wr) kr 4).trans (show _=some (.int .i64 x.high) from rfl);have t5:=(zae (w:=wr) kr 5).trans (show _=some (.int .i64 x.filed) from rfl);have t6:=(zae (w:=wr) kr 6).trans (show _=some (.int .i64 x.deadline) from rfl);have t7:=(zae (w:=wr) kr 7).trans (show _=some (.int .i64 x.state) from rfl);have oB:=za2 (w0:=wr) ybw;have oT:=za2 (w0:=wr) yt;clear hat kr;have j1:(i:Int)<(l.length:Int):=by omega
    have j2:(0:Int)≤(i:Int):=by omega
    have j3:decide ((i:Int)<(l.length:Int))=true:=by simpa using j1
    have j4:decide (i<l.length)=true:=by simpa using hil
    refine zac wr.heap.size wr (Below.refl _ _) (by kernel_rfl) (by kernel_rfl) ?_
    repeat (go_big_quiet_step (first|(go_at_call 49;exact za8 (Nat.le_refl _) (zco l[i] x _))))
    refine wpQuiet_nil ?_;rintro _ ⟨X,rfl⟩;have hX:=zad wr.heap.size wr X;clear oB oT s0 t0 s1 t1 s2 t2 s3 t3 s4 t4 s5 t5 s6 t6 s7 t7;generalize over wr.heap.size wr X=w2 at *;go_wp2;go_ret2;exact⟨i,_,by omega,rfl,BW.out.trans (hX.mono (by omega)),HLO.out,HHI.out⟩
   ·have j3:decide ((i:Int)<(l.length:Int))=false:=by simp<;>omega
    have j4:decide (i<l.length)=false:=by simp<;>omega
    refine zac wr.heap.size wr (Below.refl _ _) (by kernel_rfl) (by kernel_rfl) ?_
    repeat (go_big_quiet_step (fail))
    refine wpQuiet_nil ?_;rintro _ ⟨X,rfl⟩;have hX:=zad wr.heap.size wr X;generalize over wr.heap.size wr X=w2 at *;go_wp2;go_ret2;exact⟨i,_,by omega,rfl,BW.out.trans (hX.mono (by omega)),HLO.out,HHI.out⟩
end Go.Proofs.YtpodllefipleiaaGreatDoor
