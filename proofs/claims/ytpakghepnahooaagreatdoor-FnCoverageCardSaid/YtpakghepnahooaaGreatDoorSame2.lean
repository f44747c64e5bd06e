/- Contracts: rows of integers are equal, for the program and for the reference. Conditions: bounded lengths. -/
import Derived.Test.YtpakghepnahooaaGreatDoorSame0
import Derived.Test.YtpakghepnahooaaGreatDoorOver
import Derived.Deep.DeepCutAuto
set_option linter.unusedVariables false
set_option linter.unusedSimpArgs false
namespace Go.Proofs.YtpakghepnahooaaGreatDoor
open Go.RowKit
set_option maxHeartbeats 1000000
set_option maxRecDepth 100000
theorem equalI_any (l m:List Int) (v u:Value) (B:Nat) (w:World) (h:Rd B w (zam l) v) (h':Rd B w (zam m) u) (hB:B≤w.heap.size) (hn:l.length≤1099511627776) (hm:m.length≤1099511627776) :
  Calls Tryz.prog 46 #[v,u] w fun e w'=>e=.returned (.bool (sameI l m))∧OI w w w':=by
 obtain⟨a,c,rfl,hnc,hcm,hcells⟩:=h.ints;obtain⟨a',c',rfl,hnc',hcm',hcells'⟩:=h'.ints;clear h h'
 by_cases hl:l.length=m.length
 case neg =>
  have HE:=IJ (sameI_len hl);have hne:((l.length:Int) != (m.length:Int))=true:=by simp<;>omega
  clear hcells hcells';go_enter Tryz.func46,Tryz.ntmps46;go_wp2;go_ret;exact⟨by rw[HE.out];rfl,Below.refl _ _⟩
 have hnb:(l.length:Int)≤1099511627776:=II
 have hne:((l.length:Int) != (m.length:Int))=false:=by simp<;>omega
 have HL:=IJ hl;clear hl;go_enter Tryz.func46,Tryz.ntmps46;go_wp2;go_loopw [13] (fun i wr=>∃ (k:Nat),k≤l.length∧i=J k∧(∀ j (hl:j<l.length),j<k→(l[j] == m[j]'(by have:=HL.out;omega))=true)∧OI w w wr) (fun i wr=>l.length-(intOf i).toNat)
 case atStart=>exact⟨0,Nat.zero_le _,rfl,fun j hl h=>absurd h II,Below.refl _ _⟩
 case round =>
  obtain⟨k,hk,rfl,hall,hb⟩:=hrel;have HA:=IJ hall;have HB:=IJ hb;clear hall hb
  by_cases hlt:k<l.length
  ·have hlm:k<m.length:=by rw[← HL.out];exact hlt
   obtain⟨b,off,rfl,hbl,hat⟩:=hcells II;obtain⟨b',off',rfl,hbl',hat'⟩:=hcells' II;have s0:=hat k hlt;have t0:=hat' k hlm;rw[← HB.out.cell (p:=⟨b,_,none⟩) (show b<w.heap.size by omega)] at s0;rw[← HB.out.cell (p:=⟨b',_,none⟩) (show b' < w.heap.size by omega)] at t0;have j0:(0:Int)≤(k:Int):=II
   have j1:(k:Int)<(l.length:Int):=II
   have j2:(k:Int)<(m.length:Int):=II
   have yr:w.heap.size≤wr.heap.size:=HB.out.size;clear hcells hat hcells' hat';have HF:Hid ((l[k] == m[k])=false→sameI l m=false):=fun h=>sameI_at hlt hlm h
   have HT:Hid ((l[k] == m[k])=true→∀ j (hl:j<l.length),j<k+1→(l[j] == m[j]'(by have:=HL.out;omega))=true):=fun h j hl hj=>by
    by_cases e:j=k
    ·subst e;exact h
    ·exact HA.out j hl II
   have oB:=zai (w0:=wr) (show b<wr.heap.size by omega);have oB2:=zai (w0:=wr) (show b' < wr.heap.size by omega);generalize l[k]=X at *;generalize m[k]=Y at *;go_upto_region 6 with (fail)
   by_cases e0:(X == Y)=true
   case neg =>
    replace e0:(X == Y)=false:=Bool.eq_false_iff.2 e0;have e1:(X != Y)=true:=by rw[bne,e0];rfl
    have HE:=IJ (HF.out e0);refine zab wr.heap.size wr (Below.refl _ _) JI JI ?_
    repeat (go_big_quiet_step (fail))
    refine wpQuiet_nil ?_;rintro _ ⟨Z,rfl⟩;have BE:=IJ (HB.out.trans ((zaa wr.heap.size wr Z).mono II));clear oB oB2;generalize over wr.heap.size wr Z=w2 at *;go_wp2;go_ret;exact⟨by rw[HE.out];rfl,BE.out⟩
   have e1:(X != Y)=false:=by rw[bne,e0];rfl
   have HE:=IJ (HT.out e0);refine zab wr.heap.size wr (Below.refl _ _) JI JI ?_
   repeat (go_big_quiet_step (fail))
   refine wpQuiet_nil ?_;rintro _ ⟨Z,rfl⟩;have BE:=IJ (HB.out.trans ((zaa wr.heap.size wr Z).mono II));clear oB oB2;generalize over wr.heap.size wr Z=w2 at *;clear e0 e1;go_wp2;go_roundw
   case rel=>exact⟨k+1,II,by go_num,HE.out,BE.out⟩
   case measure=>simp[intOf];omega
  ·obtain rfl:k=l.length:=II
   have HE:=IJ (sameI_all HL.out (fun j hl=>HA.out j hl hl));clear hcells hcells';go_wp2;go_ret;exact⟨by rw[HE.out];rfl,HB.out⟩
end Go.Proofs.YtpakghepnahooaaGreatDoor
