/- Contracts: drawn places, sites and sectors of the reference: valid ones. Condition: a place in the source that is not too great. -/
import Derived.Test.YtpakghepnahooaaGreatDoorLvK
import Derived.Test.YtpakghepnahooaaGreatDoorTn6b
set_option linter.unusedVariables false
set_option linter.unusedSimpArgs false
namespace Go.Proofs.YtpakghepnahooaaGreatDoor
open Go.RowKit
theorem Q3v {p:Prop} (h:p:=by unfold maxLen;omega):p:=h
theorem Q0v {p:Prop} (h:p:=by
 go_wp2_with (fail)
 go_at_call 59
 refine HP.out.mono ?_
 rintro e w1 ⟨⟨x,hx0,hx1,rfl⟩,k1,g1,g2,S1,C1⟩
 obtain⟨n,rfl⟩:=Int.eq_ofNat_of_zero_le hx0
 have hn:n<l.length:=II
 have s0:=(show w1.cell? ⟨q,n,none⟩=w.cell? ⟨q,n,none⟩ from World.cell?_of_block (C1.block q HL.out.lt Q41)).trans (HL.out.at_ n hn)
 have HM:=IJ (List.getElem_mem hn)
 generalize l[n]=y at *
 have HS:=IJ (show SrcQ b k 2 w w1 from ⟨k1,g1,g2,S1,C1⟩)
 clear HP HL S1 C1
 go_wp2
 go_ret
 exact⟨⟨y,HM.out,rfl⟩,HS.out⟩):p:=h
theorem Q1q {p:Prop} (h:p:=by
 refine⟨by simp,fun i hi=>?_⟩
 have hk:=bkN w cs E
 exact za9 hk i ▸ (by rw[← Array.getElem?_toList,h,List.getElem?_map,List.getElem?_eq_getElem hi];rfl)):p:=h
set_option maxHeartbeats 8000000
set_option maxRecDepth 100000
def rvI (n i q:Nat):Nat:=if q<i∨n-1-i<q then n-1-q else q
theorem rvI_0 {n q:Nat} (h:q<n):rvI n 0 q=q:=by unfold rvI;rw[if_neg II]
theorem rvI_end {n i q:Nat} (hi:n≤2*i+1) (h:q<n):rvI n i q=n-1-q:=by
 unfold rvI;split
 ·rfl
 ·omega
theorem rvI_i {n i:Nat} (h:2*i+1<n):rvI n i i=i:=by unfold rvI;rw[if_neg II]
theorem rvI_j {n i j:Nat} (h:i+j+1=n) (hij:i<j):rvI n i j=j:=by unfold rvI;rw[if_neg II]
theorem rvI_i1 {n i j:Nat} (h:i+j+1=n):rvI n (i+1) i=j:=by unfold rvI;rw[if_pos II];omega
theorem rvI_j1 {n i j:Nat} (h:i+j+1=n) (hij:i<j):rvI n (i+1) j=i:=by unfold rvI;rw[if_pos II];omega
theorem rvI_else {n i j q:Nat} (h:i+j+1=n) (hi:q≠i) (hj:q≠j):rvI n (i+1) q=rvI n i q:=by
 unfold rvI
 by_cases hc:q<i∨n-1-i<q
 ·rw[if_pos hc,if_pos II]
 ·rw[if_neg hc,if_neg II]
theorem adNe {b x y:Nat} (h:x≠y):(⟨b,x,none⟩:Addr)≠⟨b,y,none⟩:=fun e=>h (by injection e)
theorem cO {w:World} {b x y:Nat} {v:Value} (h:x≠y):(w.setCell ⟨b,x,none⟩ v).cell? ⟨b,y,none⟩=w.cell? ⟨b,y,none⟩:=World.cell?_setCell_other _ _ _ _ (adNe h)
theorem cS {w:World} {b x:Nat} {v u:Value} (h:w.cell? ⟨b,x,none⟩=some u):(w.setCell ⟨b,x,none⟩ v).cell? ⟨b,x,none⟩=some v:=World.cell?_setCell_same _ _ _ h
theorem rev_step {w:World} {b o n i j:Nat} {V:Nat→Value} (hij:i<j) (hs:i+j+1=n) (h:∀ q,q<n→w.cell? ⟨b,o+q,none⟩=some (V (rvI n i q))) :
  ∀ q,q<n→((w.setCell ⟨b,o+i,none⟩ (V j)).setCell ⟨b,o+j,none⟩ (V i)).cell? ⟨b,o+q,none⟩=some (V (rvI n (i+1) q)):=by
 intro q hq
 by_cases ej:q=j
 ·subst ej
  rw[rvI_j1 hs hij];exact cS (u:=V (rvI n i q)) (by rw[cO II];exact h q hq)
 ·rw[cO II]
  by_cases ei:q=i
  ·subst ei
   rw[rvI_i1 hs];exact cS (h q hq)
  ·rw[cO II,h q hq,rvI_else hs ei ej]
theorem rev_step2 {w:World} {b o n i j:Nat} {V U:Nat→Value} (hij:i<j) (hs:i+j+1=n) (h:∀ q,q<n→(w,b,o+q*2,V (rvI n i q))∧(w,b,o+q*2+1,U (rvI n i q))) :
  ∀ q,q<n→((((w.setCell ⟨b,o+i*2,none⟩ (V j)).setCell ⟨b,o+i*2+1,none⟩ (U j)).setCell ⟨b,o+j*2,none⟩ (V i)).setCell ⟨b,o+j*2+1,none⟩ (U i)).cell? ⟨b,o+q*2,none⟩=some (V (rvI n (i+1) q)) ∧
   ((((w.setCell ⟨b,o+i*2,none⟩ (V j)).setCell ⟨b,o+i*2+1,none⟩ (U j)).setCell ⟨b,o+j*2,none⟩ (V i)).setCell ⟨b,o+j*2+1,none⟩ (U i)).cell? ⟨b,o+q*2+1,none⟩=some (U (rvI n (i+1) q)):=by
 intro q hq;obtain⟨h0,h1⟩:=h q hq
 by_cases ej:q=j
 ·subst ej
  rw[rvI_j1 hs hij]
  constructor
  ·rw[cO II]
   exact cS (u:=V (rvI n i q)) (by rw[cO II,cO II];exact h0)
  ·exact cS (u:=U (rvI n i q)) (by rw[cO II,cO II,cO II];exact h1)
 ·by_cases ei:q=i
  ·subst ei
   rw[rvI_i1 hs]
   constructor
   ·rw[cO II,cO II,cO II]
    exact cS h0
   ·rw[cO II,cO II]
    exact cS (u:=U (rvI n q q)) (by rw[cO II];exact h1)
  ·rw[rvI_else hs ei ej]
   constructor
   ·rw[cO II,cO II,cO II,cO II];exact h0
   ·rw[cO II,cO II,cO II,cO II];exact h1
theorem revI_any (n b o c:Nat) (v:Nat→Int) (w:World) (n0:2≤n) (n1:n≤65) (hnc:n≤c) (hcm:c≤maxLen) (hc:∀ q,q<n→w.cell? ⟨b,o+q,none⟩=some (J (v q))) (hf:∀ j,w.frozen? ⟨b,j,none⟩=false) :
  Calls Tryz.prog 185 #[IZ (some ⟨b,o,none⟩) n c] w fun e w'=>e=.returned (.tuple #[])∧Chg [b] w w'∧(∀ q,q<n→w'.cell? ⟨b,o+q,none⟩=some (J (v (n-1-q))))∧∀ j,w'.frozen? ⟨b,j,none⟩=false:=by
 have HC:Hid (∀ q,q<n→w.cell? ⟨b,o+q,none⟩=some ((fun q=>Value.int .i64 (v q)) (rvI n 0 q))):=fun q hq=>by rw[rvI_0 hq];exact hc q hq
 have HF:=IJ hf;have hni:(n:Int)≤65:=II
 have hni0:2≤(n:Int):=II
 have hsz:(n:Int)-1=((n-1:Nat):Int):=II
 have HSZ:=IJ hsz;clear hc hf hsz;go_enter Tryz.func185,Tryz.ntmps185;go_wp2;rw[HSZ.out];go_loopw [2,3] (fun ii jj wr=>∃ i j:Nat,i+j+1=n∧i≤j+1∧ii=J (i:Int)∧jj=J (j:Int)∧Hid (∀ q,q<n→wr.cell? ⟨b,o+q,none⟩=some ((fun q=>Value.int .i64 (v q)) (rvI n i q)))∧Hid (∀ j,wr.frozen? ⟨b,j,none⟩=false)∧Chg [b] w wr) (fun ii jj wr=>(intOf jj).toNat)
 case atStart=>exact⟨0,n-1,II,II,rfl,rfl,HC,HF,Chg.refl _ _⟩
 case round =>
  obtain⟨i,j,hij,hle,rfl,rfl,hcr,hfr,hch⟩:=hrel;have HCH:=IJ hch;clear hch HC HF;have i0:(0:Int)≤(i:Int):=II
  have j0:(0:Int)≤(j:Int):=II
  have i1:(i:Int)<(n:Int):=II
  have j1:(j:Int)<(n:Int):=II
  by_cases hlt:i<j
  ·have hlti:(i:Int)<(j:Int):=II
   have ci:=hcr.out i II;have cj:=hcr.out j II;rw[rvI_i II] at ci;rw[rvI_j hij hlt] at cj;have fz:=hfr.out;have HSTEP:=IJ (rev_step (V:=fun q=>Value.int .i64 (v q)) hlt hij hcr.out);have HIJ:=IJ hij;clear hij HSZ;simp only at ci cj;generalize v i=vi at *;go_wp2
   go_region
   all_goals
    go_wp2;go_roundw
    case rel=>exact⟨i+1,j-1,by have:=HIJ.out;omega,II,by go_num,by rw[show ((j-1:Nat):Int)=(j:Int)-1 by omega],HSTEP,fun q=>by have:=fz q;simpa using this,((HCH.out.setCell (p:=⟨b,o+i,none⟩) Q4a _).setCell (p:=⟨b,o+j,none⟩) Q4a _).drew⟩
    case measure=>simp[intOf];omega
  ·go_wp2
   go_end0
   exact⟨rfl,HCH.out,fun q hq=>by rw[← rvI_end (n:=n) (i:=i) II hq];exact hcr.out q hq,hfr.out⟩
theorem revP_any (n b o c:Nat) (v u:Nat→Int) (w:World) (n0:2≤n) (n1:n≤65) (hnc:n≤c) (hcm:c≤maxLen) (hc:∀ q,q<n→(w,b,o+q*2,J (v q))∧(w,b,o+q*2+1,J (u q))) (hf:∀ j,w.frozen? ⟨b,j,none⟩=false) :
  Calls Tryz.prog 209 #[IZ (some ⟨b,o,none⟩) n c] w fun e w'=>e=.returned (.tuple #[])∧Chg [b] w w'∧(∀ q,q<n→w'.cell? ⟨b,o+q*2,none⟩=some (J (v (n-1-q)))∧w'.cell? ⟨b,o+q*2+1,none⟩=some (J (u (n-1-q))))∧∀ j,w'.frozen? ⟨b,j,none⟩=false:=by
 have HC:Hid (∀ q,q<n→(w,b,o+q*2,(fun q=>Value.int .i64 (v q)) (rvI n 0 q))∧(w,b,o+q*2+1,(fun q=>Value.int .i64 (u q)) (rvI n 0 q))):=fun q hq=>by rw[rvI_0 hq];exact hc q hq
 have HF:=IJ hf;have hni:(n:Int)≤65:=II
 have hni0:2≤(n:Int):=II
 have hsz:(n:Int)-1=((n-1:Nat):Int):=II
 have HSZ:=IJ hsz;clear hc hf hsz;go_enter Tryz.func209,Tryz.ntmps209;go_wp2;rw[HSZ.out];go_loopw [2,3] (fun ii jj wr=>∃ i j:Nat,i+j+1=n∧i≤j+1∧ii=J (i:Int)∧jj=J (j:Int)∧Hid (∀ q,q<n→(wr,b,o+q*2,(fun q=>Value.int .i64 (v q)) (rvI n i q))∧(wr,b,o+q*2+1,(fun q=>Value.int .i64 (u q)) (rvI n i q)))∧Hid (∀ j,wr.frozen? ⟨b,j,none⟩=false)∧Chg [b] w wr) (fun ii jj wr=>(intOf jj).toNat)
 case atStart=>exact⟨0,n-1,II,II,rfl,rfl,HC,HF,Chg.refl _ _⟩
 case round =>
  obtain⟨i,j,hij,hle,rfl,rfl,hcr,hfr,hch⟩:=hrel;have HCH:=IJ hch;clear hch HC HF;have i0:(0:Int)≤(i:Int):=II
  have j0:(0:Int)≤(j:Int):=II
  have i1:(i:Int)<(n:Int):=II
  have j1:(j:Int)<(n:Int):=II
  by_cases hlt:i<j
  ·have hlti:(i:Int)<(j:Int):=II
   obtain⟨ci,di⟩:=hcr.out i II;obtain⟨cj,dj⟩:=hcr.out j II;rw[rvI_i II] at ci di;rw[rvI_j hij hlt] at cj dj;have fz:=hfr.out;have HSTEP:=IJ (rev_step2 (V:=fun q=>Value.int .i64 (v q)) (U:=fun q=>Value.int .i64 (u q)) hlt hij hcr.out);have HIJ:=IJ hij;clear hij HSZ;simp only at ci cj di dj;generalize v i=vi at *;generalize u i=ui at *;go_wp2
   go_region
   all_goals
    go_wp2;go_roundw
    case rel=>exact⟨i+1,j-1,by have:=HIJ.out;omega,II,by go_num,by rw[show ((j-1:Nat):Int)=(j:Int)-1 by omega],HSTEP,fun q=>by have:=fz q;simpa using this,((((HCH.out.setCell (p:=⟨b,o+i*2,none⟩) Q4a _).setCell (p:=⟨b,o+i*2+1,none⟩) Q4a _).setCell (p:=⟨b,o+j*2,none⟩) Q4a _).setCell (p:=⟨b,o+j*2+1,none⟩) Q4a _).drew⟩
    case measure=>simp[intOf];omega
  ·go_wp2
   go_end0
   exact⟨rfl,HCH.out,fun q hq=>by rw[← rvI_end (n:=n) (i:=i) II hq];exact hcr.out q hq,hfr.out⟩
theorem rowV_rev {w:World} {b off:Nat} {l:List Int} (hc:∀ q,q<l.length→w.cell? ⟨b,off+q,none⟩=some (J (gi l (l.length-1-q)))) (hf:∀ j,w.frozen? ⟨b,j,none⟩=false):RowV w b off (l.reverse.map (Value.int .i64)):=by
 refine⟨fun j u hu=>?_,hf⟩;rw[List.getElem?_map] at hu;obtain⟨x,hx,rfl⟩:=Option.map_eq_some_iff.1 hu;obtain⟨hj,rfl⟩:=List.getElem?_eq_some_iff.1 hx;rw[List.length_reverse] at hj;rw[hc j hj,List.getElem_reverse,gi_getElem]
theorem rd_row {B:Nat} {w:World} {b off c:Nat} {l:List Int} (h:RowV w b off (l.map (Value.int .i64))) (hc:l.length≤c) (hm:c≤maxLen) (hb:b<B):Rd B w (zam l) (IZ (some ⟨b,off,none⟩) l.length c):=by
 obtain⟨fp,ho,hfp⟩:=h.own (k:=1) (n:=l.length) (c:=c) Q4a hc hm;have e:zam l=.sl 1 ((l.map (Value.int .i64)).map .lit):=by rw[zam,List.map_map];rfl
 rw[e];exact⟨fp,ho.rep,fun y hy=>by rw[hfp y hy];exact hb⟩
theorem own_row {w:World} {l:List Int} {a:Option Addr} {c:Nat} {fp:List Nat} (h:Own w (zam l) (IZ a l.length c) fp) (h0:0<l.length):l.length≤c∧c≤maxLen∧∃ b off,a=some ⟨b,off,none⟩∧fp = [b]∧RowV w b off (l.map (Value.int .i64)):=by
 have e:zam l=.sl 1 ((l.map (Value.int .i64)).map .lit):=by rw[zam,List.map_map];rfl
 rw[e] at h;obtain⟨_,h1,h2,h3⟩:=h.rowV
 exact⟨h1,h2,h3 (fun e=>by
  have h_:=congrArg List.length e;rw[List.length_map] at h_;rw[h_] at h0
  exact absurd h0 Q4a)⟩
theorem RowV.gi {w:World} {b off:Nat} {l:List Int} (h:RowV w b off (l.map (Value.int .i64))) (q:Nat) (hq:q<l.length):w.cell? ⟨b,off+q,none⟩=some (J (Go.Proofs.YtpakghepnahooaaGreatDoor.gi l q)):=by
 have:=h.at_ q (by simpa using hq);rw[this,List.getElem_map,gi_getElem]
end Go.Proofs.YtpakghepnahooaaGreatDoor
namespace Go.Proofs.YtpakghepnahooaaGreatDoor
set_option maxHeartbeats 1000000
open Go.RowKit
structure LayS (w:World) (q:Nat) (l:List ByteArray):Prop where
 lt:q<w.heap.size
 at_:∀ i (hi:i<l.length),w.cell? ⟨q,i,none⟩=some (IQ l[i])
theorem LayS.new (w:World) (cs:Array Value) (l:List ByteArray) (E:Nat) (h:cs.toList=l.map fun n=>IQ n):LayS (w.alloc (.cells cs E)) w.heap.size l:=by
 exact Q1q
structure LayI (w:World) (q:Nat) (l:List Int):Prop where
 lt:q<w.heap.size
 at_:∀ i (hi:i<l.length),w.cell? ⟨q,i,none⟩=some (J l[i])
theorem LayI.new (w:World) (cs:Array Value) (l:List Int) (E:Nat) (h:cs.toList=l.map fun n=>J n):LayI (w.alloc (.cells cs E)) w.heap.size l:=by
 exact Q1q
theorem zfb (b k:Nat) (l:List ByteArray) (q c:Nat) (w:World) (h:Src w b k) (hk:k≤1099511627000) (hq:b≠q) (h1:1≤l.length) (h2:l.length≤1000) (L:LayS w q l) :
  Calls Tryz.prog 125 #[.pointer (some ⟨b,0,none⟩),IZ (some ⟨q,0,none⟩) l.length c] w fun e w'=>(∃ x ∈ l,e=.returned (IQ x))∧SrcQ b k 2 w w':=by
 have HP:=IJ (zbe b k (l.length:Int) w h hk II II);have HL:=IJ L;clear h L;have hl:(l.length:Int)≤1000:=II
 go_enter Tryz.func125,Tryz.ntmps125;exact Q0v
theorem zet (b k:Nat) (l:List Int) (q c:Nat) (w:World) (h:Src w b k) (hk:k≤1099511627000) (hq:b≠q) (h1:1≤l.length) (h2:l.length≤1000) (L:LayI w q l) :
  Calls Tryz.prog 66 #[.pointer (some ⟨b,0,none⟩),IZ (some ⟨q,0,none⟩) l.length c] w fun e w'=>(∃ x ∈ l,e=.returned (J x))∧SrcQ b k 2 w w':=by
 have HP:=IJ (zbe b k (l.length:Int) w h hk II II);have HL:=IJ L;clear h L;have hl:(l.length:Int)≤1000:=II
 go_enter Tryz.func66,Tryz.ntmps66;exact Q0v
theorem zcv {w:World} {r:Nat} {o:Obj} (h:w.heap[r]? = some o):r<w.heap.size:=(Array.getElem?_eq_some_iff.1 h).1
theorem zbz (r:Nat):∀ (l:List Value) (w:World) (j:Nat),OI r w (zbq w r j l)
 | [],w,j=>Below.refl _ _
 | v::l,w,j=>by
  rw[zbq];have h:=zbz r l (w.setCell ⟨r,j,none⟩ v) (j+1);have h0:OI r w (w.setCell ⟨r,j,none⟩ v):=(Below.refl r w).setCell (p:=⟨r,j,none⟩) (Nat.le_refl _) v;exact h0.trans h
theorem SrcQ.low {b k k1 r:Nat} {w w':World} {c:Nat} (S:Src w b k1) (hb:b<r) (h1:k≤k1) (h2:k1≤k+c) {w0:World} (C:Chg [b] w0 w) (hr:w0.heap.size≤r) (h:OI r w w'):SrcQ b k c w0 w' :=
 ⟨k1,h1,h2,S.below hb h,h.os.trans C.os,h.tape.trans C.tape,h.output.trans C.output,Nat.le_trans C.size h.size,fun x hx hn=>(h.block x II).trans (C.block x hx hn)⟩
structure DrS (b k c:Nat) (w0 w:World) (r f:Nat) (R F:Array Value) (T:Nat):Prop where
 src:∃ k',k≤k'∧k'≤k+c∧Src w b k'
 chg:Chg [b] w0 w
 hr:w.heap[r]? = some (.cells R T (0,0))
 hf:w.heap[f]? = some (.cells F T (0,0))
 bl:b<w0.heap.size
 lr:w0.heap.size≤r
 lf:w0.heap.size≤f
 ne:r≠f
section
variable {b k c r f:Nat} {w0 w w':World} {R F:Array Value} {T:Nat}
theorem DrS.below (h:DrS b k c w0 w r f R F T) (hb:OI w w w'):DrS b k c w0 w' r f R F T:=by
 obtain⟨k',h1,h2,S⟩:=h.src;exact⟨⟨k',h1,h2,S.below S.lt hb⟩,h.chg.trans (Chg.of_below hb),bkB h.hr hb (zcv h.hr),bkB h.hf hb (zcv h.hf),h.bl,h.lr,h.lf,h.ne⟩
theorem DrS.call {k1 d:Nat} (h:DrS b k c w0 w r f R F T) (h1:k≤k1) (h2:k1≤k+c) (q:SrcQ b k1 d w w'):DrS b k (c+d) w0 w' r f R F T:=by
 obtain⟨k2,g1,g2,S,C⟩:=q;have:=h.bl;have hr:=h.lr;have hf:=h.lf;exact⟨⟨k2,II,II,S⟩,h.chg.trans C,(C.block _ (zcv h.hr) Q41).trans h.hr,(C.block _ (zcv h.hf) Q41).trans h.hf,h.bl,h.lr,h.lf,h.ne⟩
theorem DrS.set (h:DrS b k c w0 w r f R F T) (j:Nat) (v:Value):DrS b k c w0 (w.setCell ⟨f,j,none⟩ v) r f R (F.setIfInBounds j v) T:=by
 obtain⟨k',h1,h2,S⟩:=h.src;have:=h.bl;have hf:=h.lf;have hbb:OI f w (w.setCell ⟨f,j,none⟩ v):=(Below.refl f w).setCell (p:=⟨f,j,none⟩) (Nat.le_refl _) v;exact⟨⟨k',h1,h2,S.below II hbb⟩,⟨h.chg.os,h.chg.tape,h.chg.output,by rw[zac];exact h.chg.size,fun x hx hn=>(hbb.block x II).trans (h.chg.block x hx hn)⟩,bkO h.hr (p:=⟨f,j,none⟩) h.ne v,bkS h.hf j v,h.bl,h.lr,h.lf,h.ne⟩
theorem DrS.at_ (h:DrS b k c w0 w r f R F T) (j:Nat) {v:Value} (hj:F[j]? = some v):w.cell? ⟨f,j,none⟩=some v:=bkC h.hf j hj
theorem DrS.fin (h:DrS b k c w0 w r f R F T) (l:List Value):SrcQ b k c w0 (zbq w r 0 l):=by
 obtain⟨k',h1,h2,S⟩:=h.src;have:=h.bl;have:=h.lr;exact SrcQ.low S II h1 h2 h.chg h.lr (zbz r l w 0)
end
end Go.Proofs.YtpakghepnahooaaGreatDoor
namespace Go.Proofs.YtpakghepnahooaaGreatDoor
open Go.RowKit
set_option maxHeartbeats 16000000
set_option maxRecDepth 100000
theorem dwMin_any (a b:Int) (w:World):Calls Tryz.prog 190 #[J a,J b] w fun e w'=>e=.returned (J (min a b))∧w=w':=by
 by_cases h:a<b
 ·have e:min a b=a:=II
  rw[e];clear e;go_enter Tryz.func190,Tryz.ntmps190;go_wp2;go_ret;exact⟨rfl,rfl⟩
 ·have e:min a b=b:=II
  rw[e];clear e;go_enter Tryz.func190,Tryz.ntmps190;go_wp2;go_ret;exact⟨rfl,rfl⟩
theorem dwMax_any (a b:Int) (w:World):Calls Tryz.prog 152 #[J a,J b] w fun e w'=>e=.returned (J (max a b))∧w=w':=by
 by_cases h:b<a
 ·have e:max a b=a:=II
  rw[e];clear e;go_enter Tryz.func152,Tryz.ntmps152;go_wp2;go_ret;exact⟨rfl,rfl⟩
 ·have e:max a b=b:=II
  rw[e];clear e;go_enter Tryz.func152,Tryz.ntmps152;go_wp2;go_ret;exact⟨rfl,rfl⟩
theorem dwDiv_any (a b:Int) (w:World) (h0:0≤a) (h1:a≤1000000000000) (h2:1≤b) (h3:b≤1000000000):Calls Tryz.prog 159 #[J a,J b] w fun e w'=>e=.returned (J ((2*a+b) / (2*b)))∧w=w':=by
 have i0:¬ b<0:=II
 have i1:¬ a<0:=II
 have e0:IntKind.i64.wrap (2*a)=2*a:=IntWalk.i64_in _ II;have e1:IntKind.i64.wrap (2*a+b)=2*a+b:=IntWalk.i64_in _ II;have e2:IntKind.i64.wrap (2*b)=2*b:=IntWalk.i64_in _ II;have e3:(2*a+b).tdiv (2*b)=(2*a+b) / (2*b):=Int.tdiv_eq_ediv_of_nonneg II;have e4:0≤(2*a+b) / (2*b)∧(2*a+b) / (2*b)≤2*a+b:=⟨Int.ediv_nonneg II II,Int.ediv_le_self _ II⟩
 have e5:IntKind.i64.wrap ((2*a+b) / (2*b))=(2*a+b) / (2*b):=IntWalk.i64_in _ II;have e6:(2*b == 0)=false:=by simp<;>omega
 go_enter Tryz.func159,Tryz.ntmps159;go_wp2;go_ret;exact⟨rfl,rfl⟩
theorem l06Parabola_any (t u:Int) (w:World) (h0:0≤t) (h1:t≤360) (h2:1≤u) (h3:u≤360):Calls Tryz.prog 189 #[J t,J u] w fun e w'=>(∃ x:Int,(0≤x∧x≤24000)∧(t=0→x=0)∧e=.returned (J x))∧w=w':=by
 have ht:0≤t*t∧t*t≤360*360:=⟨Int.mul_nonneg h0 h0,Int.mul_le_mul h1 h1 h0 II⟩
 have hu:1≤u*u∧u*u≤360*360:=⟨by have:=Int.mul_le_mul h2 h2 II II;omega,Int.mul_le_mul h3 h3 II II⟩
 have hm:12000*t*t=12000*(t*t):=Int.mul_assoc _ _ _;have CD:=IJ (dwDiv_any (12000*t*t) (u*u) w II II II II);have CM:=IJ (dwMin_any 24000 ((2*(12000*t*t)+u*u) / (2*(u*u))) w);have hd:0≤(2*(12000*t*t)+u*u) / (2*(u*u)):=Int.ediv_nonneg II II;have hz:t=0→(2*(12000*t*t)+u*u) / (2*(u*u))=0:=fun e=>by
  subst e;exact Int.ediv_eq_zero_of_lt II II
 generalize (2*(12000*t*t)+u*u) / (2*(u*u))=D at *;have HR:Hid ((0≤min 24000 D∧min 24000 D≤24000)∧(t=0→min 24000 D=0)):=⟨II,fun e=>by have:=hz e;omega⟩
 have e0:IntKind.i64.wrap (12000*t)=12000*t:=IntWalk.i64_in _ II;have e1:IntKind.i64.wrap (12000*t*t)=12000*t*t:=IntWalk.i64_in _ II;have e2:IntKind.i64.wrap (u*u)=u*u:=IntWalk.i64_in _ II;clear ht hu hm hd hz;go_enter Tryz.func189,Tryz.ntmps189;go_wp2_with (fail)
 go_at_call 159
 refine CD.out.mono ?_;rintro e _ ⟨rfl,rfl⟩;go_wp2_with (fail)
 go_at_call 190
 refine CM.out.mono ?_;rintro e _ ⟨rfl,rfl⟩;go_wp2;go_ret;exact⟨⟨_,HR.out.1,HR.out.2,rfl⟩,rfl⟩
def LossP (m:Nat) (l:List Int):Prop:=∀ (i:Nat) (h:i<l.length),(0≤l[i]∧l[i]≤24000)∧(i=m→l[i]=0)
theorem LossP.nil (m:Nat):LossP m []:=fun i h=>absurd h Q4a
theorem LossP.snoc {m:Nat} {l:List Int} {x:Int} (h:LossP m l) (h0:0≤x∧x≤24000) (h1:l.length=m→x=0):LossP m (l++[x]):=fun i hi=>by
 by_cases e:i<l.length
 ·rw[List.getElem_append_left e];exact h i e
 ·have e2:i=l.length:=by rw[List.length_append,List.length_singleton] at hi;omega
  subst e2
  rw[List.getElem_append_right (Nat.le_refl _)]
  simp only[Nat.sub_self,List.getElem_cons_zero]
  exact⟨h0,h1⟩
structure BeamA (name:ByteArray) (gain:Int) (x:DAntenna):Prop where
 name:x.name=name
 gain:x.gain=gain
 hl:x.horizontal.length=36
 vl:x.vertical.length=19
 h:LossP 0 x.horizontal
 v:LossP 9 x.vertical
theorem LossP.all {m:Nat} {l:List Int} (h:LossP m l):(l.all fun n=>inB n 0 60000)=true:=by
 rw[List.all_eq_true];intro n hn;obtain⟨i,hi,rfl⟩:=List.getElem_of_mem hn;have:=(h i hi).1;simp[inB];omega
theorem LossP.main {m:Nat} {l:List Int} (h:LossP m l) (hm:m<l.length):gi l m=0:=by
 unfold gi;rw[List.getD_eq_getElem?_getD,List.getElem?_eq_getElem hm,Option.getD_some];exact (h m hm).2 rfl
theorem BeamA.ok {name:ByteArray} {gain:Int} {x:DAntenna} (h:BeamA name gain x) (hn:za8 name=true) (hg:inB gain (-60000) 60000=true):antB x=true:=by
 unfold antB;rw[h.name,h.gain,hn,hg,h.h.all,h.v.all,h.h.main (by rw[h.hl];omega),h.v.main (by rw[h.vl];omega),h.hl,h.vl]
 rfl
def BeamQ (name:ByteArray) (gain:Int) (w:World) (e:Ending) (w':World):Prop:=∃ (x:DAntenna) (a2:Option Addr) (c2:Nat) (a3:Option Addr) (c3:Nat) (fp:List Nat),BeamA name gain x∧e=.returned (.agg (x,a2,c2,a3,c3))∧OI w w w'∧OwnV w' x.tr [IQ x.name,J x.gain,IZ a2 x.horizontal.length c2,IZ a3 x.vertical.length c3] fp∧In w w'.heap.size fp
theorem zca (r:Nat):∀ (l:List Value) (w:World) (j:Nat) (x:Nat),x≠r→(zbq w r j l).heap[x]? = w.heap[x]?
 | [],w,j,x,_=>rfl
 | v::l,w,j,x,hx=>by
  rw[zbq,zca r l _ (j+1) x hx];exact bkO rfl (p:=⟨r,j,none⟩) (by show x≠r;exact hx) v
theorem zb2 (r:Nat):∀ (l:List Value) (w:World) (j:Nat),(zbq w r j l).heap.size=w.heap.size
 | [],w,j=>rfl
 | v::l,w,j=>by rw[zbq,zb2 r l _ (j+1),zac]
theorem Chg.thenB' {fp:List Nat} {a b c:World} (h:Chg fp a b) (k:OI a b c):Chg fp a c:=⟨k.os.trans h.os,k.tape.trans h.tape,k.output.trans h.output,Nat.le_trans h.size k.size,fun x hx hn=>(k.block x hx).trans (h.block x hx hn)⟩
theorem l06Beam_any (name:ByteArray) (gain wd ht:Int) (w:World) (h2:1≤wd) (h3:wd≤360) (h4:1≤ht) (h5:ht≤360) :
  Calls Tryz.prog 137 #[IQ name,J gain,J wd,J ht] w (BeamQ name gain w):=by
 obtain⟨i0,hi0,hz0,hz1,hz2⟩:=info_parts infoI;go_enter Tryz.func137,Tryz.ntmps137;go_upto_region 2 with (fail);obtain⟨W0,hW0,b0,z0,k0,k1⟩:=zdv w #[IQ ⟨#[]⟩,J 0,IZ none 0 0,IZ none 0 0] 121 #[IQ name,J gain,IZ none 0 0,IZ none 0 0] 121;rw[hW0];clear hW0;obtain⟨r,hr⟩:∃ r,r=w.heap.size:=⟨_,rfl⟩
 obtain⟨f,hf⟩:∃ f,f=w.heap.size+1:=⟨_,rfl⟩
 rw[← hr] at k0;rw[← hf] at k1;rw[← hf,← hr];have HK0:=IJ k0;have HF0:=IJ k1;have HB0:=IJ b0;have rw_:w.heap.size≤r:=II
 have rf:r<f:=II
 have fW:f<W0.heap.size:=II
 clear b0 k0 k1 hr hf z0;go_wp2;go_loopw [10] (fun i wr=>∃ (k:Nat) (l:List Int) (a:Option Addr) (c:Nat),k≤36∧i=J (k:Int)∧l.length=k∧LossP 0 l∧Chg [f] W0 wr∧wr.heap[f]? = some (.cells #[IQ name,J gain,IZ a k c,IZ none 0 0] 121 (0,0))∧Grow wr W0.heap.size 2 1 (IZ a k c) k (l.map intT) []) (fun i wr=>36-(intOf i).toNat)
 case atStart=>exact⟨0,[],none,0,Nat.zero_le _,rfl,rfl,LossP.nil _,Chg.refl _ _,HF0.out,Grow.nil⟩
 case round =>
  obtain⟨k,l,a,c,hk,rfl,hl,hls,hch,hkf,hgr⟩:=hrel;have HL:=IJ hls;have HLN:=IJ hl;have HC:=IJ hch;have HF:=IJ hkf;have HG:=IJ hgr;have zr:=hch.size;clear hls hl hch hkf hgr
  by_cases hlt:k<36
  ·have hki:(k:Int)<36:=II
   have x1_:IntKind.i64.wrap (10*(k:Int))=10*(k:Int):=IntWalk.i64_in _ II;have x2_:IntKind.i64.wrap (360-10*(k:Int))=360-10*(k:Int):=IntWalk.i64_in _ II;have x3_:IntKind.i64.wrap (360-10*(k:Int))=360-10*(k:Int):=IntWalk.i64_in _ II;go_upto_region 5 with (fail);have HFd:Hid (wr.drew.heap[f]? = _):=HF.out;have HCd:Hid (Chg [f] W0 wr.drew):=HC.out.drew;have HGd:=IJ (HG.out.below (lo:=0) In.nil (zbl wr));have zd:W0.heap.size≤wr.drew.heap.size:=zr;refine zbj 11 [(0,true),(1,true),(2,true),(3,true),(4,true),(5,true),(6,true),(8,true),(7,false),(9,false),(10,false)] (fun W=>W.cell? ⟨f,2,none⟩=some (IZ a k c)) JI JI (bkC HFd.out 2 rfl) (fun hHeld=>?_);generalize wr.drew=Y0 at *;clear hHeld HF HC HG zr
   iterate 8 (refine zaj (v:=?_) rfl (fun _ _ _ h=>h) ?_ ?_;rotate_left;focus (intro W hSW;(try dsimp only at hSW);(go_simp<;>with_reducible rfl));(try simp only[Act.put,OO,OJ,OQ]))
   refine zbd rfl (fun K hK=>?_);go_simp;refine (dwMin_any _ _ _).mono ?_;rintro e _ ⟨rfl,rfl⟩;refine hK.out _ _ (bkC HFd.out 2 rfl) ?_;clear hK K
   (try simp only[Act.put,OO,OJ,OQ])
   refine zbd rfl (fun K hK=>?_);go_simp;refine (l06Parabola_any _ _ _ II II II II).mono ?_;rintro e _ ⟨⟨x,hx0,hx1,rfl⟩,rfl⟩;refine hK.out _ _ (bkC HFd.out 2 rfl) ?_;clear hK K
   (try simp only[Act.put,OO,OJ,OQ])
   have HX:Hid (l.length=0→x=0):=fun e=>hx1 (by have:=HLN.out;omega)
   clear hx1;refine zbd rfl (fun K hK=>?_);go_simp;refine hK.out _ _ (bkC (bkA HFd.out II (.cells #[J x] 2)) 2 rfl) ?_;clear hK K
   (try simp only[Act.put,OO,OJ,OQ])
   refine zcp ?_;simp only[List.drop_succ_cons,List.drop_zero];refine zax rfl (.tmp 20) (.tmp 29) _ rfl W0.heap.size 2 i0 _ 1 8 Tryz.underlying24 hi0 hz0 hz1 hz2 rfl II _ _ _ [] rfl HGd.out [_] [.lit _] [] rfl 1 rfl (fun u hu=>by simp at hu;subst hu;rfl) (RepV.lits [_]) List.nodup_nil (fun b h=>by simp at h) 0 In.nil In.nil Q4a Q4a Q3v II II ?_;intro v2 w3 hgn;obtain⟨xs2,ho2,_⟩:=hgn.grow.own;obtain⟨a2,c2,ev,_⟩:=zaw ho2;subst ev;clear ho2;have KB:Hid (∀ y,y<Y0.heap.size→y<W0.heap.size→w3.heap[y]? = Y0.heap[y]?):=fun y hy hw=>hgn.keep y hy (fun e=>by have:=(HGd.out.block e).1;omega)
   have HF3:=IJ ((KB.out f II II).trans HFd.out);have HG3:=IJ hgn.grow;have HC3:Hid (Chg [f] W0 w3):=Chg.thenB' HCd.out hgn.below;have z3:=hgn.size;clear hgn HFd HCd HGd;have q0:=bkC HF3.out 2 rfl;have f0:=bkF HF3.out 2;go_wp2;go_roundw
   case rel =>
    refine⟨k+1,l++[x],a2,c2,II,by go_num,by rw[List.length_append,HLN.out];rfl,HL.out.snoc hx0 HX.out,HC3.out.setCell Q4a _,?_,?_⟩
    ·have:=bkS HF3.out 2 (IZ a2 (k+1) c2)
     simpa using this
    ·have h3:=HG3.out
     rw[List.map_append];exact h3.frame (fun g hg=>bkO rfl (p:=⟨f,2,none⟩) (by have:=(h3.block hg).1;show g≠f;omega) _) (fun x hx=>by simp at hx)
   case measure=>simp[intOf];omega
  ·obtain rfl:k=36:=II
   rw[show ((36:Nat):Int)=(36:Int) from rfl];obtain⟨ah,ch,fh,eh,oh,ih⟩:=HG.out.toOwn (lo:=W0.heap.size) II In.nil (Nat.le_refl _);injection eh with e1 e2 e3;subst e1 e3;have OH:=IJ oh;have IH:=IJ ih;have HHL:=IJ HL.out;have HHN:=IJ HLN.out;have HC1:=IJ HC.out;have HF1:=IJ HF.out;have z1:=zr;clear oh ih HG HL HLN HC HF zr hk hlt e2;generalize wr=W1 at *;obtain⟨lh,hlh⟩:∃ lh,lh=l:=⟨_,rfl⟩
   rw[← hlh] at OH HHL HHN;clear hlh;go_wp2;go_loopw [11] (fun i wr=>∃ (k:Nat) (l:List Int) (av:Option Addr) (cv:Nat),k≤19∧i=J (k:Int)∧l.length=k∧LossP 9 l∧Chg [f] W1 wr∧wr.heap[f]? = some (.cells #[IQ name,J gain,IZ a 36 c,IZ av k cv] 121 (0,0))∧Grow wr W1.heap.size 2 1 (IZ av k cv) k (l.map intT) []) (fun i wr=>19-(intOf i).toNat)
   case atStart=>exact⟨0,[],none,0,Nat.zero_le _,rfl,rfl,LossP.nil _,Chg.refl _ _,HF1.out,Grow.nil⟩
   case round =>
    obtain⟨k,l,av,cv,hk,rfl,hl,hls,hch,hkf,hgr⟩:=hrel;have HL:=IJ hls;have HLN:=IJ hl;have HC:=IJ hch;have HF:=IJ hkf;have HG:=IJ hgr;have zr:=hch.size;clear hls hl hch hkf hgr
    by_cases hlt:k<19
    ·have hki:(k:Int)<19:=II
     have x1_:IntKind.i64.wrap (10*(k:Int))=10*(k:Int):=IntWalk.i64_in _ II;have x2_:IntKind.i64.wrap (10*(k:Int)-90)=10*(k:Int)-90:=IntWalk.i64_in _ II;have x3_:IntKind.i64.wrap (90-10*(k:Int))=90-10*(k:Int):=IntWalk.i64_in _ II;go_upto_region 9 with (fail);have HFd:Hid (wr.drew.heap[f]? = _):=HF.out;have HCd:Hid (Chg [f] W1 wr.drew):=HC.out.drew;have HGd:=IJ (HG.out.below (lo:=0) In.nil (zbl wr));have zd:W1.heap.size≤wr.drew.heap.size:=zr;refine zbj 12 [(0,true),(1,true),(2,true),(3,true),(4,true),(5,true),(6,true),(7,true),(9,true),(8,false),(10,false),(11,false)] (fun W=>W.cell? ⟨f,3,none⟩=some (IZ av k cv)) JI JI (bkC HFd.out 3 rfl) (fun hHeld=>?_);generalize wr.drew=Y0 at *;clear hHeld HF HC HG zr
     iterate 9 (refine zaj (v:=?_) rfl (fun _ _ _ h=>h) ?_ ?_;rotate_left;focus (intro W hSW;(try dsimp only at hSW);(go_simp<;>with_reducible rfl));(try simp only[Act.put,OO,OJ,OQ]))
     refine zbd rfl (fun K hK=>?_);go_simp;refine (dwMax_any _ _ _).mono ?_;rintro e _ ⟨rfl,rfl⟩;refine hK.out _ _ (bkC HFd.out 3 rfl) ?_;clear hK K
     (try simp only[Act.put,OO,OJ,OQ])
     refine zbd rfl (fun K hK=>?_);go_simp;refine (l06Parabola_any _ _ _ II II II II).mono ?_;rintro e _ ⟨⟨x,hx0,hx1,rfl⟩,rfl⟩;refine hK.out _ _ (bkC HFd.out 3 rfl) ?_;clear hK K
     (try simp only[Act.put,OO,OJ,OQ])
     have HX:Hid (l.length=9→x=0):=fun e=>hx1 (by have:=HLN.out;omega)
     clear hx1;refine zbd rfl (fun K hK=>?_);go_simp;refine hK.out _ _ (bkC (bkA HFd.out II (.cells #[J x] 2)) 3 rfl) ?_;clear hK K
     (try simp only[Act.put,OO,OJ,OQ])
     refine zcp ?_;simp only[List.drop_succ_cons,List.drop_zero];refine zax rfl (.tmp 37) (.tmp 47) _ rfl W1.heap.size 2 i0 _ 1 8 Tryz.underlying24 hi0 hz0 hz1 hz2 rfl II _ _ _ [] rfl HGd.out [_] [.lit _] [] rfl 1 rfl (fun u hu=>by simp at hu;subst hu;rfl) (RepV.lits [_]) List.nodup_nil (fun b h=>by simp at h) 0 In.nil In.nil Q4a Q4a Q3v II II ?_;intro v2 w3 hgn;obtain⟨xs2,ho2,_⟩:=hgn.grow.own;obtain⟨a2,c2,ev,_⟩:=zaw ho2;subst ev;clear ho2;have KB:Hid (∀ y,y<Y0.heap.size→y<W1.heap.size→w3.heap[y]? = Y0.heap[y]?):=fun y hy hw=>hgn.keep y hy (fun e=>by have:=(HGd.out.block e).1;omega)
     have HF3:=IJ ((KB.out f II II).trans HFd.out);have HG3:=IJ hgn.grow;have HC3:Hid (Chg [f] W1 w3):=Chg.thenB' HCd.out hgn.below;have z3:=hgn.size;clear hgn HFd HCd HGd;have q0:=bkC HF3.out 3 rfl;have f0:=bkF HF3.out 3;go_wp2;go_roundw
     case rel =>
      refine⟨k+1,l++[x],a2,c2,II,by go_num,by rw[List.length_append,HLN.out];rfl,HL.out.snoc hx0 HX.out,HC3.out.setCell Q4a _,?_,?_⟩
      ·have:=bkS HF3.out 3 (IZ a2 (k+1) c2)
       simpa using this
      ·have h3:=HG3.out
       rw[List.map_append];exact h3.frame (fun g hg=>bkO rfl (p:=⟨f,3,none⟩) (by have:=(h3.block hg).1;show g≠f;omega) _) (fun x hx=>by simp at hx)
     case measure=>simp[intOf];omega
    ·obtain rfl:k=19:=II
     rw[show ((19:Nat):Int)=(19:Int) from rfl];obtain⟨aw,cw,fv,ew,ov,iv⟩:=HG.out.toOwn (lo:=W1.heap.size) II In.nil (Nat.le_refl _);injection ew with e1 e2 e3;subst e1 e3;have OV:Hid (OwnV wr (DAntenna.tr ⟨name,gain,lh,l⟩) [IQ name,J gain,IZ a 36 c,IZ av 19 cv] (fh++(fv++[]))) :=
      OwnV.consLit (OwnV.consLit (OwnV.cons (OH.out.chg IH.out (Nat.le_refl _) HC.out (fun x hx=>by have:=(IH.out x hx).1;simp<;>omega)) (OwnV.cons ov OwnV.nil (fun x _=>by simp)) (fun x hx hy=>by
       have h1:=(IH.out x hx).2;rw[List.append_nil] at hy;have h2:=(iv x hy).1
       omega)) rfl) rfl
     have HIN:Hid (In (f+1) wr.heap.size (fh++(fv++[]))):=by
      refine In.append (IH.out.mono II zr) ?_;rw[List.append_nil];exact iv.mono II (Nat.le_refl _)
     have HB:Hid (OI w w wr):=(HB0.out.trans (HC1.out.below II (fun x hx=>by simp at hx;omega))).trans (HC.out.below II (fun x hx=>by simp at hx;omega));have HKr:=IJ ((HC.out.block r II Q41).trans ((HC1.out.block r II Q41).trans HK0.out));have HA:Hid (BeamA name gain ⟨name,gain,lh,l⟩):=⟨rfl,rfl,HHN.out,HLN.out,HHL.out,HL.out⟩
     have e36:lh.length=36:=HHN.out;have e19:l.length=19:=HLN.out;have HE:=IJ (And.intro e36 e19);clear ov iv HG OH IH HHL HL HHN HLN HC HC1 HF1 HK0 HF0 HB0 e36 e19 e2 hk hlt;obtain⟨t0,t1,t2,t3,_⟩:=bz4 HF.out;obtain⟨u0,u1,u2,u3,gz⟩:=bz4 HKr.out;clear HF;go_wp2;refine bodyPost_ret (v:=.agg #[IQ name,J gain,IZ a 36 c,IZ av 19 cv]) (by simp[results,Tryz.results137,go_sem, *]) rfl ?_;have hfar:=zca r [IQ name,J gain,IZ a 36 c,IZ av 19 cv] wr 0;refine⟨⟨name,gain,lh,l⟩,a,c,av,cv,fh++(fv++[]),HA.out,?_,HB.out.trans ((zbz r [IQ name,J gain,IZ a 36 c,IZ av 19 cv] wr 0).mono rw_),?_,?_⟩
     ·show Ending.returned _=Ending.returned (.agg #[IQ name,J gain,IZ a lh.length c,IZ av l.length cv])
      rw[HE.out.1,HE.out.2]
     ·show OwnV _ _ [IQ name,J gain,IZ a lh.length c,IZ av l.length cv] _
      rw[HE.out.1,HE.out.2];exact OV.out.frame (fun x hx=>hfar x (by have:=(HIN.out x hx).1;omega))
     ·have hsz:=zb2 r [IQ name,J gain,IZ a 36 c,IZ av 19 cv] wr 0
      exact HIN.out.mono II (by rw[← hsz];exact Nat.le_refl _)
end Go.Proofs.YtpakghepnahooaaGreatDoor
namespace Go.Proofs.YtpakghepnahooaaGreatDoor
set_option maxHeartbeats 16000000
set_option maxRecDepth 100000
open Go.RowKit
abbrev zdh:Array Value:=#[IQ ⟨#[]⟩,J 0,J 0,J 0,J 0,IZ none 0 0]
def DrRadio (b k m:Nat) (w:World) (e:Ending) (w':World):Prop:=∃ (x:DRadio) (a:Option Addr) (c:Nat) (fp:List Nat),radB x=true∧e=.returned (.agg (x,a,c))∧OwnV w' x.tr [IQ x.name,J x.power,J x.feeder,J x.noise,J x.width,IZ a x.modes.length c] fp∧In w w'.heap.size fp∧SrcQ b k m w w'
theorem ze4 {α:Type} {ok:α→Bool} {rel:α→α→Bool} {l:List α} {x:α} (h:zaz ok rel l=true) (hx:ok x=true) (hr:∀ y,l.getLast? = some y→rel y x=true):zaz ok rel (l++[x])=true:=by
 refine zce (fun j hj=>?_);have hj2:j<l.length+1:=by simpa using hj
 by_cases e:j<l.length
 ·by_cases h0:j=0
  ·subst h0;rw[zci hj,List.getElem_append_left e];exact zd3 h e
  ·rw[zcj II hj,List.getElem_append_left e,List.getElem_append_left (show j-1<l.length by omega)]
   have:=rowOk_at h e;rw[zcj II e] at this;exact this
 ·obtain rfl:j=l.length:=II
  have e1:(l++[x])[l.length]=x:=by simp
  by_cases h0:l.length=0
  ·have hl:l = []:=List.eq_nil_of_length_eq_zero h0
   subst hl;show upOk ok rel [x] 0=true
   rw[zci Q4a];exact hx
  ·rw[zcj II hj,e1,hx,Bool.true_and,List.getElem_append_left (show l.length-1<l.length by omega)]
   exact hr _ (by rw[List.getLast?_eq_getElem?,List.getElem?_eq_getElem (show l.length-1<l.length by omega)])
structure MdP (ms:List DMode) (ne ra:Int):Prop where
 row:zaz zcm zb5 ms=true
 n0:-5000≤ne
 n1:ne≤14000+4000*ms.length
 r0:1≤ra
 r1:ra≤500+5000*ms.length
 last:∀ y,ms.getLast? = some y→y.need<ne∧y.rate<ra
theorem MdP.step {ms:List DMode} {ne ra d e:Int} (h:MdP ms ne ra) (hl:ms.length≤4) (d0:0≤d) (d1:d<4000) (e0:0≤e) (e1:e<5000):MdP (ms++[⟨ne,ra⟩]) (ne+(d+1)) (ra+(e+1)):=by
 obtain⟨h1,h2,h3,h4,h5,h6⟩:=h;refine⟨ze4 h1 (by simp[zcm,inB];omega) (fun y hy=>modeLt_true (h6 y hy).1 (h6 y hy).2),II,by simp<;>omega,II,by simp<;>omega,fun y hy=>?_⟩;rw[List.getLast?_append] at hy;simp at hy;subst hy;exact⟨by show ne<_;omega,by show ra<_;omega⟩
theorem growChg {w w':World} {base E size n b:Nat} {v:Value} {ts:List Tr} (h:Grow w base E size v n ts []) (hb:b<base) (hc:Chg [b] w w'):Grow w' base E size v n ts [] :=
 h.frame (fun g hg=>hc.block g (h.block hg).2 (by have:=(h.block hg).1;simp<;>omega)) (fun x hx=>by simp at hx)
section
variable {b k c r f:Nat} {w0 w w':World} {R F:Array Value} {T:Nat}
theorem DrS.lift (h:DrS b k c w0 w r f R F T) (hrf:r<f) (hb:OI (f+1) w w'):DrS b k c w0 w' r f R F T:=by
 obtain⟨k',h1,h2,S⟩:=h.src;have:=h.bl;have:=h.lr;exact⟨⟨k',h1,h2,S.below II hb⟩,⟨hb.os.trans h.chg.os,hb.tape.trans h.chg.tape,hb.output.trans h.chg.output,Nat.le_trans h.chg.size hb.size,fun x hx hn=>(hb.block x II).trans (h.chg.block x hx hn)⟩,(hb.block r II).trans h.hr,(hb.block f II).trans h.hf,h.bl,h.lr,h.lf,h.ne⟩
theorem DrS.more {d:Nat} (h:DrS b k c w0 w r f R F T) (hd:c≤d):DrS b k d w0 w r f R F T:=by
 obtain⟨k',h1,h2,S⟩:=h.src;exact⟨⟨k',h1,II,S⟩,h.chg,h.hr,h.hf,h.bl,h.lr,h.lf,h.ne⟩
end
theorem modes_map (ms:List DMode) (x:DMode):(ms++[x]).flatMap DMode.tr=ms.flatMap DMode.tr++[.lit (J x.need),.lit (J x.rate)]:=by
 rw[List.flatMap_append];simp[DMode.tr,intT]
theorem l07DrawOk_any (b k:Nat) (w:World) (h:Src w b k) (hk:k≤1099511600000):Calls Tryz.prog 138 #[.pointer (some ⟨b,0,none⟩)] w (DrRadio b k 60 w):=by
 have yb:=h.lt;have HS:=IJ h;clear h;go_enter Tryz.func138,Tryz.ntmps138;go_upto_region 1 with (fail);obtain⟨W0,hW0,b0,z0,k0⟩:=zav w zdh 125
 dsimp only[zdh] at hW0
 rw[hW0];clear hW0;have HS0:=IJ (HS.out.below HS.out.lt b0);have HC0:Hid (Chg [b] w W0):=Chg.of_below b0;have HK0:=IJ k0;clear b0 k0 HS;go_wp2_with (fail)
 go_at_call 125
 have BA:=zao W0 (.cells #[IQ ⟨#[114,49]⟩,IQ ⟨#[98,97,115,101]⟩,IQ ⟨#[104,111,112]⟩,IQ ⟨#[120]⟩] 9);refine (zfb b k [⟨#[114,49]⟩,⟨#[98,97,115,101]⟩,⟨#[104,111,112]⟩,⟨#[120]⟩] W0.heap.size 4 _ (HS0.out.below HS0.out.lt BA) II II Q4a Q4a (LayS.new W0 _ [⟨#[114,49]⟩,⟨#[98,97,115,101]⟩,⟨#[104,111,112]⟩,⟨#[120]⟩] 9 rfl)).mono ?_;rintro e w1 ⟨⟨vn,hv,rfl⟩,k1,ka,kb,S1,C1⟩;have h_vn:za8 vn=true:=by
  simp only[List.mem_cons,List.not_mem_nil,or_false] at hv
  rcases hv with rfl|rfl|rfl|rfl<;>(first|rfl|decide)
 have z1:=C1.size;have zb:=BA.size;have HC1:=IJ ((HC0.out.trans (Chg.of_below BA)).trans C1);have HK1:=IJ ((C1.block _ II Q41).trans (bkB HK0.out BA II));have HS1:=IJ S1;clear S1 C1 BA HS0 HC0 HK0 hv;go_upto_region 2 with (fail);obtain⟨w2,hw2,b2,z2,k2⟩:=zav w1 #[IQ vn,J 0,J 0,J 0,J 0,IZ none 0 0] 125;rw[hw2];clear hw2;obtain⟨r,hr⟩:∃ r,r=w.heap.size:=⟨_,rfl⟩
 obtain⟨f,hf⟩:∃ f,f=w1.heap.size:=⟨_,rfl⟩
 rw[← hr] at HK1;rw[← hf] at k2;have hrf:r<f:=II
 have D2:Hid (DrS b k 2 w w2 r f zdh #[IQ vn,J 0,J 0,J 0,J 0,IZ none 0 0] 125):=⟨⟨k1,ka,kb,HS1.out.below HS1.out.lt b2⟩,HC1.out.trans (Chg.of_below b2),bkB HK1.out b2 II,k2,yb,II,II,II⟩
 rw[← hr,← hf];clear b2 k2 HS1 HC1 HK1 ka kb hr hf z2 z1 zb z0;go_wp2_with (fail)
 go_at_call 59
 obtain⟨kk,ka,kb,SS⟩:=D2.out.src;refine (zbe b kk 60 _ SS II II II).mono ?_;rintro e w3 ⟨⟨po,po0,po1,rfl⟩,hq⟩;have D3:Hid (DrS b k 4 w w3 r f zdh #[IQ vn,J 0,J 0,J 0,J 0,IZ none 0 0] 125):=D2.out.call ka kb hq;clear D2 SS hq ka kb;have q1:=D3.out.at_ 1 rfl;have f1:=bkF D3.out.hf 1;go_upto_region 3 with (fail);have D4:Hid (DrS b k 4 w (w3.setCell ⟨f,1,none⟩ (J (po*1000-10000))) r f zdh #[IQ vn,J (po*1000-10000),J 0,J 0,J 0,IZ none 0 0] 125):=(D3.out.set 1 (J (po*1000-10000)))
 generalize (w3.setCell ⟨f,1,none⟩ (J (po*1000-10000)))=w4 at *;clear D3 q1 f1;go_wp2_with (fail)
 go_at_call 59
 obtain⟨kk,ka,kb,SS⟩:=D4.out.src;refine (zbe b kk 6 _ SS II II II).mono ?_;rintro e w5 ⟨⟨fe,fe0,fe1,rfl⟩,hq⟩;have D5:Hid (DrS b k 6 w w5 r f zdh #[IQ vn,J (po*1000-10000),J 0,J 0,J 0,IZ none 0 0] 125):=D4.out.call ka kb hq;clear D4 SS hq ka kb;have q2:=D5.out.at_ 2 rfl;have f2:=bkF D5.out.hf 2;go_upto_region 4 with (fail);have D6:Hid (DrS b k 6 w (w5.setCell ⟨f,2,none⟩ (J (fe*500))) r f zdh #[IQ vn,J (po*1000-10000),J (fe*500),J 0,J 0,IZ none 0 0] 125):=(D5.out.set 2 (J (fe*500)))
 generalize (w5.setCell ⟨f,2,none⟩ (J (fe*500)))=w6 at *;clear D5 q2 f2;go_wp2_with (fail)
 go_at_call 59
 obtain⟨kk,ka,kb,SS⟩:=D6.out.src;refine (zbe b kk 10 _ SS II II II).mono ?_;rintro e w7 ⟨⟨no,no0,no1,rfl⟩,hq⟩;have D7:Hid (DrS b k 8 w w7 r f zdh #[IQ vn,J (po*1000-10000),J (fe*500),J 0,J 0,IZ none 0 0] 125):=D6.out.call ka kb hq;clear D6 SS hq ka kb;have q3:=D7.out.at_ 3 rfl;have f3:=bkF D7.out.hf 3;go_upto_region 5 with (fail);have D8:Hid (DrS b k 8 w (w7.setCell ⟨f,3,none⟩ (J (no*1000))) r f zdh #[IQ vn,J (po*1000-10000),J (fe*500),J (no*1000),J 0,IZ none 0 0] 125):=(D7.out.set 3 (J (no*1000)))
 generalize (w7.setCell ⟨f,3,none⟩ (J (no*1000)))=w8 at *;clear D7 q3 f3;go_wp2_with (fail)
 go_at_call 68
 obtain⟨kk,ka,kb,SS⟩:=D8.out.src;refine (one_any b kk 9 _ SS II ⟨II,II⟩).mono ?_;rintro e w9 ⟨⟨q,rfl⟩,hq⟩;have D9:Hid (DrS b k 10 w w9 r f zdh #[IQ vn,J (po*1000-10000),J (fe*500),J (no*1000),J 0,IZ none 0 0] 125):=D8.out.call ka kb hq;clear D8 SS hq ka kb;go_upto_if 25 with (fail);go_cut [] (fun wx=>∃ P:Int,(-100000≤P∧P≤100000)∧DrS b k 12 w wx r f zdh #[IQ vn,J P,J (fe*500),J (no*1000),J 0,IZ none 0 0] 125)
 case first =>
  cases q with
  | false =>
   go_wp2;go_meet;exact⟨po*1000-10000,⟨II,II⟩,D9.out.more II⟩
  | true =>
   go_wp2_with (fail)
   go_at_call 66
   have BA:=zao w9 (.cells #[J (-100000),J 100000] 2);have DA:=D9.out.below BA;obtain⟨kk,ka,kb,SS⟩:=DA.src;refine (zet b kk [-100000,100000] w9.heap.size 2 _ SS II (by have:=D9.out.bl;have:=D9.out.chg.size;omega) Q4a Q4a (LayI.new w9 _ [-100000,100000] 2 rfl)).mono ?_;rintro e w10 ⟨⟨vp,hv,rfl⟩,hq⟩;have D10:Hid (DrS b k 12 w w10 r f zdh #[IQ vn,J (po*1000-10000),J (fe*500),J (no*1000),J 0,IZ none 0 0] 125):=DA.call ka kb hq;have h_vp:-100000≤vp∧vp≤100000:=by
    simp only[List.mem_cons,List.not_mem_nil,or_false] at hv
    rcases hv with rfl|rfl<;>omega
   clear D9 DA SS hq hv BA ka kb;have q1:=D10.out.at_ 1 rfl;have f1:=bkF D10.out.hf 1;go_wp2;go_meet;exact⟨vp,h_vp,D10.out.set 1 (J vp)⟩
 case rest =>
  obtain⟨P,hP,hd⟩:=hcut;have D20:=IJ hd;clear hd D9;generalize wc=w20 at *;go_wp2_with (fail)
  go_at_call 66
  have BA:=zao w20 (.cells #[J 1,J 25,J 200,J 1000,J 5000,J 20000,J 100000,J 7] 2);have DA:=D20.out.below BA;obtain⟨kk,ka,kb,SS⟩:=DA.src;refine (zet b kk [1,25,200,1000,5000,20000,100000,7] w20.heap.size 8 _ SS II (by have:=D20.out.bl;have:=D20.out.chg.size;omega) Q4a Q4a (LayI.new w20 _ [1,25,200,1000,5000,20000,100000,7] 2 rfl)).mono ?_;rintro e w21 ⟨⟨wi,hv,rfl⟩,hq⟩;have D21:Hid (DrS b k 14 w w21 r f zdh #[IQ vn,J P,J (fe*500),J (no*1000),J 0,IZ none 0 0] 125):=DA.call ka kb hq;have h_wi:1≤wi∧wi≤100000:=by
   simp only[List.mem_cons,List.not_mem_nil,or_false] at hv
   rcases hv with rfl|rfl|rfl|rfl|rfl|rfl|rfl|rfl<;>omega
  clear D20 DA SS hq hv BA ka kb;have q4:=D21.out.at_ 4 rfl;have f4:=bkF D21.out.hf 4;go_upto_region 8 with (fail);have D22:Hid (DrS b k 14 w (w21.setCell ⟨f,4,none⟩ (J wi)) r f zdh #[IQ vn,J P,J (fe*500),J (no*1000),J wi,IZ none 0 0] 125):=(D21.out.set 4 (J wi))
  generalize (w21.setCell ⟨f,4,none⟩ (J wi))=w22 at *;clear D21 q4 f4;go_wp2_with (fail)
  go_at_call 59
  obtain⟨kk,ka,kb,SS⟩:=D22.out.src;refine (zbe b kk 20 _ SS II II II).mono ?_;rintro e w23 ⟨⟨ne,ne0,ne1,rfl⟩,hq⟩;have D23:Hid (DrS b k 16 w w23 r f zdh #[IQ vn,J P,J (fe*500),J (no*1000),J wi,IZ none 0 0] 125):=D22.out.call ka kb hq;clear D22 SS hq ka kb;go_wp2_with (fail)
  go_at_call 59
  obtain⟨kk,ka,kb,SS⟩:=D23.out.src;refine (zbe b kk 500 _ SS II II II).mono ?_;rintro e w24 ⟨⟨ra,ra0,ra1,rfl⟩,hq⟩;have D24:Hid (DrS b k 18 w w24 r f zdh #[IQ vn,J P,J (fe*500),J (no*1000),J wi,IZ none 0 0] 125):=D23.out.call ka kb hq;clear D23 SS hq ka kb;go_wp2_with (fail)
  go_at_call 59
  obtain⟨kk,ka,kb,SS⟩:=D24.out.src;refine (zbe b kk 4 _ SS II II II).mono ?_;rintro e w25 ⟨⟨kk,kk0,kk1,rfl⟩,hq⟩;have D25:Hid (DrS b k 20 w w25 r f zdh #[IQ vn,J P,J (fe*500),J (no*1000),J wi,IZ none 0 0] 125):=D24.out.call ka kb hq;clear D24 SS hq ka kb;obtain⟨N,rfl⟩:=Int.eq_ofNat_of_zero_le kk0;obtain⟨i0,hi0,hz0,hz1,hz2⟩:=info_parts infoMode;have hN:N≤3:=II
  have HF:=IJ (show inB fe 0 5=true∧inB no 0 9=true from ⟨by simp[inB];omega,by simp[inB];omega⟩);clear kk0 kk1;go_wp2;go_loopw [4,5,6] (fun need rate i wr=>∃ (m:Nat) (ms:List DMode) (a:Option Addr) (c:Nat) (ne ra:Int),m≤N+1∧ms.length+m=N+1∧i=J ((m:Int)-1)∧need=J ne∧rate=J ra∧MdP ms ne ra∧DrS b k (20+4*ms.length) w wr r f zdh #[IQ vn,J P,J (fe*500),J (no*1000),J wi,IZ a ms.length c] 125∧Grow wr (f+1) 163 2 (IZ a ms.length c) ms.length (ms.flatMap DMode.tr) []) (fun _ _ i wr=>(intOf i+1).toNat)
  case atStart=>exact⟨N+1,[],none,0,ne*1000-5000,ra+1,Nat.le_refl _,by simp,by simp,rfl,rfl,⟨rfl,II,by simp<;>omega,II,by simp<;>omega,fun y hy=>by simp at hy⟩,D25.out,Grow.nil⟩
  case round =>
   obtain⟨m,ms,a,c,ne,ra,hm,hml,rfl,rfl,rfl,hmd,hd,hgr⟩:=hrel;have HM:=IJ hmd;have D:=IJ hd;have HG:=IJ hgr;have hml4:ms.length≤4:=II
   obtain⟨m1,m2,m3,m4⟩:=And.intro hmd.n0 (And.intro hmd.n1 (And.intro hmd.r0 hmd.r1));have fw:=zcv D.out.hf;clear hmd hd hgr D25
   by_cases hm0:m=0
   ·subst hm0
    have hki:¬ ((0:Nat):Int)-1 ≥ 0:=II
    obtain⟨xa,xc,fp,ex,ox,ix⟩:=HG.out.toOwn (lo:=f+1) II In.nil (Nat.le_refl _);injection ex with e1 e2 e3;subst e1 e3;have OV:Hid (OwnV wr (DRadio.tr ⟨vn,P,fe*500,no*1000,wi,ms⟩) [IQ vn,J P,J (fe*500),J (no*1000),J wi,IZ a ms.length c] (fp++[])) :=
     OwnV.consLit (OwnV.consLit (OwnV.consLit (OwnV.consLit (OwnV.consLit (OwnV.cons ox OwnV.nil (fun x _=>by simp)) rfl) rfl) rfl) rfl) rfl
    rw[List.append_nil] at OV;have IX:=IJ ix;clear ox ix HG e2 hm;have hml5:1≤ms.length:=II
    have HL:=IJ (And.intro hml5 hml4);clear hml hml4 hml5;have t0:=D.out.at_ 0 rfl;have t1:=D.out.at_ 1 rfl;have t2:=D.out.at_ 2 rfl;have t3:=D.out.at_ 3 rfl;have t4:=D.out.at_ 4 rfl;have t5:=D.out.at_ 5 rfl;obtain⟨u0,u1,u2,u3,u4,u5,g⟩:=bz6 D.out.hr;go_wp2;refine bodyPost_ret (v:=.agg #[IQ vn,J P,J (fe*500),J (no*1000),J wi,IZ a ms.length c]) (by simp[results,Tryz.results138,go_sem, *]) rfl ?_;have hfar:=zca r [IQ vn,J P,J (fe*500),J (no*1000),J wi,IZ a ms.length c] wr 0;have hsz:=zb2 r [IQ vn,J P,J (fe*500),J (no*1000),J wi,IZ a ms.length c] wr 0;refine⟨⟨vn,P,fe*500,no*1000,wi,ms⟩,a,c,fp,?_,rfl,OV.out.frame (fun x hx=>hfar x (by have:=(IX.out x hx).1;omega)),IX.out.mono (by have:=D.out.lf;omega) (by rw[← hsz];exact Nat.le_refl _),?_⟩
    ·obtain⟨g1,g2⟩:=HF.out
     obtain⟨l1,l2⟩:=HL.out;simp only[inB,Bool.and_eq_true,decide_eq_true_eq] at g1 g2;show (za8 vn&&(inB P (-100000) 100000&&(inB (fe*500) 0 30000&&(inB (no*1000) 0 30000&&(inB wi 1 100000&&(decide (1≤ms.length)&&(decide (ms.length≤8)&&zaz zcm zb5 ms)))))))=true
     rw[h_vn,HM.out.row,decide_eq_true l1,decide_eq_true (show ms.length≤8 by omega)];simp[inB];omega
    ·obtain⟨k',h1,h2,S⟩:=D.out.src
     have:=D.out.bl;have:=D.out.lr;exact SrcQ.low S II h1 (by have:=HL.out;omega) D.out.chg D.out.lr (zbz r [IQ vn,J P,J (fe*500),J (no*1000),J wi,IZ a ms.length c] wr 0)
   ·have hki:(m:Int)-1 ≥ 0:=II
    have q5:=D.out.at_ 5 rfl;have f5:=bkF D.out.hf 5;have hfz:f+1≤wr.heap.size:=II
    go_upto_region 14 with (at_builtin;refine zax rfl (.tmp 48) (.tmp 52) _ rfl (f+1) 163 i0 _ 2 16 Tryz.underlying123 hi0 hz0 hz1 hz2 rfl II _ _ _ [] rfl HG.out [J ne,J ra] [.lit (J ne),.lit (J ra)] [] rfl 1 rfl (fun u hu=>by simp at hu;rcases hu with rfl|rfl<;>rfl) (RepV.lits [_,_]) List.nodup_nil (fun b h=>by simp at h) 0 In.nil In.nil Q4a Q4a Q3v II II ?_;intro v2 w3 hgn;obtain⟨xs2,ho2,_⟩:=hgn.grow.own;obtain⟨a2,c2,ev,_⟩:=zaw ho2;subst ev;clear ho2 q5 f5;have D3:=IJ (D.out.lift hrf hgn.below);have HG3:=IJ hgn.grow;clear hgn D HG;have q5:=D3.out.at_ 5 rfl;have f5:=bkF D3.out.hf 5);have D4:Hid (DrS b k (20+4*ms.length) w (w3.setCell ⟨f,5,none⟩ (IZ a2 (ms.length+1) c2)) r f zdh #[IQ vn,J P,J (fe*500),J (no*1000),J wi,IZ a2 (ms.length+1) c2] 125):=D3.out.set 5 (IZ a2 (ms.length+1) c2);have HG4:Hid (Grow (w3.setCell ⟨f,5,none⟩ (IZ a2 (ms.length+1) c2)) (f+1) 163 2 (IZ a2 (ms.length+1) c2) (ms.length+1) ((ms++[DMode.mk ne ra]).flatMap DMode.tr) []):=by
     rw[modes_map];exact HG3.out.frame (fun g hg=>bkO rfl (p:=⟨f,5,none⟩) (by have:=(HG3.out.block hg).1;show g≠f;omega) _) (fun x hx=>by simp at hx)
    generalize w3.setCell ⟨f,5,none⟩ (IZ a2 (ms.length+1) c2)=w4 at *;clear D3 HG3 q5 f5;have hbf:b<f+1:=by have:=D4.out.bl;have:=D4.out.lf;omega
    go_wp2_with (fail)
    go_at_call 59
    obtain⟨kk,ka,kb,SS⟩:=D4.out.src;refine (zbe b kk 4000 _ SS II II II).mono ?_;rintro e w5 ⟨⟨x,x0,x1,rfl⟩,hq⟩;have D5:Hid (DrS b k (20+4*ms.length+2) w w5 r f zdh #[IQ vn,J P,J (fe*500),J (no*1000),J wi,IZ a2 (ms.length+1) c2] 125):=D4.out.call ka kb hq;obtain⟨_,_,_,_,cq⟩:=hq;have HG5:=IJ (growChg HG4.out hbf cq);clear D4 HG4 SS ka kb cq;go_wp2_with (fail)
    go_at_call 59
    obtain⟨kk,ka,kb,SS⟩:=D5.out.src;refine (zbe b kk 5000 _ SS II II II).mono ?_;rintro e w6 ⟨⟨y,y0,y1,rfl⟩,hq⟩;have D6:Hid (DrS b k (20+4*ms.length+2+2) w w6 r f zdh #[IQ vn,J P,J (fe*500),J (no*1000),J wi,IZ a2 (ms.length+1) c2] 125):=D5.out.call ka kb hq;obtain⟨_,_,_,_,cq⟩:=hq;have HG6:=IJ (growChg HG5.out hbf cq);clear D5 HG5 SS ka kb cq;have HMS:=IJ (HM.out.step II x0 x1 y0 y1);go_wp2;go_roundw
    case rel =>
     refine⟨m-1,ms++[⟨ne,ra⟩],a2,c2,ne+(x+1),ra+(y+1),II,by rw[List.length_append];simp<;>omega,by congr 1;omega,rfl,rfl,HMS.out,?_,?_⟩
     ·rw[List.length_append]
      exact D6.out.more Q41
     ·rw[List.length_append]
      exact HG6.out
    case measure=>simp only[intOf];omega
end Go.Proofs.YtpakghepnahooaaGreatDoor
namespace Go.Proofs.YtpakghepnahooaaGreatDoor
open Go.RowKit
set_option maxHeartbeats 16000000
set_option maxRecDepth 100000
abbrev zSite:Array Value:=#[IQ ⟨#[]⟩,IQ ⟨#[]⟩,J 0,J 0]
abbrev zcy:Array Value:=#[IQ ⟨#[]⟩,IQ ⟨#[]⟩,IQ ⟨#[]⟩,IQ ⟨#[]⟩,IQ ⟨#[]⟩,J 0,J 0,J 0,J 0]
def DrPlace (b k m:Nat) (w:World) (e:Ending) (w':World):Prop:=∃ px py:Int,(0≤px∧px≤590)∧(0≤py∧py≤590)∧e=.returned (.agg #[J px,J py])∧SrcQ b k m w w'
def DrSite (b k m:Nat) (w:World) (e:Ending) (w':World):Prop:=∃ x:DSite,zbk x=true∧e=.returned (.agg x)∧SrcQ b k m w w'
def DrSector (b k m:Nat) (w:World) (e:Ending) (w':World):Prop:=∃ x:DSector,zag x=true∧e=.returned (.agg x)∧SrcQ b k m w w'
theorem l14DrawPlace_any (b k:Nat) (w:World) (h:Src w b k) (hk:k≤1099511620000):Calls Tryz.prog 58 #[.pointer (some ⟨b,0,none⟩)] w (DrPlace b k 4 w):=by
 have yb:=h.lt;have HS:=IJ h;clear h;go_enter Tryz.func58,Tryz.ntmps58;go_upto_region 1 with (fail);obtain⟨W0,hW0,b0,z0,k0⟩:=zav w #[J 0,J 0] 53;rw[hW0];clear hW0;have HS0:=IJ (HS.out.below HS.out.lt b0);have HC0:Hid (Chg [b] w W0):=Chg.of_below b0;have HK0:=IJ k0;clear b0 k0 HS;go_wp2_with (fail)
 go_at_call 59
 refine (zbe b k 60 W0 HS0.out II II II).mono ?_;rintro e w1 ⟨⟨px,p0,p1,rfl⟩,k1,ka,kb,S1,C1⟩;have HK1:=IJ ((C1.block _ II Q41).trans HK0.out);have HC1:=IJ (HC0.out.trans C1);have HS1:=IJ S1;have z1:=C1.size;clear S1 C1 HK0 HC0 HS0;go_wp2_with (fail)
 go_at_call 59
 refine (zbe b k1 60 w1 HS1.out II II II).mono ?_;rintro e w2 ⟨⟨py,q0,q1,rfl⟩,k2,kc,kd,S2,C2⟩;have HK2:=IJ ((C2.block _ II Q41).trans HK1.out);have HC2:=IJ (HC1.out.trans C2);have HS2:=IJ S2;clear S2 C2 HK1 HC1 HS1;obtain⟨u0,u1,g⟩:=bz2 HK2.out;go_wp2;exact bodyPost_ret (v:=.agg #[J (10*px),J (10*py)]) (by simp[results,Tryz.results58,go_sem, *]) rfl ⟨10*px,10*py,II,II,rfl,SrcQ.low HS2.out yb II II HC2.out (Nat.le_refl _) (zbz w.heap.size [J (10*px),J (10*py)] w2 0)⟩
theorem l14DrawSite_any (b k:Nat) (w:World) (h:Src w b k) (hk:k≤1099511610000):Calls Tryz.prog 92 #[.pointer (some ⟨b,0,none⟩)] w (DrSite b k 8 w):=by
 have yb:=h.lt;have HS:=IJ h;clear h;go_enter Tryz.func92,Tryz.ntmps92;go_upto_region 1 with (fail);obtain⟨W0,hW0,b0,z0,k0⟩:=zav w zSite 119
 dsimp only[zSite] at hW0
 rw[hW0];clear hW0;have HS0:=IJ (HS.out.below HS.out.lt b0);have HC0:Hid (Chg [b] w W0):=Chg.of_below b0;have HK0:=IJ k0;clear b0 k0 HS;go_wp2_with (fail)
 go_at_call 125
 have BA:=zao W0 (.cells #[IQ ⟨#[104,105,108,108]⟩,IQ ⟨#[108,97,107,101]⟩,IQ ⟨#[109,97,115,116]⟩,IQ ⟨#[116,111,119,101,114]⟩,IQ ⟨#[119,101,115,116]⟩] 9);refine (zfb b k [⟨#[104,105,108,108]⟩,⟨#[108,97,107,101]⟩,⟨#[109,97,115,116]⟩,⟨#[116,111,119,101,114]⟩,⟨#[119,101,115,116]⟩] W0.heap.size 5 _ (HS0.out.below HS0.out.lt BA) II II Q4a Q4a (LayS.new W0 _ [⟨#[104,105,108,108]⟩,⟨#[108,97,107,101]⟩,⟨#[109,97,115,116]⟩,⟨#[116,111,119,101,114]⟩,⟨#[119,101,115,116]⟩] 9 rfl)).mono ?_;rintro e w1 ⟨⟨vn,hv,rfl⟩,k1,ka,kb,S1,C1⟩;have h_vn:za8 vn=true:=by
  simp only[List.mem_cons,List.not_mem_nil,or_false] at hv
  rcases hv with rfl|rfl|rfl|rfl|rfl<;>(first|rfl|decide)
 have z1:=C1.size;have zb:=BA.size;have HC1:=IJ ((HC0.out.trans (Chg.of_below BA)).trans C1);have HK1:=IJ ((C1.block _ II Q41).trans (bkB HK0.out BA II));have HS1:=IJ S1;clear S1 C1 BA HS0 HC0 HK0 hv;go_upto_region 2 with (fail);obtain⟨w2,hw2,b2,z2,k2⟩:=zav w1 #[IQ vn,IQ ⟨#[]⟩,J 0,J 0] 119;rw[hw2];clear hw2;obtain⟨r,hr⟩:∃ r,r=w.heap.size:=⟨_,rfl⟩
 obtain⟨f,hf⟩:∃ f,f=w1.heap.size:=⟨_,rfl⟩
 rw[← hr] at HK1;rw[← hf] at k2;have D2:Hid (DrS b k 2 w w2 r f zSite #[IQ vn,IQ ⟨#[]⟩,J 0,J 0] 119):=⟨⟨k1,ka,kb,HS1.out.below HS1.out.lt b2⟩,HC1.out.trans (Chg.of_below b2),bkB HK1.out b2 II,k2,yb,II,II,II⟩
 rw[← hr,← hf];clear b2 k2 HS1 HC1 HK1 ka kb hr hf z2 z1 zb z0;go_wp2_with (fail)
 go_at_call 125
 have BA:=zao w2 (.cells #[IQ ⟨#[111,110,101]⟩,IQ ⟨#[116,119,111]⟩] 9);have DA:=D2.out.below BA;obtain⟨kk,ka,kb,SS⟩:=DA.src;refine (zfb b kk [⟨#[111,110,101]⟩,⟨#[116,119,111]⟩] w2.heap.size 2 _ SS II (by have:=D2.out.bl;have:=D2.out.chg.size;omega) Q4a Q4a (LayS.new w2 _ [⟨#[111,110,101]⟩,⟨#[116,119,111]⟩] 9 rfl)).mono ?_;rintro e w3 ⟨⟨vh,hv,rfl⟩,hq⟩;have D3:Hid (DrS b k 4 w w3 r f zSite #[IQ vn,IQ ⟨#[]⟩,J 0,J 0] 119):=DA.call ka kb hq;have h_vh:za8 vh=true:=by
  simp only[List.mem_cons,List.not_mem_nil,or_false] at hv
  rcases hv with rfl|rfl<;>(first|rfl|decide)
 clear D2 DA SS hq hv BA ka kb;have q1:=D3.out.at_ 1 rfl;have f1:=bkF D3.out.hf 1;go_upto_region 3 with (fail);have D4:Hid (DrS b k 4 w (w3.setCell ⟨f,1,none⟩ (IQ vh)) r f zSite #[IQ vn,IQ vh,J 0,J 0] 119):=(D3.out.set 1 (IQ vh))
 generalize (w3.setCell ⟨f,1,none⟩ (IQ vh))=w4 at *;clear D3 q1 f1;go_wp2_with (fail)
 go_at_call 58
 obtain⟨kk,ka,kb,SS⟩:=D4.out.src;refine (l14DrawPlace_any b kk _ SS II).mono ?_;rintro e w5 ⟨px,py,⟨px0,px1⟩,⟨py0,py1⟩,rfl,hq⟩;have D5:Hid (DrS b k 8 w w5 r f zSite #[IQ vn,IQ vh,J 0,J 0] 119):=D4.out.call ka kb hq;clear D4 SS hq ka kb;have q2:=D5.out.at_ 2 rfl;have f2:=bkF D5.out.hf 2;have q3:=D5.out.at_ 3 rfl;have f3:=bkF D5.out.hf 3;go_upto_region 4 with (fail);have D6:Hid (DrS b k 8 w ((w5.setCell ⟨f,2,none⟩ (J px)).setCell ⟨f,3,none⟩ (J py)) r f zSite #[IQ vn,IQ vh,J px,J py] 119):=((D5.out.set 2 (J px)).set 3 (J py))
 generalize ((w5.setCell ⟨f,2,none⟩ (J px)).setCell ⟨f,3,none⟩ (J py))=w6 at *;clear D5 q2 f2 q3 f3;have t0:=D6.out.at_ 0 rfl;have t1:=D6.out.at_ 1 rfl;have t2:=D6.out.at_ 2 rfl;have t3:=D6.out.at_ 3 rfl;obtain⟨u0,u1,u2,u3,g⟩:=bz4 D6.out.hr;go_wp2;exact bodyPost_ret (v:=.agg #[IQ vn,IQ vh,J px,J py]) (by simp[results,Tryz.results92,go_sem, *]) rfl ⟨⟨vn,vh,⟨px,py⟩⟩,by show (za8 vn&&(za8 vh&&zc1 ⟨px,py⟩))=true;rw[h_vn,h_vh];simp[zc1,inB];omega,rfl,D6.out.fin [IQ vn,IQ vh,J px,J py]⟩
theorem l14DrawSector_any (b k:Nat) (w:World) (h:Src w b k) (hk:k≤1099511610000):Calls Tryz.prog 94 #[.pointer (some ⟨b,0,none⟩)] w (DrSector b k 16 w):=by
 have yb:=h.lt;have HS:=IJ h;clear h;go_enter Tryz.func94,Tryz.ntmps94;go_upto_region 1 with (fail);obtain⟨W0,hW0,b0,z0,k0⟩:=zav w zcy 43
 dsimp only[zcy] at hW0
 rw[hW0];clear hW0;have HS0:=IJ (HS.out.below HS.out.lt b0);have HC0:Hid (Chg [b] w W0):=Chg.of_below b0;have HK0:=IJ k0;clear b0 k0 HS;go_wp2_with (fail)
 go_at_call 125
 have BA:=zao W0 (.cells #[IQ ⟨#[97]⟩,IQ ⟨#[98]⟩,IQ ⟨#[99]⟩,IQ ⟨#[100]⟩,IQ ⟨#[101]⟩,IQ ⟨#[102]⟩] 9);refine (zfb b k [⟨#[97]⟩,⟨#[98]⟩,⟨#[99]⟩,⟨#[100]⟩,⟨#[101]⟩,⟨#[102]⟩] W0.heap.size 6 _ (HS0.out.below HS0.out.lt BA) II II Q4a Q4a (LayS.new W0 _ [⟨#[97]⟩,⟨#[98]⟩,⟨#[99]⟩,⟨#[100]⟩,⟨#[101]⟩,⟨#[102]⟩] 9 rfl)).mono ?_;rintro e w1 ⟨⟨vn,hv,rfl⟩,k1,ka,kb,S1,C1⟩;have h_vn:za8 vn=true:=by
  simp only[List.mem_cons,List.not_mem_nil,or_false] at hv
  rcases hv with rfl|rfl|rfl|rfl|rfl|rfl<;>(first|rfl|decide)
 have z1:=C1.size;have zb:=BA.size;have HC1:=IJ ((HC0.out.trans (Chg.of_below BA)).trans C1);have HK1:=IJ ((C1.block _ II Q41).trans (bkB HK0.out BA II));have HS1:=IJ S1;clear S1 C1 BA HS0 HC0 HK0 hv;go_upto_region 2 with (fail);obtain⟨w2,hw2,b2,z2,k2⟩:=zav w1 #[IQ vn,IQ ⟨#[]⟩,IQ ⟨#[]⟩,IQ ⟨#[]⟩,IQ ⟨#[108,111,119]⟩,J 0,J 0,J 0,J 0] 43;rw[hw2];clear hw2;obtain⟨r,hr⟩:∃ r,r=w.heap.size:=⟨_,rfl⟩
 obtain⟨f,hf⟩:∃ f,f=w1.heap.size:=⟨_,rfl⟩
 rw[← hr] at HK1;rw[← hf] at k2;have D2:Hid (DrS b k 2 w w2 r f zcy #[IQ vn,IQ ⟨#[]⟩,IQ ⟨#[]⟩,IQ ⟨#[]⟩,IQ ⟨#[108,111,119]⟩,J 0,J 0,J 0,J 0] 43):=⟨⟨k1,ka,kb,HS1.out.below HS1.out.lt b2⟩,HC1.out.trans (Chg.of_below b2),bkB HK1.out b2 II,k2,yb,II,II,II⟩
 rw[← hr,← hf];clear b2 k2 HS1 HC1 HK1 ka kb hr hf z2 z1 zb z0;go_wp2_with (fail)
 go_at_call 125
 have BA:=zao w2 (.cells #[IQ ⟨#[104,105,108,108]⟩,IQ ⟨#[108,97,107,101]⟩,IQ ⟨#[109,97,115,116]⟩,IQ ⟨#[116,111,119,101,114]⟩,IQ ⟨#[119,101,115,116]⟩] 9);have DA:=D2.out.below BA;obtain⟨kk,ka,kb,SS⟩:=DA.src;refine (zfb b kk [⟨#[104,105,108,108]⟩,⟨#[108,97,107,101]⟩,⟨#[109,97,115,116]⟩,⟨#[116,111,119,101,114]⟩,⟨#[119,101,115,116]⟩] w2.heap.size 5 _ SS II (by have:=D2.out.bl;have:=D2.out.chg.size;omega) Q4a Q4a (LayS.new w2 _ [⟨#[104,105,108,108]⟩,⟨#[108,97,107,101]⟩,⟨#[109,97,115,116]⟩,⟨#[116,111,119,101,114]⟩,⟨#[119,101,115,116]⟩] 9 rfl)).mono ?_;rintro e w3 ⟨⟨vs,hv,rfl⟩,hq⟩;have D3:Hid (DrS b k 4 w w3 r f zcy #[IQ vn,IQ ⟨#[]⟩,IQ ⟨#[]⟩,IQ ⟨#[]⟩,IQ ⟨#[108,111,119]⟩,J 0,J 0,J 0,J 0] 43):=DA.call ka kb hq;have h_vs:za8 vs=true:=by
  simp only[List.mem_cons,List.not_mem_nil,or_false] at hv
  rcases hv with rfl|rfl|rfl|rfl|rfl<;>(first|rfl|decide)
 clear D2 DA SS hq hv BA ka kb;have q1:=D3.out.at_ 1 rfl;have f1:=bkF D3.out.hf 1;go_upto_region 3 with (fail);have D4:Hid (DrS b k 4 w (w3.setCell ⟨f,1,none⟩ (IQ vs)) r f zcy #[IQ vn,IQ vs,IQ ⟨#[]⟩,IQ ⟨#[]⟩,IQ ⟨#[108,111,119]⟩,J 0,J 0,J 0,J 0] 43):=(D3.out.set 1 (IQ vs))
 generalize (w3.setCell ⟨f,1,none⟩ (IQ vs))=w4 at *;clear D3 q1 f1;go_wp2_with (fail)
 go_at_call 125
 have BA:=zao w4 (.cells #[IQ ⟨#[98,101,97,109]⟩,IQ ⟨#[111,109,110,105]⟩,IQ ⟨#[98,101,97,109]⟩] 9);have DA:=D4.out.below BA;obtain⟨kk,ka,kb,SS⟩:=DA.src;refine (zfb b kk [⟨#[98,101,97,109]⟩,⟨#[111,109,110,105]⟩,⟨#[98,101,97,109]⟩] w4.heap.size 3 _ SS II (by have:=D4.out.bl;have:=D4.out.chg.size;omega) Q4a Q4a (LayS.new w4 _ [⟨#[98,101,97,109]⟩,⟨#[111,109,110,105]⟩,⟨#[98,101,97,109]⟩] 9 rfl)).mono ?_;rintro e w5 ⟨⟨va,hv,rfl⟩,hq⟩;have D5:Hid (DrS b k 6 w w5 r f zcy #[IQ vn,IQ vs,IQ ⟨#[]⟩,IQ ⟨#[]⟩,IQ ⟨#[108,111,119]⟩,J 0,J 0,J 0,J 0] 43):=DA.call ka kb hq;have h_va:za8 va=true:=by
  simp only[List.mem_cons,List.not_mem_nil,or_false] at hv
  rcases hv with rfl|rfl|rfl<;>(first|rfl|decide)
 clear D4 DA SS hq hv BA ka kb;have q2:=D5.out.at_ 2 rfl;have f2:=bkF D5.out.hf 2;go_upto_region 4 with (fail);have D6:Hid (DrS b k 6 w (w5.setCell ⟨f,2,none⟩ (IQ va)) r f zcy #[IQ vn,IQ vs,IQ va,IQ ⟨#[]⟩,IQ ⟨#[108,111,119]⟩,J 0,J 0,J 0,J 0] 43):=(D5.out.set 2 (IQ va))
 generalize (w5.setCell ⟨f,2,none⟩ (IQ va))=w6 at *;clear D5 q2 f2;go_wp2_with (fail)
 go_at_call 125
 have BA:=zao w6 (.cells #[IQ ⟨#[98,105,103]⟩,IQ ⟨#[115,109,97,108,108]⟩,IQ ⟨#[98,105,103]⟩] 9);have DA:=D6.out.below BA;obtain⟨kk,ka,kb,SS⟩:=DA.src;refine (zfb b kk [⟨#[98,105,103]⟩,⟨#[115,109,97,108,108]⟩,⟨#[98,105,103]⟩] w6.heap.size 3 _ SS II (by have:=D6.out.bl;have:=D6.out.chg.size;omega) Q4a Q4a (LayS.new w6 _ [⟨#[98,105,103]⟩,⟨#[115,109,97,108,108]⟩,⟨#[98,105,103]⟩] 9 rfl)).mono ?_;rintro e w7 ⟨⟨vr,hv,rfl⟩,hq⟩;have D7:Hid (DrS b k 8 w w7 r f zcy #[IQ vn,IQ vs,IQ va,IQ ⟨#[]⟩,IQ ⟨#[108,111,119]⟩,J 0,J 0,J 0,J 0] 43):=DA.call ka kb hq;have h_vr:za8 vr=true:=by
  simp only[List.mem_cons,List.not_mem_nil,or_false] at hv
  rcases hv with rfl|rfl|rfl<;>(first|rfl|decide)
 clear D6 DA SS hq hv BA ka kb;have q3:=D7.out.at_ 3 rfl;have f3:=bkF D7.out.hf 3;go_upto_region 5 with (fail);have D8:Hid (DrS b k 8 w (w7.setCell ⟨f,3,none⟩ (IQ vr)) r f zcy #[IQ vn,IQ vs,IQ va,IQ vr,IQ ⟨#[108,111,119]⟩,J 0,J 0,J 0,J 0] 43):=(D7.out.set 3 (IQ vr))
 generalize (w7.setCell ⟨f,3,none⟩ (IQ vr))=w8 at *;clear D7 q3 f3;go_wp2_with (fail)
 go_at_call 59
 obtain⟨kk,ka,kb,SS⟩:=D8.out.src;refine (zbe b kk 36 _ SS II II II).mono ?_;rintro e w9 ⟨⟨az,az0,az1,rfl⟩,hq⟩;have D9:Hid (DrS b k 10 w w9 r f zcy #[IQ vn,IQ vs,IQ va,IQ vr,IQ ⟨#[108,111,119]⟩,J 0,J 0,J 0,J 0] 43):=D8.out.call ka kb hq;clear D8 SS hq ka kb;have q5:=D9.out.at_ 5 rfl;have f5:=bkF D9.out.hf 5;go_upto_region 6 with (fail);have D10:Hid (DrS b k 10 w (w9.setCell ⟨f,5,none⟩ (J (10*az))) r f zcy #[IQ vn,IQ vs,IQ va,IQ vr,IQ ⟨#[108,111,119]⟩,J (10*az),J 0,J 0,J 0] 43):=(D9.out.set 5 (J (10*az)))
 generalize (w9.setCell ⟨f,5,none⟩ (J (10*az)))=w10 at *;clear D9 q5 f5;go_wp2_with (fail)
 go_at_call 59
 obtain⟨kk,ka,kb,SS⟩:=D10.out.src;refine (zbe b kk 12 _ SS II II II).mono ?_;rintro e w11 ⟨⟨ti,ti0,ti1,rfl⟩,hq⟩;have D11:Hid (DrS b k 12 w w11 r f zcy #[IQ vn,IQ vs,IQ va,IQ vr,IQ ⟨#[108,111,119]⟩,J (10*az),J 0,J 0,J 0] 43):=D10.out.call ka kb hq;clear D10 SS hq ka kb;have q6:=D11.out.at_ 6 rfl;have f6:=bkF D11.out.hf 6;go_upto_region 7 with (fail);have D12:Hid (DrS b k 12 w (w11.setCell ⟨f,6,none⟩ (J ti)) r f zcy #[IQ vn,IQ vs,IQ va,IQ vr,IQ ⟨#[108,111,119]⟩,J (10*az),J ti,J 0,J 0] 43):=(D11.out.set 6 (J ti))
 generalize (w11.setCell ⟨f,6,none⟩ (J ti))=w12 at *;clear D11 q6 f6;go_wp2_with (fail)
 go_at_call 59
 obtain⟨kk,ka,kb,SS⟩:=D12.out.src;refine (zbe b kk 500 _ SS II II II).mono ?_;rintro e w13 ⟨⟨ab,ab0,ab1,rfl⟩,hq⟩;have D13:Hid (DrS b k 14 w w13 r f zcy #[IQ vn,IQ vs,IQ va,IQ vr,IQ ⟨#[108,111,119]⟩,J (10*az),J ti,J 0,J 0] 43):=D12.out.call ka kb hq;clear D12 SS hq ka kb;have q7:=D13.out.at_ 7 rfl;have f7:=bkF D13.out.hf 7;go_upto_region 8 with (fail);have D14:Hid (DrS b k 14 w (w13.setCell ⟨f,7,none⟩ (J (100+ab))) r f zcy #[IQ vn,IQ vs,IQ va,IQ vr,IQ ⟨#[108,111,119]⟩,J (10*az),J ti,J (100+ab),J 0] 43):=(D13.out.set 7 (J (100+ab)))
 generalize (w13.setCell ⟨f,7,none⟩ (J (100+ab)))=w14 at *;clear D13 q7 f7;go_wp2_with (fail)
 go_at_call 59
 obtain⟨kk,ka,kb,SS⟩:=D14.out.src;refine (zbe b kk 12 _ SS II II II).mono ?_;rintro e w15 ⟨⟨ch,ch0,ch1,rfl⟩,hq⟩;have D15:Hid (DrS b k 16 w w15 r f zcy #[IQ vn,IQ vs,IQ va,IQ vr,IQ ⟨#[108,111,119]⟩,J (10*az),J ti,J (100+ab),J 0] 43):=D14.out.call ka kb hq;clear D14 SS hq ka kb;have q8:=D15.out.at_ 8 rfl;have f8:=bkF D15.out.hf 8;go_upto_region 9 with (fail);have D16:Hid (DrS b k 16 w (w15.setCell ⟨f,8,none⟩ (J (ch-1))) r f zcy #[IQ vn,IQ vs,IQ va,IQ vr,IQ ⟨#[108,111,119]⟩,J (10*az),J ti,J (100+ab),J (ch-1)] 43):=(D15.out.set 8 (J (ch-1)))
 generalize (w15.setCell ⟨f,8,none⟩ (J (ch-1)))=w16 at *;clear D15 q8 f8;have t0:=D16.out.at_ 0 rfl;have t1:=D16.out.at_ 1 rfl;have t2:=D16.out.at_ 2 rfl;have t3:=D16.out.at_ 3 rfl;have t4:=D16.out.at_ 4 rfl;have t5:=D16.out.at_ 5 rfl;have t6:=D16.out.at_ 6 rfl;have t7:=D16.out.at_ 7 rfl;have t8:=D16.out.at_ 8 rfl;obtain⟨u0,u1,u2,u3,u4,u5,u6,u7,u8,g⟩:=bz9 D16.out.hr;go_wp2;exact bodyPost_ret (v:=.agg #[IQ vn,IQ vs,IQ va,IQ vr,IQ ⟨#[108,111,119]⟩,J (10*az),J ti,J (100+ab),J (ch-1)]) (by simp[results,Tryz.results94,go_sem, *]) rfl ⟨⟨vn,vs,va,vr,⟨#[108,111,119]⟩,10*az,ti,100+ab,ch-1⟩,by show (za8 vn&&(za8 vs&&(za8 va&&(za8 vr&&(za8 ⟨#[108,111,119]⟩&&(inB (10*az) 0 359&&(inB ti 0 30&&(inB (100+ab) 1 3000&&inB (ch-1) (-1) 999))))))))=true;rw[h_vn,h_vs,h_va,h_vr,show za8 ⟨#[108,111,119]⟩=true by first|rfl|decide];simp[inB];omega,rfl,D16.out.fin [IQ vn,IQ vs,IQ va,IQ vr,IQ ⟨#[108,111,119]⟩,J (10*az),J ti,J (100+ab),J (ch-1)]⟩
end Go.Proofs.YtpakghepnahooaaGreatDoor
