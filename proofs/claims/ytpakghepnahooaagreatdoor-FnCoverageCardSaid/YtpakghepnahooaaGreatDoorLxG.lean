/- Contract: SectorLevels, for the program. Conditions: bounded sizes; what the tables hold. -/
import Derived.Test.YtpakghepnahooaaGreatDoorLwD
set_option linter.unusedVariables false
set_option linter.unusedSimpArgs false
namespace Go.Proofs.YtpakghepnahooaaGreatDoor
open Go.RowKit
theorem Q39 {p:Prop} (h:p:=by simp[results,Tryz.results8,go_sem, *]):p:=h
theorem Q45 {p:Prop} (h:p:=by simp[hy]):p:=h
theorem bestC_more (m:List (List Int)) {least more:Int} (h:least≤more) (c:Nat):(k:Nat) →
  ((zb8 m more c k=zb8 m least c k∧0≤(zb8 m least c k).1∧more≤(zb8 m least c k).2)∨(zb8 m more c k=(-1,-300000)∧((zb8 m least c k).1<0∨(zb8 m least c k).2<more)))
 | 0=>Or.inr ⟨rfl,Or.inl (by show (-1:Int)<0;decide)⟩
 | k+1=>by
  have ih:=bestC_more m h c k;show ((zfc more (k:Int) (gi (rowI m k) c) (zb8 m more c k)=zfc least (k:Int) (gi (rowI m k) c) (zb8 m least c k)∧0≤(zfc least (k:Int) (gi (rowI m k) c) (zb8 m least c k)).1∧more≤(zfc least (k:Int) (gi (rowI m k) c) (zb8 m least c k)).2)∨(zfc more (k:Int) (gi (rowI m k) c) (zb8 m more c k)=(-1,-300000)∧((zfc least (k:Int) (gi (rowI m k) c) (zb8 m least c k)).1<0∨(zfc least (k:Int) (gi (rowI m k) c) (zb8 m least c k)).2<more)))
  generalize gi (rowI m k) c=v;generalize zb8 m least c k=s at *;generalize zb8 m more c k=s' at *;unfold zfc
  rcases ih with ⟨e,h1,h2⟩|⟨e,h1⟩
  ·subst e
   by_cases hv:s'.2<v
   ·rw[if_pos ⟨II,Or.inr hv⟩,if_pos ⟨II,Or.inr hv⟩]
    exact Or.inl ⟨rfl,by simp,by simp<;>omega⟩
   ·rw[if_neg (fun hh=>by rcases hh.2 with r|r<;>omega),if_neg (fun hh=>by rcases hh.2 with r|r<;>omega)]
    exact Or.inl ⟨rfl,h1,h2⟩
  ·subst e
   by_cases hv:more≤v
   ·rw[if_pos ⟨hv,Or.inl Q4a⟩,if_pos ⟨II,by rcases h1 with r|r;exact Or.inl r;exact Or.inr II⟩]
    exact Or.inl ⟨rfl,by simp,by simpa using hv⟩
   ·rw[if_neg (fun hh=>hv hh.1)]
    by_cases hs:least≤v∧(s.1<0∨s.2<v)
    ·rw[if_pos hs]
     exact Or.inr ⟨rfl,Or.inr Q41⟩
    ·rw[if_neg hs]
     exact Or.inr ⟨rfl,h1⟩
theorem bestC_in (m:List (List Int)) (least:Int) (c:Nat) (hm:∀ k,k<m.length→-300000≤gi (rowI m k) c∧gi (rowI m k) c≤300000):(k:Nat)→k≤m.length →
  (zb8 m least c k=(-1,-300000)∨(0≤(zb8 m least c k).1∧(zb8 m least c k).1<(k:Int)∧least≤(zb8 m least c k).2∧-300000≤(zb8 m least c k).2∧(zb8 m least c k).2≤300000))
 | 0,_=>Or.inl rfl
 | k+1,hk=>by
  have ih:=bestC_in m least c hm k II;have hv:=hm k II;show (zfc least (k:Int) (gi (rowI m k) c) (zb8 m least c k)=(-1,-300000)∨(0≤(zfc least (k:Int) (gi (rowI m k) c) (zb8 m least c k)).1∧(zfc least (k:Int) (gi (rowI m k) c) (zb8 m least c k)).1<((k+1:Nat):Int)∧least≤(zfc least (k:Int) (gi (rowI m k) c) (zb8 m least c k)).2∧-300000≤(zfc least (k:Int) (gi (rowI m k) c) (zb8 m least c k)).2∧(zfc least (k:Int) (gi (rowI m k) c) (zb8 m least c k)).2≤300000))
  generalize gi (rowI m k) c=v at *;generalize zb8 m least c k=s at *;unfold zfc
  by_cases hs:least≤v∧(s.1<0∨s.2<v)
  ·rw[if_pos hs]
   refine Or.inr ⟨?_,?_,?_,?_,?_⟩
   ·show (0:Int)≤(k:Int);omega
   ·show (k:Int)<((k+1:Nat):Int);omega
   ·exact hs.1
   ·exact hv.1
   ·exact hv.2
  ·rw[if_neg hs]
   rcases ih with e|⟨a,b,c1,d,e⟩
   ·exact Or.inl e
   ·exact Or.inr ⟨a,II,c1,d,e⟩
set_option maxHeartbeats 8000000
set_option maxRecDepth 100000
def RowsOk (N:Nat) (m:List (List Int)):Prop:=∀ k,k<m.length→(rowI m k).length=N∧((rowI m k).all fun n=>inB n (-300000) 300000)=true
theorem indexFuncR_none (m:List (List Int)) (fn:FuncId) (cap:List Value) (v:Value) (w:World) (h:Rd w w (intssT m) v) (hn:m.length≤1099511627776)
  (hcf:∀ (args:Array Value) (W:World),(callFunc fn args).run Tryz.prog W=.ok (.enter fn args) W)
  (hf:∀ k,k<m.length→∀ (u:Value) (W:World),OI w w W→Rd W W (zam (rowI m k)) u→Calls Tryz.prog fn (u::cap).toArray W fun e W'=>e=.returned (.bool false)∧OI W W W') :
  Calls Tryz.prog 81 #[v,.func (.func fn) #[] cap.toArray] w fun e w'=>e=.returned (J (-1))∧OI w w w':=by
 obtain⟨a,c,rfl,hnc,hcm,hcells⟩:=h.intss;have hnb:(m.length:Int)≤1099511627776:=II
 have HC:Hid (∀ k,k<m.length→∃ bm om u,a=some ⟨bm,om,none⟩∧bm<w.heap.size∧(w,bm,om+k,u)∧∀ W:World,OI w w W→Calls Tryz.prog fn (u::cap).toArray W fun e W'=>e=.returned (.bool false)∧OI W W W'):=fun k hk=>by
  obtain⟨bm,om,ea,hbm,hat⟩:=hcells II;obtain⟨u,hu,ru⟩:=hat k hk;rw[rowI_eq hk] at ru;exact⟨bm,om,u,ea,hbm,hu,fun W hW=>hf k hk u W hW ((ru.below hW).mono hW.size)⟩
 clear h hf hcells;go_enter Tryz.func81,Tryz.ntmps81;go_wp2;go_loopw [8] (fun i wr=>∃ (k:Nat),k≤m.length∧i=J k∧OI w w wr) (fun i wr=>m.length-(intOf i).toNat)
 case atStart=>exact⟨0,Nat.zero_le _,rfl,Below.refl _ _⟩
 case round =>
  obtain⟨k,hk,rfl,hb⟩:=hrel
  by_cases hlt:k<m.length
  ·obtain⟨b,off,u,rfl,hbl,s0,hcf2⟩:=HC.out k hlt
   rw[← hb.cell (p:=⟨b,_,none⟩) (show b<w.heap.size by omega)] at s0;have HB:=IJ hb;have HF:=IJ hcf2;clear HC hb hcf2;go_wp2_with fail;refine (HF.out _ HB.out).mono ?_;rintro e w1 ⟨rfl,hb1⟩;have HB1:=btr HB hb1;clear hb1;go_wp2;go_roundw
   case rel=>exact⟨k+1,II,by go_num,HB1.out⟩
   case measure=>simp[intOf];omega
  ·obtain rfl:k=m.length:=II
   clear HC;go_wp2;go_ret;exact⟨rfl,hb⟩
theorem containsFuncR_none (m:List (List Int)) (fn:FuncId) (cap:List Value) (v:Value) (w:World) (h:Rd w w (intssT m) v) (hn:m.length≤1099511627776)
  (hcf:∀ (args:Array Value) (W:World),(callFunc fn args).run Tryz.prog W=.ok (.enter fn args) W)
  (hf:∀ k,k<m.length→∀ (u:Value) (W:World),OI w w W→Rd W W (zam (rowI m k)) u→Calls Tryz.prog fn (u::cap).toArray W fun e W'=>e=.returned (.bool false)∧OI W W W') :
  Calls Tryz.prog 44 #[v,.func (.func fn) #[] cap.toArray] w fun e w'=>e=.returned (.bool false)∧OI w w w':=by
 have HC:=IJ (indexFuncR_none m fn cap v w h hn hcf hf);clear hf h hcf;go_enter Tryz.func44,Tryz.ntmps44;go_wp2_with fail;refine (HC.out).mono ?_;rintro e w1 ⟨rfl,hb1⟩;go_wp2;go_ret;exact⟨rfl,hb1⟩
theorem wrongRow_any (l:List Int) (wd ht:Int) (hN:wd*ht=(l.length:Int)) (h576:(l.length:Int)≤576) (hin:(l.all fun n=>inB n (-300000) 300000)=true) (B0 B1:Nat) (v:Value) (w:World) (h:Rd w w (zam l) v) (c0:w.cell? ⟨B0,0,none⟩=some (J wd)) (c1:w.cell? ⟨B1,0,none⟩=some (J ht)) :
  Calls Tryz.prog 42 #[v,.pointer (some ⟨B0,0,none⟩),.pointer (some ⟨B1,0,none⟩)] w fun e w'=>e=.returned (.bool false)∧OI w w w':=by
 have HA:=IJ (zck l (-300000) 300000 v w.heap.size w h (Nat.le_refl _) II);rw[hin] at HA;obtain⟨a,c,rfl,_,_,_⟩:=h.ints;clear h hin;have hw_:IntKind.i64.wrap (l.length:Int)=(l.length:Int):=IntWalk.i64_in _ II;go_enter Tryz.func42,Tryz.ntmps42;go_wp2_with fail
 go_at_call 43
 refine (HA.out).mono ?_;rintro e w1 ⟨rfl,hb1⟩;go_wp2;go_ret;exact⟨rfl,hb1⟩
theorem bestServers_ok (st wd ht least:Int) (m:List (List Int)) (N:Nat) (hz:ze0 st wd ht=true) (hl:inB least (-300000) 300000=true) (hN:(N:Int)=wd*ht) (h576:N≤576) (hrow:RowsOk N m) (hm:m.length≤24) (vm:Value) (w:World) (rm:Rd w w (intssT m) vm) :
  Calls Tryz.prog 10 #[J st,J wd,J ht,vm,J least] w fun e w'=>∃ (a0:Option Addr) (c0:Nat) (a1:Option Addr) (c1:Nat) (fp:List Nat),e=.returned (.tuple #[.agg #[J st,J wd,J ht,IZ a0 N c0,IZ a1 N c1],J 0])∧OI w w w'∧OwnV w' [zam (srvC m least N m.length),zam (lvlC m least N m.length)] [IZ a0 N c0,IZ a1 N c1] fp∧In w w'.heap.size fp:=by
 obtain⟨W0,hW0,b0,z0,k0,k1,k2⟩:=boxes3 w #[J wd] 2 #[J ht] 2 #[J 0,J 0,J 0,IZ none 0 0,IZ none 0 0] 36;have B0:=IJ b0;have K2:=IJ k2;have HD:Hid (∀ W:World,OI W0 W0 W→(W,w.heap.size,0,J wd)∧(W,w.heap.size+1,0,J ht)):=fun W hW=>⟨bkW k0 hW 0 rfl,bkW k1 hW 0 rfl⟩
 have HB:Hid (OI W0 W0 W0):=Below.refl _ _;obtain⟨am,cm,em,_,_,_⟩:=rm.intss;subst em;have CZ:Hid (∀ W:World,Calls Tryz.prog 41 #[J st,J wd,J ht] W fun e w'=>e=.returned (.bool true)∧W=w'):=fun W=>by
  have h:=zdp st wd ht W;rw[hz] at h;exact h
 have CL:Hid (∀ W:World,Calls Tryz.prog 35 #[J least] W fun e w'=>e=.returned (.bool true)∧W=w'):=fun W=>by
  have h:=validLevel_any least W;rw[hl] at h;exact h
 have CF:Hid (∀ W:World,OI W0 W0 W→Calls Tryz.prog 44 #[IZ am m.length cm,.func (.func 42) #[] #[.pointer (some ⟨w,0,none⟩),.pointer (some ⟨w.heap.size+1,0,none⟩)]] W fun e w'=>e=.returned (.bool false)∧OI W W w'):=fun W hW=>by
  have hb:=b0.trans (hW.mono b0.size);refine containsFuncR_none m 42 [.pointer (some ⟨w,0,none⟩),.pointer (some ⟨w.heap.size+1,0,none⟩)] (IZ am m.length cm) W ((rm.below hb).mono hb.size) II (fun _ _=>by kernel_rfl) (fun k hk u X hX ru=>?_);obtain⟨q0,q1⟩:=HD.out X (btr hW hX).out;obtain⟨h1,h2⟩:=hrow k hk;exact wrongRow_any (rowI m k) wd ht (by rw[h1];exact hN.symm) (by rw[h1];omega) h2 _ _ u X ru q0 q1
 have CB:Hid (∀ W:World,OI W0 W0 W→Calls Tryz.prog 39 #[J st,J wd,J ht,IZ am m.length cm,J least] W fun e w'=>∃ (a0:Option Addr) (c0:Nat) (a1:Option Addr) (c1:Nat) (fp:List Nat),e=.returned (.agg #[J st,J wd,J ht,IZ a0 N c0,IZ a1 N c1])∧OI W W w'∧OwnV w' [zam (srvC m least N m.length),zam (lvlC m least N m.length)] [IZ a0 N c0,IZ a1 N c1] fp∧In W w'.heap.size fp):=fun W hW=>by
  have hb:=b0.trans (hW.mono b0.size);exact bestServers_any st wd ht least m N hN h576 (fun k hk=>(hrow k hk).1) hm _ W ((rm.below hb).mono hb.size)
 have hmi:(m.length:Int)≤24:=II
 clear b0 k0 k1 k2 rm hrow hz hl hN;generalize srvC m least N m.length=SV at *;generalize lvlC m least N m.length=LV at *;go_enter Tryz.func10,Tryz.ntmps10;go_upto_region 1 with (fail);clear hW0;obtain⟨t0,t1⟩:=HD.out _ HB.out;go_wp2_with (fail)
 go_at_call 41
 refine (CZ.out _).mono ?_;rintro e w2 ⟨rfl,rfl⟩;go_wp2_with (fail)
 go_at_call 35
 refine (CL.out _).mono ?_;rintro e w2 ⟨rfl,rfl⟩;go_wp2_with (fail)
 go_at_call 44
 refine (CF.out _ HB.out).mono ?_;rintro e w3 ⟨rfl,hb⟩;replace HB:=btr HB hb;clear hb t0 t1;obtain⟨t0,t1⟩:=HD.out _ HB.out;go_wp2_with (fail)
 go_at_call 39
 refine (CB.out _ HB.out).mono ?_;rintro e w4 ⟨a0,c0,a1,c1,fp,rfl,hb,ho,hi⟩;have z3:=HB.out.size;have HI:=IJ hi;have HO:=IJ ho;replace HB:=btr HB hb;have z4:=hb.size;clear hb t0 t1 ho hi;have hz:=IJ (bkB K2.out HB.out II);obtain⟨r0,r1,r2,r3,r4,rf⟩:=bz5 hz.out;have hnf:w.heap.size+2 ∉ fp:=fun hm=>by have:=(HI.out _ hm).1;omega
 go_wp2_with (fail);refine bodyPost_ret (v:=.tuple #[.agg #[J st,J wd,J ht,IZ a0 N c0,IZ a1 N c1],J 0]) (by simp[results,Tryz.results10,go_sem, *]) rfl ⟨a0,c0,a1,c1,fp,rfl,?_,?_,?_⟩
 ·exact bset (bset (bset (bset (bset (B0.out.trans (HB.out.mono B0.out.size)) II _ _) II _ _) II _ _) II _ _) II _ _
 ·exact ((((HO.out.setFar (p:=⟨w.heap.size+1+1,0,none⟩) hnf _).setFar (p:=⟨w.heap.size+1+1,1,none⟩) hnf _).setFar (p:=⟨w.heap.size+1+1,2,none⟩) hnf _).setFar (p:=⟨w.heap.size+1+1,3,none⟩) hnf _).setFar (p:=⟨w.heap.size+1+1,4,none⟩) hnf _
 ·simp only[zac]
  exact HI.out.mono (by have:=B0.out.size;omega) (Nat.le_refl _)
theorem own_zero (w:World):OwnV w zeroRas.tr [J 0,J 0,J 0,IZ none 0 0,IZ none 0 0] [] :=
 ownV_ras 0 0 0 (OwnV.cons (f:=[]) (zew w) (OwnV.cons (f:=[]) (zew w) OwnV.nil (fun y hy=>by simp at hy)) (fun y hy=>by simp at hy))
theorem sector_self {n:DNetwork} (h:netB n=true) {k:Nat} (hk:k<n.sectors.length):zay n.sectors (zad n.sectors k).name=(k:Int):=by
 rcases idx_two n.sectors (zad n.sectors k).name with e|⟨j,hj,e⟩
 ·have:=sector_none e hk
  simp at this
 ·have:=sector_eq h hj e hk
  simp at this;rw[e,this]
theorem sector_small {n:DNetwork} (h:netB n=true) {k:Nat} (hk:k<n.sectors.length):(zad n.sectors k).name.size≤1048576:=by
 obtain⟨ka,kr,hp⟩:=zc2 h hk;have hs:=hp.sec;unfold zag at hs;simp only[Bool.and_eq_true] at hs;have hn:=hs.1;unfold za8 at hn;simp only[Bool.and_eq_true,decide_eq_true_eq] at hn;omega
theorem rd_two {w:World} {S L:List Int} {va vb:Value} {fp:List Nat} {lo hi:Nat} (h:OwnV w [zam S,zam L] [va,vb] fp) (hi':In lo hi fp):Rd hi w (zam S) va∧Rd hi w (zam L) vb:=by
 obtain⟨f,g,e,h1,h2,_⟩:=h.uncons;obtain⟨f2,g2,e2,h3,_,_⟩:=h2.uncons;subst e e2;exact⟨h1.rd (fun y hy=>hi' y Q45),h3.rd (fun y hy=>hi' y Q45)⟩
end Go.Proofs.YtpakghepnahooaaGreatDoor
namespace Go.Proofs.YtpakghepnahooaaGreatDoor
open Go.RowKit
theorem lineR_nn {x0 y0 x1 y1:Int} (h0:0≤y0) (h1:0≤y1) (x:Int):0≤lineR x0 y0 x1 y1 x:=by
 unfold lineR
 split
 ·exact h0
 ·rename_i h
  split
  ·exact h1
  ·rename_i h2
   obtain⟨u,hu⟩:∃ u,u=x-x0:=⟨_,rfl⟩
   obtain⟨b,hb⟩:∃ b,b=x1-x0:=⟨_,rfl⟩
   rw[← hu,← hb];have a1:0≤y1*u:=Int.mul_nonneg h1 II;have a2:y0*u≤y0*b:=Int.mul_le_mul_of_nonneg_left II h0;have a3:(y1-y0)*u=y1*u-y0*u:=Int.sub_mul _ _ _;have a4:(y0+1)*(2*b)=2*(y0*b)+2*b:=by rw[Int.add_mul,Int.one_mul,← Int.mul_assoc,Int.mul_comm y0 2,Int.mul_assoc]
   unfold rdiv
   split
   ·have:=Int.ediv_lt_of_lt_mul (a:=b-2*((y1-y0)*u)) (b:=y0+1) (c:=2*b) II II
    omega
   ·have:=Int.ediv_nonneg (a:=2*((y1-y0)*u)+b) (b:=2*b) II II
    omega
theorem gasX_nn (x:Int):0≤gasX x:=lineR_nn (gV_bd _).1 (gV_bd _).1 _
theorem gasI_nn {f d:Int} (h:0≤d):0≤gasI f d:=by
 have:=Int.mul_nonneg (gasX_nn (f / 1000)) h;unfold gasI rdiv;rw[if_neg II];exact Int.ediv_nonneg II II
theorem pathT_nn {t:DTerrain} {a b:DEnd} {f:Int} (ha:endP a) (hb:endP b):0≤pathT t a b f:=by
 unfold endP at ha hb;have h1:=gasI_nn (f:=f) (d:=zcr a.place b.place) (ze7 _);have h2:=deyP_bd (zeh t a b) f;have h3:=cluI_bd (c:=cAt t a.place) (f:=f) (above:=a.above) II;have h4:=cluI_bd (c:=cAt t b.place) (f:=f) (above:=b.above) II;have h5:0≤freeI f (zcr a.place b.place):=by unfold freeI;omega
 unfold pathT;omega
theorem gvI_bd (t:DTerrain) {n:DNetwork} (hV:netB n=true) {k:Nat} (hk:k<n.sectors.length) (f:Int) {ab:Int} (hab:1≤ab∧ab≤3000) (p:DPoint):-300000≤gvI t n (zad n.sectors k) f ⟨p,ab⟩∧gvI t n (zad n.sectors k) f ⟨p,ab⟩≤300000:=by
 obtain⟨ka,kr,hp⟩:=zc2 hV hk;unfold gvI
 split
 ·have h1:=eirpN_bd hp (zfi (endR n (zad n.sectors k)).place p) (pathE t (endR n (zad n.sectors k)) ⟨p,ab⟩)
  have h2:=pathT_nn (t:=t) (a:=endR n (zad n.sectors k)) (b:=⟨p,ab⟩) (f:=f) (sector_above hV hk) hab;have h3:levI t n (zad n.sectors k) f ⟨p,ab⟩=eirpN n (zad n.sectors k) (zfi (endR n (zad n.sectors k)).place p) (pathE t (endR n (zad n.sectors k)) ⟨p,ab⟩)-pathT t (endR n (zad n.sectors k)) ⟨p,ab⟩ f:=rfl;omega
 ·exact pgI_bd hp
theorem rows_cov (t:DTerrain) {n:DNetwork} (hV:netB n=true) (f:Int) {ab:Int} (hab:1≤ab∧ab≤3000):RowsOk (zcf t) (covL t n f ab):=fun k hk=>by
 rw[covL_len] at hk
 rw[covL_at t n f ab hk]
 refine⟨ze9 _ _ _ _ _,?_⟩
 rw[List.all_eq_true]
 intro y hy
 unfold zdg at hy
 rw[List.mem_map] at hy
 obtain⟨i,_,rfl⟩:=hy
 exact zaq.2 (gvI_bd t hV hk f hab _)
section
variable {N:Nat} {m:List (List Int)}
theorem RowsOk.at (h:RowsOk N m) {c:Nat} (hc:c<N) (k:Nat) (hk:k<m.length):-300000≤gi (rowI m k) c∧gi (rowI m k) c≤300000:=by
 obtain⟨h1,h2⟩:=h k hk;rw[List.all_eq_true] at h2;have h3:=h2 _ (List.getElem_mem (show c<(rowI m k).length by omega));rw[gi_eq II] at h3;exact zaq.1 h3
theorem best_at (h:RowsOk N m) (least:Int) {c:Nat} (hc:c<N):zb8 m least c m.length=(-1,-300000)∨(0≤(zb8 m least c m.length).1∧(zb8 m least c m.length).1<(m.length:Int)∧least≤(zb8 m least c m.length).2∧-300000≤(zb8 m least c m.length).2∧(zb8 m least c m.length).2≤300000):=bestC_in m least c (h.at hc) m.length (Nat.le_refl _)
theorem ras_ok {st wd ht:Int} (h:RowsOk N m) (hz:ze0 st wd ht=true) (hN:(N:Int)=wd*ht) (hm:m.length≤24) (least:Int):RasOk st wd ht (srvC m least N m.length) (lvlC m least N m.length) where
 size:=hz
 len:=by rw[zda];exact hN.symm
 same:=by rw[zda,zei]
 srv:=by
  rw[List.all_eq_true];intro y hy;unfold srvC at hy;rw[List.mem_map] at hy;obtain⟨i,hi,rfl⟩:=hy;refine zaq.2 ?_
  rcases best_at h least (List.mem_range.1 hi) with e|⟨a,b,_⟩
  ·rw[e];exact⟨by decide,by decide⟩
  ·exact⟨II,II⟩
 lev:=by
  rw[List.all_eq_true];intro y hy;unfold lvlC at hy;rw[List.mem_map] at hy;obtain⟨i,hi,rfl⟩:=hy;refine zaq.2 ?_
  rcases best_at h least (List.mem_range.1 hi) with e|⟨_,_,_,a,b⟩
  ·rw[e];exact⟨by decide,by decide⟩
  ·exact⟨a,b⟩
 low:=fun i hi hs=>by
  rw[zda] at hi;simp only[srvC,lvlC,List.getElem_map,List.getElem_range] at hs ⊢
  rcases best_at h least hi with e|⟨a,_⟩
  ·rw[e]
  ·omega
theorem ras_level (h:RowsOk N m) (least:Int) {c:Nat} (hc:c<N) (hs:0≤gi (srvC m least N m.length) c):least≤gi (lvlC m least N m.length) c:=by
 rw[srvC_gi hc] at hs;rw[lvlC_gi hc]
 rcases best_at h least hc with e|⟨_,_,a,_⟩
 ·rw[e] at hs;exact absurd hs Q47
 ·exact a
theorem ras_more (least more:Int) (hm:least≤more):∀ (k:Nat) (h:k<(srvC m least N m.length).length),((srvC m more N m.length)[k]'(by rw[zda] at h ⊢;exact h)=(srvC m least N m.length)[k]∧(lvlC m more N m.length)[k]'(by rw[zda] at h;rw[zei];exact h)=(lvlC m least N m.length)[k]'(by rw[zda] at h;rw[zei];exact h))∨(srvC m more N m.length)[k]'(by rw[zda] at h ⊢;exact h)<0:=fun k h=>by
 simp only[srvC,lvlC,List.getElem_map,List.getElem_range]
 rcases bestC_more m hm k m.length with ⟨e,_⟩|⟨e,_⟩
 ·rw[e];exact Or.inl ⟨rfl,rfl⟩
 ·rw[e];exact Or.inr Q47
end
theorem terr_size {t:DTerrain} (h:zc0 t=true):ze0 t.step t.width t.height=true:=by
 unfold zc0 at h;rw[Bool.and_eq_true] at h;exact h.1
theorem cov_two (t:DTerrain) (n:DNetwork) (f ab least:Int):(∃ c,c≠0∧covR t n f ab least=(zeroRas,c))∨(zc0 t=true∧netB n=true∧inB f 1 100000000=true∧inB ab 1 3000=true∧inB least (-300000) 300000=true∧covR t n f ab least=(rasC t (covL t n f ab) least n.sectors.length,0)∧∀ k,k<n.sectors.length→zb4 t n (zad n.sectors k).name f ab=(zdg t n (zad n.sectors k) f ab,0)):=by
 unfold covR
 by_cases h1:zc0 t=true∧netB n=true
 ·by_cases h2:inB f 1 100000000=true∧inB ab 1 3000=true∧inB least (-300000) 300000=true
  ·by_cases h3:n.sectors.all (homeB t n)=true
   ·rw[if_pos h1,if_pos h2,if_pos h3]
    refine Or.inr ⟨h1.1,h1.2,h2.1,h2.2.1,h2.2.2,rfl,fun k hk=>?_⟩;refine secLev_in (k:=k) ?_ (sector_self h1.2 hk) ?_
    ·unfold ask20
     rw[if_pos h1,if_pos ⟨h2.1,h2.2.1⟩]
    ·rw[List.all_eq_true] at h3
     have h:=h3 _ (List.getElem_mem hk);rw[za3 hk] at h;exact h
   ·rw[if_pos h1,if_pos h2,if_neg h3]
    exact Or.inl ⟨6,by decide,rfl⟩
  ·rw[if_pos h1,if_neg h2]
   exact Or.inl ⟨2,by decide,rfl⟩
 ·rw[if_neg h1]
  exact Or.inl ⟨1,by decide,rfl⟩
end Go.Proofs.YtpakghepnahooaaGreatDoor
namespace Go.Proofs.YtpakghepnahooaaGreatDoor
open Go.RowKit
set_option maxHeartbeats 16000000
set_option maxRecDepth 100000
theorem net_few24 {n:DNetwork} (h:netB n=true):n.sectors.length≤24:=by
 unfold netB at h;simp only[Bool.and_eq_true,decide_eq_true_eq] at h;exact h.2.1
theorem iCoverNetwork_std (t:DTerrain) (nw:DNetwork) (f:Int) (ab:Int) (le:Int) (vt3 vt4 vnw0 vnw1 vnw2 vnw3:Value) (w:World) (L:TabW w) (rt3:Rd w w (zam t.heights) vt3) (rt4:Rd w w (zam t.clutter) vt4) (rnw0:Rd w w (DSite.sT nw.sites) vnw0) (rnw1:Rd w w (DSector.sT nw.sectors) vnw1) (rnw2:Rd w w (DAntenna.sT nw.antennas) vnw2) (rnw3:Rd w w (DRadio.sT nw.radios) vnw3) (hs_t:sizL t.tr≤1048576) (hk_t:t.ok) (hs_nw:sizL nw.tr≤1048576) (hk_nw:nw.ok) (hk_f:I64 f) (hk_ab:I64 ab) (hk_le:I64 le) :
  Calls Tryz.prog 8 #[.agg (t,vt3,vt4),.agg #[vnw0,vnw1,vnw2,vnw3],J f,J ab,J le] w (fun e w'=>∃ a0_3 c0_3 a0_4 c0_4 fp0,e=.returned (.tuple #[.agg #[J (covR t nw f ab le).1.step,J (covR t nw f ab le).1.width,J (covR t nw f ab le).1.height,IZ a0_3 (covR t nw f ab le).1.server.length c0_3,IZ a0_4 (covR t nw f ab le).1.level.length c0_4],J (covR t nw f ab le).2])∧OI w w w'∧OwnV w' (covR t nw f ab le).1.tr [J (covR t nw f ab le).1.step,J (covR t nw f ab le).1.width,J (covR t nw f ab le).1.height,IZ a0_3 (covR t nw f ab le).1.server.length c0_3,IZ a0_4 (covR t nw f ab le).1.level.length c0_4] fp0∧In w w'.heap.size fp0):=by
 have hq:=DNetwork.siz_tr nw;rw[DSite.siz_s,DSector.siz_s,DAntenna.siz_s,DRadio.siz_s] at hq;have hqt:=DTerrain.siz_tr t;rw[zdb,zdb] at hqt;obtain⟨i0,hi0,hz0,hz1,hz2⟩:=info_parts infoII;have l1i:(nw.sectors.length:Int)≤1048576:=II
 have HX:=IJ (cov_e t nw f ab le);obtain⟨A0,C0,e0,_,_,_⟩:=DSite.rd rnw0;obtain⟨A2,C2,e2,_,_,_⟩:=DAntenna.rd rnw2;obtain⟨A3,C3,e3,_,_,_⟩:=DRadio.rd rnw3;obtain⟨A1,C1,e1,_,_,hcs⟩:=DSector.rd rnw1;subst e0 e1 e2 e3;obtain⟨W0,hW0,b0_,z0,k0,k1,k2⟩:=boxes3 w (t,vt3,vt4) 26 (nw,A0,C0,A1,C1,A2,C2,A3,C3) 32 #[J 0,J 0,J 0,IZ none 0 0,IZ none 0 0] 36;have HW0:=IJ hW0;have B0:=IJ b0_;have HD:=IJ (fun (W:World) (hW:OI W0 W0 W)=>bx5 k0 hW <| bx4 k1 hW <| by5 k2 hW);have HB:Hid (OI W0 W0 W0):=Below.refl _ _;have K2:=IJ k2;clear k0 k1 k2 hW0 b0_;have CT:Hid (∀ W:World,OI W0 W0 W→Calls Tryz.prog 31 #[.agg (t,vt3,vt4)] W fun e w'=>e=.returned (.bool (zc0 t))∧OI W W w'):=fun  W hW=>validTerrain_any t vt3 vt4 w.heap.size W (rt3.below (B0.out.trans (hW.mono B0.out.size))) (rt4.below (B0.out.trans (hW.mono B0.out.size))) (B0.out.trans (hW.mono B0.out.size)).size II II
 have CV:Hid (∀ W:World,OI W0 W0 W→Calls Tryz.prog 32 #[.agg (nw,A0,C0,A1,C1,A2,C2,A3,C3)] W fun e w'=>e=.returned (.bool (netB nw))∧OI W W w'):=fun  W hW=>validNetwork_any nw _ _ _ _ W ((rnw0.below (B0.out.trans (hW.mono B0.out.size))).mono (B0.out.trans (hW.mono B0.out.size)).size) ((rnw1.below (B0.out.trans (hW.mono B0.out.size))).mono (B0.out.trans (hW.mono B0.out.size)).size) ((rnw2.below (B0.out.trans (hW.mono B0.out.size))).mono (B0.out.trans (hW.mono B0.out.size)).size) ((rnw3.below (B0.out.trans (hW.mono B0.out.size))).mono (B0.out.trans (hW.mono B0.out.size)).size) II hk_nw
 have CF:Hid (∀ W:World,OI W0 W0 W→Calls Tryz.prog 33 #[J f] W fun e w'=>e=.returned (.bool (inB f 1 100000000))∧OI W W w'):=fun  W hW=>zbm (zcg f W)
 have CA:Hid (∀ W:World,OI W0 W0 W→Calls Tryz.prog 34 #[J ab,J 1,J 3000] W fun e w'=>e=.returned (.bool (inB ab 1 3000))∧OI W W w'):=fun  W hW=>zbm (zal ab 1 3000 W)
 have CU:Hid (∀ W:World,OI W0 W0 W→Calls Tryz.prog 35 #[J le] W fun e w'=>e=.returned (.bool (inB le (-300000) 300000))∧OI W W w'):=fun  W hW=>zbm (validLevel_any le W)
 cases hT:zc0 t with
 | false =>
  rw[hT] at CT;have HE:=IJ (HX.out.e1 (Or.inl hT));clear HX;generalize covR t nw f ab le=RV at *;go_enter Tryz.func8,Tryz.ntmps8;go_upto_region 1 with (fail);rw[HW0.out];obtain⟨t0,t1,t2,t3,t4,t5,t6,t7,t8,t9,t10,t11,t12,t13⟩:=HD.out _ HB.out;go_upto_region 2 with (first|(go_at_call 31;with_reducible refine (CT.out _ HB.out).mono ?_;rintro e v1 ⟨rfl,hb_⟩;(try clear t0 t1 t2 t3 t4 t5 t6 t7 t8 t9 t10 t11 t12 t13);replace HB:=btr HB hb_;clear hb_;obtain⟨t0,t1,t2,t3,t4,t5,t6,t7,t8,t9,t10,t11,t12,t13⟩:=HD.out _ HB.out));have hnf:w.heap.size+1+1 ∉ ([]:List Nat):=by simp
  have KR:=IJ (bkB K2.out HB.out (by have:=z0;omega));obtain⟨r0,r1,r2,r3,r4,rf⟩:=bz5 KR.out;go_wp2;refine bodyPost_ret (v:=.tuple #[.agg #[J 0,J 0,J 0,IZ none 0 0,IZ none 0 0],J 1]) Q39 rfl ?_;rw[HE.out];refine⟨none,0,none,0,[],rfl,((((((B0.out.trans (HB.out.mono B0.out.size)).setCell (p:=⟨w.heap.size+1+1,0,none⟩) Q34 (J 0)).setCell (p:=⟨w.heap.size+1+1,1,none⟩) Q34 (J 0)).setCell (p:=⟨w.heap.size+1+1,2,none⟩) Q34 (J 0)).setCell (p:=⟨w.heap.size+1+1,3,none⟩) Q34 (IZ none 0 0)).setCell (p:=⟨w.heap.size+1+1,4,none⟩) Q34 (IZ none 0 0)),((((((own_zero v1).setFar (p:=⟨w.heap.size+1+1,0,none⟩) hnf (J 0)).setFar (p:=⟨w.heap.size+1+1,1,none⟩) hnf (J 0)).setFar (p:=⟨w.heap.size+1+1,2,none⟩) hnf (J 0)).setFar (p:=⟨w.heap.size+1+1,3,none⟩) hnf (IZ none 0 0)).setFar (p:=⟨w.heap.size+1+1,4,none⟩) hnf (IZ none 0 0)),In.nil⟩
 | true =>
  rw[hT] at CT
  cases hV:netB nw with
  | false =>
   rw[hV] at CV;have HE:=IJ (HX.out.e1 (Or.inr hV));clear HX;generalize covR t nw f ab le=RV at *;go_enter Tryz.func8,Tryz.ntmps8;go_upto_region 1 with (fail);rw[HW0.out];obtain⟨t0,t1,t2,t3,t4,t5,t6,t7,t8,t9,t10,t11,t12,t13⟩:=HD.out _ HB.out;go_upto_region 2 with ((first|(go_at_call 31;with_reducible refine (CT.out _ HB.out).mono ?_)|(go_at_call 32;with_reducible refine (CV.out _ HB.out).mono ?_));rintro e v1 ⟨rfl,hb_⟩;(try clear t0 t1 t2 t3 t4 t5 t6 t7 t8 t9 t10 t11 t12 t13);replace HB:=btr HB hb_;clear hb_;obtain⟨t0,t1,t2,t3,t4,t5,t6,t7,t8,t9,t10,t11,t12,t13⟩:=HD.out _ HB.out);have hnf:w.heap.size+1+1 ∉ ([]:List Nat):=by simp
   have KR:=IJ (bkB K2.out HB.out (by have:=z0;omega));obtain⟨r0,r1,r2,r3,r4,rf⟩:=bz5 KR.out;go_wp2;refine bodyPost_ret (v:=.tuple #[.agg #[J 0,J 0,J 0,IZ none 0 0,IZ none 0 0],J 1]) Q39 rfl ?_;rw[HE.out];refine⟨none,0,none,0,[],rfl,((((((B0.out.trans (HB.out.mono B0.out.size)).setCell (p:=⟨w.heap.size+1+1,0,none⟩) Q34 (J 0)).setCell (p:=⟨w.heap.size+1+1,1,none⟩) Q34 (J 0)).setCell (p:=⟨w.heap.size+1+1,2,none⟩) Q34 (J 0)).setCell (p:=⟨w.heap.size+1+1,3,none⟩) Q34 (IZ none 0 0)).setCell (p:=⟨w.heap.size+1+1,4,none⟩) Q34 (IZ none 0 0)),((((((own_zero v1).setFar (p:=⟨w.heap.size+1+1,0,none⟩) hnf (J 0)).setFar (p:=⟨w.heap.size+1+1,1,none⟩) hnf (J 0)).setFar (p:=⟨w.heap.size+1+1,2,none⟩) hnf (J 0)).setFar (p:=⟨w.heap.size+1+1,3,none⟩) hnf (IZ none 0 0)).setFar (p:=⟨w.heap.size+1+1,4,none⟩) hnf (IZ none 0 0)),In.nil⟩
  | true =>
   rw[hV] at CV
   cases hF:inB f 1 100000000 with
   | false =>
    rw[hF] at CF;have HE:=IJ (HX.out.e2 hT hV (Or.inl hF));clear HX;generalize covR t nw f ab le=RV at *;go_enter Tryz.func8,Tryz.ntmps8;go_upto_region 1 with (fail);rw[HW0.out];obtain⟨t0,t1,t2,t3,t4,t5,t6,t7,t8,t9,t10,t11,t12,t13⟩:=HD.out _ HB.out;go_upto_region 4 with ((first|(go_at_call 31;with_reducible refine (CT.out _ HB.out).mono ?_)|(go_at_call 32;with_reducible refine (CV.out _ HB.out).mono ?_)|(go_at_call 33;with_reducible refine (CF.out _ HB.out).mono ?_));rintro e v1 ⟨rfl,hb_⟩;(try clear t0 t1 t2 t3 t4 t5 t6 t7 t8 t9 t10 t11 t12 t13);replace HB:=btr HB hb_;clear hb_;obtain⟨t0,t1,t2,t3,t4,t5,t6,t7,t8,t9,t10,t11,t12,t13⟩:=HD.out _ HB.out);have hnf:w.heap.size+1+1 ∉ ([]:List Nat):=by simp
    have KR:=IJ (bkB K2.out HB.out (by have:=z0;omega));obtain⟨r0,r1,r2,r3,r4,rf⟩:=bz5 KR.out;go_wp2;refine bodyPost_ret (v:=.tuple #[.agg #[J 0,J 0,J 0,IZ none 0 0,IZ none 0 0],J 2]) Q39 rfl ?_;rw[HE.out];refine⟨none,0,none,0,[],rfl,((((((B0.out.trans (HB.out.mono B0.out.size)).setCell (p:=⟨w.heap.size+1+1,0,none⟩) Q34 (J 0)).setCell (p:=⟨w.heap.size+1+1,1,none⟩) Q34 (J 0)).setCell (p:=⟨w.heap.size+1+1,2,none⟩) Q34 (J 0)).setCell (p:=⟨w.heap.size+1+1,3,none⟩) Q34 (IZ none 0 0)).setCell (p:=⟨w.heap.size+1+1,4,none⟩) Q34 (IZ none 0 0)),((((((own_zero v1).setFar (p:=⟨w.heap.size+1+1,0,none⟩) hnf (J 0)).setFar (p:=⟨w.heap.size+1+1,1,none⟩) hnf (J 0)).setFar (p:=⟨w.heap.size+1+1,2,none⟩) hnf (J 0)).setFar (p:=⟨w.heap.size+1+1,3,none⟩) hnf (IZ none 0 0)).setFar (p:=⟨w.heap.size+1+1,4,none⟩) hnf (IZ none 0 0)),In.nil⟩
   | true =>
    rw[hF] at CF
    cases hA:inB ab 1 3000 with
    | false =>
     rw[hA] at CA;have HE:=IJ (HX.out.e2 hT hV (Or.inr (Or.inl hA)));clear HX;generalize covR t nw f ab le=RV at *;go_enter Tryz.func8,Tryz.ntmps8;go_upto_region 1 with (fail);rw[HW0.out];obtain⟨t0,t1,t2,t3,t4,t5,t6,t7,t8,t9,t10,t11,t12,t13⟩:=HD.out _ HB.out;go_upto_region 4 with ((first|(go_at_call 31;with_reducible refine (CT.out _ HB.out).mono ?_)|(go_at_call 32;with_reducible refine (CV.out _ HB.out).mono ?_)|(go_at_call 33;with_reducible refine (CF.out _ HB.out).mono ?_)|(go_at_call 34;with_reducible refine (CA.out _ HB.out).mono ?_));rintro e v1 ⟨rfl,hb_⟩;(try clear t0 t1 t2 t3 t4 t5 t6 t7 t8 t9 t10 t11 t12 t13);replace HB:=btr HB hb_;clear hb_;obtain⟨t0,t1,t2,t3,t4,t5,t6,t7,t8,t9,t10,t11,t12,t13⟩:=HD.out _ HB.out);have hnf:w.heap.size+1+1 ∉ ([]:List Nat):=by simp
     have KR:=IJ (bkB K2.out HB.out (by have:=z0;omega));obtain⟨r0,r1,r2,r3,r4,rf⟩:=bz5 KR.out;go_wp2;refine bodyPost_ret (v:=.tuple #[.agg #[J 0,J 0,J 0,IZ none 0 0,IZ none 0 0],J 2]) Q39 rfl ?_;rw[HE.out];refine⟨none,0,none,0,[],rfl,((((((B0.out.trans (HB.out.mono B0.out.size)).setCell (p:=⟨w.heap.size+1+1,0,none⟩) Q34 (J 0)).setCell (p:=⟨w.heap.size+1+1,1,none⟩) Q34 (J 0)).setCell (p:=⟨w.heap.size+1+1,2,none⟩) Q34 (J 0)).setCell (p:=⟨w.heap.size+1+1,3,none⟩) Q34 (IZ none 0 0)).setCell (p:=⟨w.heap.size+1+1,4,none⟩) Q34 (IZ none 0 0)),((((((own_zero v1).setFar (p:=⟨w.heap.size+1+1,0,none⟩) hnf (J 0)).setFar (p:=⟨w.heap.size+1+1,1,none⟩) hnf (J 0)).setFar (p:=⟨w.heap.size+1+1,2,none⟩) hnf (J 0)).setFar (p:=⟨w.heap.size+1+1,3,none⟩) hnf (IZ none 0 0)).setFar (p:=⟨w.heap.size+1+1,4,none⟩) hnf (IZ none 0 0)),In.nil⟩
    | true =>
     rw[hA] at CA
     cases hL:inB le (-300000) 300000 with
     | false =>
      rw[hL] at CU;have HE:=IJ (HX.out.e2 hT hV (Or.inr (Or.inr hL)));clear HX;generalize covR t nw f ab le=RV at *;go_enter Tryz.func8,Tryz.ntmps8;go_upto_region 1 with (fail);rw[HW0.out];obtain⟨t0,t1,t2,t3,t4,t5,t6,t7,t8,t9,t10,t11,t12,t13⟩:=HD.out _ HB.out;go_upto_region 4 with ((first|(go_at_call 31;with_reducible refine (CT.out _ HB.out).mono ?_)|(go_at_call 32;with_reducible refine (CV.out _ HB.out).mono ?_)|(go_at_call 33;with_reducible refine (CF.out _ HB.out).mono ?_)|(go_at_call 34;with_reducible refine (CA.out _ HB.out).mono ?_)|(go_at_call 35;with_reducible refine (CU.out _ HB.out).mono ?_));rintro e v1 ⟨rfl,hb_⟩;(try clear t0 t1 t2 t3 t4 t5 t6 t7 t8 t9 t10 t11 t12 t13);replace HB:=btr HB hb_;clear hb_;obtain⟨t0,t1,t2,t3,t4,t5,t6,t7,t8,t9,t10,t11,t12,t13⟩:=HD.out _ HB.out);have hnf:w.heap.size+1+1 ∉ ([]:List Nat):=by simp
      have KR:=IJ (bkB K2.out HB.out (by have:=z0;omega));obtain⟨r0,r1,r2,r3,r4,rf⟩:=bz5 KR.out;go_wp2;refine bodyPost_ret (v:=.tuple #[.agg #[J 0,J 0,J 0,IZ none 0 0,IZ none 0 0],J 2]) Q39 rfl ?_;rw[HE.out];refine⟨none,0,none,0,[],rfl,((((((B0.out.trans (HB.out.mono B0.out.size)).setCell (p:=⟨w.heap.size+1+1,0,none⟩) Q34 (J 0)).setCell (p:=⟨w.heap.size+1+1,1,none⟩) Q34 (J 0)).setCell (p:=⟨w.heap.size+1+1,2,none⟩) Q34 (J 0)).setCell (p:=⟨w.heap.size+1+1,3,none⟩) Q34 (IZ none 0 0)).setCell (p:=⟨w.heap.size+1+1,4,none⟩) Q34 (IZ none 0 0)),((((((own_zero v1).setFar (p:=⟨w.heap.size+1+1,0,none⟩) hnf (J 0)).setFar (p:=⟨w.heap.size+1+1,1,none⟩) hnf (J 0)).setFar (p:=⟨w.heap.size+1+1,2,none⟩) hnf (J 0)).setFar (p:=⟨w.heap.size+1+1,3,none⟩) hnf (IZ none 0 0)).setFar (p:=⟨w.heap.size+1+1,4,none⟩) hnf (IZ none 0 0)),In.nil⟩
     | true =>
      rw[hL] at CU;have T:=terrB_ok hT;have hFF:=zaq.1 hF;have hAB:=zaq.1 hA;have CE:Hid (∀ (k:Nat) (hk:k<nw.sectors.length) (W:World),OI W0 W0 W→Calls Tryz.prog 37 #[.agg (nw,A0,C0,A1,C1,A2,C2,A3,C3),.agg (zad nw.sectors k)] W fun e w'=>e=.returned (.agg (endR nw (zad nw.sectors k)))∧OI W W w'):=fun k hk W hW=>by
              obtain⟨ks,hks,his⟩:=netB_sectors hV k hk;exact iEnd_any nw (zad nw.sectors k) _ _ _ _ W ((rnw0.below (B0.out.trans (hW.mono B0.out.size))).mono (B0.out.trans (hW.mono B0.out.size)).size) II ks hks his
      have CH:Hid (∀ (k:Nat) (W:World),OI W0 W0 W→Calls Tryz.prog 36 #[.agg (t,vt3,vt4),.agg #[J (endR nw (zad nw.sectors k)).place.x,J (endR nw (zad nw.sectors k)).place.y]] W fun e w'=>e=.returned (.bool (homeB t nw (zad nw.sectors k)))∧OI W W w'):=fun k W hW=>has_any t _ vt3 vt4 ⟨T.w0,T.w1⟩ ⟨T.h0,T.h1⟩ ⟨T.mw.1,Int.le_trans T.mw.2 Q47⟩ ⟨T.mh.1,Int.le_trans T.mh.2 Q47⟩ W
      have CG:Hid (∀ (k:Nat) (hk:k<nw.sectors.length) (ht:homeB t nw (zad nw.sectors k)=true) (W:World),OI W0 W0 W→Calls Tryz.prog 38 #[.agg (nw,A0,C0,A1,C1,A2,C2,A3,C3),.agg (t,vt3,vt4),.agg (zad nw.sectors k),J f,J ab] W fun e w'=>∃ (a':Option Addr) (c':Nat) (fp:List Nat),e=.returned (IZ a' (zdg t nw (zad nw.sectors k) f ab).length c')∧OI W W w'∧Own w' (zam (zdg t nw (zad nw.sectors k) f ab)) (IZ a' (zdg t nw (zad nw.sectors k) f ab).length c') fp∧In W w'.heap.size fp):=fun k hk ht W hW=>by
       obtain⟨ks,hks,his⟩:=netB_sectors hV k hk;obtain⟨ka,kr,hp⟩:=zc2 hV hk;exact iGrid_any t nw (zad nw.sectors k) f ab T _ _ _ _ vt3 vt4 (inTB_true.1 (show inTB t (endR nw (zad nw.sectors k)).place=true from ht)) (sector_above hV hk) hAB ks hks his ka kr hp II II II hFF.1 hFF.2 W ((rnw0.below (B0.out.trans (hW.mono B0.out.size))).mono (B0.out.trans (hW.mono B0.out.size)).size) ((rnw2.below (B0.out.trans (hW.mono B0.out.size))).mono (B0.out.trans (hW.mono B0.out.size)).size) ((rnw3.below (B0.out.trans (hW.mono B0.out.size))).mono (B0.out.trans (hW.mono B0.out.size)).size) ((rt3.below (B0.out.trans (hW.mono B0.out.size))).mono (B0.out.trans (hW.mono B0.out.size)).size) ((rt4.below (B0.out.trans (hW.mono B0.out.size))).mono (B0.out.trans (hW.mono B0.out.size)).size) (L.mono (B0.out.trans (hW.mono B0.out.size)))
      have HS:Hid (∀ k,k<nw.sectors.length→∃ b off,A1=some ⟨b,off,none⟩∧b<w.heap.size∧∀ W:World,OI W0 W0 W→((W,b,off+k*9,IQ (zad nw.sectors k).name)∧(W,b,off+k*9+1,IQ (zad nw.sectors k).site)∧(W,b,off+k*9+2,IQ (zad nw.sectors k).antenna)∧(W,b,off+k*9+3,IQ (zad nw.sectors k).radio)∧(W,b,off+k*9+4,IQ (zad nw.sectors k).band)∧(W,b,off+k*9+5,J (zad nw.sectors k).azimuth)∧(W,b,off+k*9+6,J (zad nw.sectors k).tilt)∧(W,b,off+k*9+7,J (zad nw.sectors k).above)∧(W,b,off+k*9+8,J (zad nw.sectors k).channel))):=fun k hk=>by
       obtain⟨b,off,ea,hb,hat⟩:=hcs II;obtain⟨s0,s1,s2,s3,s4,s5,s6,s7,s8⟩:=hat k hk;rw[za3 hk] at s0 s1 s2 s3 s4 s5 s6 s7 s8;exact⟨b,off,ea,hb,fun W hW=>⟨(bat (B0.out.trans (hW.mono B0.out.size)) b _ hb).trans s0,(bat (B0.out.trans (hW.mono B0.out.size)) b _ hb).trans s1,(bat (B0.out.trans (hW.mono B0.out.size)) b _ hb).trans s2,(bat (B0.out.trans (hW.mono B0.out.size)) b _ hb).trans s3,(bat (B0.out.trans (hW.mono B0.out.size)) b _ hb).trans s4,(bat (B0.out.trans (hW.mono B0.out.size)) b _ hb).trans s5,(bat (B0.out.trans (hW.mono B0.out.size)) b _ hb).trans s6,(bat (B0.out.trans (hW.mono B0.out.size)) b _ hb).trans s7,(bat (B0.out.trans (hW.mono B0.out.size)) b _ hb).trans s8⟩⟩
      obtain⟨gN1,gN2,gN3⟩:=gridN_eq T;have HGL:Hid (∀ k:Nat,(zdg t nw (zad nw.sectors k) f ab).length=zcf t):=fun k=>ze9 _ _ _ _ _
      have HCT:Hid (∀ k,k<nw.sectors.length→(covL t nw f ab).take (k+1)=(covL t nw f ab).take k++[zdg t nw (zad nw.sectors k) f ab]):=fun k hk=>covL_take t nw f ab hk
      have HCN:Hid ((covL t nw f ab).length=nw.sectors.length):=covL_len t nw f ab;have HCR:Hid (∀ k,k<(covL t nw f ab).length→(rowI (covL t nw f ab) k).length=zcf t):=fun k hk=>by
       rw[covL_at t nw f ab (by rw[covL_len] at hk;exact hk)];exact ze9 _ _ _ _ _
      have hfew:=net_few24 hV;have HE6:Hid (∀ k,k<nw.sectors.length→homeB t nw (zad nw.sectors k)=false→covR t nw f ab le=(zeroRas,6)):=fun k hk h=>HX.out.e3 hT hV hF hA hL k hk h
      have HE0:Hid (nw.sectors.all (homeB t nw)=true→covR t nw f ab le=(rasC t (covL t nw f ab) le nw.sectors.length,0)):=fun h=>HX.out.e4 hT hV hF hA hL h
      have HTK:Hid (∀ k,k<nw.sectors.length→(nw.sectors.take (k+1)).all (homeB t nw)=((nw.sectors.take k).all (homeB t nw)&&homeB t nw (zad nw.sectors k))):=fun k hk=>home_take t nw hk
      clear HX hT hV hF hA hL rt3 rt4 rnw0 rnw1 rnw2 rnw3 hcs hFF hAB T L hs_t hk_t hs_nw hk_nw hk_f hk_ab hk_le hq hqt gN1;generalize covR t nw f ab le=RV at *;generalize covL t nw f ab=CM at *;go_enter Tryz.func8,Tryz.ntmps8;go_upto_region 1 with (fail);rw[HW0.out];obtain⟨t0,t1,t2,t3,t4,t5,t6,t7,t8,t9,t10,t11,t12,t13⟩:=HD.out _ HB.out;go_wp2_with ((first|(go_at_call 31;with_reducible refine (CT.out _ HB.out).mono ?_)|(go_at_call 32;with_reducible refine (CV.out _ HB.out).mono ?_)|(go_at_call 33;with_reducible refine (CF.out _ HB.out).mono ?_)|(go_at_call 34;with_reducible refine (CA.out _ HB.out).mono ?_)|(go_at_call 35;with_reducible refine (CU.out _ HB.out).mono ?_));rintro e v1 ⟨rfl,hb_⟩;(try clear t0 t1 t2 t3 t4 t5 t6 t7 t8 t9 t10 t11 t12 t13);replace HB:=btr HB hb_;clear hb_;obtain⟨t0,t1,t2,t3,t4,t5,t6,t7,t8,t9,t10,t11,t12,t13⟩:=HD.out _ HB.out);clear t0 t1 t2 t3 t4 t5 t6 t7 t8 t9 t10 t11 t12 t13 CT CV CF CA CU;generalize v1=wb at *;have zb:=HB.out.size;go_loopw [12,43] (fun os ki wr=>∃ (k:Nat) (fr:List Nat),k≤nw.sectors.length∧ki=J (k:Int)∧(nw.sectors.take k).all (homeB t nw)=true∧OI W0 W0 wr∧Grow wr wb.heap.size 24 1 os k ((CM.take k).map zam) fr∧In wb wr fr∧wb.heap.size≤wr.heap.size) (fun os ki wr=>nw.sectors.length-(intOf ki).toNat)
      case atStart=>exact⟨0,[],II,rfl,by simp,HB.out,Grow.nil,In.nil,Nat.le_refl _⟩
      case round =>
       obtain⟨k,fr,hk,rfl,hall,hbw,hgr,hin,zx⟩:=hrel;replace HB:=IJ hbw;have HA:=IJ hall;have HG:=IJ hgr;have HI:=IJ hin;have GOB:=IJ (fun y hy=>hgr.block (g:=y) hy);clear hall hbw hgr hin;obtain⟨t0,t1,t2,t3,t4,t5,t6,t7,t8,t9,t10,t11,t12,t13⟩:=HD.out _ HB.out;have k0:(0:Int)≤(k:Int):=II
       by_cases hlt:k<nw.sectors.length
       case neg =>
        obtain rfl:k=nw.sectors.length:=II
        rw[List.take_length] at HA;rw[List.take_of_length_le (by rw[HCN.out];exact Nat.le_refl _)] at HG;have HE:=IJ (HE0.out HA.out);obtain⟨av,cv,fv,ev,ov,iv⟩:=HG.out.toOwn (lo:=wb.heap.size) II HI.out II;subst ev;have CB:=IJ (bestServers_any t.step t.width t.height le CM (zcf t) gN3 gN2 HCR.out (by rw[HCN.out];exact hfew) _ wr (ov.rd iv));rw[HCN.out] at CB;have KR:=IJ (bkB K2.out HB.out (by have:=z0;omega));clear ov iv HG CE CH CG HS HGL HCT HCN HCR HE6 HE0 HTK;go_wp2_with (go_at_call 39;with_reducible refine (CB.out).mono ?_;rintro e w5 ⟨a0,c0,a1,c1,fp,rfl,hb_,ho_,hi_⟩;(have OV:=IJ ho_);(have IV:=IJ hi_);(have KR5:=bkH KR hb_);(have HB5:=btr HB hb_);(have z5:=hb_.size);clear hb_ ho_ hi_;obtain⟨r0,r1,r2,r3,r4,rf⟩:=bz5 KR5.out);have hnf:w.heap.size+1+1 ∉ fp:=fun hm=>by have:=IV.out _ hm;have:=HB.out.size;have:=z0;omega
        refine bodyPost_ret (v:=.tuple #[.agg #[J t.step,J t.width,J t.height,IZ a0 (zcf t) c0,IZ a1 (zcf t) c1],J 0]) Q39 rfl ?_;rw[HE.out];refine⟨a0,c0,a1,c1,fp,?_,((((((B0.out.trans (HB5.out.mono B0.out.size)).setCell (p:=⟨w.heap.size+1+1,0,none⟩) Q34 (J t.step)).setCell (p:=⟨w.heap.size+1+1,1,none⟩) Q34 (J t.width)).setCell (p:=⟨w.heap.size+1+1,2,none⟩) Q34 (J t.height)).setCell (p:=⟨w.heap.size+1+1,3,none⟩) Q34 (IZ a0 (zcf t) c0)).setCell (p:=⟨w.heap.size+1+1,4,none⟩) Q34 (IZ a1 (zcf t) c1)),?_,by simpa only[zac] using (IV.out.mono (lo':=w.heap.size) (by have:=HB.out.size;have:=B0.out.size;omega) (Nat.le_refl _))⟩
        ·show _=Ending.returned (.tuple #[.agg #[J t.step,J t.width,J t.height,IZ a0 (srvC CM le (zcf t) nw.sectors.length).length c0,IZ a1 (lvlC CM le (zcf t) nw.sectors.length).length c1],J 0])
         rw[zda,zei]
        ·show OwnV _ [intT t.step,intT t.width,intT t.height,zam (srvC CM le (zcf t) nw.sectors.length),zam (lvlC CM le (zcf t) nw.sectors.length)] [J t.step,J t.width,J t.height,IZ a0 (srvC CM le (zcf t) nw.sectors.length).length c0,IZ a1 (lvlC CM le (zcf t) nw.sectors.length).length c1] _
         rw[zda,zei];exact ownV_ras _ _ _ ((((((OV.out.setFar (p:=⟨w.heap.size+1+1,0,none⟩) hnf (J t.step)).setFar (p:=⟨w.heap.size+1+1,1,none⟩) hnf (J t.width)).setFar (p:=⟨w.heap.size+1+1,2,none⟩) hnf (J t.height)).setFar (p:=⟨w.heap.size+1+1,3,none⟩) hnf (IZ a0 (zcf t) c0)).setFar (p:=⟨w.heap.size+1+1,4,none⟩) hnf (IZ a1 (zcf t) c1)))
       have k1:(k:Int)<(nw.sectors.length:Int):=II
       have CEk:=IJ (CE.out k hlt);have CHk:=IJ (CH.out k);have CGk:=IJ (CG.out k hlt);have HTk:=IJ (HTK.out k hlt);have H6k:=IJ (HE6.out k hlt);have HCk:=IJ (HCT.out k hlt);obtain⟨b,off,rfl,hb,hcs⟩:=HS.out k hlt;obtain⟨s0,s1,s2,s3,s4,s5,s6,s7,s8⟩:=hcs _ HB.out;clear hcs CE CH CG HTK HE6 HCT HGL HS HCN HCR HE0;generalize zdg t nw (zad nw.sectors k) f ab=row at *;generalize homeB t nw (zad nw.sectors k)=HH at *;generalize endR nw (zad nw.sectors k)=ER at *;generalize (zad nw.sectors k)=x at *;go_upto_region 9 with (fail);clear s0 s1 s2 s3 s4 s5 s6 s7 s8 t0 t1 t2 t3 t4 t5 t6 t7 t8 t9 t10 t11 t12 t13;obtain⟨M,hM,bM_,zM,kM_⟩:=zav wr x 43;rw[hM];have KM:=IJ kM_;have HBM:=btr HB bM_;have HGM:=IJ (HG.out.below HI.out bM_);have HIM:=IJ (HI.out.mono (Nat.le_refl _) bM_.size);have zM2:wr.heap.size<M.heap.size:=II
       have HDM:Hid (∀ W:World,OI M M W→((W,w.heap.size,0,J t.step)∧(W,w.heap.size,1,J t.width)∧(W,w.heap.size,2,J t.height)∧(W,w.heap.size,3,vt3)∧(W,w.heap.size,4,vt4)∧(W,w.heap.size+1,0,IZ A0 nw.sites.length C0)∧(W,w.heap.size+1,1,IZ (some ⟨b,off,none⟩) nw.sectors.length C1)∧(W,w.heap.size+1,2,IZ A2 nw.antennas.length C2)∧(W,w.heap.size+1,3,IZ A3 nw.radios.length C3)∧(W,w.heap.size+1+1,0,J 0)∧(W,w.heap.size+1+1,1,J 0)∧(W,w.heap.size+1+1,2,J 0)∧(W,w.heap.size+1+1,3,IZ none 0 0)∧(W,w.heap.size+1+1,4,IZ none 0 0)∧(W,wr.heap.size,0,IQ x.name)∧(W,wr.heap.size,1,IQ x.site)∧(W,wr.heap.size,2,IQ x.antenna)∧(W,wr.heap.size,3,IQ x.radio)∧(W,wr.heap.size,4,IQ x.band)∧(W,wr.heap.size,5,J x.azimuth)∧(W,wr.heap.size,6,J x.tilt)∧(W,wr.heap.size,7,J x.above)∧(W,wr.heap.size,8,J x.channel))):=fun W hW=>by
        obtain⟨t0,t1,t2,t3,t4,t5,t6,t7,t8,t9,t10,t11,t12,t13⟩:=HD.out W (HBM.out.trans (hW.mono HBM.out.size));exact⟨t0,t1,t2,t3,t4,t5,t6,t7,t8,t9,t10,t11,t12,t13,bkW KM.out hW 0 rfl,bkW KM.out hW 1 rfl,bkW KM.out hW 2 rfl,bkW KM.out hW 3 rfl,bkW KM.out hW 4 rfl,bkW KM.out hW 5 rfl,bkW KM.out hW 6 rfl,bkW KM.out hW 7 rfl,bkW KM.out hW 8 rfl⟩
       have CEM:=IJ (fun (W:World) (hW:OI M M W)=>CEk.out W (HBM.out.trans (hW.mono HBM.out.size)));have CHM:=IJ (fun (W:World) (hW:OI M M W)=>CHk.out W (HBM.out.trans (hW.mono HBM.out.size)));have hfd:∀ w:World,(Instr.field 55 (.agg ER) 0).run Tryz.prog w=.ok (.agg #[J ER.place.x,J ER.place.y]) w:=fun _=>by kernel_rfl
       clear kM_ bM_ hM KM HG HI CEk CHk HB;have HB:Hid (OI M M M):=Below.refl _ _
       cases hh:HH with
       | false =>
        rw[hh] at CHM;have HE:=IJ (H6k.out hh);clear H6k hh CGk;refine zas 7 (.read 0 (.read 1 (.read 2 (.one 3 (.read 4 (.one 5 (.read 6 .nil))))))) (fun W=>OI M M W) JI JI (HB.out.drew) ?_;have YB:=IJ (HB.out.drew);have Yz:M.heap.size≤M.drew.heap.size:=Nat.le_refl _;generalize M.drew=Y at *
        iterate 3
         refine zak (v:=?_) rfl (fun _ _ _ h=>h) ?_ ?_
         rotate_left
         ·(intro W hSW;(try dsimp only at hSW);obtain⟨t0,t1,t2,t3,t4,t5,t6,t7,t8,t9,t10,t11,t12,t13,x0,x1,x2,x3,x4,x5,x6,x7,x8⟩:=HDM.out W hSW;(go_simp<;>with_reducible rfl))
         (try simp only[Act.put,OO,OJ,OQ])
        refine zaf ?_;refine zae rfl (fun K hK=>?_);go_simp;refine (CEM.out _ YB.out).mono ?_;rintro e Y1 ⟨rfl,hb1⟩;have YB1:=btr YB hb1;refine hK.out _ _ YB1.out ?_;clear hK K;have bs1:=hb1.size;clear hb1;refine zak (v:=?_) rfl (fun _ _ _ h=>h) ?_ ?_
        rotate_left
        ·(intro W hSW;(try dsimp only at hSW);obtain⟨t0,t1,t2,t3,t4,t5,t6,t7,t8,t9,t10,t11,t12,t13,x0,x1,x2,x3,x4,x5,x6,x7,x8⟩:=HDM.out W hSW;(go_simp<;>with_reducible rfl))
        (try simp only[Act.put,OO,OJ,OQ])
        refine zaf ?_;refine zae rfl (fun K hK=>?_);go_simp;refine (CHM.out _ YB1.out).mono ?_;rintro e Y2 ⟨rfl,hb2⟩;have YB2:=btr YB1 hb2;refine hK.out _ _ YB2.out ?_;clear hK K;have bs2:=hb2.size;clear hb2;refine zak (v:=?_) rfl (fun _ _ _ h=>h) ?_ ?_
        rotate_left
        ·(intro W hSW;(try dsimp only at hSW);obtain⟨t0,t1,t2,t3,t4,t5,t6,t7,t8,t9,t10,t11,t12,t13,x0,x1,x2,x3,x4,x5,x6,x7,x8⟩:=HDM.out W hSW;(go_simp<;>with_reducible rfl))
        (try simp only[Act.put,OO,OJ,OQ])
        refine zat ?_;simp only[List.drop_succ_cons,List.drop_zero];skip;replace HB:=btr HBM YB2.out;go_upto_region 10 with (fail);have hnf:w.heap.size+1+1 ∉ ([]:List Nat):=by simp
        have KR:=IJ (bkB K2.out HB.out (by have:=z0;omega));obtain⟨r0,r1,r2,r3,r4,rf⟩:=bz5 KR.out;go_wp2;refine bodyPost_ret (v:=.tuple #[.agg #[J 0,J 0,J 0,IZ none 0 0,IZ none 0 0],J 6]) Q39 rfl ?_;rw[HE.out];refine⟨none,0,none,0,[],rfl,((((((B0.out.trans (HB.out.mono B0.out.size)).setCell (p:=⟨w.heap.size+1+1,0,none⟩) Q34 (J 0)).setCell (p:=⟨w.heap.size+1+1,1,none⟩) Q34 (J 0)).setCell (p:=⟨w.heap.size+1+1,2,none⟩) Q34 (J 0)).setCell (p:=⟨w.heap.size+1+1,3,none⟩) Q34 (IZ none 0 0)).setCell (p:=⟨w.heap.size+1+1,4,none⟩) Q34 (IZ none 0 0)),((((((own_zero Y2).setFar (p:=⟨w.heap.size+1+1,0,none⟩) hnf (J 0)).setFar (p:=⟨w.heap.size+1+1,1,none⟩) hnf (J 0)).setFar (p:=⟨w.heap.size+1+1,2,none⟩) hnf (J 0)).setFar (p:=⟨w.heap.size+1+1,3,none⟩) hnf (IZ none 0 0)).setFar (p:=⟨w.heap.size+1+1,4,none⟩) hnf (IZ none 0 0)),In.nil⟩
       | true =>
        rw[hh] at CHM;have CGM:=IJ (CGk.out hh);have HHt:=IJ hh;clear H6k hh CGk;refine zas 7 (.read 0 (.read 1 (.read 2 (.one 3 (.read 4 (.one 5 (.read 6 .nil))))))) (fun W=>OI M M W) JI JI (HB.out.drew) ?_;have YB:=IJ (HB.out.drew);have Yz:M.heap.size≤M.drew.heap.size:=Nat.le_refl _;generalize M.drew=Y at *
        iterate 3
         refine zak (v:=?_) rfl (fun _ _ _ h=>h) ?_ ?_
         rotate_left
         ·(intro W hSW;(try dsimp only at hSW);obtain⟨t0,t1,t2,t3,t4,t5,t6,t7,t8,t9,t10,t11,t12,t13,x0,x1,x2,x3,x4,x5,x6,x7,x8⟩:=HDM.out W hSW;(go_simp<;>with_reducible rfl))
         (try simp only[Act.put,OO,OJ,OQ])
        refine zaf ?_;refine zae rfl (fun K hK=>?_);go_simp;refine (CEM.out _ YB.out).mono ?_;rintro e Y1 ⟨rfl,hb1⟩;have YB1:=btr YB hb1;refine hK.out _ _ YB1.out ?_;clear hK K;have bs1:=hb1.size;clear hb1;refine zak (v:=?_) rfl (fun _ _ _ h=>h) ?_ ?_
        rotate_left
        ·(intro W hSW;(try dsimp only at hSW);obtain⟨t0,t1,t2,t3,t4,t5,t6,t7,t8,t9,t10,t11,t12,t13,x0,x1,x2,x3,x4,x5,x6,x7,x8⟩:=HDM.out W hSW;(go_simp<;>with_reducible rfl))
        (try simp only[Act.put,OO,OJ,OQ])
        refine zaf ?_;refine zae rfl (fun K hK=>?_);go_simp;refine (CHM.out _ YB1.out).mono ?_;rintro e Y2 ⟨rfl,hb2⟩;have YB2:=btr YB1 hb2;refine hK.out _ _ YB2.out ?_;clear hK K;have bs2:=hb2.size;clear hb2;refine zak (v:=?_) rfl (fun _ _ _ h=>h) ?_ ?_
        rotate_left
        ·(intro W hSW;(try dsimp only at hSW);obtain⟨t0,t1,t2,t3,t4,t5,t6,t7,t8,t9,t10,t11,t12,t13,x0,x1,x2,x3,x4,x5,x6,x7,x8⟩:=HDM.out W hSW;(go_simp<;>with_reducible rfl))
        (try simp only[Act.put,OO,OJ,OQ])
        refine zat ?_;simp only[List.drop_succ_cons,List.drop_zero];skip;have HBE:=YB2;have HGE:=IJ (HGM.out.below HIM.out HBE.out);have HIE:=IJ (HIM.out.mono (Nat.le_refl _) HBE.out.size);have HBF:=btr HBM HBE.out;have zE:M.heap.size≤Y2.heap.size:=HBE.out.size;obtain⟨t0,t1,t2,t3,t4,t5,t6,t7,t8,t9,t10,t11,t12,t13,x0,x1,x2,x3,x4,x5,x6,x7,x8⟩:=HDM.out _ HBE.out;go_wp2_with (first|(go_at_call 38;with_reducible refine (CGM.out _ HBF.out).mono ?_;rintro e w6 ⟨a6,c6,fv,rfl,hb_,ho_,hi_⟩;(have OV:=IJ ho_);(have IV:=IJ hi_);(have HG6:=IJ (HGE.out.below HIE.out hb_));(have HI6:=IJ (HIE.out.mono (Nat.le_refl _) hb_.size));(have HB6:=btr HBF hb_);(have z6:=hb_.size);clear hb_ ho_ hi_ t0 t1 t2 t3 t4 t5 t6 t7 t8 t9 t10 t11 t12 t13 x0 x1 x2 x3 x4 x5 x6 x7 x8)|(at_builtin;refine zax rfl (.tmp 55) (.tmp 62) _ rfl wb.heap.size 24 i0 _ 1 24 Tryz.underlying39 hi0 hz0 hz1 hz2 rfl II _ _ _ fr rfl HG6.out [IZ a6 row.length c6] [zam row] fv rfl 1 rfl (fun u hu=>by simp at hu;subst hu;rfl) (RepV.one OV.out.rep) OV.out.nd OV.out.free wb.heap.size HI6.out (IV.out.mono II (Nat.le_refl _)) (fun y h1 h2=>by have:=IV.out y h1;have:=HIE.out y h2;omega) (fun y hy h2=>by have:=IV.out y h2;have:=GOB.out y hy;omega) Q3v II II ?_;intro v2 w7 hgn;(have HGN:=IJ hgn);clear hgn));go_roundw
        case rel =>
         refine⟨k+1,fr++fv,II,by go_num,by rw[HTk.out,HA.out,HHt.out];rfl,HB6.out.trans (HGN.out.below.mono II),?_,(In.app HIE.out IV.out II II).mono (Nat.le_refl _) (by have:=HGN.out.size;omega),by have:=HGN.out.size;omega⟩;rw[HCk.out,List.map_append];exact HGN.out.grow
        case measure=>simp[intOf];omega
set_option maxHeartbeats 16000000
set_option maxRecDepth 100000
theorem secLev_1 {t:DTerrain} {n:DNetwork} {nm:ByteArray} {f ab:Int} (h:zc0 t=false∨netB n=false):zb4 t n nm f ab=([],1):=by
 unfold zb4;rw[if_neg];rintro⟨x,y⟩;rw[x,y] at h;simp at h
theorem secLev_2 {t:DTerrain} {n:DNetwork} {nm:ByteArray} {f ab:Int} (h1:zc0 t=true) (h2:netB n=true) (h:inB f 1 100000000=false∨inB ab 1 3000=false):zb4 t n nm f ab=([],2):=by
 unfold zb4;rw[if_pos ⟨h1,h2⟩,if_neg];rintro⟨x,y⟩;rw[x,y] at h;simp at h
theorem ask20_ok {t:DTerrain} {n:DNetwork} {f ab:Int} (h1:zc0 t=true) (h2:netB n=true) (h3:inB f 1 100000000=true) (h4:inB ab 1 3000=true):ask20 t n f ab=0:=by
 unfold ask20;rw[if_pos ⟨h1,h2⟩,if_pos ⟨h3,h4⟩]
theorem iSectorLevels_std (t:DTerrain) (nw:DNetwork) (nm:ByteArray) (f:Int) (ab:Int) (vt3 vt4 vnw0 vnw1 vnw2 vnw3:Value) (w:World) (L:TabW w) (rt3:Rd w w (zam t.heights) vt3) (rt4:Rd w w (zam t.clutter) vt4) (rnw0:Rd w w (DSite.sT nw.sites) vnw0) (rnw1:Rd w w (DSector.sT nw.sectors) vnw1) (rnw2:Rd w w (DAntenna.sT nw.antennas) vnw2) (rnw3:Rd w w (DRadio.sT nw.radios) vnw3) (hs_t:sizL t.tr≤1048576) (hk_t:t.ok) (hs_nw:sizL nw.tr≤1048576) (hk_nw:nw.ok) (hs_nm:nm.size≤1048576) (hk_f:I64 f) (hk_ab:I64 ab) :
  Calls Tryz.prog 9 #[.agg (t,vt3,vt4),.agg #[vnw0,vnw1,vnw2,vnw3],IQ nm,J f,J ab] w (fun e w'=>∃ a0_0 c0_0 fp0,e=.returned (.tuple #[IZ a0_0 (zb4 t nw nm f ab).1.length c0_0,J (zb4 t nw nm f ab).2])∧OI w w w'∧Own w' (zam (zb4 t nw nm f ab).1) (IZ a0_0 (zb4 t nw nm f ab).1.length c0_0) fp0∧In w w'.heap.size fp0):=by
 have hq:=DNetwork.siz_tr nw;rw[DSite.siz_s,DSector.siz_s,DAntenna.siz_s,DRadio.siz_s] at hq;have hqt:=DTerrain.siz_tr t;rw[zdb,zdb] at hqt;have hN8:(nw.sectors.length:Int)≤1048576:=II
 obtain⟨A0,C0,e0,_,_,_⟩:=DSite.rd rnw0;obtain⟨A2,C2,e2,_,_,_⟩:=DAntenna.rd rnw2;obtain⟨A3,C3,e3,_,_,_⟩:=DRadio.rd rnw3;obtain⟨A1,C1,e1,_,_,hcs⟩:=DSector.rd rnw1;subst e0 e1 e2 e3;obtain⟨W0,hW0,b0_,z0,k0,k1⟩:=zdv w (t,vt3,vt4) 26 (nw,A0,C0,A1,C1,A2,C2,A3,C3) 32;have HW0:=IJ hW0;have B0:=IJ b0_;have HD:=IJ (fun (W:World) (hW:OI W0 W0 W)=>bx5 k0 hW <| by4 k1 hW);have HB:Hid (OI W0 W0 W0):=Below.refl _ _;clear k0 k1 hW0 b0_;have CN:Hid (∀ W:World,OI W0 W0 W→Calls Tryz.prog 40 #[.agg (nw,A0,C0,A1,C1,A2,C2,A3,C3),IQ nm] W fun e w'=>e=.returned (J (zay nw.sectors nm))∧OI W W w'):=fun  W hW=>sectorNamed_any nw.sectors nm _ _ _ _ w.heap.size W (rnw1.below (B0.out.trans (hW.mono B0.out.size))) (B0.out.trans (hW.mono B0.out.size)).size II
 have CT:Hid (∀ W:World,OI W0 W0 W→Calls Tryz.prog 31 #[.agg (t,vt3,vt4)] W fun e w'=>e=.returned (.bool (zc0 t))∧OI W W w'):=fun  W hW=>validTerrain_any t vt3 vt4 w.heap.size W (rt3.below (B0.out.trans (hW.mono B0.out.size))) (rt4.below (B0.out.trans (hW.mono B0.out.size))) (B0.out.trans (hW.mono B0.out.size)).size II II
 have CV:Hid (∀ W:World,OI W0 W0 W→Calls Tryz.prog 32 #[.agg (nw,A0,C0,A1,C1,A2,C2,A3,C3)] W fun e w'=>e=.returned (.bool (netB nw))∧OI W W w'):=fun  W hW=>validNetwork_any nw _ _ _ _ W ((rnw0.below (B0.out.trans (hW.mono B0.out.size))).mono (B0.out.trans (hW.mono B0.out.size)).size) ((rnw1.below (B0.out.trans (hW.mono B0.out.size))).mono (B0.out.trans (hW.mono B0.out.size)).size) ((rnw2.below (B0.out.trans (hW.mono B0.out.size))).mono (B0.out.trans (hW.mono B0.out.size)).size) ((rnw3.below (B0.out.trans (hW.mono B0.out.size))).mono (B0.out.trans (hW.mono B0.out.size)).size) II hk_nw
 have CF:Hid (∀ W:World,OI W0 W0 W→Calls Tryz.prog 33 #[J f] W fun e w'=>e=.returned (.bool (inB f 1 100000000))∧OI W W w'):=fun  W hW=>zbm (zcg f W)
 have CA:Hid (∀ W:World,OI W0 W0 W→Calls Tryz.prog 34 #[J ab,J 1,J 3000] W fun e w'=>e=.returned (.bool (inB ab 1 3000))∧OI W W w'):=fun  W hW=>zbm (zal ab 1 3000 W)
 cases hT:zc0 t with
 | false =>
  rw[hT] at CT;have HE:=IJ (secLev_1 (t:=t) (n:=nw) (nm:=nm) (f:=f) (ab:=ab) (Or.inl hT));generalize zb4 t nw nm f ab=RV at *;generalize zay nw.sectors nm=K at *;go_enter Tryz.func9,Tryz.ntmps9;go_upto_region 1 with (fail);rw[HW0.out];obtain⟨t0,t1,t2,t3,t4,t5,t6,t7,t8⟩:=HD.out _ HB.out;go_wp2_with ((first|(go_at_call 40;with_reducible refine (CN.out _ HB.out).mono ?_)|(go_at_call 31;with_reducible refine (CT.out _ HB.out).mono ?_));rintro e v1 ⟨rfl,hb_⟩;(try clear t0 t1 t2 t3 t4 t5 t6 t7 t8);replace HB:=btr HB hb_;clear hb_;obtain⟨t0,t1,t2,t3,t4,t5,t6,t7,t8⟩:=HD.out _ HB.out);go_ret2;rw[HE.out];exact⟨none,0,[],rfl,B0.out.trans (HB.out.mono B0.out.size),zew _,In.nil⟩
 | true =>
  rw[hT] at CT
  cases hV:netB nw with
  | false =>
   rw[hV] at CV;have HE:=IJ (secLev_1 (t:=t) (n:=nw) (nm:=nm) (f:=f) (ab:=ab) (Or.inr hV));generalize zb4 t nw nm f ab=RV at *;generalize zay nw.sectors nm=K at *;go_enter Tryz.func9,Tryz.ntmps9;go_upto_region 1 with (fail);rw[HW0.out];obtain⟨t0,t1,t2,t3,t4,t5,t6,t7,t8⟩:=HD.out _ HB.out;go_wp2_with ((first|(go_at_call 40;with_reducible refine (CN.out _ HB.out).mono ?_)|(go_at_call 31;with_reducible refine (CT.out _ HB.out).mono ?_)|(go_at_call 32;with_reducible refine (CV.out _ HB.out).mono ?_));rintro e v1 ⟨rfl,hb_⟩;(try clear t0 t1 t2 t3 t4 t5 t6 t7 t8);replace HB:=btr HB hb_;clear hb_;obtain⟨t0,t1,t2,t3,t4,t5,t6,t7,t8⟩:=HD.out _ HB.out);go_ret2;rw[HE.out];exact⟨none,0,[],rfl,B0.out.trans (HB.out.mono B0.out.size),zew _,In.nil⟩
  | true =>
   rw[hV] at CV
   cases hF:inB f 1 100000000 with
   | false =>
    rw[hF] at CF;have HE:=IJ (secLev_2 (t:=t) (n:=nw) (nm:=nm) (f:=f) (ab:=ab) hT hV (Or.inl hF));generalize zb4 t nw nm f ab=RV at *;generalize zay nw.sectors nm=K at *;go_enter Tryz.func9,Tryz.ntmps9;go_upto_region 1 with (fail);rw[HW0.out];obtain⟨t0,t1,t2,t3,t4,t5,t6,t7,t8⟩:=HD.out _ HB.out;go_wp2_with ((first|(go_at_call 40;with_reducible refine (CN.out _ HB.out).mono ?_)|(go_at_call 31;with_reducible refine (CT.out _ HB.out).mono ?_)|(go_at_call 32;with_reducible refine (CV.out _ HB.out).mono ?_)|(go_at_call 33;with_reducible refine (CF.out _ HB.out).mono ?_));rintro e v1 ⟨rfl,hb_⟩;(try clear t0 t1 t2 t3 t4 t5 t6 t7 t8);replace HB:=btr HB hb_;clear hb_;obtain⟨t0,t1,t2,t3,t4,t5,t6,t7,t8⟩:=HD.out _ HB.out);go_ret2;rw[HE.out];exact⟨none,0,[],rfl,B0.out.trans (HB.out.mono B0.out.size),zew _,In.nil⟩
   | true =>
    rw[hF] at CF
    cases hB:inB ab 1 3000 with
    | false =>
     rw[hB] at CA;have HE:=IJ (secLev_2 (t:=t) (n:=nw) (nm:=nm) (f:=f) (ab:=ab) hT hV (Or.inr hB));generalize zb4 t nw nm f ab=RV at *;generalize zay nw.sectors nm=K at *;go_enter Tryz.func9,Tryz.ntmps9;go_upto_region 1 with (fail);rw[HW0.out];obtain⟨t0,t1,t2,t3,t4,t5,t6,t7,t8⟩:=HD.out _ HB.out;go_wp2_with ((first|(go_at_call 40;with_reducible refine (CN.out _ HB.out).mono ?_)|(go_at_call 31;with_reducible refine (CT.out _ HB.out).mono ?_)|(go_at_call 32;with_reducible refine (CV.out _ HB.out).mono ?_)|(go_at_call 33;with_reducible refine (CF.out _ HB.out).mono ?_)|(go_at_call 34;with_reducible refine (CA.out _ HB.out).mono ?_));rintro e v1 ⟨rfl,hb_⟩;(try clear t0 t1 t2 t3 t4 t5 t6 t7 t8);replace HB:=btr HB hb_;clear hb_;obtain⟨t0,t1,t2,t3,t4,t5,t6,t7,t8⟩:=HD.out _ HB.out);go_ret2;rw[HE.out];exact⟨none,0,[],rfl,B0.out.trans (HB.out.mono B0.out.size),zew _,In.nil⟩
    | true =>
     rw[hB] at CA;have ha:=ask20_ok hT hV hF hB
     rcases idx_two nw.sectors nm with hk|⟨k,hk,hk2⟩
     ·have HE:=IJ (secLev_none ha hk)
      rw[hk] at CN;generalize zb4 t nw nm f ab=RV at *;go_enter Tryz.func9,Tryz.ntmps9;go_upto_region 1 with (fail);rw[HW0.out];obtain⟨t0,t1,t2,t3,t4,t5,t6,t7,t8⟩:=HD.out _ HB.out;go_wp2_with ((first|(go_at_call 40;with_reducible refine (CN.out _ HB.out).mono ?_)|(go_at_call 31;with_reducible refine (CT.out _ HB.out).mono ?_)|(go_at_call 32;with_reducible refine (CV.out _ HB.out).mono ?_)|(go_at_call 33;with_reducible refine (CF.out _ HB.out).mono ?_)|(go_at_call 34;with_reducible refine (CA.out _ HB.out).mono ?_));rintro e v1 ⟨rfl,hb_⟩;(try clear t0 t1 t2 t3 t4 t5 t6 t7 t8);replace HB:=btr HB hb_;clear hb_;obtain⟨t0,t1,t2,t3,t4,t5,t6,t7,t8⟩:=HD.out _ HB.out);go_ret2;rw[HE.out];exact⟨none,0,[],rfl,B0.out.trans (HB.out.mono B0.out.size),zew _,In.nil⟩
     ·have T:=terrB_ok hT
      have hFF:=zaq.1 hF;have hAB:=zaq.1 hB;obtain⟨ks,hks,his⟩:=netB_sectors hV k hk;obtain⟨ka,kr,hp⟩:=zc2 hV hk;have ea:=sector_above hV hk;obtain⟨b,off,rfl,hb,hat⟩:=hcs II;obtain⟨s0,s1,s2,s3,s4,s5,s6,s7,s8⟩:=hat k hk;rw[za3 hk] at s0 s1 s2 s3 s4 s5 s6 s7 s8;rw[hk2] at CN;have k0:(0:Int)≤(k:Int):=II
      have k1:(k:Int)<(nw.sectors.length:Int):=II
      have d2:decide ((k:Int)<0)=false:=decide_eq_false II;have CE:Hid (∀ W:World,OI W0 W0 W→Calls Tryz.prog 37 #[.agg #[IZ A0 nw.sites.length C0,IZ (some ⟨b,off,none⟩) nw.sectors.length C1,IZ A2 nw.antennas.length C2,IZ A3 nw.radios.length C3],.agg (zad nw.sectors k)] W fun e w'=>e=.returned (.agg (endR nw (zad nw.sectors k)))∧OI W W w'):=fun  W hW=>iEnd_any nw (zad nw.sectors k) _ _ _ _ W ((rnw0.below (B0.out.trans (hW.mono B0.out.size))).mono (B0.out.trans (hW.mono B0.out.size)).size) II ks hks his
      have CH:Hid (∀ W:World,OI W0 W0 W→Calls Tryz.prog 36 #[.agg (t,vt3,vt4),.agg #[J (endR nw (zad nw.sectors k)).place.x,J (endR nw (zad nw.sectors k)).place.y]] W fun e w'=>e=.returned (.bool (zee t (endR nw (zad nw.sectors k)).place))∧OI W W w'):=fun  W hW=>has_any t _ vt3 vt4 ⟨T.w0,T.w1⟩ ⟨T.h0,T.h1⟩ ⟨T.mw.1,Int.le_trans T.mw.2 Q47⟩ ⟨T.mh.1,Int.le_trans T.mh.2 Q47⟩ W
      have HD2:Hid (∀ W:World,OI W0 W0 W→((W,w.heap.size,0,J t.step)∧(W,w.heap.size,1,J t.width)∧(W,w.heap.size,2,J t.height)∧(W,w.heap.size,3,vt3)∧(W,w.heap.size,4,vt4)∧(W,w.heap.size+1,0,IZ A0 nw.sites.length C0)∧(W,w.heap.size+1,1,IZ (some ⟨b,off,none⟩) nw.sectors.length C1)∧(W,w.heap.size+1,2,IZ A2 nw.antennas.length C2)∧(W,w.heap.size+1,3,IZ A3 nw.radios.length C3))∧(W,b,off+k*9,IQ (zad nw.sectors k).name)∧(W,b,off+k*9+1,IQ (zad nw.sectors k).site)∧(W,b,off+k*9+2,IQ (zad nw.sectors k).antenna)∧(W,b,off+k*9+3,IQ (zad nw.sectors k).radio)∧(W,b,off+k*9+4,IQ (zad nw.sectors k).band)∧(W,b,off+k*9+5,J (zad nw.sectors k).azimuth)∧(W,b,off+k*9+6,J (zad nw.sectors k).tilt)∧(W,b,off+k*9+7,J (zad nw.sectors k).above)∧(W,b,off+k*9+8,J (zad nw.sectors k).channel)):=fun W hW=>⟨HD.out W hW,(bat (B0.out.trans (hW.mono B0.out.size)) b _ hb).trans s0,(bat (B0.out.trans (hW.mono B0.out.size)) b _ hb).trans s1,(bat (B0.out.trans (hW.mono B0.out.size)) b _ hb).trans s2,(bat (B0.out.trans (hW.mono B0.out.size)) b _ hb).trans s3,(bat (B0.out.trans (hW.mono B0.out.size)) b _ hb).trans s4,(bat (B0.out.trans (hW.mono B0.out.size)) b _ hb).trans s5,(bat (B0.out.trans (hW.mono B0.out.size)) b _ hb).trans s6,(bat (B0.out.trans (hW.mono B0.out.size)) b _ hb).trans s7,(bat (B0.out.trans (hW.mono B0.out.size)) b _ hb).trans s8⟩
      have hfd:∀ w:World,(Instr.field 55 (.agg (endR nw (zad nw.sectors k))) 0).run Tryz.prog w=.ok (.agg #[J (endR nw (zad nw.sectors k)).place.x,J (endR nw (zad nw.sectors k)).place.y]) w:=fun _=>by kernel_rfl
      cases hI:zee t (endR nw (zad nw.sectors k)).place with
      | false =>
       rw[hI] at CH;have HE:=IJ (secLev_out ha hk2 hI);clear s0 s1 s2 s3 s4 s5 s6 s7 s8 hat hcs ea hp his hks T L rt3 rt4 rnw0 rnw1 rnw2 rnw3 ha hT hV hF hB hI hFF hAB hk2;generalize zb4 t nw nm f ab=RV at *;generalize endR nw (zad nw.sectors k)=ER at *;generalize (zad nw.sectors k)=S at *;go_enter Tryz.func9,Tryz.ntmps9;go_upto_region 1 with (fail);rw[HW0.out];obtain⟨t0,t1,t2,t3,t4,t5,t6,t7,t8⟩:=HD.out _ HB.out;go_upto_region 8 with ((first|(go_at_call 40;with_reducible refine (CN.out _ HB.out).mono ?_)|(go_at_call 31;with_reducible refine (CT.out _ HB.out).mono ?_)|(go_at_call 32;with_reducible refine (CV.out _ HB.out).mono ?_)|(go_at_call 33;with_reducible refine (CF.out _ HB.out).mono ?_)|(go_at_call 34;with_reducible refine (CA.out _ HB.out).mono ?_));rintro e v1 ⟨rfl,hb_⟩;(try clear t0 t1 t2 t3 t4 t5 t6 t7 t8);replace HB:=btr HB hb_;clear hb_;obtain⟨t0,t1,t2,t3,t4,t5,t6,t7,t8⟩:=HD.out _ HB.out);clear t0 t1 t2 t3 t4 t5 t6 t7 t8;refine zas 11 (.read 0 (.read 1 (.read 2 (.read 3 (.read 4 (.read 5 (.read 6 (.one 7 (.read 8 (.one 9 (.read 10 .nil))))))))))) (fun W=>OI W0 W0 W) JI JI (HB.out.drew) ?_;have YB:=IJ (HB.out.drew);have Yz:v1.heap.size≤v1.drew.heap.size:=Nat.le_refl _;generalize v1.drew=Y at *
       iterate 7
        refine zak (v:=?_) rfl (fun _ _ _ h=>h) ?_ ?_
        rotate_left
        ·(intro W hSW;(try dsimp only at hSW);obtain⟨⟨t0,t1,t2,t3,t4,t5,t6,t7,t8⟩,s0,s1,s2,s3,s4,s5,s6,s7,s8⟩:=HD2.out W hSW;(go_simp<;>with_reducible rfl))
        (try simp only[Act.put,OO,OJ,OQ])
       refine zaf ?_;refine zae rfl (fun K hK=>?_);go_simp;refine (CE.out _ YB.out).mono ?_;rintro e Y1 ⟨rfl,hb1⟩;have YB1:=btr YB hb1;refine hK.out _ _ YB1.out ?_;clear hK K;have bs1:=hb1.size;clear hb1;refine zak (v:=?_) rfl (fun _ _ _ h=>h) ?_ ?_
       rotate_left
       ·(intro W hSW;(try dsimp only at hSW);obtain⟨⟨t0,t1,t2,t3,t4,t5,t6,t7,t8⟩,s0,s1,s2,s3,s4,s5,s6,s7,s8⟩:=HD2.out W hSW;(go_simp<;>with_reducible rfl))
       (try simp only[Act.put,OO,OJ,OQ])
       refine zaf ?_;refine zae rfl (fun K hK=>?_);go_simp;refine (CH.out _ YB1.out).mono ?_;rintro e Y2 ⟨rfl,hb2⟩;have YB2:=btr YB1 hb2;refine hK.out _ _ YB2.out ?_;clear hK K;have bs2:=hb2.size;clear hb2;refine zak (v:=?_) rfl (fun _ _ _ h=>h) ?_ ?_
       rotate_left
       ·(intro W hSW;(try dsimp only at hSW);obtain⟨⟨t0,t1,t2,t3,t4,t5,t6,t7,t8⟩,s0,s1,s2,s3,s4,s5,s6,s7,s8⟩:=HD2.out W hSW;(go_simp<;>with_reducible rfl))
       (try simp only[Act.put,OO,OJ,OQ])
       refine zat ?_;simp only[List.drop_succ_cons,List.drop_zero];skip;replace HB:=YB2;go_wp2_with (fail);go_ret2;rw[HE.out];exact⟨none,0,[],rfl,B0.out.trans (HB.out.mono B0.out.size),zew _,In.nil⟩
      | true =>
       rw[hI] at CH;have HE:=IJ (secLev_in ha hk2 hI);have CG:Hid (∀ W:World,OI W0 W0 W→Calls Tryz.prog 38 #[.agg #[IZ A0 nw.sites.length C0,IZ (some ⟨b,off,none⟩) nw.sectors.length C1,IZ A2 nw.antennas.length C2,IZ A3 nw.radios.length C3],.agg (t,vt3,vt4),.agg (zad nw.sectors k),J f,J ab] W fun e w'=>∃ (a':Option Addr) (c':Nat) (fp:List Nat),e=.returned (IZ a' (zdg t nw (zad nw.sectors k) f ab).length c')∧OI W W w'∧Own w' (zam (zdg t nw (zad nw.sectors k) f ab)) (IZ a' (zdg t nw (zad nw.sectors k) f ab).length c') fp∧In W w'.heap.size fp):=fun W hW=>iGrid_any t nw (zad nw.sectors k) f ab T _ _ _ _ vt3 vt4 (inTB_true.1 (show inTB t (endR nw (zad nw.sectors k)).place=true from hI)) ea hAB ks hks his ka kr hp II II II hFF.1 hFF.2 W ((rnw0.below (B0.out.trans (hW.mono B0.out.size))).mono (B0.out.trans (hW.mono B0.out.size)).size) ((rnw2.below (B0.out.trans (hW.mono B0.out.size))).mono (B0.out.trans (hW.mono B0.out.size)).size) ((rnw3.below (B0.out.trans (hW.mono B0.out.size))).mono (B0.out.trans (hW.mono B0.out.size)).size) ((rt3.below (B0.out.trans (hW.mono B0.out.size))).mono (B0.out.trans (hW.mono B0.out.size)).size) ((rt4.below (B0.out.trans (hW.mono B0.out.size))).mono (B0.out.trans (hW.mono B0.out.size)).size) (L.mono (B0.out.trans (hW.mono B0.out.size)))
       clear s0 s1 s2 s3 s4 s5 s6 s7 s8 hat hcs ea hp his hks T L rt3 rt4 rnw0 rnw1 rnw2 rnw3 ha hT hV hF hB hI hFF hAB hk2;generalize zb4 t nw nm f ab=RV at *;generalize endR nw (zad nw.sectors k)=ER at *;generalize zdg t nw (zad nw.sectors k) f ab=row at *;generalize (zad nw.sectors k)=S at *;go_enter Tryz.func9,Tryz.ntmps9;go_upto_region 1 with (fail);rw[HW0.out];obtain⟨t0,t1,t2,t3,t4,t5,t6,t7,t8⟩:=HD.out _ HB.out;go_upto_region 8 with ((first|(go_at_call 40;with_reducible refine (CN.out _ HB.out).mono ?_)|(go_at_call 31;with_reducible refine (CT.out _ HB.out).mono ?_)|(go_at_call 32;with_reducible refine (CV.out _ HB.out).mono ?_)|(go_at_call 33;with_reducible refine (CF.out _ HB.out).mono ?_)|(go_at_call 34;with_reducible refine (CA.out _ HB.out).mono ?_));rintro e v1 ⟨rfl,hb_⟩;(try clear t0 t1 t2 t3 t4 t5 t6 t7 t8);replace HB:=btr HB hb_;clear hb_;obtain⟨t0,t1,t2,t3,t4,t5,t6,t7,t8⟩:=HD.out _ HB.out);clear t0 t1 t2 t3 t4 t5 t6 t7 t8;refine zas 11 (.read 0 (.read 1 (.read 2 (.read 3 (.read 4 (.read 5 (.read 6 (.one 7 (.read 8 (.one 9 (.read 10 .nil))))))))))) (fun W=>OI W0 W0 W) JI JI (HB.out.drew) ?_;have YB:=IJ (HB.out.drew);have Yz:v1.heap.size≤v1.drew.heap.size:=Nat.le_refl _;generalize v1.drew=Y at *
       iterate 7
        refine zak (v:=?_) rfl (fun _ _ _ h=>h) ?_ ?_
        rotate_left
        ·(intro W hSW;(try dsimp only at hSW);obtain⟨⟨t0,t1,t2,t3,t4,t5,t6,t7,t8⟩,s0,s1,s2,s3,s4,s5,s6,s7,s8⟩:=HD2.out W hSW;(go_simp<;>with_reducible rfl))
        (try simp only[Act.put,OO,OJ,OQ])
       refine zaf ?_;refine zae rfl (fun K hK=>?_);go_simp;refine (CE.out _ YB.out).mono ?_;rintro e Y1 ⟨rfl,hb1⟩;have YB1:=btr YB hb1;refine hK.out _ _ YB1.out ?_;clear hK K;have bs1:=hb1.size;clear hb1;refine zak (v:=?_) rfl (fun _ _ _ h=>h) ?_ ?_
       rotate_left
       ·(intro W hSW;(try dsimp only at hSW);obtain⟨⟨t0,t1,t2,t3,t4,t5,t6,t7,t8⟩,s0,s1,s2,s3,s4,s5,s6,s7,s8⟩:=HD2.out W hSW;(go_simp<;>with_reducible rfl))
       (try simp only[Act.put,OO,OJ,OQ])
       refine zaf ?_;refine zae rfl (fun K hK=>?_);go_simp;refine (CH.out _ YB1.out).mono ?_;rintro e Y2 ⟨rfl,hb2⟩;have YB2:=btr YB1 hb2;refine hK.out _ _ YB2.out ?_;clear hK K;have bs2:=hb2.size;clear hb2;refine zak (v:=?_) rfl (fun _ _ _ h=>h) ?_ ?_
       rotate_left
       ·(intro W hSW;(try dsimp only at hSW);obtain⟨⟨t0,t1,t2,t3,t4,t5,t6,t7,t8⟩,s0,s1,s2,s3,s4,s5,s6,s7,s8⟩:=HD2.out W hSW;(go_simp<;>with_reducible rfl))
       (try simp only[Act.put,OO,OJ,OQ])
       refine zat ?_;simp only[List.drop_succ_cons,List.drop_zero];skip;have HB8:=YB2;go_upto_region 10 with (fail);refine zas 10 (.read 0 (.read 1 (.read 2 (.read 3 (.read 4 (.read 5 (.read 6 (.read 7 (.read 8 (.one 9 .nil)))))))))) (fun W=>OI W0 W0 W) JI JI (HB8.out.drew) ?_;have ZB:=IJ (HB8.out.drew);have Zz:Y2.heap.size≤Y2.drew.heap.size:=Nat.le_refl _;generalize Y2.drew=Z at *
       iterate 9
        refine zak (v:=?_) rfl (fun _ _ _ h=>h) ?_ ?_
        rotate_left
        ·(intro W hSW;(try dsimp only at hSW);obtain⟨⟨t0,t1,t2,t3,t4,t5,t6,t7,t8⟩,s0,s1,s2,s3,s4,s5,s6,s7,s8⟩:=HD2.out W hSW;(go_simp<;>with_reducible rfl))
        (try simp only[Act.put,OO,OJ,OQ])
       refine zaf ?_;refine zae rfl (fun K hK=>?_);go_simp;refine (CG.out _ ZB.out).mono ?_;rintro e Z1 ⟨a6,c6,fp,rfl,hb1,ho1,hi1⟩;have ZB1:=btr ZB hb1;refine hK.out _ _ ZB1.out ?_;clear hK K;have bs1:=hb1.size;have Zoq1:=IJ ho1;have Ziq1:=IJ hi1;clear ho1 hi1;clear hb1;refine zat ?_;simp only[List.drop_succ_cons,List.drop_zero];skip;replace HB:=ZB1;have IV:Hid (In w Z1 fp):=Ziq1.out.mono (by have:=B0.out.size;have:=ZB.out.size;omega) (Nat.le_refl _);go_wp2_with (fail);go_ret2;rw[HE.out]
       first
        | exact⟨a6,c6,fp,rfl,B0.out.trans (HB.out.mono B0.out.size),Zoq1.out,IV.out⟩
        | exact⟨a6,c6,rfl,B0.out.trans (HB.out.mono B0.out.size),fp,Zoq1.out,IV.out⟩
end Go.Proofs.YtpakghepnahooaaGreatDoor
