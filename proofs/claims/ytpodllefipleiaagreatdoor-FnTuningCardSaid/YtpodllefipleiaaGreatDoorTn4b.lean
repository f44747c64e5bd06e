/- Rows of samples whose cells are stored one by one, and contracts: drawn samples of the reference. Condition: a place in the source that is not too great. -/
import Derived.Test.YtpodllefipleiaaGreatDoorTn4
import Derived.Test.YtpodllefipleiaaGreatDoorTn5
set_option linter.unusedVariables false
set_option linter.unusedSimpArgs false
namespace Go.Proofs.YtpodllefipleiaaGreatDoor
open Go.RowKit
set_option maxHeartbeats 16000000
set_option maxRecDepth 100000
structure RowS (w:World) (b off n:Nat):Prop where
 at_:∀ i,i<n*2→∃ x:Int,I64 x∧w.cell? ⟨b,off+i,none⟩=some (.int .i64 x)
 open_:∀ i,w.frozen? ⟨b,i,none⟩=false
theorem RowS.frame {w w':World} {b off n:Nat} (h:RowS w b off n) (hf:w'.heap[b]? = w.heap[b]?):RowS w' b off n :=
 ⟨fun i hi=>by
  obtain⟨x,hx,e⟩:=h.at_ i hi
  exact⟨x,hx,by rw[World.cell?_of_block (w:=w) hf];exact e⟩,fun i=>by rw[World.frozen?_of_block (w:=w) hf];exact h.open_ i⟩
theorem RowS.set {w:World} {b off n:Nat} (h:RowS w b off n) (j:Nat) (hj:j<n*2) (x:Int) (hx:I64 x):RowS (w.setCell ⟨b,off+j,none⟩ (.int .i64 x)) b off n:=by
 refine⟨fun i hi=>?_,fun i=>by have:=h.open_ i;simp[go_sem,this]⟩;obtain⟨y,hy,e⟩:=h.at_ i hi
 by_cases c:i=j
 ·subst c
  exact⟨x,hx,by simp[go_sem,e]⟩
 ·exact⟨y,hy,by
   have c':¬ (off+i=off+j):=by omega
   simp[go_sem,e,c']⟩
theorem RowS.vals {w:World} {b off:Nat} : (n:Nat)→RowS w b off n→∃ l:List DSample,l.length=n∧(∀ x ∈ l,x.ok)∧RowV w b off (l.flatMap DSample.vs)
 | 0,h=>⟨[],rfl,fun x hx=>by simp at hx,⟨fun j u hu=>by simp at hu,h.open_⟩⟩
 | n+1,h=>by
  obtain⟨l,hl,hk,hv⟩:=RowS.vals n ⟨fun i hi=>h.at_ i (by omega),h.open_⟩;obtain⟨d,hd,e0⟩:=h.at_ (n*2) (by omega);obtain⟨v,hv2,e1⟩:=h.at_ (n*2+1) (by omega);have hn:(l.flatMap DSample.vs).length=n*2:=by rw[zai DSample.vs 2 DSample.vs_len,hl]
  refine⟨l++[⟨d,v⟩],by simp[hl],fun x hx=>?_,⟨fun j u hu=>?_,h.open_⟩⟩
  ·rcases List.mem_append.1 hx with hx|hx
   ·exact hk x hx
   ·obtain rfl:x=⟨d,v⟩:=by simpa using hx
    exact⟨hd,hv2⟩
  ·rw[List.flatMap_append] at hu
   by_cases c:j<n*2
   ·rw[List.getElem?_append_left (by rw[hn];exact c)] at hu
    exact hv.cell j u hu
   ·rw[List.getElem?_append_right (by rw[hn];omega),hn] at hu
    have hj:=(List.getElem?_eq_some_iff.1 hu).1;simp[DSample.vs] at hj;obtain rfl|rfl:j=n*2∨j=n*2+1:=by omega
    ·simp[DSample.vs] at hu;subst hu;exact e0
    ·simp[DSample.vs] at hu;subst hu;exact e1
theorem Own.rowS {w:World} {l:List DSample} {a:Option Addr} {c:Nat} {fp:List Nat} (h:Own w (DSample.sT l) (.slice a l.length c) fp) (hk:∀ x ∈ l,x.ok) :
  l.length≤c∧c≤maxLen∧(0<l.length→∃ b off,a=some ⟨b,off,none⟩∧fp = [b]∧RowS w b off l.length):=by
 rw[DSample.sT_vs] at h;obtain⟨h1,h2,h3,h4⟩:=h.rowV;refine⟨h2,h3,fun hn=>?_⟩;have hlen:=zai DSample.vs 2 DSample.vs_len l;obtain⟨b,off,ha,hf,hv⟩:=h4 (fun e=>by rw[e] at hlen;simp at hlen;omega);refine⟨b,off,ha,hf,fun i hi=>?_,hv.free⟩;have hi':i<(l.flatMap DSample.vs).length:=by rw[hlen];exact hi
 obtain⟨x,hx,hu⟩:=List.mem_flatMap.1 (List.getElem_mem hi');have he:=hv.at_ i hi';simp only[DSample.vs,List.mem_cons,List.not_mem_nil,or_false] at hu
 rcases hu with e|e
 ·rw[e] at he;exact⟨_,(hk x hx).distance,he⟩
 ·rw[e] at he;exact⟨_,(hk x hx).level,he⟩
theorem RowS.own {w:World} {b off n c:Nat} (h:RowS w b off n) (hn:n≤c) (hc:c≤maxLen):∃ (l:List DSample) (fp:List Nat),l.length=n∧(∀ x ∈ l,x.ok)∧Own w (DSample.sT l) (.slice (some ⟨b,off,none⟩) n c) fp∧∀ y ∈ fp,y=b:=by
 obtain⟨l,hl,hk,hv⟩:=RowS.vals n h;obtain⟨fp,ho,hf⟩:=hv.own (k:=2) (n:=n) (c:=c) (by rw[zai DSample.vs 2 DSample.vs_len,hl]) hn hc;exact⟨l,fp,hl,hk,by rw[DSample.sT_vs];exact ho,hf⟩
theorem own_emptyD (w:World) (E:Nat):(w.alloc (.cells #[] E)).ownsRow w.heap.size E 2 (.slice (some ⟨w.heap.size,0,none⟩) 0 0) 0 [] :=
 ⟨rfl,Or.inr ⟨w.heap.size,0,#[],rfl,Nat.le_refl _,by show (w.heap.push _)[w.heap.size]? = _;simp,Nat.le_refl _,Nat.zero_le _,rfl,by simp⟩⟩
theorem grow_emptyD (w:World) (E:Nat):Grow (w.alloc (.cells #[] E)) w.heap.size E 2 (.slice (some ⟨w.heap.size,0,none⟩) 0 0) 0 [] []:=⟨⟨[],own_emptyD w E,rfl⟩,List.nodup_nil,fun b h=>by simp at h,fun g _=>by simp⟩
theorem infoSmpD:(Tryz.prog.info? 41).map (fun i=>(i.zero,i.size,i.bytes))=some (some (.agg #[.int .i64 0,.int .i64 0]),2,16):=by kernel_rfl
theorem Chg.onB {fp:List Nat} {a w1 w2:World} (h:Chg fp a w1) (hb:Below a.heap.size w1 w2):Chg fp a w2:=⟨hb.os.trans h.os,hb.tape.trans h.tape,hb.output.trans h.output,Nat.le_trans h.size hb.size,fun x hx hn=>(hb.block x hx).trans (h.block x hx hn)⟩
def RowX (lo:Nat) (w:World) (a:Option Addr) (n c:Nat):Prop:=n≤c∧c≤maxLen∧(0<n→∃ b off,a=some ⟨b,off,none⟩∧lo≤b∧b<w.heap.size∧RowS w b off n)
theorem RowX.frame {lo b:Nat} {w w':World} {a:Option Addr} {n c:Nat} (h:RowX lo w a n c) (hb:b<lo) (hc:Chg [b] w w'):RowX lo w' a n c:=by
 obtain⟨h1,h2,h3⟩:=h;refine⟨h1,h2,fun hn=>?_⟩;obtain⟨b',off,e,g1,g2,g3⟩:=h3 hn;exact⟨b',off,e,g1,Nat.lt_of_lt_of_le g2 hc.size,g3.frame (hc.block b' g2 (by simp<;>omega))⟩
theorem RowX.of_own {lo:Nat} {w:World} {l:List DSample} {a:Option Addr} {c:Nat} {fp:List Nat} (h:Own w (DSample.sT l) (.slice a l.length c) fp) (hi:In lo w.heap.size fp) (hk:∀ x ∈ l,x.ok):RowX lo w a l.length c:=by
 obtain⟨h1,h2,h3⟩:=h.rowS hk;refine⟨h1,h2,fun hn=>?_⟩;obtain⟨b,off,e,rfl,hr⟩:=h3 hn;exact⟨b,off,e,(hi b (by simp)).1,(hi b (by simp)).2,hr⟩
theorem RowX.own {lo:Nat} {w:World} {a:Option Addr} {n c:Nat} (h:RowX lo w a n c):∃ (l:List DSample) (fp:List Nat),l.length=n∧(∀ x ∈ l,x.ok)∧Own w (DSample.sT l) (.slice a n c) fp∧In lo w.heap.size fp:=by
 obtain⟨h1,h2,h3⟩:=h
 rcases Nat.eq_zero_or_pos n with rfl|hn
 ·exact⟨[],[],rfl,fun x hx=>by simp at hx,⟨zaw.2 ⟨_,0,c,rfl,rfl,h1,h2,Or.inl ⟨rfl,rfl⟩⟩,List.nodup_nil,fun b h=>by simp at h⟩,In.nil⟩
 ·obtain⟨b,off,rfl,g1,g2,hr⟩:=h3 hn
  obtain⟨l,fp,e,hk,ho,hf⟩:=hr.own h1 h2;exact⟨l,fp,e,hk,ho,fun x hx=>by rw[hf x hx];exact⟨g1,g2⟩⟩
theorem RowX.set {lo:Nat} {w:World} {b off n c:Nat} (h1:n≤c) (h2:c≤maxLen) (g1:lo≤b) (g2:b<w.heap.size) (h:RowS w b off n) (j:Nat) (hj:j<n*2) (x:Int) (hx:I64 x):RowX lo (w.setCell ⟨b,off+j,none⟩ (.int .i64 x)) (some ⟨b,off,none⟩) n c :=
 ⟨h1,h2,fun _=>⟨b,off,rfl,g1,by simpa using g2,h.set j hj x hx⟩⟩
def SmpD (b k m:Nat) (w:World) (e:Ending) (w':World):Prop:=∃ (l:List DSample) (a:Option Addr) (c:Nat) (fp:List Nat),l.length≤65∧(∀ x ∈ l,x.ok)∧e=.returned (.slice a l.length c)∧Own w' (DSample.sT l) (.slice a l.length c) fp∧In w.heap.size w'.heap.size fp∧SrcQ b k m w w'
theorem zbe (b k:Nat) (w:World) (h:Src w b k) (hk:k≤1099511600000) :
  Calls Tryz.prog 23 #[.pointer (some ⟨b,0,none⟩)] w (SmpD b k 1000 w):=by
 have HP:=Lib.hid fun (k':Nat) (n:Int) (W:World) (h1:Src W b k') (h2:k'≤k+1000) (h3:1≤n) (h4:n≤10000)=>pick_pos b k' n W h1 (by omega) h3 (by omega)
 have HO:=Lib.hid fun (k':Nat) (W:World) (h1:Src W b k') (h2:k'≤k+1000)=>one_any b k' 14 W h1 (by omega) ⟨by omega,by omega⟩
 have HD:=Lib.hid fun (k':Nat) (W:World) (h1:Src W b k') (h2:k'≤k+1000)=>l09DrawDistance_any b k' W h1 (by omega)
 obtain⟨i0,hi0,hz0,hz1,hz2⟩:=info_partsS infoSmpD;have yb:=h.lt;have ba:Below w.heap.size w (w.alloc (.cells #[] 41)):=(Below.refl _ _).alloc (Nat.le_refl _) _;have HS:Hid (Src (w.alloc (.cells #[] 41)) b k):=h.below h.lt ba;have HC:Hid (Chg [b] w (w.alloc (.cells #[] 41))):=Chg.of_below ba;have HG:=Lib.hid (grow_emptyD w 41);have zA:(w.alloc (.cells #[] 41)).heap.size=w.heap.size+1:=by simp
 clear h ba;go_enter Tryz.func23,Tryz.ntmps23;go_wp2_with (fail)
 go_at_call 62
 refine (HP.out k 3 _ HS.out (by omega) (by omega) (by omega)).mono ?_;rintro e w1 ⟨⟨x,hx0,hx1,rfl⟩,k1,g1,g2,S1,C1⟩;have z1:=C1.size;have HG1:=Lib.hid (HG.out.chg In.nil yb (Nat.lt_succ_self b) C1);have HS1:=Lib.hid S1;have HC1:=Lib.hid (HC.out.trans C1);clear S1 C1 HS HC HG;go_wp2_with (fail)
 go_at_call 62
 refine (HP.out k1 8 _ HS1.out (by omega) (by omega) (by omega)).mono ?_;rintro e w2 ⟨⟨y,hy0,hy1,rfl⟩,k2,g3,g4,S2,C2⟩;have z2:=C2.size;have HG2:=Lib.hid (HG1.out.chg In.nil yb (Nat.lt_succ_self b) C2);have HS2:=Lib.hid S2;have HC2:=Lib.hid (HC1.out.trans C2);clear S2 C2 HS1 HC1 HG1;go_wp2_with (fail)
 go_at_call 44
 refine (HO.out k2 _ HS2.out (by omega)).mono ?_;rintro e w3 ⟨⟨q,rfl⟩,k3,g5,g6,S3,C3⟩;have z3:=C3.size;have HG3:=Lib.hid (HG2.out.chg In.nil yb (Nat.lt_succ_self b) C3);have HS3:=Lib.hid S3;have HC3:=Lib.hid (HC2.out.trans C3);clear S3 C3 HS2 HC2 HG2;go_upto_if 17 with (fail);go_cut [4,5] (fun s4 s5 wx=>∃ (sl:Int) (n k4:Nat),s4=.int .i64 sl∧s5=.int .i64 n∧2≤sl∧sl≤4∧n≤65∧k≤k4∧k4≤k+8∧Src wx b k4∧Chg [b] w wx∧Grow wx w.heap.size 41 2 (.slice (some ⟨w.heap.size,0,none⟩) 0 0) 0 [] []∧w1.heap.size≤wx.heap.size)
 case first =>
  cases q with
  | false =>
   go_wp2;go_meet;exact⟨x+2,y.toNat,k3,rfl,by rw[Int.toNat_of_nonneg hy0],by omega,by omega,by omega,by omega,by omega,HS3.out,HC3.out,HG3.out,by omega⟩
  | true =>
   go_wp2_with (fail)
   go_at_call 63
   have BA:Below w3.heap.size w3 (w3.alloc (.cells #[.int .i64 64,.int .i64 65] 2)):=(Below.refl _ _).alloc (Nat.le_refl _) _;refine (zbr b k3 [64,65] w3.heap.size 2 _ (HS3.out.below HS3.out.lt BA) (by omega) (by have:=HS3.out.lt;omega) (by simp) (by simp) (LayI.new w3 _ [64,65] 2 rfl)).mono ?_;rintro e w4 ⟨⟨v,hv,rfl⟩,k4,g7,g8,S4,C4⟩;have HV:Hid (v=((v.toNat:Nat):Int)∧v.toNat≤65):=by
    show _∧_
    simp only[List.mem_cons,List.not_mem_nil,or_false] at hv
    rcases hv with rfl|rfl<;>exact⟨rfl,by decide⟩
   have z4:=C4.size;have z5:=BA.size;have HG4:=Lib.hid ((HG3.out.below (lo:=0) In.nil BA).chg In.nil yb (Nat.lt_succ_self b) C4);have HC4:=Lib.hid ((HC3.out.trans (Chg.of_below BA)).trans C4);have HS4:=Lib.hid S4;clear S4 C4 BA hv HS3 HC3 HG3;go_wp2;go_meet;exact⟨x+2,v.toNat,k4,rfl,by rw[← HV.out.1],by omega,by omega,HV.out.2,by omega,by omega,HS4.out,HC4.out,HG4.out,by omega⟩
 case rest =>
  obtain⟨sl,n,k4,rfl,rfl,sl0,sl1,hn,g7,g8,S4,C4,G4,z4⟩:=hcut;clear HS3 HC3 HG3;have HS4:=Lib.hid S4;have HC4:=Lib.hid C4;have HG4:=Lib.hid G4;have z5:=C4.size;clear S4 C4 G4 g1 g2 g3 g4 g5 g6 hx0 hx1 hy0 hy1;generalize wc=w4 at *;have hni:(n:Int)≤65:=by omega
  go_wp2;go_loopw [3,6] (fun v i wr=>∃ (m:Nat) (vs:List DSample) (k':Nat),m≤n∧i=.int .i64 m∧vs.length=m∧(∀ x ∈ vs,x.ok)∧k≤k'∧k'≤k+8+m*8∧Src wr b k'∧Chg [b] w wr∧w1.heap.size≤wr.heap.size∧Grow wr w.heap.size 41 2 v vs.length (vs.flatMap DSample.tr) []) (fun _ i wr=>n-(intOf i).toNat)
  case atStart=>exact⟨0,[],k4,Nat.zero_le _,rfl,rfl,fun x hx=>by simp at hx,g7,by omega,HS4.out,HC4.out,z4,HG4.out⟩
  case round =>
   obtain⟨m,vs,k5,hm,rfl,hvl,hok,g9,g10,S5,C5,z6,G5⟩:=hrel;have HS5:=Lib.hid S5;have HC5:=Lib.hid C5;have HG5:=Lib.hid G5;have HVL:=Lib.hid hvl;have HOK:=Lib.hid hok;have hvn:vs.length≤65:=by omega
   clear S5 C5 G5 hvl hok HS4 HC4 HG4
   by_cases hlt:m<n
   ·have hlti:(m:Int)<(n:Int):=by omega
    go_wp2_with (fail)
    go_at_call 64
    refine (HD.out k5 _ HS5.out (by omega)).mono ?_;rintro e w6 ⟨⟨d0,hd0,hd1,rfl⟩,k6,g11,g12,S6,C6⟩;have z7:=C6.size;have HG6:=Lib.hid (HG5.out.chg In.nil yb (Nat.lt_succ_self b) C6);have HS6:=Lib.hid S6;have HC6:=Lib.hid (HC5.out.trans C6);clear S6 C6 HS5 HC5 HG5;go_upto_if 29 with (fail);go_cut [7] (fun s7 wx=>∃ d:Int,s7=.int .i64 d∧1≤d∧d≤300000∧wx=w6)
    case first =>
     by_cases c1:d0<1
     ·go_wp2
      go_meet;exact⟨1,rfl,by omega,by omega,rfl⟩
     ·go_wp2
      go_meet;exact⟨d0,rfl,by omega,by omega,rfl⟩
    case rest =>
     obtain⟨d,rfl,d1,d2,rfl⟩:=hcut;clear hd0 hd1;have HL:=Lib.hid (l02Log_any d d1 (by omega) wc);obtain⟨l0,l1⟩:=lgB_bd d1 (show d≤9223372036854775807 by omega);generalize lgB d=lg at *;have m0:=zbp (a:=sl) (b:=lg) (A:=4) (B:=190000) (by omega) (by omega) (by omega) (by omega) (by omega);go_wp2_with (fail)
     go_at_call 65
     refine HL.out.mono ?_;rintro e w7 ⟨rfl,hb7⟩;have z8:=hb7.size;have HG7:=Lib.hid (HG6.out.below (lo:=0) In.nil hb7);have HS7:=Lib.hid (HS6.out.below HS6.out.lt hb7);have HC7:=Lib.hid (HC6.out.trans (Chg.of_below hb7));clear hb7 HS6 HC6 HG6 HL;go_wp2_with (fail)
     go_at_call 62
     refine (HP.out k6 6000 _ HS7.out (by omega) (by omega) (by omega)).mono ?_;rintro e w8 ⟨⟨u,hu0,hu1,rfl⟩,k8,g13,g14,S8,C8⟩;have z9:=C8.size;have HG8:=Lib.hid (HG7.out.chg In.nil yb (Nat.lt_succ_self b) C8);have HS8:=Lib.hid S8;have HC8:=Lib.hid (HC7.out.trans C8);clear S8 C8 HS7 HC7 HG7;go_wp2_with (at_builtin;refine za6 rfl (.tmp 35) (.tmp 43) _ rfl w.heap.size 41 i0 _ 2 16 Tryz.underlying24 hi0 hz0 hz1 hz2 rfl (by omega) _ _ _ [] rfl HG8.out [.int .i64 d,.int .i64 (-20000-sl*lg+u-3000)] (DSample.tr ⟨d,-20000-sl*lg+u-3000⟩) [] rfl 1 rfl (fun x hx=>by simp at hx;rcases hx with rfl|rfl<;>rfl) (RepV_lits _ [.int .i64 d,.int .i64 (-20000-sl*lg+u-3000)]) List.nodup_nil (fun b h=>by simp at h) 0 In.nil In.nil (by simp) (by simp) (by unfold maxLen;omega) (by omega) (by omega) ?_;intro v2 w9 hgn);have HGN:=Lib.hid hgn;clear hgn;go_wp2;go_roundw
     case rel =>
      have hb9:=HGN.out.below;refine⟨m+1,vs++[⟨d,-20000-sl*lg+u-3000⟩],k8,by omega,by go_num,by rw[List.length_append,HVL.out];rfl,fun x hx=>?_,by omega,by omega,HS8.out.below yb hb9,HC8.out.onB hb9,by have:=hb9.size;omega,?_⟩
      ·rcases List.mem_append.1 hx with hx|hx
       ·exact HOK.out x hx
       ·obtain rfl:x=⟨d,-20000-sl*lg+u-3000⟩:=by simpa using hx
        exact⟨⟨by show -9223372036854775808≤d;omega,by show d≤9223372036854775807;omega⟩,⟨by show -9223372036854775808≤-20000-sl*lg+u-3000;omega,by show -20000-sl*lg+u-3000≤9223372036854775807;omega⟩⟩
      ·rw[List.length_append,List.flatMap_append]
       simpa using HGN.out.grow
     case measure=>simp[intOf];omega
   ·obtain rfl:m=n:=by omega
    obtain⟨av,cv,fv,ev,ov,iv⟩:=HG5.out.toOwn (lo:=w.heap.size) (by omega) In.nil (by omega);subst ev;have RX:=RowX.of_own ov iv HOK.out;rw[HVL.out] at RX ⊢;clear ov iv HG5 HVL HOK hvn hlt;have zc:(m:Int)≤cv:=by have:=RX.1;omega
    have HX5:=Lib.hid RX;clear RX;go_wp2_with (fail)
    go_at_call 62
    refine (HP.out k5 14 _ HS5.out (by omega) (by omega) (by omega)).mono ?_;rintro e w6 ⟨⟨u,hu0,hu1,rfl⟩,k6,g11,g12,S6,C6⟩;have z7:=C6.size;have HX6:=Lib.hid (HX5.out.frame yb C6);have HS6:=Lib.hid S6;have HC6:=Lib.hid (HC5.out.trans C6);clear S6 C6 HS5 HC5 HX5
    by_cases c0:u=0
    ·subst c0
     by_cases cn:0<m
     ·obtain⟨e1,e2,e3⟩:=HX6.out
      obtain⟨b',off,rfl,j1,j2,hr⟩:=e3 cn;have cni:(0:Int)<(m:Int):=by omega
      go_wp2_with (fail)
      go_at_call 63
      have BA:Below w6.heap.size w6 (w6.alloc (.cells #[.int .i64 (-300000),.int .i64 300000,.int .i64 300001] 2)):=(Below.refl _ _).alloc (Nat.le_refl _) _;refine (zbr b k6 [-300000,300000,300001] w6.heap.size 3 _ (HS6.out.below HS6.out.lt BA) (by omega) (by have:=HS6.out.lt;omega) (by simp) (by simp) (LayI.new w6 _ [-300000,300000,300001] 2 rfl)).mono ?_;rintro e w8 ⟨⟨v,hv,rfl⟩,k8,g13,g14,S8,C8⟩;have HV:Hid (I64 v):=by
       show _∧_
       simp only[List.mem_cons,List.not_mem_nil,or_false] at hv
       rcases hv with rfl|rfl|rfl<;>omega
      have z8:=C8.size;have z9:=BA.size;have hr8:=hr.frame (w':=w8) ((C8.block _ (by omega) (by simp<;>omega)).trans (BA.block _ j2));have HS8:=Lib.hid S8;have HC8:=Lib.hid ((HC6.out.trans (Chg.of_below BA)).trans C8);obtain⟨xx,_,s0⟩:=hr8.at_ 1 (by omega);have f0:=hr8.open_ (off+1);have HR8:=Lib.hid hr8;clear S8 C8 BA hv HS6 HC6 HX6 hr8 hr;go_wp2;have HXX:=Lib.hid (RowX.set e1 e2 j1 (show b' < w8.heap.size by omega) HR8.out 1 (by omega) v HV.out);obtain⟨l,fp,el,hk,ho,hi⟩:=HXX.out.own;have hS:=HS8.out.setO (p:=⟨b',off+1,none⟩) (by show b<b';omega) (.int .i64 v);have hC:=HC8.out.setN (p:=⟨b',off+1,none⟩) (by show w.heap.size≤b';omega) (.int .i64 v);subst el;go_ret;exact⟨l,_,cv,fp,by omega,hk,rfl,ho,hi,k8,by omega,by omega,hS,hC⟩
     ·have cni:¬ (0:Int)<(m:Int):=by omega
      go_wp2;obtain⟨l,fp,el,hk,ho,hi⟩:=HX6.out.own;subst el;go_ret;exact⟨l,_,cv,fp,by omega,hk,rfl,ho,hi,k6,by omega,by omega,HS6.out,HC6.out⟩
    ·have d0:(u == 0)=false:=by simpa using c0
     by_cases c1:u=1
     ·subst c1
      by_cases cn:0<m
      ·obtain⟨e1,e2,e3⟩:=HX6.out
       obtain⟨b',off,rfl,j1,j2,hr⟩:=e3 cn;have cni:(0:Int)<(m:Int):=by omega
       go_wp2_with (fail)
       go_at_call 63
       have BA:Below w6.heap.size w6 (w6.alloc (.cells #[.int .i64 0,.int .i64 1,.int .i64 283001] 2)):=(Below.refl _ _).alloc (Nat.le_refl _) _;refine (zbr b k6 [0,1,283001] w6.heap.size 3 _ (HS6.out.below HS6.out.lt BA) (by omega) (by have:=HS6.out.lt;omega) (by simp) (by simp) (LayI.new w6 _ [0,1,283001] 2 rfl)).mono ?_;rintro e w8 ⟨⟨v,hv,rfl⟩,k8,g13,g14,S8,C8⟩;have HV:Hid (I64 v):=by
        show _∧_
        simp only[List.mem_cons,List.not_mem_nil,or_false] at hv
        rcases hv with rfl|rfl|rfl<;>omega
       have z8:=C8.size;have z9:=BA.size;have hr8:=hr.frame (w':=w8) ((C8.block _ (by omega) (by simp<;>omega)).trans (BA.block _ j2));have HS8:=Lib.hid S8;have HC8:=Lib.hid ((HC6.out.trans (Chg.of_below BA)).trans C8);obtain⟨xx,_,s0⟩:=hr8.at_ 0 (by omega);have f0:=hr8.open_ (off+0);rw[Nat.add_zero] at s0 f0;have HR8:=Lib.hid hr8;clear S8 C8 BA hv HS6 HC6 HX6 hr8 hr;go_wp2;have HXX:=Lib.hid (RowX.set e1 e2 j1 (show b' < w8.heap.size by omega) HR8.out 0 (by omega) v HV.out);obtain⟨l,fp,el,hk,ho,hi⟩:=HXX.out.own;have hS:=HS8.out.setO (p:=⟨b',off+0,none⟩) (by show b<b';omega) (.int .i64 v);have hC:=HC8.out.setN (p:=⟨b',off+0,none⟩) (by show w.heap.size≤b';omega) (.int .i64 v);subst el;go_ret;exact⟨l,_,cv,fp,by omega,hk,rfl,ho,hi,k8,by omega,by omega,hS,hC⟩
      ·have cni:¬ (0:Int)<(m:Int):=by omega
       go_wp2;obtain⟨l,fp,el,hk,ho,hi⟩:=HX6.out.own;subst el;go_ret;exact⟨l,_,cv,fp,by omega,hk,rfl,ho,hi,k6,by omega,by omega,HS6.out,HC6.out⟩
     ·have d1:(u == 1)=false:=by simpa using c1
      by_cases c2:u=2
      ·subst c2
       go_wp2;go_loopw [9] (fun i wr=>∃ j:Nat,1≤j∧i=.int .i64 j∧(j=1∨j≤m)∧RowX w.heap.size wr av m cv∧Src wr b k6∧Chg [b] w wr) (fun i wr=>m-(intOf i).toNat)
       case atStart=>exact⟨1,Nat.le_refl _,rfl,Or.inl rfl,HX6.out,HS6.out,HC6.out⟩
       case round =>
        obtain⟨j,hj,rfl,hjm,X7,S7,C7⟩:=hrel;have HX7:=Lib.hid X7;have HS7:=Lib.hid S7;have HC7:=Lib.hid C7;clear X7 S7 C7 HX6 HS6 HC6
        by_cases hlt2:j<m
        ·obtain⟨e1,e2,e3⟩:=HX7.out
         obtain⟨b',off,rfl,j1,j2,hr⟩:=e3 (by omega);obtain⟨xx,hxx,s0⟩:=hr.at_ 0 (by omega);obtain⟨yy,_,s1⟩:=hr.at_ (j*2) (by omega);have f0:=hr.open_ (off+j*2);rw[Nat.add_zero] at s0;have hjm2:(j:Int)<(m:Int):=by omega
         have HR:=Lib.hid hr;clear hr HX7;go_wp2;go_roundw
         case rel =>
          exact⟨j+1,by omega,by go_num,Or.inr (by omega),RowX.set e1 e2 j1 j2 HR.out (j*2) (by omega) xx hxx,HS7.out.setO (p:=⟨b',off+j*2,none⟩) (by show b<b';omega) _,HC7.out.setN (p:=⟨b',off+j*2,none⟩) (by show w.heap.size≤b';omega) _⟩
         case measure=>simp[intOf];omega
        ·have hjm2:¬ (j:Int)<(m:Int):=by omega
         go_wp2;obtain⟨l,fp,el,hk,ho,hi⟩:=HX7.out.own;subst el;go_ret;exact⟨l,_,cv,fp,by omega,hk,rfl,ho,hi,k6,by omega,by omega,HS7.out,HC7.out⟩
      ·have d2:(u == 2)=false:=by simpa using c2
       go_wp2;obtain⟨l,fp,el,hk,ho,hi⟩:=HX6.out.own;subst el;go_ret;exact⟨l,_,cv,fp,by omega,hk,rfl,ho,hi,k6,by omega,by omega,HS6.out,HC6.out⟩
end Go.Proofs.YtpodllefipleiaaGreatDoor
