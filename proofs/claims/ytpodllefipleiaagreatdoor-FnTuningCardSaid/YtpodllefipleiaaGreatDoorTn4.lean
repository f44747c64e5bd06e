/- Contracts: drawn samples and a drawn fit of the reference: some samples of bounded number, some fit. Condition: a place in the source that is not too great. -/
import Derived.Test.YtpodllefipleiaaGreatDoorSrc
import Derived.Test.YtpodllefipleiaaGreatDoorTn3
import Derived.Test.YtpodllefipleiaaGreatDoorLg1
set_option linter.unusedVariables false
set_option linter.unusedSimpArgs false
namespace Go.Proofs.YtpodllefipleiaaGreatDoor
open Go.RowKit
set_option maxHeartbeats 8000000
theorem info_partsS {t:TypeId} {z:Value} {s b:Nat} (h:(Tryz.prog.info? t).map (fun i=>(i.zero,i.size,i.bytes))=some (some z,s,b)):∃ i,Tryz.prog.info? t=some i∧i.zero=some z∧i.size=s∧i.bytes=b:=by
 cases hi:Tryz.prog.info? t with
 | none=>rw[hi] at h;cases h
 | some i =>
  rw[hi] at h;simp only[Option.map_some,Option.some.injEq,Prod.mk.injEq] at h;exact⟨i,rfl,h.1,h.2.1,h.2.2⟩
theorem Grow.chg {w w':World} {base E size n lo b:Nat} {v:Value} {ts:List Tr} {f:List Nat} (h:Grow w base E size v n ts f) (hin:In lo w.heap.size f) (hb:b<base) (hlo:b<lo) (hc:Chg [b] w w'):Grow w' base E size v n ts f :=
 h.frame (fun g hg=>hc.block g (h.block hg).2 (by have:=(h.block hg).1;simp<;>omega)) (fun x hx=>hc.block x (hin x hx).2 (by have:=(hin x hx).1;simp<;>omega))
structure LayI (w:World) (q:Nat) (l:List Int):Prop where
 lt:q<w.heap.size
 at_:∀ i (hi:i<l.length),w.cell? ⟨q,i,none⟩=some (.int .i64 l[i])
theorem LayI.new (w:World) (cs:Array Value) (l:List Int) (E:Nat) (h:cs.toList=l.map fun n=>.int .i64 n):LayI (w.alloc (.cells cs E)) w.heap.size l:=by
 refine⟨by simp,fun i hi=>?_⟩;have hk:=bkN w cs E;exact zam hk i ▸ (by rw[← Array.getElem?_toList,h,List.getElem?_map,List.getElem?_eq_getElem hi];rfl)
theorem zbr (b k:Nat) (l:List Int) (q c:Nat) (w:World) (h:Src w b k) (hk:k≤1099511627000) (hq:b≠q) (h1:1≤l.length) (h2:l.length≤1000) (L:LayI w q l) :
  Calls Tryz.prog 63 #[.pointer (some ⟨b,0,none⟩),.slice (some ⟨q,0,none⟩) l.length c] w fun e w'=>(∃ x ∈ l,e=.returned (.int .i64 x))∧SrcQ b k 2 w w':=by
 have HP:=Lib.hid (pick_pos b k (l.length:Int) w h hk (by omega) (by omega));have HL:=Lib.hid L;clear h L;have hl:(l.length:Int)≤1000:=by omega
 go_enter Tryz.func63,Tryz.ntmps63;go_wp2_with (fail)
 go_at_call 62
 refine HP.out.mono ?_;rintro e w1 ⟨⟨x,hx0,hx1,rfl⟩,k1,g1,g2,S1,C1⟩;obtain⟨n,rfl⟩:=Int.eq_ofNat_of_zero_le hx0;have hn:n<l.length:=by omega
 have s0:=(show w1.cell? ⟨q,n,none⟩=w.cell? ⟨q,n,none⟩ from World.cell?_of_block (C1.block q HL.out.lt (by simp<;>omega))).trans (HL.out.at_ n hn);have HM:=Lib.hid (List.getElem_mem hn);generalize l[n]=y at *;have HS:=Lib.hid (show SrcQ b k 2 w w1 from ⟨k1,g1,g2,S1,C1⟩);clear HP HL S1 C1;go_wp2;go_ret;exact⟨⟨y,HM.out,rfl⟩,HS.out⟩
def DrawI (lo hi:Int) (b k c:Nat) (w:World) (e:Ending) (w':World):Prop:=(∃ x:Int,lo≤x∧x≤hi∧e=.returned (.int .i64 x))∧SrcQ b k c w w'
theorem SrcQ.trans {b k c d:Nat} {w w1 w2:World} {k1:Nat} (h1:k≤k1) (h2:k1≤k+c) (C1:Chg [b] w w1) (h:SrcQ b k1 d w1 w2):SrcQ b k (c+d) w w2:=by
 obtain⟨k2,a1,a2,S,C⟩:=h;exact⟨k2,by omega,by omega,S,C1.trans C⟩
theorem l09DrawDistance_any (b k:Nat) (w:World) (h:Src w b k) (hk:k≤1099511620000) :
  Calls Tryz.prog 64 #[.pointer (some ⟨b,0,none⟩)] w (DrawI (-1) 300000 b k 6 w):=by
 have HP:=Lib.hid fun (k':Nat) (n:Int) (W:World) (h1:Src W b k') (h2:k'≤k+40) (h3:1≤n) (h4:n≤1000)=>pick_pos b k' n W h1 (by omega) h3 (by omega)
 have HS:=Lib.hid h;have yb:=h.lt;clear h;go_enter Tryz.func64,Tryz.ntmps64;go_wp2_with (fail)
 go_at_call 62
 refine (HP.out k 6 w HS.out (by omega) (by omega) (by omega)).mono ?_;rintro e w1 ⟨⟨x,hx0,hx1,rfl⟩,k1,g1,g2,S1,C1⟩;have z1:=C1.size;have HS1:=Lib.hid S1;have HC1:=Lib.hid C1;clear S1 C1 HS
 by_cases c0:x=0
 ·subst c0
  go_wp2_with (fail)
  go_at_call 63
  have BA:Below w1.heap.size w1 (w1.alloc (.cells #[.int .i64 0,.int .i64 1,.int .i64 (-1),.int .i64 283000,.int .i64 283001,.int .i64 10] 2)):=(Below.refl _ _).alloc (Nat.le_refl _) _;refine (zbr b k1 [0,1,-1,283000,283001,10] w1.heap.size 6 _ (HS1.out.below HS1.out.lt BA) (by omega) (by have:=HS1.out.lt;omega) (by simp) (by simp) (LayI.new w1 _ [0,1,-1,283000,283001,10] 2 rfl)).mono ?_;rintro e w2 ⟨⟨y,hy,rfl⟩,Q⟩;have HQ:Hid (SrcQ b k (2+2) w w2):=SrcQ.trans g1 g2 (HC1.out.alloc _) Q;have HY:Hid (-1≤y∧y≤300000):=by
   show _∧_
   simp only[List.mem_cons,List.not_mem_nil,or_false] at hy
   rcases hy with rfl|rfl|rfl|rfl|rfl|rfl<;>omega
  clear Q hy;go_wp2;go_ret;obtain⟨k2,a1,a2,S,C⟩:=HQ.out;exact⟨⟨y,HY.out.1,HY.out.2,rfl⟩,k2,a1,by omega,S,C⟩
 ·have d0:(x == 0)=false:=by simpa using c0
  by_cases c1:x=1
  ·subst c1
   go_wp2_with (fail)
   go_at_call 62
   refine (HP.out k1 100 w1 HS1.out (by omega) (by omega) (by omega)).mono ?_;rintro e w2 ⟨⟨y,hy0,hy1,rfl⟩,Q⟩;have HQ:Hid (SrcQ b k (2+2) w w2):=SrcQ.trans g1 g2 HC1.out Q;clear Q;go_wp2;go_ret;obtain⟨k2,a1,a2,S,C⟩:=HQ.out;exact⟨⟨_,by omega,by omega,rfl⟩,k2,a1,by omega,S,C⟩
  ·have d1:(x == 1)=false:=by simpa using c1
   go_wp2_with (fail)
   go_at_call 62
   refine (HP.out k1 200 w1 HS1.out (by omega) (by omega) (by omega)).mono ?_;rintro e w2 ⟨⟨y,hy0,hy1,rfl⟩,k2,g3,g4,S2,C2⟩;have HS2:=Lib.hid S2;have HC2:=Lib.hid (HC1.out.trans C2);clear S2 C2 HS1 HC1;go_wp2_with (fail)
   go_at_call 62
   refine (HP.out k2 1000 w2 HS2.out (by omega) (by omega) (by omega)).mono ?_;rintro e w3 ⟨⟨z,hz0,hz1,rfl⟩,Q⟩;have HQ:Hid (SrcQ b k (4+2) w w3):=SrcQ.trans (by omega) (by omega) HC2.out Q;clear Q;go_wp2;go_ret;exact⟨⟨_,by omega,by omega,rfl⟩,HQ.out⟩
theorem Chg.setN {fp:List Nat} {a w:World} (h:Chg fp a w) {p:Addr} (hp:a.heap.size≤p.block) (u:Value):Chg fp a (w.setCell p u) :=
 ⟨h.os,h.tape,h.output,by rw[zak];exact h.size,fun x hx hn=>(Below.heap_setCell w p u x (by omega)).trans (h.block x hx hn)⟩
theorem Src.setO {w:World} {b k:Nat} (h:Src w b k) {p:Addr} (hp:b<p.block) (u:Value):Src (w.setCell p u) b k:=h.below (B:=b+1) (by omega) ((Below.refl _ _).setCell hp u)
theorem bkS1 {w:World} {f T:Nat} {a b:Value} (h:w.heap[f]? = some (.cells #[a,b] T (0,0))) (v:Value):(w.setCell ⟨f,1,none⟩ v).heap[f]? = some (.cells #[a,v] T (0,0)):=by
 have:=bkS h 1 v
 simpa using this
theorem bkS0 {w:World} {f T:Nat} {a b:Value} (h:w.heap[f]? = some (.cells #[a,b] T (0,0))) (v:Value):(w.setCell ⟨f,0,none⟩ v).heap[f]? = some (.cells #[v,b] T (0,0)):=by
 have:=bkS h 0 v
 simpa using this
theorem l29DrawFit_any (b k:Nat) (w:World) (h:Src w b k) (hk:k≤1099511620000) :
  Calls Tryz.prog 28 #[.pointer (some ⟨b,0,none⟩)] w fun e w'=>(∃ o s:Int,-1000000≤o∧o≤1000000∧-1000000≤s∧s≤1000000∧e=.returned (.agg #[.int .i64 o,.int .i64 s]))∧Chg [b] w w':=by
 have HP:=Lib.hid fun (k':Nat) (n:Int) (W:World) (h1:Src W b k') (h2:k'≤k+40) (h3:1≤n) (h4:n≤1000)=>pick_pos b k' n W h1 (by omega) h3 (by omega)
 have yb:=h.lt;have ba:Below w.heap.size w (w.alloc (.cells #[.int .i64 0,.int .i64 0] 27)):=(Below.refl _ _).alloc (Nat.le_refl _) _;have HS:Hid (Src (w.alloc (.cells #[.int .i64 0,.int .i64 0] 27)) b k):=h.below h.lt ba;have HC:Hid (Chg [b] w (w.alloc (.cells #[.int .i64 0,.int .i64 0] 27))):=Chg.of_below ba;have HK:=Lib.hid (bkN w #[.int .i64 0,.int .i64 0] 27);have zA:(w.alloc (.cells #[.int .i64 0,.int .i64 0] 27)).heap.size=w.heap.size+1:=by simp
 clear h ba;go_enter Tryz.func28,Tryz.ntmps28;go_wp2_with (fail)
 go_at_call 62
 refine (HP.out k 9 _ HS.out (by omega) (by omega) (by omega)).mono ?_;rintro e w1 ⟨⟨x,hx0,hx1,rfl⟩,k1,g1,g2,S1,C1⟩;have z1:=C1.size;have HK1:Hid (w1.heap[w.heap.size]? = some (.cells #[.int .i64 0,.int .i64 0] 27 (0,0))):=(C1.block _ (by omega) (by simp<;>omega)).trans HK.out;have HS1:=Lib.hid S1;have HC1:=Lib.hid (HC.out.trans C1);clear S1 C1 HS HC HK;go_upto_region 2 with (fail);obtain⟨W2,hW2,b2,z2,k2⟩:=zbi w1 #[.int .i64 (-20000-x*1000),.int .i64 0] 27;rw[hW2];clear hW2;have HS2:=Lib.hid (HS1.out.below HS1.out.lt b2);have HC2:=Lib.hid (HC1.out.trans (Chg.of_below b2));have HR2:=Lib.hid (bkB HK1.out b2 (by omega));have HF2:=Lib.hid k2;clear b2 k2 HS1 HC1 HK1;go_wp2_with (fail)
 go_at_call 62
 refine (HP.out k1 5 _ HS2.out (by omega) (by omega) (by omega)).mono ?_;rintro e w3 ⟨⟨y,hy0,hy1,rfl⟩,k3,g3,g4,S3,C3⟩;have z3:=C3.size;have HR3:=Lib.hid ((C3.block _ (by omega) (by simp<;>omega)).trans HR2.out);have HF3:=Lib.hid ((C3.block _ (by omega) (by simp<;>omega)).trans HF2.out);have HS3:=Lib.hid S3;have HC3:=Lib.hid (HC2.out.trans C3);clear S3 C3 HS2 HC2 HR2 HF2;have q0:=bkC HF3.out 1 rfl;have q1:=bkF HF3.out 1;go_upto_region 3 with (fail);have HF4:=Lib.hid (bkS1 HF3.out (.int .i64 (y*1000+7)));have HR4:=Lib.hid (bkO HR3.out (p:=⟨w1.heap.size,1,none⟩) (by show w.heap.size≠w1.heap.size;omega) (.int .i64 (y*1000+7)));have HS4:=Lib.hid (HS3.out.setO (p:=⟨w1.heap.size,1,none⟩) (by show b<w1.heap.size;omega) (.int .i64 (y*1000+7)));have HC4:=Lib.hid (HC3.out.setN (p:=⟨w1.heap.size,1,none⟩) (by show w.heap.size≤w1.heap.size;omega) (.int .i64 (y*1000+7)));have z4:(w3.setCell ⟨w1.heap.size,1,none⟩ (.int .i64 (y*1000+7))).heap.size=w3.heap.size:=by simp
 generalize w3.setCell ⟨w1.heap.size,1,none⟩ (.int .i64 (y*1000+7))=W4 at *;clear HF3 HR3 HS3 HC3 q0 q1;go_wp2_with (fail)
 go_at_call 62
 refine (HP.out k3 12 _ HS4.out (by omega) (by omega) (by omega)).mono ?_;rintro e w5 ⟨⟨u,hu0,hu1,rfl⟩,k5,g5,g6,S5,C5⟩;have z5:=C5.size;have HR5:=Lib.hid ((C5.block _ (by omega) (by simp<;>omega)).trans HR4.out);have HF5:=Lib.hid ((C5.block _ (by omega) (by simp<;>omega)).trans HF4.out);have HS5:=Lib.hid S5;have HC5:=Lib.hid (HC4.out.trans C5);clear S5 C5 HS4 HC4 HR4 HF4
 by_cases c0:u=0
 ·subst c0
  go_wp2_with (fail)
  go_at_call 63
  have BA:Below w5.heap.size w5 (w5.alloc (.cells #[.int .i64 600000,.int .i64 600001,.int .i64 (-600000),.int .i64 (-600001)] 2)):=(Below.refl _ _).alloc (Nat.le_refl _) _;have HR6:=Lib.hid (bkB HR5.out BA (by omega));have HF6:=Lib.hid (bkB HF5.out BA (by omega));have z6:=BA.size;refine (zbr b k5 [600000,600001,-600000,-600001] w5.heap.size 4 _ (HS5.out.below HS5.out.lt BA) (by omega) (by have:=HS5.out.lt;omega) (by simp) (by simp) (LayI.new w5 _ [600000,600001,-600000,-600001] 2 rfl)).mono ?_;rintro e w6 ⟨⟨v,hv,rfl⟩,k6,g7,g8,S6,C6⟩;have HV:Hid (-1000000≤v∧v≤1000000):=by
   show _∧_
   simp only[List.mem_cons,List.not_mem_nil,or_false] at hv
   rcases hv with rfl|rfl|rfl|rfl<;>omega
  have HR7:=Lib.hid ((C6.block _ (by omega) (by simp<;>omega)).trans HR6.out);have HF7:=Lib.hid ((C6.block _ (by omega) (by simp<;>omega)).trans HF6.out);have HC7:=Lib.hid ((HC5.out.trans (Chg.of_below BA)).trans C6);clear S6 C6 HR6 HF6 BA HC5 HR5 HF5 hv;have q0:=bkC HF7.out 0 rfl;have q1:=bkF HF7.out 0;go_upto_region 8 with (fail);have HF8:=Lib.hid (bkS0 HF7.out (.int .i64 v));have HR8:=Lib.hid (bkO HR7.out (p:=⟨w1.heap.size,0,none⟩) (by show w.heap.size≠w1.heap.size;omega) (.int .i64 v));have HC8:=Lib.hid (HC7.out.setN (p:=⟨w1.heap.size,0,none⟩) (by show w.heap.size≤w1.heap.size;omega) (.int .i64 v));generalize w6.setCell ⟨w1.heap.size,0,none⟩ (.int .i64 v)=W8 at *;clear HF7 HR7 HC7 q0 q1;have u0:=bkC HF8.out 0 rfl;have u1:=bkC HF8.out 1 rfl;have v0:=bkC HR8.out 0 rfl;have v1:=bkC HR8.out 1 rfl;have f0:=bkF HR8.out 0;have f1:=bkF HR8.out 1;go_wp2;exact bodyPost_ret (v:=.agg #[.int .i64 v,.int .i64 (y*1000+7)]) (by simp[results,Tryz.results28,go_sem, *]) rfl ⟨⟨_,_,HV.out.1,HV.out.2,by omega,by omega,rfl⟩,(HC8.out.setN (Nat.le_refl _) _).setN (Nat.le_refl _) _⟩
 ·have d0:(u == 0)=false:=by simpa using c0
  by_cases c1:u=1
  ·subst c1
   go_wp2_with (fail)
   go_at_call 63
   have BA:Below w5.heap.size w5 (w5.alloc (.cells #[.int .i64 10000,.int .i64 10001,.int .i64 (-10000),.int .i64 (-10001)] 2)):=(Below.refl _ _).alloc (Nat.le_refl _) _;have HR6:=Lib.hid (bkB HR5.out BA (by omega));have HF6:=Lib.hid (bkB HF5.out BA (by omega));have z6:=BA.size;refine (zbr b k5 [10000,10001,-10000,-10001] w5.heap.size 4 _ (HS5.out.below HS5.out.lt BA) (by omega) (by have:=HS5.out.lt;omega) (by simp) (by simp) (LayI.new w5 _ [10000,10001,-10000,-10001] 2 rfl)).mono ?_;rintro e w6 ⟨⟨v,hv,rfl⟩,k6,g7,g8,S6,C6⟩;have HV:Hid (-1000000≤v∧v≤1000000):=by
    show _∧_
    simp only[List.mem_cons,List.not_mem_nil,or_false] at hv
    rcases hv with rfl|rfl|rfl|rfl<;>omega
   have HR7:=Lib.hid ((C6.block _ (by omega) (by simp<;>omega)).trans HR6.out);have HF7:=Lib.hid ((C6.block _ (by omega) (by simp<;>omega)).trans HF6.out);have HC7:=Lib.hid ((HC5.out.trans (Chg.of_below BA)).trans C6);clear S6 C6 HR6 HF6 BA HC5 HR5 HF5 hv;have q0:=bkC HF7.out 1 rfl;have q1:=bkF HF7.out 1;go_upto_region 8 with (fail);have HF8:=Lib.hid (bkS1 HF7.out (.int .i64 v));have HR8:=Lib.hid (bkO HR7.out (p:=⟨w1.heap.size,1,none⟩) (by show w.heap.size≠w1.heap.size;omega) (.int .i64 v));have HC8:=Lib.hid (HC7.out.setN (p:=⟨w1.heap.size,1,none⟩) (by show w.heap.size≤w1.heap.size;omega) (.int .i64 v));generalize w6.setCell ⟨w1.heap.size,1,none⟩ (.int .i64 v)=W8 at *;clear HF7 HR7 HC7 q0 q1;have u0:=bkC HF8.out 0 rfl;have u1:=bkC HF8.out 1 rfl;have v0:=bkC HR8.out 0 rfl;have v1:=bkC HR8.out 1 rfl;have f0:=bkF HR8.out 0;have f1:=bkF HR8.out 1;go_wp2;exact bodyPost_ret (v:=.agg #[.int .i64 (-20000-x*1000),.int .i64 v]) (by simp[results,Tryz.results28,go_sem, *]) rfl ⟨⟨_,_,by omega,by omega,HV.out.1,HV.out.2,rfl⟩,(HC8.out.setN (Nat.le_refl _) _).setN (Nat.le_refl _) _⟩
  ·have d1:(u == 1)=false:=by simpa using c1
   have u0:=bkC HF5.out 0 rfl;have u1:=bkC HF5.out 1 rfl;have v0:=bkC HR5.out 0 rfl;have v1:=bkC HR5.out 1 rfl;have f0:=bkF HR5.out 0;have f1:=bkF HR5.out 1;go_wp2;exact bodyPost_ret (v:=.agg #[.int .i64 (-20000-x*1000),.int .i64 (y*1000+7)]) (by simp[results,Tryz.results28,go_sem, *]) rfl ⟨⟨_,_,by omega,by omega,by omega,by omega,rfl⟩,(HC5.out.setN (Nat.le_refl _) _).setN (Nat.le_refl _) _⟩
end Go.Proofs.YtpodllefipleiaaGreatDoor
