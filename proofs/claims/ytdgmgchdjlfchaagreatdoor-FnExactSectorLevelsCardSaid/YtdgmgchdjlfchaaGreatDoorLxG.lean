/- Contract: SectorLevels, for the program. Conditions: bounded sizes; what the tables hold. -/
import Derived.Test.YtdgmgchdjlfchaaGreatDoorLxE
set_option linter.unusedVariables false
set_option linter.unusedSimpArgs false
namespace Go.Proofs.YtdgmgchdjlfchaaGreatDoor
open Go.RowKit
set_option maxHeartbeats 16000000
set_option maxRecDepth 100000
def zbd (t:DTerrain) (n:DNetwork) (nm:ByteArray) (f ab:Int):List Int × Int :=
 if zc6 t=true∧netB n=true then
  (if inB f 1 100000000=true∧inB ab 1 3000=true then
   (if 0≤zaq n.sectors nm then
    (if zb5 t (endR n (zad n.sectors (zaq n.sectors nm).toNat)).place=true then (zda t n (zad n.sectors (zaq n.sectors nm).toNat) f ab,0) else ([],6))
   else ([],3))
  else ([],2)) else ([],1)
theorem ask20_zero {t:DTerrain} {n:DNetwork} {f ab:Int} (h:ask20 t n f ab=0):(zc6 t=true∧netB n=true)∧inB f 1 100000000=true∧inB ab 1 3000=true:=by
 unfold ask20 at h
 by_cases h1:zc6 t=true∧netB n=true
 ·rw[if_pos h1] at h
  by_cases h2:inB f 1 100000000=true∧inB ab 1 3000=true
  ·exact⟨h1,h2⟩
  ·rw[if_neg h2] at h;omega
 ·rw[if_neg h1] at h;omega
theorem secLev_ask {t:DTerrain} {n:DNetwork} {nm:ByteArray} {f ab:Int} (h:ask20 t n f ab≠0):zbd t n nm f ab=([],ask20 t n f ab):=by
 unfold ask20 zbd at *
 by_cases h1:zc6 t=true∧netB n=true
 ·rw[if_pos h1] at h
  rw[if_pos h1,if_pos h1]
  by_cases h2:inB f 1 100000000=true∧inB ab 1 3000=true
  ·rw[if_pos h2] at h;omega
  ·rw[if_neg h2,if_neg h2]
 ·rw[if_neg h1,if_neg h1]
theorem secLev_none {t:DTerrain} {n:DNetwork} {nm:ByteArray} {f ab:Int} (h:ask20 t n f ab=0) (hi:zaq n.sectors nm = -1):zbd t n nm f ab=([],3):=by
 obtain⟨h1,h2⟩:=ask20_zero h;unfold zbd;rw[if_pos h1,if_pos h2,if_neg (by omega)]
theorem secLev_out {t:DTerrain} {n:DNetwork} {nm:ByteArray} {f ab:Int} {k:Nat} (h:ask20 t n f ab=0) (hi:zaq n.sectors nm=(k:Int)) (ht:zb5 t (endR n (zad n.sectors k)).place=false):zbd t n nm f ab=([],6):=by
 obtain⟨h1,h2⟩:=ask20_zero h;unfold zbd;rw[if_pos h1,if_pos h2,hi,if_pos (by omega),Int.toNat_natCast,if_neg (by rw[ht];decide)]
theorem secLev_in {t:DTerrain} {n:DNetwork} {nm:ByteArray} {f ab:Int} {k:Nat} (h:ask20 t n f ab=0) (hi:zaq n.sectors nm=(k:Int)) (ht:zb5 t (endR n (zad n.sectors k)).place=true):zbd t n nm f ab=(zda t n (zad n.sectors k) f ab,0):=by
 obtain⟨h1,h2⟩:=ask20_zero h;unfold zbd;rw[if_pos h1,if_pos h2,hi,if_pos (by omega),Int.toNat_natCast,if_pos ht]
theorem idx_two (l:List DSector) (nm:ByteArray):zaq l nm = -1∨∃ k:Nat,k<l.length∧zaq l nm=(k:Int):=by
 rcases zbk (fun y:DSector=>eqS y.name nm) l with ⟨h',_⟩|⟨k',hk',h',_,_⟩
 ·exact Or.inl h'
 ·exact Or.inr ⟨k',hk',h'⟩
theorem sector_at {n:DNetwork} (h:netB n=true) (nm:ByteArray) {i:Nat} (hl:i<n.sectors.length):((zad n.sectors i).name.toList == nm.toList)=decide ((i:Int)=zaq n.sectors nm):=by
 rcases idx_two n.sectors nm with hi|⟨k,hk,hi⟩
 ·rw[sector_none hi hl,hi,decide_eq_false (by omega)]
 ·rw[sector_eq h hk hi hl,hi]
  exact decide_eq_decide.2 (by omega)
theorem sSectorLevels_std (t:DTerrain) (nw:DNetwork) (nm:ByteArray) (f:Int) (ab:Int) (vt3 vt4 vnw0 vnw1 vnw2 vnw3:Value) (w:World) (rt3:Rd w.heap.size w (zaj t.heights) vt3) (rt4:Rd w.heap.size w (zaj t.clutter) vt4) (rnw0:Rd w.heap.size w (DSite.sT nw.sites) vnw0) (rnw1:Rd w.heap.size w (DSector.sT nw.sectors) vnw1) (rnw2:Rd w.heap.size w (DAntenna.sT nw.antennas) vnw2) (rnw3:Rd w.heap.size w (DRadio.sT nw.radios) vnw3) (hs_t:sizL t.tr≤1048576) (hk_t:t.ok) (hs_nw:sizL nw.tr≤1048576) (hk_nw:nw.ok) (hs_nm:nm.size≤1048576) (hk_f:I64 f) (hk_ab:I64 ab) :
  Calls Tryz.prog 23 #[.agg #[.int .i64 t.step,.int .i64 t.width,.int .i64 t.height,vt3,vt4],.agg #[vnw0,vnw1,vnw2,vnw3],.string nm,.int .i64 f,.int .i64 ab] w (fun e w'=>∃ a0_0 c0_0 fp0,e=.returned (.tuple #[.slice a0_0 (zbd t nw nm f ab).1.length c0_0,.int .i64 (zbd t nw nm f ab).2])∧Below w.heap.size w w'∧Own w' (zaj (zbd t nw nm f ab).1) (.slice a0_0 (zbd t nw nm f ab).1.length c0_0) fp0∧In w.heap.size w'.heap.size fp0):=by
 have hq:=DNetwork.siz_tr nw;rw[DSite.siz_s,DSector.siz_s,DAntenna.siz_s,DRadio.siz_s] at hq;have hqt:=DTerrain.siz_tr t;rw[zcc,zcc] at hqt;have hN8:(nw.sectors.length:Int)≤1048576:=by omega
 obtain⟨A0,C0,e0,_,_,_⟩:=DSite.rd rnw0;obtain⟨A2,C2,e2,_,_,_⟩:=DAntenna.rd rnw2;obtain⟨A3,C3,e3,_,_,_⟩:=DRadio.rd rnw3;obtain⟨A1,C1,e1,_,_,hcs⟩:=DSector.rd rnw1;subst e0 e1 e2 e3;obtain⟨W0,hW0,b0_,z0,k0,k1⟩:=zd4 w #[.int .i64 t.step,.int .i64 t.width,.int .i64 t.height,vt3,vt4] 39 #[.slice A0 nw.sites.length C0,.slice A1 nw.sectors.length C1,.slice A2 nw.antennas.length C2,.slice A3 nw.radios.length C3] 46;have HW0:=Lib.hid hW0;have B0:=Lib.hid b0_;have HD:=Lib.hid (fun (W:World) (hW:Below W0.heap.size W0 W)=>bx5 k0 hW <| by4 k1 hW);have HB:Hid (Below W0.heap.size W0 W0):=Below.refl _ _;clear k0 k1 hW0 b0_;have CT:Hid (∀ W:World,Below W0.heap.size W0 W→Calls Tryz.prog 71 #[.pointer (some ⟨w.heap.size,0,none⟩),.pointer (some ⟨(w.heap.size+1),0,none⟩),.int .i64 f,.int .i64 ab] W fun e w'=>e=.returned (.int .i64 (ask20 t nw f ab))∧Below W.heap.size W w'):=fun  W hW=>l20Ask_any t nw f ab _ _ _ _ vt3 vt4 w.heap.size 0 (w.heap.size+1) (by omega) (by omega) (by omega) hk_nw W ((rnw0.below (B0.out.trans (hW.mono B0.out.size))).mono (B0.out.trans (hW.mono B0.out.size)).size) ((rnw1.below (B0.out.trans (hW.mono B0.out.size))).mono (B0.out.trans (hW.mono B0.out.size)).size) ((rnw2.below (B0.out.trans (hW.mono B0.out.size))).mono (B0.out.trans (hW.mono B0.out.size)).size) ((rnw3.below (B0.out.trans (hW.mono B0.out.size))).mono (B0.out.trans (hW.mono B0.out.size)).size) ((rt3.below (B0.out.trans (hW.mono B0.out.size))).mono (B0.out.trans (hW.mono B0.out.size)).size) ((rt4.below (B0.out.trans (hW.mono B0.out.size))).mono (B0.out.trans (hW.mono B0.out.size)).size) (by have:=hW.size;omega) (HD.out W hW).1 (HD.out W hW).2.1 (HD.out W hW).2.2.1 (HD.out W hW).2.2.2.1 (HD.out W hW).2.2.2.2.1 (HD.out W hW).2.2.2.2.2.1 (HD.out W hW).2.2.2.2.2.2.1 (HD.out W hW).2.2.2.2.2.2.2.1 (HD.out W hW).2.2.2.2.2.2.2.2
 by_cases ha:ask20 t nw f ab=0
 case neg =>
  have HE:=Lib.hid (secLev_ask (nm:=nm) ha);have d1:(ask20 t nw f ab == 0)=false:=beq_eq_false_iff_ne.2 ha;clear ha;generalize zbd t nw nm f ab=RV at *;generalize ask20 t nw f ab=ak at *;go_enter Tryz.func23,Tryz.ntmps23;go_upto_region 1 with (fail);rw[HW0.out];obtain⟨t0,t1,t2,t3,t4,t5,t6,t7,t8⟩:=HD.out _ HB.out;go_wp2_with (first|(go_at_call 71;with_reducible refine (CT.out _ HB.out).mono ?_;rintro e v1 ⟨rfl,hb_⟩;(try clear t0 t1 t2 t3 t4 t5 t6 t7 t8);replace HB:=btr HB hb_;clear hb_;obtain⟨t0,t1,t2,t3,t4,t5,t6,t7,t8⟩:=HD.out _ HB.out));go_ret2;rw[HE.out];exact⟨none,0,[],rfl,B0.out.trans (HB.out.mono B0.out.size),zd5 _,In.nil⟩
 have hA:=ask20_zero ha;have hT:=hA.1.1;have hV:=hA.1.2;have hF:=zav.1 hA.2.1;have hAB:=zav.1 hA.2.2;have T:=terrB_ok hT;have HSE:Hid (∀ i,i<nw.sectors.length→((zad nw.sectors i).name.toList == nm.toList)=decide ((i:Int)=zaq nw.sectors nm)):=fun i hi=>sector_at hV nm hi
 have HS:Hid (∀ i,i<nw.sectors.length→∃ b off,A1=some ⟨b,off,none⟩∧b<w.heap.size∧∀ W:World,Below W0.heap.size W0 W→W.cell? ⟨b,off+i*9,none⟩=some (.string (zad nw.sectors i).name)):=fun i hi=>by
  obtain⟨b,off,ea,hb,hat⟩:=hcs (by omega);obtain⟨s0,-⟩:=hat i hi;rw[za9 hi] at s0;exact⟨b,off,ea,hb,fun W hW=>(bat (B0.out.trans (hW.mono B0.out.size)) b _ hb).trans s0⟩
 have HNM:Hid (∀ k:Nat,k<nw.sectors.length→zaq nw.sectors nm=(k:Int)→zaq nw.sectors (zad nw.sectors k).name=(k:Int)∧(zad nw.sectors k).name.size≤1048576):=fun k hk hi=>by
  have:=sector_name hk hi;exact⟨by rw[this];exact hi,by rw[this];omega⟩
 have CH:Hid (∀ (k:Nat) (hk:k<nw.sectors.length) (hi:zaq nw.sectors nm=(k:Int)) (W:World),Below W0.heap.size W0 W→Calls Tryz.prog 72 #[.pointer (some ⟨w.heap.size,0,none⟩),.pointer (some ⟨(w.heap.size+1),0,none⟩),.int .i64 (k:Int)] W fun e w'=>e=.returned (.bool (zb5 t (endR nw (zad nw.sectors k)).place))∧Below W.heap.size W w'):=fun k hk hi W hW=>l20Home_any t nw k hk (HNM.out k hk hi).1 T hV _ _ _ _ vt3 vt4 w.heap.size 0 (w.heap.size+1) (by omega) hk_nw (HNM.out k hk hi).2 W ((rnw0.below (B0.out.trans (hW.mono B0.out.size))).mono (B0.out.trans (hW.mono B0.out.size)).size) ((rnw1.below (B0.out.trans (hW.mono B0.out.size))).mono (B0.out.trans (hW.mono B0.out.size)).size) ((rnw2.below (B0.out.trans (hW.mono B0.out.size))).mono (B0.out.trans (hW.mono B0.out.size)).size) ((rnw3.below (B0.out.trans (hW.mono B0.out.size))).mono (B0.out.trans (hW.mono B0.out.size)).size) (by have:=hW.size;omega) (HD.out W hW).1 (HD.out W hW).2.1 (HD.out W hW).2.2.1 (HD.out W hW).2.2.2.1 (HD.out W hW).2.2.2.2.1 (HD.out W hW).2.2.2.2.2.1 (HD.out W hW).2.2.2.2.2.2.1 (HD.out W hW).2.2.2.2.2.2.2.1 (HD.out W hW).2.2.2.2.2.2.2.2
 have CL:Hid (∀ (k:Nat) (hk:k<nw.sectors.length) (hi:zaq nw.sectors nm=(k:Int)) (ht:zb5 t (endR nw (zad nw.sectors k)).place=true) (W:World),Below W0.heap.size W0 W→Calls Tryz.prog 73 #[.pointer (some ⟨w.heap.size,0,none⟩),.pointer (some ⟨(w.heap.size+1),0,none⟩),.int .i64 (k:Int),.int .i64 f,.int .i64 ab] W fun e w'=>∃ (a':Option Addr) (c':Nat) (fp:List Nat),e=.returned (.slice a' (zda t nw (zad nw.sectors k) f ab).length c')∧Below W.heap.size W w'∧Own w' (zaj (zda t nw (zad nw.sectors k) f ab)) (.slice a' (zda t nw (zad nw.sectors k) f ab).length c') fp∧In W.heap.size w'.heap.size fp):=fun k hk hi ht W hW=>sGrid_any t nw k hk (HNM.out k hk hi).1 T hV _ _ _ _ vt3 vt4 w.heap.size 0 (w.heap.size+1) (by omega) hk_nw (HNM.out k hk hi).2 f ab (inTB_true.1 (show inTB t (endR nw (zad nw.sectors k)).place=true from ht)) hAB hF.1 hF.2 W ((rnw0.below (B0.out.trans (hW.mono B0.out.size))).mono (B0.out.trans (hW.mono B0.out.size)).size) ((rnw1.below (B0.out.trans (hW.mono B0.out.size))).mono (B0.out.trans (hW.mono B0.out.size)).size) ((rnw2.below (B0.out.trans (hW.mono B0.out.size))).mono (B0.out.trans (hW.mono B0.out.size)).size) ((rnw3.below (B0.out.trans (hW.mono B0.out.size))).mono (B0.out.trans (hW.mono B0.out.size)).size) ((rt3.below (B0.out.trans (hW.mono B0.out.size))).mono (B0.out.trans (hW.mono B0.out.size)).size) ((rt4.below (B0.out.trans (hW.mono B0.out.size))).mono (B0.out.trans (hW.mono B0.out.size)).size) (by have:=hW.size;omega) (HD.out W hW).1 (HD.out W hW).2.1 (HD.out W hW).2.2.1 (HD.out W hW).2.2.2.1 (HD.out W hW).2.2.2.2.1 (HD.out W hW).2.2.2.2.2.1 (HD.out W hW).2.2.2.2.2.2.1 (HD.out W hW).2.2.2.2.2.2.2.1 (HD.out W hW).2.2.2.2.2.2.2.2
 have HK2:=Lib.hid (idx_two nw.sectors nm);have HR3:Hid (zaq nw.sectors nm = -1→zbd t nw nm f ab=([],3)):=fun h=>secLev_none ha h
 have HR6:Hid (∀ k:Nat,zaq nw.sectors nm=(k:Int)→zb5 t (endR nw (zad nw.sectors k)).place=false→zbd t nw nm f ab=([],6)):=fun k h1 h2=>secLev_out ha h1 h2
 have HR0:Hid (∀ k:Nat,zaq nw.sectors nm=(k:Int)→zb5 t (endR nw (zad nw.sectors k)).place=true→zbd t nw nm f ab=(zda t nw (zad nw.sectors k) f ab,0)):=fun k h1 h2=>secLev_in ha h1 h2
 rw[ha] at CT;have d0:((0:Int) == 0)=true:=rfl;clear hA hT hV hF hAB T ha rnw0 rnw1 rnw2 rnw3 rt3 rt4 hcs HNM;generalize zbd t nw nm f ab=RV at *;generalize zaq nw.sectors nm=K at *;go_enter Tryz.func23,Tryz.ntmps23;go_upto_region 1 with (fail);rw[HW0.out];obtain⟨t0,t1,t2,t3,t4,t5,t6,t7,t8⟩:=HD.out _ HB.out;go_wp2_with (first|(go_at_call 71;with_reducible refine (CT.out _ HB.out).mono ?_;rintro e v1 ⟨rfl,hb_⟩;(try clear t0 t1 t2 t3 t4 t5 t6 t7 t8);replace HB:=btr HB hb_;clear hb_;obtain⟨t0,t1,t2,t3,t4,t5,t6,t7,t8⟩:=HD.out _ HB.out));clear t0 t1 t2 t3 t4 t5 t6 t7 t8 CT d0;go_loopw [13,14] (fun av iv wr=>∃ (i:Nat) (a:Int),i≤nw.sectors.length∧iv=.int .i64 (i:Int)∧av=.int .i64 a∧(K<(i:Int)→a=K)∧((i:Int)≤K→a = -1)∧Below W0.heap.size W0 wr) (fun _ iv wr=>nw.sectors.length-(intOf iv).toNat)
 case atStart=>exact⟨0,-1,Nat.zero_le _,rfl,rfl,fun h=>by rcases HK2.out with h' | ⟨k,_,h'⟩<;>omega,fun _=>rfl,HB.out⟩
 case round =>
  obtain⟨i,a,hi,rfl,rfl,ha1,ha2,hbw⟩:=hrel;have HA1:=Lib.hid ha1;have HA2:=Lib.hid ha2;replace HB:=Lib.hid hbw;clear ha1 ha2 hbw;have i1:(0:Int)≤(i:Int):=by omega
  by_cases hlt:i<nw.sectors.length
  ·have i2:(i:Int)<(nw.sectors.length:Int):=by omega
   obtain⟨b,off,rfl,-,hc⟩:=HS.out i hlt;have x0:=hc _ HB.out;have hE:=HSE.out i hlt;clear hc HS HSE CH CL HR3 HR6 HR0;generalize (zad nw.sectors i).name=q at *;obtain⟨t0,t1,t2,t3,t4,t5,t6,t7,t8⟩:=HD.out _ HB.out
   by_cases hik:(i:Int)=K
   ·have hE2:(q.toList == nm.toList)=true:=by rw[hE,decide_eq_true hik]
    have HIK:=Lib.hid hik;clear hE hik;go_wp2_with (fail);go_roundw
    case rel=>exact⟨i+1,(i:Int),by omega,by go_num,rfl,fun _=>HIK.out,fun h=>by have:=HIK.out;omega,HB.out⟩
    case measure=>simp[intOf];omega
   ·have hE2:(q.toList == nm.toList)=false:=by rw[hE,decide_eq_false hik]
    have HIK:=Lib.hid hik;clear hE hik;go_wp2_with (fail);go_roundw
    case rel=>exact⟨i+1,a,by omega,by go_num,rfl,fun h=>HA1.out (by have:=HIK.out;omega),fun h=>HA2.out (by omega),HB.out⟩
    case measure=>simp[intOf];omega
  ·obtain rfl:i=nw.sectors.length:=by omega
   obtain rfl:a=K:=HA1.out (by rcases HK2.out with h' | ⟨k,_,h'⟩<;>omega);clear HS HSE HA1 HA2;obtain⟨t0,t1,t2,t3,t4,t5,t6,t7,t8⟩:=HD.out _ HB.out
   rcases HK2.out with hk|⟨k,hk,hk2⟩
   ·have HE:=Lib.hid (HR3.out hk)
    subst hk;clear HR3 HR6 HR0 CH CL HK2;go_wp2_with (fail);go_ret2;rw[HE.out];exact⟨none,0,[],rfl,B0.out.trans (HB.out.mono B0.out.size),zd5 _,In.nil⟩
   ·subst hk2
    have k0:(0:Int)≤(k:Int):=by omega
    have d2:decide ((k:Int)<0)=false:=decide_eq_false (by omega);have CHk:=Lib.hid (CH.out k hk rfl);have CLk:=Lib.hid (CL.out k hk rfl);have H6:=Lib.hid (HR6.out k rfl);have H0:=Lib.hid (HR0.out k rfl);clear HR3 HR6 HR0 CH CL HK2
    cases hI:zb5 t (endR nw (zad nw.sectors k)).place with
    | false =>
     rw[hI] at CHk;have HE:=Lib.hid (H6.out hI);clear H6 H0 CLk hI;go_wp2_with (go_at_call 72;with_reducible refine (CHk.out _ HB.out).mono ?_;rintro e v8 ⟨rfl,hb_⟩;(try clear t0 t1 t2 t3 t4 t5 t6 t7 t8);replace HB:=btr HB hb_;clear hb_;obtain⟨t0,t1,t2,t3,t4,t5,t6,t7,t8⟩:=HD.out _ HB.out);go_ret2;rw[HE.out];exact⟨none,0,[],rfl,B0.out.trans (HB.out.mono B0.out.size),zd5 _,In.nil⟩
    | true =>
     rw[hI] at CHk;have HE:=Lib.hid (H0.out hI);have CLi:=Lib.hid (CLk.out hI);clear H6 H0 CLk hI;generalize zda t nw (zad nw.sectors k) f ab=row at *;go_wp2_with (first|(go_at_call 72;with_reducible refine (CHk.out _ HB.out).mono ?_;rintro e v8 ⟨rfl,hb_⟩;(try clear t0 t1 t2 t3 t4 t5 t6 t7 t8);replace HB:=btr HB hb_;clear hb_;obtain⟨t0,t1,t2,t3,t4,t5,t6,t7,t8⟩:=HD.out _ HB.out)|(go_at_call 73;with_reducible refine (CLi.out _ HB.out).mono ?_;rintro e v9 ⟨a6,c6,fp,rfl,hb_,ho_,hi_⟩;(have OV:=Lib.hid ho_);(have IV:=Lib.hid (hi_.mono (B0.out.trans (HB.out.mono B0.out.size)).size (Nat.le_refl _)));replace HB:=btr HB hb_;clear hb_ ho_ hi_ t0 t1 t2 t3 t4 t5 t6 t7 t8));go_ret2;rw[HE.out]
     first
      | exact⟨a6,c6,fp,rfl,B0.out.trans (HB.out.mono B0.out.size),OV.out,IV.out⟩
      | exact⟨a6,c6,rfl,B0.out.trans (HB.out.mono B0.out.size),fp,OV.out,IV.out⟩
set_option maxHeartbeats 16000000
set_option maxRecDepth 100000
theorem secLev_1 {t:DTerrain} {n:DNetwork} {nm:ByteArray} {f ab:Int} (h:zc6 t=false∨netB n=false):zbd t n nm f ab=([],1):=by
 unfold zbd;rw[if_neg];rintro⟨x,y⟩;rw[x,y] at h;simp at h
theorem secLev_2 {t:DTerrain} {n:DNetwork} {nm:ByteArray} {f ab:Int} (h1:zc6 t=true) (h2:netB n=true) (h:inB f 1 100000000=false∨inB ab 1 3000=false):zbd t n nm f ab=([],2):=by
 unfold zbd;rw[if_pos ⟨h1,h2⟩,if_neg];rintro⟨x,y⟩;rw[x,y] at h;simp at h
theorem ask20_ok {t:DTerrain} {n:DNetwork} {f ab:Int} (h1:zc6 t=true) (h2:netB n=true) (h3:inB f 1 100000000=true) (h4:inB ab 1 3000=true):ask20 t n f ab=0:=by
 unfold ask20;rw[if_pos ⟨h1,h2⟩,if_pos ⟨h3,h4⟩]
theorem iSectorLevels_std (t:DTerrain) (nw:DNetwork) (nm:ByteArray) (f:Int) (ab:Int) (vt3 vt4 vnw0 vnw1 vnw2 vnw3:Value) (w:World) (L:TabW w) (rt3:Rd w.heap.size w (zaj t.heights) vt3) (rt4:Rd w.heap.size w (zaj t.clutter) vt4) (rnw0:Rd w.heap.size w (DSite.sT nw.sites) vnw0) (rnw1:Rd w.heap.size w (DSector.sT nw.sectors) vnw1) (rnw2:Rd w.heap.size w (DAntenna.sT nw.antennas) vnw2) (rnw3:Rd w.heap.size w (DRadio.sT nw.radios) vnw3) (hs_t:sizL t.tr≤1048576) (hk_t:t.ok) (hs_nw:sizL nw.tr≤1048576) (hk_nw:nw.ok) (hs_nm:nm.size≤1048576) (hk_f:I64 f) (hk_ab:I64 ab) :
  Calls Tryz.prog 24 #[.agg #[.int .i64 t.step,.int .i64 t.width,.int .i64 t.height,vt3,vt4],.agg #[vnw0,vnw1,vnw2,vnw3],.string nm,.int .i64 f,.int .i64 ab] w (fun e w'=>∃ a0_0 c0_0 fp0,e=.returned (.tuple #[.slice a0_0 (zbd t nw nm f ab).1.length c0_0,.int .i64 (zbd t nw nm f ab).2])∧Below w.heap.size w w'∧Own w' (zaj (zbd t nw nm f ab).1) (.slice a0_0 (zbd t nw nm f ab).1.length c0_0) fp0∧In w.heap.size w'.heap.size fp0):=by
 have hq:=DNetwork.siz_tr nw;rw[DSite.siz_s,DSector.siz_s,DAntenna.siz_s,DRadio.siz_s] at hq;have hqt:=DTerrain.siz_tr t;rw[zcc,zcc] at hqt;have hN8:(nw.sectors.length:Int)≤1048576:=by omega
 obtain⟨A0,C0,e0,_,_,_⟩:=DSite.rd rnw0;obtain⟨A2,C2,e2,_,_,_⟩:=DAntenna.rd rnw2;obtain⟨A3,C3,e3,_,_,_⟩:=DRadio.rd rnw3;obtain⟨A1,C1,e1,_,_,hcs⟩:=DSector.rd rnw1;subst e0 e1 e2 e3;obtain⟨W0,hW0,b0_,z0,k0,k1⟩:=zd4 w #[.int .i64 t.step,.int .i64 t.width,.int .i64 t.height,vt3,vt4] 39 #[.slice A0 nw.sites.length C0,.slice A1 nw.sectors.length C1,.slice A2 nw.antennas.length C2,.slice A3 nw.radios.length C3] 46;have HW0:=Lib.hid hW0;have B0:=Lib.hid b0_;have HD:=Lib.hid (fun (W:World) (hW:Below W0.heap.size W0 W)=>bx5 k0 hW <| by4 k1 hW);have HB:Hid (Below W0.heap.size W0 W0):=Below.refl _ _;clear k0 k1 hW0 b0_;have CN:Hid (∀ W:World,Below W0.heap.size W0 W→Calls Tryz.prog 53 #[.agg #[.slice A0 nw.sites.length C0,.slice A1 nw.sectors.length C1,.slice A2 nw.antennas.length C2,.slice A3 nw.radios.length C3],.string nm] W fun e w'=>e=.returned (.int .i64 (zaq nw.sectors nm))∧Below W.heap.size W w'):=fun  W hW=>sectorNamed_any nw.sectors nm _ _ _ _ w.heap.size W (rnw1.below (B0.out.trans (hW.mono B0.out.size))) (B0.out.trans (hW.mono B0.out.size)).size (by omega)
 have CT:Hid (∀ W:World,Below W0.heap.size W0 W→Calls Tryz.prog 54 #[.agg #[.int .i64 t.step,.int .i64 t.width,.int .i64 t.height,vt3,vt4]] W fun e w'=>e=.returned (.bool (zc6 t))∧Below W.heap.size W w'):=fun  W hW=>validTerrain_any t vt3 vt4 w.heap.size W (rt3.below (B0.out.trans (hW.mono B0.out.size))) (rt4.below (B0.out.trans (hW.mono B0.out.size))) (B0.out.trans (hW.mono B0.out.size)).size (by omega) (by omega)
 have CV:Hid (∀ W:World,Below W0.heap.size W0 W→Calls Tryz.prog 55 #[.agg #[.slice A0 nw.sites.length C0,.slice A1 nw.sectors.length C1,.slice A2 nw.antennas.length C2,.slice A3 nw.radios.length C3]] W fun e w'=>e=.returned (.bool (netB nw))∧Below W.heap.size W w'):=fun  W hW=>validNetwork_any nw _ _ _ _ W ((rnw0.below (B0.out.trans (hW.mono B0.out.size))).mono (B0.out.trans (hW.mono B0.out.size)).size) ((rnw1.below (B0.out.trans (hW.mono B0.out.size))).mono (B0.out.trans (hW.mono B0.out.size)).size) ((rnw2.below (B0.out.trans (hW.mono B0.out.size))).mono (B0.out.trans (hW.mono B0.out.size)).size) ((rnw3.below (B0.out.trans (hW.mono B0.out.size))).mono (B0.out.trans (hW.mono B0.out.size)).size) (by omega) hk_nw
 have CF:Hid (∀ W:World,Below W0.heap.size W0 W→Calls Tryz.prog 57 #[.int .i64 f] W fun e w'=>e=.returned (.bool (inB f 1 100000000))∧Below W.heap.size W w'):=fun  W hW=>zam (zcf f W)
 have CA:Hid (∀ W:World,Below W0.heap.size W0 W→Calls Tryz.prog 74 #[.int .i64 ab,.int .i64 1,.int .i64 3000] W fun e w'=>e=.returned (.bool (inB ab 1 3000))∧Below W.heap.size W w'):=fun  W hW=>zam (zao ab 1 3000 W)
 cases hT:zc6 t with
 | false =>
  rw[hT] at CT;have HE:=Lib.hid (secLev_1 (t:=t) (n:=nw) (nm:=nm) (f:=f) (ab:=ab) (Or.inl hT));generalize zbd t nw nm f ab=RV at *;generalize zaq nw.sectors nm=K at *;go_enter Tryz.func24,Tryz.ntmps24;go_upto_region 1 with (fail);rw[HW0.out];obtain⟨t0,t1,t2,t3,t4,t5,t6,t7,t8⟩:=HD.out _ HB.out;go_wp2_with ((first|(go_at_call 53;with_reducible refine (CN.out _ HB.out).mono ?_)|(go_at_call 54;with_reducible refine (CT.out _ HB.out).mono ?_));rintro e v1 ⟨rfl,hb_⟩;(try clear t0 t1 t2 t3 t4 t5 t6 t7 t8);replace HB:=btr HB hb_;clear hb_;obtain⟨t0,t1,t2,t3,t4,t5,t6,t7,t8⟩:=HD.out _ HB.out);go_ret2;rw[HE.out];exact⟨none,0,[],rfl,B0.out.trans (HB.out.mono B0.out.size),zd5 _,In.nil⟩
 | true =>
  rw[hT] at CT
  cases hV:netB nw with
  | false =>
   rw[hV] at CV;have HE:=Lib.hid (secLev_1 (t:=t) (n:=nw) (nm:=nm) (f:=f) (ab:=ab) (Or.inr hV));generalize zbd t nw nm f ab=RV at *;generalize zaq nw.sectors nm=K at *;go_enter Tryz.func24,Tryz.ntmps24;go_upto_region 1 with (fail);rw[HW0.out];obtain⟨t0,t1,t2,t3,t4,t5,t6,t7,t8⟩:=HD.out _ HB.out;go_wp2_with ((first|(go_at_call 53;with_reducible refine (CN.out _ HB.out).mono ?_)|(go_at_call 54;with_reducible refine (CT.out _ HB.out).mono ?_)|(go_at_call 55;with_reducible refine (CV.out _ HB.out).mono ?_));rintro e v1 ⟨rfl,hb_⟩;(try clear t0 t1 t2 t3 t4 t5 t6 t7 t8);replace HB:=btr HB hb_;clear hb_;obtain⟨t0,t1,t2,t3,t4,t5,t6,t7,t8⟩:=HD.out _ HB.out);go_ret2;rw[HE.out];exact⟨none,0,[],rfl,B0.out.trans (HB.out.mono B0.out.size),zd5 _,In.nil⟩
  | true =>
   rw[hV] at CV
   cases hF:inB f 1 100000000 with
   | false =>
    rw[hF] at CF;have HE:=Lib.hid (secLev_2 (t:=t) (n:=nw) (nm:=nm) (f:=f) (ab:=ab) hT hV (Or.inl hF));generalize zbd t nw nm f ab=RV at *;generalize zaq nw.sectors nm=K at *;go_enter Tryz.func24,Tryz.ntmps24;go_upto_region 1 with (fail);rw[HW0.out];obtain⟨t0,t1,t2,t3,t4,t5,t6,t7,t8⟩:=HD.out _ HB.out;go_wp2_with ((first|(go_at_call 53;with_reducible refine (CN.out _ HB.out).mono ?_)|(go_at_call 54;with_reducible refine (CT.out _ HB.out).mono ?_)|(go_at_call 55;with_reducible refine (CV.out _ HB.out).mono ?_)|(go_at_call 57;with_reducible refine (CF.out _ HB.out).mono ?_));rintro e v1 ⟨rfl,hb_⟩;(try clear t0 t1 t2 t3 t4 t5 t6 t7 t8);replace HB:=btr HB hb_;clear hb_;obtain⟨t0,t1,t2,t3,t4,t5,t6,t7,t8⟩:=HD.out _ HB.out);go_ret2;rw[HE.out];exact⟨none,0,[],rfl,B0.out.trans (HB.out.mono B0.out.size),zd5 _,In.nil⟩
   | true =>
    rw[hF] at CF
    cases hB:inB ab 1 3000 with
    | false =>
     rw[hB] at CA;have HE:=Lib.hid (secLev_2 (t:=t) (n:=nw) (nm:=nm) (f:=f) (ab:=ab) hT hV (Or.inr hB));generalize zbd t nw nm f ab=RV at *;generalize zaq nw.sectors nm=K at *;go_enter Tryz.func24,Tryz.ntmps24;go_upto_region 1 with (fail);rw[HW0.out];obtain⟨t0,t1,t2,t3,t4,t5,t6,t7,t8⟩:=HD.out _ HB.out;go_wp2_with ((first|(go_at_call 53;with_reducible refine (CN.out _ HB.out).mono ?_)|(go_at_call 54;with_reducible refine (CT.out _ HB.out).mono ?_)|(go_at_call 55;with_reducible refine (CV.out _ HB.out).mono ?_)|(go_at_call 57;with_reducible refine (CF.out _ HB.out).mono ?_)|(go_at_call 74;with_reducible refine (CA.out _ HB.out).mono ?_));rintro e v1 ⟨rfl,hb_⟩;(try clear t0 t1 t2 t3 t4 t5 t6 t7 t8);replace HB:=btr HB hb_;clear hb_;obtain⟨t0,t1,t2,t3,t4,t5,t6,t7,t8⟩:=HD.out _ HB.out);go_ret2;rw[HE.out];exact⟨none,0,[],rfl,B0.out.trans (HB.out.mono B0.out.size),zd5 _,In.nil⟩
    | true =>
     rw[hB] at CA;have ha:=ask20_ok hT hV hF hB
     rcases idx_two nw.sectors nm with hk|⟨k,hk,hk2⟩
     ·have HE:=Lib.hid (secLev_none ha hk)
      rw[hk] at CN;generalize zbd t nw nm f ab=RV at *;go_enter Tryz.func24,Tryz.ntmps24;go_upto_region 1 with (fail);rw[HW0.out];obtain⟨t0,t1,t2,t3,t4,t5,t6,t7,t8⟩:=HD.out _ HB.out;go_wp2_with ((first|(go_at_call 53;with_reducible refine (CN.out _ HB.out).mono ?_)|(go_at_call 54;with_reducible refine (CT.out _ HB.out).mono ?_)|(go_at_call 55;with_reducible refine (CV.out _ HB.out).mono ?_)|(go_at_call 57;with_reducible refine (CF.out _ HB.out).mono ?_)|(go_at_call 74;with_reducible refine (CA.out _ HB.out).mono ?_));rintro e v1 ⟨rfl,hb_⟩;(try clear t0 t1 t2 t3 t4 t5 t6 t7 t8);replace HB:=btr HB hb_;clear hb_;obtain⟨t0,t1,t2,t3,t4,t5,t6,t7,t8⟩:=HD.out _ HB.out);go_ret2;rw[HE.out];exact⟨none,0,[],rfl,B0.out.trans (HB.out.mono B0.out.size),zd5 _,In.nil⟩
     ·have T:=terrB_ok hT
      have hFF:=zav.1 hF;have hAB:=zav.1 hB;obtain⟨ks,hks,his⟩:=netB_sectors hV k hk;obtain⟨ka,kr,hp⟩:=zed hV hk;have ea:=sector_above hV hk;obtain⟨b,off,rfl,hb,hat⟩:=hcs (by omega);obtain⟨s0,s1,s2,s3,s4,s5,s6,s7,s8⟩:=hat k hk;rw[za9 hk] at s0 s1 s2 s3 s4 s5 s6 s7 s8;rw[hk2] at CN;have k0:(0:Int)≤(k:Int):=by omega
      have k1:(k:Int)<(nw.sectors.length:Int):=by omega
      have d2:decide ((k:Int)<0)=false:=decide_eq_false (by omega);have CE:Hid (∀ W:World,Below W0.heap.size W0 W→Calls Tryz.prog 75 #[.agg #[.slice A0 nw.sites.length C0,.slice (some ⟨b,off,none⟩) nw.sectors.length C1,.slice A2 nw.antennas.length C2,.slice A3 nw.radios.length C3],.agg #[.string (zad nw.sectors k).name,.string (zad nw.sectors k).site,.string (zad nw.sectors k).antenna,.string (zad nw.sectors k).radio,.string (zad nw.sectors k).band,.int .i64 (zad nw.sectors k).azimuth,.int .i64 (zad nw.sectors k).tilt,.int .i64 (zad nw.sectors k).above,.int .i64 (zad nw.sectors k).channel]] W fun e w'=>e=.returned (.agg #[.int .i64 (endR nw (zad nw.sectors k)).place.x,.int .i64 (endR nw (zad nw.sectors k)).place.y,.int .i64 (endR nw (zad nw.sectors k)).above])∧Below W.heap.size W w'):=fun  W hW=>iEnd_any nw (zad nw.sectors k) _ _ _ _ W ((rnw0.below (B0.out.trans (hW.mono B0.out.size))).mono (B0.out.trans (hW.mono B0.out.size)).size) (by omega) ks hks his
      have CH:Hid (∀ W:World,Below W0.heap.size W0 W→Calls Tryz.prog 58 #[.agg #[.int .i64 t.step,.int .i64 t.width,.int .i64 t.height,vt3,vt4],.agg #[.int .i64 (endR nw (zad nw.sectors k)).place.x,.int .i64 (endR nw (zad nw.sectors k)).place.y]] W fun e w'=>e=.returned (.bool (zb5 t (endR nw (zad nw.sectors k)).place))∧Below W.heap.size W w'):=fun  W hW=>has_any t _ vt3 vt4 ⟨T.w0,T.w1⟩ ⟨T.h0,T.h1⟩ ⟨T.mw.1,Int.le_trans T.mw.2 (by decide)⟩ ⟨T.mh.1,Int.le_trans T.mh.2 (by decide)⟩ W
      have HD2:Hid (∀ W:World,Below W0.heap.size W0 W→(W.cell? ⟨w.heap.size,0,none⟩=some (.int .i64 t.step)∧W.cell? ⟨w.heap.size,1,none⟩=some (.int .i64 t.width)∧W.cell? ⟨w.heap.size,2,none⟩=some (.int .i64 t.height)∧W.cell? ⟨w.heap.size,3,none⟩=some (vt3)∧W.cell? ⟨w.heap.size,4,none⟩=some (vt4)∧W.cell? ⟨w.heap.size+1,0,none⟩=some (.slice A0 nw.sites.length C0)∧W.cell? ⟨w.heap.size+1,1,none⟩=some (.slice (some ⟨b,off,none⟩) nw.sectors.length C1)∧W.cell? ⟨w.heap.size+1,2,none⟩=some (.slice A2 nw.antennas.length C2)∧W.cell? ⟨w.heap.size+1,3,none⟩=some (.slice A3 nw.radios.length C3))∧W.cell? ⟨b,off+k*9,none⟩=some (.string (zad nw.sectors k).name)∧W.cell? ⟨b,off+k*9+1,none⟩=some (.string (zad nw.sectors k).site)∧W.cell? ⟨b,off+k*9+2,none⟩=some (.string (zad nw.sectors k).antenna)∧W.cell? ⟨b,off+k*9+3,none⟩=some (.string (zad nw.sectors k).radio)∧W.cell? ⟨b,off+k*9+4,none⟩=some (.string (zad nw.sectors k).band)∧W.cell? ⟨b,off+k*9+5,none⟩=some (.int .i64 (zad nw.sectors k).azimuth)∧W.cell? ⟨b,off+k*9+6,none⟩=some (.int .i64 (zad nw.sectors k).tilt)∧W.cell? ⟨b,off+k*9+7,none⟩=some (.int .i64 (zad nw.sectors k).above)∧W.cell? ⟨b,off+k*9+8,none⟩=some (.int .i64 (zad nw.sectors k).channel)):=fun W hW=>⟨HD.out W hW,(bat (B0.out.trans (hW.mono B0.out.size)) b _ hb).trans s0,(bat (B0.out.trans (hW.mono B0.out.size)) b _ hb).trans s1,(bat (B0.out.trans (hW.mono B0.out.size)) b _ hb).trans s2,(bat (B0.out.trans (hW.mono B0.out.size)) b _ hb).trans s3,(bat (B0.out.trans (hW.mono B0.out.size)) b _ hb).trans s4,(bat (B0.out.trans (hW.mono B0.out.size)) b _ hb).trans s5,(bat (B0.out.trans (hW.mono B0.out.size)) b _ hb).trans s6,(bat (B0.out.trans (hW.mono B0.out.size)) b _ hb).trans s7,(bat (B0.out.trans (hW.mono B0.out.size)) b _ hb).trans s8⟩
      have hfd:∀ w:World,(Instr.field 50 (.agg #[.int .i64 (endR nw (zad nw.sectors k)).place.x,.int .i64 (endR nw (zad nw.sectors k)).place.y,.int .i64 (endR nw (zad nw.sectors k)).above]) 0).run Tryz.prog w=.ok (.agg #[.int .i64 (endR nw (zad nw.sectors k)).place.x,.int .i64 (endR nw (zad nw.sectors k)).place.y]) w:=fun _=>by kernel_rfl
      cases hI:zb5 t (endR nw (zad nw.sectors k)).place with
      | false =>
       rw[hI] at CH;have HE:=Lib.hid (secLev_out ha hk2 hI);clear s0 s1 s2 s3 s4 s5 s6 s7 s8 hat hcs ea hp his hks T L rt3 rt4 rnw0 rnw1 rnw2 rnw3 ha hT hV hF hB hI hFF hAB hk2;generalize zbd t nw nm f ab=RV at *;generalize endR nw (zad nw.sectors k)=ER at *;generalize (zad nw.sectors k)=S at *;go_enter Tryz.func24,Tryz.ntmps24;go_upto_region 1 with (fail);rw[HW0.out];obtain⟨t0,t1,t2,t3,t4,t5,t6,t7,t8⟩:=HD.out _ HB.out;go_upto_region 8 with ((first|(go_at_call 53;with_reducible refine (CN.out _ HB.out).mono ?_)|(go_at_call 54;with_reducible refine (CT.out _ HB.out).mono ?_)|(go_at_call 55;with_reducible refine (CV.out _ HB.out).mono ?_)|(go_at_call 57;with_reducible refine (CF.out _ HB.out).mono ?_)|(go_at_call 74;with_reducible refine (CA.out _ HB.out).mono ?_));rintro e v1 ⟨rfl,hb_⟩;(try clear t0 t1 t2 t3 t4 t5 t6 t7 t8);replace HB:=btr HB hb_;clear hb_;obtain⟨t0,t1,t2,t3,t4,t5,t6,t7,t8⟩:=HD.out _ HB.out);clear t0 t1 t2 t3 t4 t5 t6 t7 t8;refine zap 11 (.read 0 (.read 1 (.read 2 (.read 3 (.read 4 (.read 5 (.read 6 (.one 7 (.read 8 (.one 9 (.read 10 .nil))))))))))) (fun W=>Below W0.heap.size W0 W) (by kernel_rfl) (by kernel_rfl) (HB.out.drew) ?_;have YB:=Lib.hid (HB.out.drew);have Yz:v1.heap.size≤v1.drew.heap.size:=Nat.le_refl _;generalize v1.drew=Y at *
       iterate 7
        refine zag (v:=?_) rfl (fun _ _ _ h=>h) ?_ ?_
        rotate_left
        ·(intro W hSW;(try dsimp only at hSW);obtain⟨⟨t0,t1,t2,t3,t4,t5,t6,t7,t8⟩,s0,s1,s2,s3,s4,s5,s6,s7,s8⟩:=HD2.out W hSW;(go_simp<;>with_reducible rfl))
        (try simp only[Act.put,List.setIfInBounds_toArray,List.set_cons_zero,List.set_cons_succ])
       refine zac ?_;refine zab rfl (fun K hK=>?_);go_simp;refine (CE.out _ YB.out).mono ?_;rintro e Y1 ⟨rfl,hb1⟩;have YB1:=btr YB hb1;refine hK.out _ _ YB1.out ?_;clear hK K;have bs1:=hb1.size;clear hb1;refine zag (v:=?_) rfl (fun _ _ _ h=>h) ?_ ?_
       rotate_left
       ·(intro W hSW;(try dsimp only at hSW);obtain⟨⟨t0,t1,t2,t3,t4,t5,t6,t7,t8⟩,s0,s1,s2,s3,s4,s5,s6,s7,s8⟩:=HD2.out W hSW;(go_simp<;>with_reducible rfl))
       (try simp only[Act.put,List.setIfInBounds_toArray,List.set_cons_zero,List.set_cons_succ])
       refine zac ?_;refine zab rfl (fun K hK=>?_);go_simp;refine (CH.out _ YB1.out).mono ?_;rintro e Y2 ⟨rfl,hb2⟩;have YB2:=btr YB1 hb2;refine hK.out _ _ YB2.out ?_;clear hK K;have bs2:=hb2.size;clear hb2;refine zag (v:=?_) rfl (fun _ _ _ h=>h) ?_ ?_
       rotate_left
       ·(intro W hSW;(try dsimp only at hSW);obtain⟨⟨t0,t1,t2,t3,t4,t5,t6,t7,t8⟩,s0,s1,s2,s3,s4,s5,s6,s7,s8⟩:=HD2.out W hSW;(go_simp<;>with_reducible rfl))
       (try simp only[Act.put,List.setIfInBounds_toArray,List.set_cons_zero,List.set_cons_succ])
       refine zak ?_;simp only[List.drop_succ_cons,List.drop_zero];skip;replace HB:=YB2;go_wp2_with (fail);go_ret2;rw[HE.out];exact⟨none,0,[],rfl,B0.out.trans (HB.out.mono B0.out.size),zd5 _,In.nil⟩
      | true =>
       rw[hI] at CH;have HE:=Lib.hid (secLev_in ha hk2 hI);have CG:Hid (∀ W:World,Below W0.heap.size W0 W→Calls Tryz.prog 76 #[.agg #[.slice A0 nw.sites.length C0,.slice (some ⟨b,off,none⟩) nw.sectors.length C1,.slice A2 nw.antennas.length C2,.slice A3 nw.radios.length C3],.agg #[.int .i64 t.step,.int .i64 t.width,.int .i64 t.height,vt3,vt4],.agg #[.string (zad nw.sectors k).name,.string (zad nw.sectors k).site,.string (zad nw.sectors k).antenna,.string (zad nw.sectors k).radio,.string (zad nw.sectors k).band,.int .i64 (zad nw.sectors k).azimuth,.int .i64 (zad nw.sectors k).tilt,.int .i64 (zad nw.sectors k).above,.int .i64 (zad nw.sectors k).channel],.int .i64 f,.int .i64 ab] W fun e w'=>∃ (a':Option Addr) (c':Nat) (fp:List Nat),e=.returned (.slice a' (zda t nw (zad nw.sectors k) f ab).length c')∧Below W.heap.size W w'∧Own w' (zaj (zda t nw (zad nw.sectors k) f ab)) (.slice a' (zda t nw (zad nw.sectors k) f ab).length c') fp∧In W.heap.size w'.heap.size fp):=fun W hW=>iGrid_any t nw (zad nw.sectors k) f ab T _ _ _ _ vt3 vt4 (inTB_true.1 (show inTB t (endR nw (zad nw.sectors k)).place=true from hI)) ea hAB ks hks his ka kr hp (by omega) (by omega) (by omega) hFF.1 hFF.2 W ((rnw0.below (B0.out.trans (hW.mono B0.out.size))).mono (B0.out.trans (hW.mono B0.out.size)).size) ((rnw2.below (B0.out.trans (hW.mono B0.out.size))).mono (B0.out.trans (hW.mono B0.out.size)).size) ((rnw3.below (B0.out.trans (hW.mono B0.out.size))).mono (B0.out.trans (hW.mono B0.out.size)).size) ((rt3.below (B0.out.trans (hW.mono B0.out.size))).mono (B0.out.trans (hW.mono B0.out.size)).size) ((rt4.below (B0.out.trans (hW.mono B0.out.size))).mono (B0.out.trans (hW.mono B0.out.size)).size) (L.mono (B0.out.trans (hW.mono B0.out.size)))
       clear s0 s1 s2 s3 s4 s5 s6 s7 s8 hat hcs ea hp his hks T L rt3 rt4 rnw0 rnw1 rnw2 rnw3 ha hT hV hF hB hI hFF hAB hk2;generalize zbd t nw nm f ab=RV at *;generalize endR nw (zad nw.sectors k)=ER at *;generalize zda t nw (zad nw.sectors k) f ab=row at *;generalize (zad nw.sectors k)=S at *;go_enter Tryz.func24,Tryz.ntmps24;go_upto_region 1 with (fail);rw[HW0.out];obtain⟨t0,t1,t2,t3,t4,t5,t6,t7,t8⟩:=HD.out _ HB.out;go_upto_region 8 with ((first|(go_at_call 53;with_reducible refine (CN.out _ HB.out).mono ?_)|(go_at_call 54;with_reducible refine (CT.out _ HB.out).mono ?_)|(go_at_call 55;with_reducible refine (CV.out _ HB.out).mono ?_)|(go_at_call 57;with_reducible refine (CF.out _ HB.out).mono ?_)|(go_at_call 74;with_reducible refine (CA.out _ HB.out).mono ?_));rintro e v1 ⟨rfl,hb_⟩;(try clear t0 t1 t2 t3 t4 t5 t6 t7 t8);replace HB:=btr HB hb_;clear hb_;obtain⟨t0,t1,t2,t3,t4,t5,t6,t7,t8⟩:=HD.out _ HB.out);clear t0 t1 t2 t3 t4 t5 t6 t7 t8;refine zap 11 (.read 0 (.read 1 (.read 2 (.read 3 (.read 4 (.read 5 (.read 6 (.one 7 (.read 8 (.one 9 (.read 10 .nil))))))))))) (fun W=>Below W0.heap.size W0 W) (by kernel_rfl) (by kernel_rfl) (HB.out.drew) ?_;have YB:=Lib.hid (HB.out.drew);have Yz:v1.heap.size≤v1.drew.heap.size:=Nat.le_refl _;generalize v1.drew=Y at *
       iterate 7
        refine zag (v:=?_) rfl (fun _ _ _ h=>h) ?_ ?_
        rotate_left
        ·(intro W hSW;(try dsimp only at hSW);obtain⟨⟨t0,t1,t2,t3,t4,t5,t6,t7,t8⟩,s0,s1,s2,s3,s4,s5,s6,s7,s8⟩:=HD2.out W hSW;(go_simp<;>with_reducible rfl))
        (try simp only[Act.put,List.setIfInBounds_toArray,List.set_cons_zero,List.set_cons_succ])
       refine zac ?_;refine zab rfl (fun K hK=>?_);go_simp;refine (CE.out _ YB.out).mono ?_;rintro e Y1 ⟨rfl,hb1⟩;have YB1:=btr YB hb1;refine hK.out _ _ YB1.out ?_;clear hK K;have bs1:=hb1.size;clear hb1;refine zag (v:=?_) rfl (fun _ _ _ h=>h) ?_ ?_
       rotate_left
       ·(intro W hSW;(try dsimp only at hSW);obtain⟨⟨t0,t1,t2,t3,t4,t5,t6,t7,t8⟩,s0,s1,s2,s3,s4,s5,s6,s7,s8⟩:=HD2.out W hSW;(go_simp<;>with_reducible rfl))
       (try simp only[Act.put,List.setIfInBounds_toArray,List.set_cons_zero,List.set_cons_succ])
       refine zac ?_;refine zab rfl (fun K hK=>?_);go_simp;refine (CH.out _ YB1.out).mono ?_;rintro e Y2 ⟨rfl,hb2⟩;have YB2:=btr YB1 hb2;refine hK.out _ _ YB2.out ?_;clear hK K;have bs2:=hb2.size;clear hb2;refine zag (v:=?_) rfl (fun _ _ _ h=>h) ?_ ?_
       rotate_left
       ·(intro W hSW;(try dsimp only at hSW);obtain⟨⟨t0,t1,t2,t3,t4,t5,t6,t7,t8⟩,s0,s1,s2,s3,s4,s5,s6,s7,s8⟩:=HD2.out W hSW;(go_simp<;>with_reducible rfl))
       (try simp only[Act.put,List.setIfInBounds_toArray,List.set_cons_zero,List.set_cons_succ])
       refine zak ?_;simp only[List.drop_succ_cons,List.drop_zero];skip;have HB8:=YB2;go_upto_region 10 with (fail);refine zap 10 (.read 0 (.read 1 (.read 2 (.read 3 (.read 4 (.read 5 (.read 6 (.read 7 (.read 8 (.one 9 .nil)))))))))) (fun W=>Below W0.heap.size W0 W) (by kernel_rfl) (by kernel_rfl) (HB8.out.drew) ?_;have ZB:=Lib.hid (HB8.out.drew);have Zz:Y2.heap.size≤Y2.drew.heap.size:=Nat.le_refl _;generalize Y2.drew=Z at *
       iterate 9
        refine zag (v:=?_) rfl (fun _ _ _ h=>h) ?_ ?_
        rotate_left
        ·(intro W hSW;(try dsimp only at hSW);obtain⟨⟨t0,t1,t2,t3,t4,t5,t6,t7,t8⟩,s0,s1,s2,s3,s4,s5,s6,s7,s8⟩:=HD2.out W hSW;(go_simp<;>with_reducible rfl))
        (try simp only[Act.put,List.setIfInBounds_toArray,List.set_cons_zero,List.set_cons_succ])
       refine zac ?_;refine zab rfl (fun K hK=>?_);go_simp;refine (CG.out _ ZB.out).mono ?_;rintro e Z1 ⟨a6,c6,fp,rfl,hb1,ho1,hi1⟩;have ZB1:=btr ZB hb1;refine hK.out _ _ ZB1.out ?_;clear hK K;have bs1:=hb1.size;have Zoq1:=Lib.hid ho1;have Ziq1:=Lib.hid hi1;clear ho1 hi1;clear hb1;refine zak ?_;simp only[List.drop_succ_cons,List.drop_zero];skip;replace HB:=ZB1;have IV:Hid (In w.heap.size Z1.heap.size fp):=Ziq1.out.mono (by have:=B0.out.size;have:=ZB.out.size;omega) (Nat.le_refl _);go_wp2_with (fail);go_ret2;rw[HE.out]
       first
        | exact⟨a6,c6,fp,rfl,B0.out.trans (HB.out.mono B0.out.size),Zoq1.out,IV.out⟩
        | exact⟨a6,c6,rfl,B0.out.trans (HB.out.mono B0.out.size),fp,Zoq1.out,IV.out⟩
end Go.Proofs.YtdgmgchdjlfchaaGreatDoor
