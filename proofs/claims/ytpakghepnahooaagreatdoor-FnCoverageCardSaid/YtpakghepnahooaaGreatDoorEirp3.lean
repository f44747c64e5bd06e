/- Contracts: the gain of an antenna toward a direction, continued. Conditions: valid antennas. -/
import Derived.Test.YtpakghepnahooaaGreatDoorNetE
set_option linter.unusedVariables false
set_option linter.unusedSimpArgs false
namespace Go.Proofs.YtpakghepnahooaaGreatDoor
open Go.RowKit
theorem Q34 {p:Prop} (h:p:=by show w.heap.size≤w.heap.size+1+1;omega):p:=h
theorem Q3k {p:Prop} (h:p:=by first|(simp;done)|(simp<;>omega)):p:=h
theorem Q0f {p:Prop} (h:p:=by
 refine wpQuiet_nil ?_
 rintro _ ⟨X,rfl⟩
 have hX:=zaa wr.heap.size wr X
 clear oN oB
 generalize over wr.heap.size wr X=w2 at *
 have BE:=IJ (BW.out.trans (hX.mono BW.out.size))
 have BF:=IJ (HB.out.trans (hX.mono HB.out.size))
 clear hX
 go_wp2
 go_ret
 exact⟨by rw[HNB.out (HF.out)];rfl,BE.out⟩):p:=h
theorem Q0j {p:Prop} (h:p:=by
 refine wpQuiet_nil ?_
 rintro _ ⟨X,rfl⟩
 have hX:=zaa wr.heap.size wr X
 clear oN oB
 generalize over wr.heap.size wr X=w2 at *
 have BE:=IJ (BW.out.trans (hX.mono BW.out.size))
 have BF:=IJ (HB.out.trans (hX.mono HB.out.size))
 clear hX
 clear i3 i5
 go_wp2
 go_ret
 exact⟨by rw[HNB.out (HF.out)];rfl,BE.out⟩):p:=h
theorem Q12 {p:Prop} (h:p:=by
 go_enter Tryz.func139,Tryz.ntmps139
 go_wp2_with (go_at_call 191;refine (HM.out).mono ?_;rintro e w1 ⟨rfl,hb1⟩;obtain⟨t0,t1⟩:=HDH.out _ hb1;have HB:=IJ hb1;clear hb1)
 go_ret
 exact⟨by rw[HE.out];rfl,HB.out⟩):p:=h
theorem Q1s {p:Prop} (h:p:=by
 go_wp2
 go_ret
 exact⟨by rw[HU.out];rfl,zbu B0.out _⟩):p:=h
theorem Q23 {p:Prop} (h:p:=by
 refine wpQuiet_nil ?_
 rintro _ ⟨X,rfl⟩
 have hX:=zaa wr.heap.size wr X
 clear oN oB
 generalize over wr.heap.size wr X=w2 at *
 have BE:=IJ (BW.out.trans (hX.mono BW.out.size))
 have BF:=IJ (HB.out.trans (hX.mono HB.out.size))
 clear hX
 clear i3 i5
 exact Q08):p:=h
theorem Q25 {p:Prop} (h:p:=by
 refine wpQuiet_nil ?_
 rintro _ ⟨X,rfl⟩
 have hX:=zaa wr.heap.size wr X
 clear oN oB
 generalize over wr.heap.size wr X=w2 at *
 have BE:=IJ (BW.out.trans (hX.mono BW.out.size))
 have BF:=IJ (HB.out.trans (hX.mono HB.out.size))
 clear hX
 exact Q08):p:=h
set_option maxHeartbeats 40000000
set_option maxRecDepth 100000
def zdn (n:DNetwork):Bool:=zaz antB za2 n.antennas&&(zaz radB zbs n.radios&&(decide (n.antennas.length≤8)&&decide (n.radios.length≤8)))
theorem l14Models_any (n:DNetwork) (v0 v1 v2 v3:Value) (bp:Nat) (w:World) (r0:Rd w w (DSite.sT n.sites) v0) (r1:Rd w w (DSector.sT n.sectors) v1) (r2:Rd w w (DAntenna.sT n.antennas) v2) (r3:Rd w w (DRadio.sT n.radios) v3) (hbp:bp<w.heap.size) (p0:w.cell? ⟨bp,0,none⟩=some v0) (p1:w.cell? ⟨bp,1,none⟩=some v1) (p2:w.cell? ⟨bp,2,none⟩=some v2) (p3:w.cell? ⟨bp,3,none⟩=some v3) (hs:sizL n.tr≤1099511627776) (hk:n.ok) :
  Calls Tryz.prog 191 #[.pointer (some ⟨bp,0,none⟩)] w fun e w'=>e=.returned (.bool (zdn n))∧OI w w w':=by
 have hq:=DNetwork.siz_tr n;rw[DSite.siz_s,DSector.siz_s,DAntenna.siz_s,DRadio.siz_s] at hq;have hk_sites:=hk.sites;have hk_sectors:=hk.sectors;have hk_antennas:=hk.antennas;have hk_radios:=hk.radios;clear hk;have H0:=IJ r0;have H1:=IJ r1;have H2:=IJ r2;have H3:=IJ r3;clear r0 r1 r2 r3;obtain⟨A0,C0,e0,_,_,_⟩:=DSite.rd H0.out;obtain⟨A1,C1,e1,_,_,_⟩:=DSector.rd H1.out;obtain⟨A2,C2,e2,_,_,_⟩:=DAntenna.rd H2.out;obtain⟨A3,C3,e3,_,_,_⟩:=DRadio.rd H3.out;subst e0 e1 e2 e3;have B0:Hid (OI w w w):=Below.refl _ _;go_enter Tryz.func191,Tryz.ntmps191;go_wp2;go_loopw [3] (fun i wr=>∃ (k:Nat),k≤n.antennas.length∧i=J k∧(∀ j,j<k→upOk antB za2 n.antennas j=true)∧OI (w.heap.size) w wr) (fun i wr=>n.antennas.length-(intOf i).toNat)
 case atStart=>exact⟨0,Nat.zero_le _,rfl,fun j hj=>absurd hj II,by first|exact HB.out|exact Below.refl _ _⟩
 case round =>
  obtain⟨k,hk,rfl,hno,hb⟩:=hrel;have HN:=IJ hno;have HB:=IJ hb;have zb:=hb.size;clear hno hb;have BW:Hid (OI w w wr):=B0.out.trans (HB.out.mono II);have yn:bp<wr.heap.size:=II
  have n0:wr.cell? ⟨bp,0,none⟩=some (IZ A0 n.sites.length C0):=by rw[bat HB.out (bp) 0 II];exact p0
  have n1:wr.cell? ⟨bp,1,none⟩=some (IZ A1 n.sectors.length C1):=by rw[bat HB.out (bp) 1 II];exact p1
  have n2:wr.cell? ⟨bp,2,none⟩=some (IZ A2 n.antennas.length C2):=by rw[bat HB.out (bp) 2 II];exact p2
  have n3:wr.cell? ⟨bp,3,none⟩=some (IZ A3 n.radios.length C3):=by rw[bat HB.out (bp) 3 II];exact p3
  obtain⟨aAntenna,cAntenna,eAntenna,_,_,hcl⟩:=DAntenna.rd H2.out;injection eAntenna with eAntenna1 _ eAntenna3;subst eAntenna1 eAntenna3;have HCL:=IJ hcl;clear hcl
  by_cases hlt:k<n.antennas.length
  ·obtain⟨b,off,ea,hbl,hat⟩:=HCL.out II
   subst ea;obtain⟨s0,s1,⟨u2,s2,ru2⟩,⟨u3,s3,ru3⟩⟩:=hat k hlt;have hok:=all_ok hk_antennas hlt;have RU2:=IJ ru2;have RU3:=IJ ru3;clear ru2 ru3;rw[← bat BW.out b _ hbl] at s0 s1 s2 s3;have sp:0<k→wr.cell? ⟨b,off+(k-1)*4,none⟩=some (IQ (za5 n.antennas (k-1)).name):=fun h=>by
    have t:=(hat (k-1) II).1;rw[← bat BW.out b _ hbl,zbn (show k-1<n.antennas.length by omega)] at t;exact t
   have SP:=IJ sp;clear sp hat;have HUN:Hid (antB (za5 n.antennas k)=false→zaz antB za2 n.antennas=false):=fun h=>za1 hlt (zd2 hlt (by rw[zbn hlt];exact h))
   have HUZ:Hid (k=0→antB (za5 n.antennas k)=true→upOk antB za2 n.antennas k=true):=fun e h=>by subst e;rw[zci hlt,zbn hlt];exact h
   have HUP:Hid (0<k→upOk antB za2 n.antennas k=(antB (za5 n.antennas k)&&za2 (za5 n.antennas (k-1)) (za5 n.antennas k))):=fun h=>by rw[zcj h hlt,zbn hlt,zbn (show k-1<n.antennas.length by omega)]
   have hsz:=zcl DAntenna.tr n.antennas k hlt;have ks0:=hok.name;have hst:=DAntenna.siz_tr n.antennas[k];rw[zdb,zdb] at hst;rw[zbn hlt] at s0 s1 ks0 RU2 RU3 hst hsz;generalize hA:za5 n.antennas k=A at *;generalize hP:za5 n.antennas (k-1)=P at *;clear hA hP hok;obtain⟨au2,cu2,eu2,_,_,_⟩:=Rd.ints RU2.out;subst eu2;obtain⟨au3,cu3,eu3,_,_,_⟩:=Rd.ints RU3.out;subst eu3;have i1:(0:Int)≤(k:Int):=II
   have i2:(k:Int)<(n.antennas.length:Int):=II
   have yb:b<wr.heap.size:=II
   have HV:Hid (∀ W:World,OI wr wr W→Calls Tryz.prog 219 #[.pointer (some ⟨b,off+k*4,none⟩)] W fun e w'=>e=.returned (.bool (antB A))∧W=w'):=fun W hW=>l06Ok_any A _ _ b (off+k*4) W.heap.size W ((RU2.out.below (BW.out.trans (hW.mono BW.out.size))).mono (BW.out.trans (hW.mono BW.out.size)).size) ((RU3.out.below (BW.out.trans (hW.mono BW.out.size))).mono (BW.out.trans (hW.mono BW.out.size)).size) (Nat.le_refl _) ((bat hW b _ yb).trans s0) ((bat hW b _ yb).trans s1) ((bat hW b _ yb).trans s2) ((bat hW b _ yb).trans s3) ks0 II II
   have HNB:Hid (zaz antB za2 n.antennas=false→zdn n=false):=fun h=>by unfold zdn;rw[h];simp
   by_cases c1:antB A=true
   ·have HM:Hid (antB A=true):=c1
    by_cases c3:0<k
    ·skip
     have i3:IntKind.i64.wrap ((k:Int)-1)=(k:Int)-1:=IntWalk.i64_in _ II;have i4:(0:Int)≤(k:Int)-1:=II
     have i6:(k:Int)-1<(n.antennas.length:Int):=II
     have i7:(1:Int)≤(k:Int):=II
     have i8:decide (0<k)=true:=by simpa using c3
     have i5:((k:Int)-1).toNat=k-1:=II
     by_cases c4:ltS P.name A.name=true
     ·have le4:Op.bytesLess P.name.toList A.name.toList=true:=c4
      have HF:Hid (upOk antB za2 n.antennas k=true):=by show _=_;rw[HUP.out c3,Bool.and_eq_true];exact⟨HM.out,c4⟩
      have fp:=SP.out c3;have oN:=zai (w0:=wr) yn;have oB:=zai (w0:=wr) yb;rw[c1] at HV;go_wp2;refine zab wr.heap.size wr (Below.refl _ _) JI JI ?_
      repeat (go_big_quiet_step (first|(go_at_call 219;exact zd5 (HV.out _ (zaa _ _ _)))))
      exact Q23
     ·replace c4:ltS P.name A.name=false:=Bool.eq_false_iff.2 c4
      have le4:Op.bytesLess P.name.toList A.name.toList=false:=c4;have HF:Hid (zaz antB za2 n.antennas=false):=za1 hlt (by rw[HUP.out c3,show za2 P A=false from c4];simp);have fp:=SP.out c3;have oN:=zai (w0:=wr) yn;have oB:=zai (w0:=wr) yb;rw[c1] at HV;go_wp2;refine zab wr.heap.size wr (Below.refl _ _) JI JI ?_
      repeat (go_big_quiet_step (first|(go_at_call 219;exact zd5 (HV.out _ (zaa _ _ _)))))
      exact Q0j
    ·have i8:decide (0<k)=false:=by simpa using c3
     have HF:Hid (upOk antB za2 n.antennas k=true):=HUZ.out II HM.out;have oN:=zai (w0:=wr) yn;have oB:=zai (w0:=wr) yb;rw[c1] at HV;go_wp2;refine zab wr.heap.size wr (Below.refl _ _) JI JI ?_
     repeat (go_big_quiet_step (first|(go_at_call 219;exact zd5 (HV.out _ (zaa _ _ _)))))
     exact Q25
   ·replace c1:antB A=false:=Bool.eq_false_iff.2 c1
    have HF:Hid (zaz antB za2 n.antennas=false):=HUN.out c1;have oN:=zai (w0:=wr) yn;have oB:=zai (w0:=wr) yb;rw[c1] at HV;go_wp2;refine zab wr.heap.size wr (Below.refl _ _) JI JI ?_
    repeat (go_big_quiet_step (first|(go_at_call 219;exact zd5 (HV.out _ (zaa _ _ _)))))
    exact Q0f
  ·obtain rfl:k=n.antennas.length:=II
   have HRAntenna:Hid (zaz antB za2 n.antennas=true):=zce HN.out;clear hk HN hlt;go_wp2;go_loopw [4] (fun i wr=>∃ (k:Nat),k≤n.radios.length∧i=J k∧(∀ j,j<k→upOk radB zbs n.radios j=true)∧OI (w.heap.size) w wr) (fun i wr=>n.radios.length-(intOf i).toNat)
   case atStart=>exact⟨0,Nat.zero_le _,rfl,fun j hj=>absurd hj II,by first|exact HB.out|exact Below.refl _ _⟩
   case round =>
    obtain⟨k,hk,rfl,hno,hb⟩:=hrel;have HN:=IJ hno;have HB:=IJ hb;have zb:=hb.size;clear hno hb;have BW:Hid (OI w w wr):=B0.out.trans (HB.out.mono II);have yn:bp<wr.heap.size:=II
    have n0:wr.cell? ⟨bp,0,none⟩=some (IZ A0 n.sites.length C0):=by rw[bat HB.out (bp) 0 II];exact p0
    have n1:wr.cell? ⟨bp,1,none⟩=some (IZ A1 n.sectors.length C1):=by rw[bat HB.out (bp) 1 II];exact p1
    have n2:wr.cell? ⟨bp,2,none⟩=some (IZ A2 n.antennas.length C2):=by rw[bat HB.out (bp) 2 II];exact p2
    have n3:wr.cell? ⟨bp,3,none⟩=some (IZ A3 n.radios.length C3):=by rw[bat HB.out (bp) 3 II];exact p3
    obtain⟨aRadio,cRadio,eRadio,_,_,hcl⟩:=DRadio.rd H3.out;injection eRadio with eRadio1 _ eRadio3;subst eRadio1 eRadio3;have HCL:=IJ hcl;clear hcl
    by_cases hlt:k<n.radios.length
    ·obtain⟨b,off,ea,hbl,hat⟩:=HCL.out II
     subst ea;obtain⟨s0,s1,s2,s3,s4,⟨u5,s5,ru5⟩⟩:=hat k hlt;have hok:=all_ok hk_radios hlt;have RU5:=IJ ru5;clear ru5;rw[← bat BW.out b _ hbl] at s0 s1 s2 s3 s4 s5;have sp:0<k→wr.cell? ⟨b,off+(k-1)*6,none⟩=some (IQ (zbg n.radios (k-1)).name):=fun h=>by
      have t:=(hat (k-1) II).1;rw[← bat BW.out b _ hbl,zcb (show k-1<n.radios.length by omega)] at t;exact t
     have SP:=IJ sp;clear sp hat;have HUN:Hid (radB (zbg n.radios k)=false→zaz radB zbs n.radios=false):=fun h=>za1 hlt (zd2 hlt (by rw[zcb hlt];exact h))
     have HUZ:Hid (k=0→radB (zbg n.radios k)=true→upOk radB zbs n.radios k=true):=fun e h=>by subst e;rw[zci hlt,zcb hlt];exact h
     have HUP:Hid (0<k→upOk radB zbs n.radios k=(radB (zbg n.radios k)&&zbs (zbg n.radios (k-1)) (zbg n.radios k))):=fun h=>by rw[zcj h hlt,zcb hlt,zcb (show k-1<n.radios.length by omega)]
     have hsz:=zcl DRadio.tr n.radios k hlt;have ks0:=hok.name;have hst:=DRadio.siz_tr n.radios[k];rw[DMode.siz_s] at hst;rw[zcb hlt] at s0 s1 s2 s3 s4 ks0 RU5 hst hsz;generalize hA:zbg n.radios k=A at *;generalize hP:zbg n.radios (k-1)=P at *;clear hA hP hok;obtain⟨au5,cu5,eu5,_,_,_⟩:=DMode.rd RU5.out;subst eu5;have i1:(0:Int)≤(k:Int):=II
     have i2:(k:Int)<(n.radios.length:Int):=II
     have yb:b<wr.heap.size:=II
     have HV:Hid (∀ W:World,OI wr wr W→Calls Tryz.prog 220 #[.pointer (some ⟨b,off+k*6,none⟩)] W fun e w'=>e=.returned (.bool (radB A))∧OI W W w'):=fun W hW=>l07Ok_any A _ b (off+k*6) W ((RU5.out.below (BW.out.trans (hW.mono BW.out.size))).mono (BW.out.trans (hW.mono BW.out.size)).size) (by have:=hW.size;omega) ((bat hW b _ yb).trans s0) ((bat hW b _ yb).trans s1) ((bat hW b _ yb).trans s2) ((bat hW b _ yb).trans s3) ((bat hW b _ yb).trans s4) ((bat hW b _ yb).trans s5) ks0 II
     have HNB:Hid (zaz radB zbs n.radios=false→zdn n=false):=fun h=>by unfold zdn;rw[h];simp
     by_cases c1:radB A=true
     ·have HM:Hid (radB A=true):=c1
      by_cases c3:0<k
      ·skip
       have i3:IntKind.i64.wrap ((k:Int)-1)=(k:Int)-1:=IntWalk.i64_in _ II;have i4:(0:Int)≤(k:Int)-1:=II
       have i6:(k:Int)-1<(n.radios.length:Int):=II
       have i7:(1:Int)≤(k:Int):=II
       have i8:decide (0<k)=true:=by simpa using c3
       have i5:((k:Int)-1).toNat=k-1:=II
       by_cases c4:ltS P.name A.name=true
       ·have le4:Op.bytesLess P.name.toList A.name.toList=true:=c4
        have HF:Hid (upOk radB zbs n.radios k=true):=by show _=_;rw[HUP.out c3,Bool.and_eq_true];exact⟨HM.out,c4⟩
        have fp:=SP.out c3;have oN:=zai (w0:=wr) yn;have oB:=zai (w0:=wr) yb;rw[c1] at HV;go_wp2;refine zab wr.heap.size wr (Below.refl _ _) JI JI ?_
        repeat (go_big_quiet_step (first|(go_at_call 220;exact zah (Nat.le_refl _) (HV.out _ (zaa _ _ _)))))
        exact Q23
       ·replace c4:ltS P.name A.name=false:=Bool.eq_false_iff.2 c4
        have le4:Op.bytesLess P.name.toList A.name.toList=false:=c4;have HF:Hid (zaz radB zbs n.radios=false):=za1 hlt (by rw[HUP.out c3,show zbs P A=false from c4];simp);have fp:=SP.out c3;have oN:=zai (w0:=wr) yn;have oB:=zai (w0:=wr) yb;rw[c1] at HV;go_wp2;refine zab wr.heap.size wr (Below.refl _ _) JI JI ?_
        repeat (go_big_quiet_step (first|(go_at_call 220;exact zah (Nat.le_refl _) (HV.out _ (zaa _ _ _)))))
        exact Q0j
      ·have i8:decide (0<k)=false:=by simpa using c3
       have HF:Hid (upOk radB zbs n.radios k=true):=HUZ.out II HM.out;have oN:=zai (w0:=wr) yn;have oB:=zai (w0:=wr) yb;rw[c1] at HV;go_wp2;refine zab wr.heap.size wr (Below.refl _ _) JI JI ?_
       repeat (go_big_quiet_step (first|(go_at_call 220;exact zah (Nat.le_refl _) (HV.out _ (zaa _ _ _)))))
       exact Q25
     ·replace c1:radB A=false:=Bool.eq_false_iff.2 c1
      have HF:Hid (zaz radB zbs n.radios=false):=HUN.out c1;have oN:=zai (w0:=wr) yn;have oB:=zai (w0:=wr) yb;rw[c1] at HV;go_wp2;refine zab wr.heap.size wr (Below.refl _ _) JI JI ?_
      repeat (go_big_quiet_step (first|(go_at_call 220;exact zah (Nat.le_refl _) (HV.out _ (zaa _ _ _)))))
      exact Q0f
    ·obtain rfl:k=n.radios.length:=II
     have HRRadio:Hid (zaz radB zbs n.radios=true):=zce HN.out;clear hk HN hlt
     by_cases h2:n.antennas.length≤8
     ·have h2i:(n.antennas.length:Int)≤8:=II
      have HT:Hid (zdn n=decide (n.radios.length≤8)):=by show _=_;unfold zdn;rw[HRAntenna.out,HRRadio.out,decide_eq_true h2];rfl
      have HD3:Hid (decide ((n.radios.length:Int)≤8)=decide (n.radios.length≤8)):=decide_eq_decide.2 II;go_wp2;go_ret;exact⟨by rw[HT.out,← HD3.out];rfl,BW.out⟩
     ·have h2i:8<n.antennas.length:=II
      have HT:Hid (zdn n=false):=by show _=_;unfold zdn;rw[decide_eq_false h2];simp
      go_wp2;go_ret;exact⟨by rw[HT.out];rfl,BW.out⟩
theorem netB_eq (n:DNetwork):netB n=(zdn n&&(decide (n.sites.length≤12)&&(decide (n.sectors.length≤24)&&(zaz zbk zcq n.sites&&zaz (fun x=>zag x&&zan n x) zbc n.sectors)))):=by
 unfold netB zdn;generalize decide (n.sites.length≤12)=x0;generalize decide (n.sectors.length≤24)=x1;generalize decide (n.antennas.length≤8)=x2;generalize decide (n.radios.length≤8)=x3;generalize zaz zbk zcq n.sites=x4;generalize zaz antB za2 n.antennas=x5;generalize zaz radB zbs n.radios=x6;generalize zaz (fun x=>zag x&&zan n x) zbc n.sectors=x7
 cases x0<;>cases x1<;>cases x2<;>cases x3<;>cases x4<;>cases x5<;>cases x6<;>cases x7<;>rfl
theorem zc4 (n:DNetwork) (v0 v1 v2 v3:Value) (bp:Nat) (w:World) (r0:Rd w w (DSite.sT n.sites) v0) (r1:Rd w w (DSector.sT n.sectors) v1) (r2:Rd w w (DAntenna.sT n.antennas) v2) (r3:Rd w w (DRadio.sT n.radios) v3) (hbp:bp<w.heap.size) (p0:w.cell? ⟨bp,0,none⟩=some v0) (p1:w.cell? ⟨bp,1,none⟩=some v1) (p2:w.cell? ⟨bp,2,none⟩=some v2) (p3:w.cell? ⟨bp,3,none⟩=some v3) (hs:sizL n.tr≤1099511627776) (hk:n.ok) :
  Calls Tryz.prog 139 #[.pointer (some ⟨bp,0,none⟩)] w fun e w'=>e=.returned (.bool (netB n))∧OI w w w':=by
 have HM:=IJ (l14Models_any n v0 v1 v2 v3 bp w r0 r1 r2 r3 hbp p0 p1 p2 p3 hs hk);have hq:=DNetwork.siz_tr n;rw[DSite.siz_s,DSector.siz_s,DAntenna.siz_s,DRadio.siz_s] at hq;have hk_sites:=hk.sites;have hk_sectors:=hk.sectors;have hk_antennas:=hk.antennas;have hk_radios:=hk.radios;clear hk;have H0:=IJ r0;have H1:=IJ r1;have H2:=IJ r2;have H3:=IJ r3;clear r0 r1 r2 r3;obtain⟨A0,C0,e0,_,_,_⟩:=DSite.rd H0.out;obtain⟨A1,C1,e1,_,_,_⟩:=DSector.rd H1.out;obtain⟨A2,C2,e2,_,_,_⟩:=DAntenna.rd H2.out;obtain⟨A3,C3,e3,_,_,_⟩:=DRadio.rd H3.out;subst e0 e1 e2 e3;have B0:Hid (OI w w w):=Below.refl _ _;have HD:∀ (w1:World),OI w w w1→(w1.cell? ⟨bp,0,none⟩=w.cell? ⟨bp,0,none⟩∧w1.cell? ⟨bp,1,none⟩=w.cell? ⟨bp,1,none⟩):=fun w1 h=>⟨bat h bp 0 hbp,bat h bp 1 hbp⟩
 have HDH:=IJ HD;clear HD
 by_cases h0:zdn n=true
 ·by_cases h1:n.sites.length≤12
  ·by_cases h2:n.sectors.length≤24
   ·have h1i:(n.sites.length:Int)≤12:=II
    have h2i:(n.sectors.length:Int)≤24:=II
    go_enter Tryz.func139,Tryz.ntmps139;go_wp2_with (go_at_call 191;refine (HM.out).mono ?_;rintro e w1 ⟨rfl,hb1⟩;obtain⟨t0,t1⟩:=HDH.out _ hb1;have HB:=IJ hb1;clear hb1);clear t0 t1;go_loopw [3] (fun i wr=>∃ (k:Nat),k≤n.sites.length∧i=J k∧(∀ j,j<k→upOk zbk zcq n.sites j=true)∧OI (w.heap.size) w wr) (fun i wr=>n.sites.length-(intOf i).toNat)
    case atStart=>exact⟨0,Nat.zero_le _,rfl,fun j hj=>absurd hj II,by first|exact HB.out|exact Below.refl _ _⟩
    case round =>
     obtain⟨k,hk,rfl,hno,hb⟩:=hrel;have HN:=IJ hno;have HB:=IJ hb;have zb:=hb.size;clear hno hb;have BW:Hid (OI w w wr):=B0.out.trans (HB.out.mono II);have yn:bp<wr.heap.size:=II
     have n0:wr.cell? ⟨bp,0,none⟩=some (IZ A0 n.sites.length C0):=by rw[bat HB.out (bp) 0 II];exact p0
     have n1:wr.cell? ⟨bp,1,none⟩=some (IZ A1 n.sectors.length C1):=by rw[bat HB.out (bp) 1 II];exact p1
     have n2:wr.cell? ⟨bp,2,none⟩=some (IZ A2 n.antennas.length C2):=by rw[bat HB.out (bp) 2 II];exact p2
     have n3:wr.cell? ⟨bp,3,none⟩=some (IZ A3 n.radios.length C3):=by rw[bat HB.out (bp) 3 II];exact p3
     obtain⟨aSite,cSite,eSite,_,_,hcl⟩:=DSite.rd H0.out;injection eSite with eSite1 _ eSite3;subst eSite1 eSite3;have HCL:=IJ hcl;clear hcl
     by_cases hlt:k<n.sites.length
     ·obtain⟨b,off,ea,hbl,hat⟩:=HCL.out II
      subst ea;obtain⟨s0,s1,s2,s3⟩:=hat k hlt;have hok:=all_ok hk_sites hlt;rw[← bat BW.out b _ hbl] at s0 s1 s2 s3;have sp:0<k→wr.cell? ⟨b,off+(k-1)*4,none⟩=some (IQ (ze2 n.sites (k-1)).name):=fun h=>by
       have t:=(hat (k-1) II).1;rw[← bat BW.out b _ hbl,zde (show k-1<n.sites.length by omega)] at t;exact t
      have SP:=IJ sp;clear sp hat;have HUN:Hid (zbk (ze2 n.sites k)=false→zaz zbk zcq n.sites=false):=fun h=>za1 hlt (zd2 hlt (by rw[zde hlt];exact h))
      have HUZ:Hid (k=0→zbk (ze2 n.sites k)=true→upOk zbk zcq n.sites k=true):=fun e h=>by subst e;rw[zci hlt,zde hlt];exact h
      have HUP:Hid (0<k→upOk zbk zcq n.sites k=(zbk (ze2 n.sites k)&&zcq (ze2 n.sites (k-1)) (ze2 n.sites k))):=fun h=>by rw[zcj h hlt,zde hlt,zde (show k-1<n.sites.length by omega)]
      have hsz:=zcl DSite.tr n.sites k hlt;have ks0:=hok.name;have ks1:=hok.holder;rw[zde hlt] at s0 s1 s2 s3 ks0 ks1;generalize hA:ze2 n.sites k=A at *;generalize hP:ze2 n.sites (k-1)=P at *;clear hA hP hok;have i1:(0:Int)≤(k:Int):=II
      have i2:(k:Int)<(n.sites.length:Int):=II
      have yb:b<wr.heap.size:=II
      have HV:Hid (∀ W:World,OI wr wr W→Calls Tryz.prog 140 #[.pointer (some ⟨b,off+k*4,none⟩)] W fun e w'=>e=.returned (.bool (zbk A))∧OI W W w'):=fun W hW=>zeq A b (off+k*4) W ((bat hW b _ yb).trans s0) ((bat hW b _ yb).trans s1) ((bat hW b _ yb).trans s2) ((bat hW b _ yb).trans s3) ks0 ks1
      have HNB:Hid (zaz zbk zcq n.sites=false→netB n=false):=fun h=>by unfold netB;rw[h];simp
      by_cases c1:zbk A=true
      ·have HM:Hid (zbk A=true):=c1
       by_cases c3:0<k
       ·skip
        have i3:IntKind.i64.wrap ((k:Int)-1)=(k:Int)-1:=IntWalk.i64_in _ II;have i4:(0:Int)≤(k:Int)-1:=II
        have i6:(k:Int)-1<(n.sites.length:Int):=II
        have i7:(1:Int)≤(k:Int):=II
        have i8:decide (0<k)=true:=by simpa using c3
        have i5:((k:Int)-1).toNat=k-1:=II
        by_cases c4:ltS P.name A.name=true
        ·have le4:Op.bytesLess P.name.toList A.name.toList=true:=c4
         have HF:Hid (upOk zbk zcq n.sites k=true):=by show _=_;rw[HUP.out c3,Bool.and_eq_true];exact⟨HM.out,c4⟩
         have fp:=SP.out c3;have oN:=zai (w0:=wr) yn;have oB:=zai (w0:=wr) yb;rw[c1] at HV;go_wp2;refine zab wr.heap.size wr (Below.refl _ _) JI JI ?_
         repeat (go_big_quiet_step (first|(go_at_call 140;exact zah (Nat.le_refl _) (HV.out _ (zaa _ _ _)))))
         exact Q23
        ·replace c4:ltS P.name A.name=false:=Bool.eq_false_iff.2 c4
         have le4:Op.bytesLess P.name.toList A.name.toList=false:=c4;have HF:Hid (zaz zbk zcq n.sites=false):=za1 hlt (by rw[HUP.out c3,show zcq P A=false from c4];simp);have fp:=SP.out c3;have oN:=zai (w0:=wr) yn;have oB:=zai (w0:=wr) yb;rw[c1] at HV;go_wp2;refine zab wr.heap.size wr (Below.refl _ _) JI JI ?_
         repeat (go_big_quiet_step (first|(go_at_call 140;exact zah (Nat.le_refl _) (HV.out _ (zaa _ _ _)))))
         exact Q0j
       ·have i8:decide (0<k)=false:=by simpa using c3
        have HF:Hid (upOk zbk zcq n.sites k=true):=HUZ.out II HM.out;have oN:=zai (w0:=wr) yn;have oB:=zai (w0:=wr) yb;rw[c1] at HV;go_wp2;refine zab wr.heap.size wr (Below.refl _ _) JI JI ?_
        repeat (go_big_quiet_step (first|(go_at_call 140;exact zah (Nat.le_refl _) (HV.out _ (zaa _ _ _)))))
        exact Q25
      ·replace c1:zbk A=false:=Bool.eq_false_iff.2 c1
       have HF:Hid (zaz zbk zcq n.sites=false):=HUN.out c1;have oN:=zai (w0:=wr) yn;have oB:=zai (w0:=wr) yb;rw[c1] at HV;go_wp2;refine zab wr.heap.size wr (Below.refl _ _) JI JI ?_
       repeat (go_big_quiet_step (first|(go_at_call 140;exact zah (Nat.le_refl _) (HV.out _ (zaa _ _ _)))))
       exact Q0f
     ·obtain rfl:k=n.sites.length:=II
      have HRSite:Hid (zaz zbk zcq n.sites=true):=zce HN.out;clear hk HN hlt;go_wp2;go_loopw [4] (fun i wr=>∃ (k:Nat),k≤n.sectors.length∧i=J k∧(∀ j,j<k→upOk (fun x=>zag x&&zan n x) zbc n.sectors j=true)∧OI (w.heap.size) w wr) (fun i wr=>n.sectors.length-(intOf i).toNat)
      case atStart=>exact⟨0,Nat.zero_le _,rfl,fun j hj=>absurd hj II,by first|exact HB.out|exact Below.refl _ _⟩
      case round =>
       obtain⟨k,hk,rfl,hno,hb⟩:=hrel;have HN:=IJ hno;have HB:=IJ hb;have zb:=hb.size;clear hno hb;have BW:Hid (OI w w wr):=B0.out.trans (HB.out.mono II);have yn:bp<wr.heap.size:=II
       have n0:wr.cell? ⟨bp,0,none⟩=some (IZ A0 n.sites.length C0):=by rw[bat HB.out (bp) 0 II];exact p0
       have n1:wr.cell? ⟨bp,1,none⟩=some (IZ A1 n.sectors.length C1):=by rw[bat HB.out (bp) 1 II];exact p1
       have n2:wr.cell? ⟨bp,2,none⟩=some (IZ A2 n.antennas.length C2):=by rw[bat HB.out (bp) 2 II];exact p2
       have n3:wr.cell? ⟨bp,3,none⟩=some (IZ A3 n.radios.length C3):=by rw[bat HB.out (bp) 3 II];exact p3
       obtain⟨aSector,cSector,eSector,_,_,hcl⟩:=DSector.rd H1.out;injection eSector with eSector1 _ eSector3;subst eSector1 eSector3;have HCL:=IJ hcl;clear hcl
       by_cases hlt:k<n.sectors.length
       ·obtain⟨b,off,ea,hbl,hat⟩:=HCL.out II
        subst ea;obtain⟨s0,s1,s2,s3,s4,s5,s6,s7,s8⟩:=hat k hlt;have hok:=all_ok hk_sectors hlt;rw[← bat BW.out b _ hbl] at s0 s1 s2 s3 s4 s5 s6 s7 s8;have sp:0<k→wr.cell? ⟨b,off+(k-1)*9,none⟩=some (IQ (zad n.sectors (k-1)).name):=fun h=>by
         have t:=(hat (k-1) II).1;rw[← bat BW.out b _ hbl,za3 (show k-1<n.sectors.length by omega)] at t;exact t
        have SP:=IJ sp;clear sp hat;have HUN:Hid ((fun x=>zag x&&zan n x) (zad n.sectors k)=false→zaz (fun x=>zag x&&zan n x) zbc n.sectors=false):=fun h=>za1 hlt (zd2 hlt (by rw[za3 hlt];exact h))
        have HUZ:Hid (k=0→(fun x=>zag x&&zan n x) (zad n.sectors k)=true→upOk (fun x=>zag x&&zan n x) zbc n.sectors k=true):=fun e h=>by subst e;rw[zci hlt,za3 hlt];exact h
        have HUP:Hid (0<k→upOk (fun x=>zag x&&zan n x) zbc n.sectors k=((fun x=>zag x&&zan n x) (zad n.sectors k)&&zbc (zad n.sectors (k-1)) (zad n.sectors k))):=fun h=>by rw[zcj h hlt,za3 hlt,za3 (show k-1<n.sectors.length by omega)]
        have hsz:=zcl DSector.tr n.sectors k hlt;have ks0:=hok.name;have ks1:=hok.site;have ks2:=hok.antenna;have ks3:=hok.radio;have ks4:=hok.band;rw[za3 hlt] at s0 s1 s2 s3 s4 s5 s6 s7 s8 ks0 ks1 ks2 ks3 ks4;generalize hA:zad n.sectors k=A at *;generalize hP:zad n.sectors (k-1)=P at *;clear hA hP hok;have i1:(0:Int)≤(k:Int):=II
        have i2:(k:Int)<(n.sectors.length:Int):=II
        have yb:b<wr.heap.size:=II
        have HV:Hid (∀ W:World,OI wr wr W→Calls Tryz.prog 143 #[.pointer (some ⟨b,off+k*9,none⟩)] W fun e w'=>e=.returned (.bool (zag A))∧OI W W w'):=fun W hW=>(zdc A b (off+k*9) W ((bat hW b _ yb).trans s0) ((bat hW b _ yb).trans s1) ((bat hW b _ yb).trans s2) ((bat hW b _ yb).trans s3) ((bat hW b _ yb).trans s4) ((bat hW b _ yb).trans s5) ((bat hW b _ yb).trans s6) ((bat hW b _ yb).trans s7) ((bat hW b _ yb).trans s8) ks0 ks1 ks2 ks3 ks4)
        have HP:Hid (∀ W:World,OI wr wr W→Calls Tryz.prog 144 #[.pointer (some ⟨bp,0,none⟩),.pointer (some ⟨b,off+k*9,none⟩)] W fun e w'=>e=.returned (.bool (zan n A))∧W=w'):=fun W hW=>zds n A _ _ _ bp b (off+k*9) W.heap.size W ((H0.out.below (BW.out.trans (hW.mono BW.out.size))).mono (BW.out.trans (hW.mono BW.out.size)).size) ((H2.out.below (BW.out.trans (hW.mono BW.out.size))).mono (BW.out.trans (hW.mono BW.out.size)).size) ((H3.out.below (BW.out.trans (hW.mono BW.out.size))).mono (BW.out.trans (hW.mono BW.out.size)).size) (Nat.le_refl _) ((bat hW bp 0 yn).trans n0) ((bat hW bp 2 yn).trans n2) ((bat hW bp 3 yn).trans n3) ((bat hW b _ yb).trans s1) ((bat hW b _ yb).trans s2) ((bat hW b _ yb).trans s3) II II II
        have HNB:Hid (zaz (fun x=>zag x&&zan n x) zbc n.sectors=false→netB n=false):=fun h=>by unfold netB;rw[h];simp
        by_cases c1:zag A=true
        ·by_cases c2:zan n A=true
         ·have HM:Hid ((fun x=>zag x&&zan n x) A=true):=by show (zag A&&zan n A)=true;rw[c1,c2];rfl
          by_cases c3:0<k
          ·skip
           have i3:IntKind.i64.wrap ((k:Int)-1)=(k:Int)-1:=IntWalk.i64_in _ II;have i4:(0:Int)≤(k:Int)-1:=II
           have i6:(k:Int)-1<(n.sectors.length:Int):=II
           have i7:(1:Int)≤(k:Int):=II
           have i8:decide (0<k)=true:=by simpa using c3
           have i5:((k:Int)-1).toNat=k-1:=II
           by_cases c4:ltS P.name A.name=true
           ·have le4:Op.bytesLess P.name.toList A.name.toList=true:=c4
            have HF:Hid (upOk (fun x=>zag x&&zan n x) zbc n.sectors k=true):=by show _=_;rw[HUP.out c3,Bool.and_eq_true];exact⟨HM.out,c4⟩
            have fp:=SP.out c3;have oN:=zai (w0:=wr) yn;have oB:=zai (w0:=wr) yb;rw[c1] at HV;rw[c2] at HP;go_wp2;refine zab wr.heap.size wr (Below.refl _ _) JI JI ?_
            repeat (go_big_quiet_step (first|(go_at_call 143;exact zah (Nat.le_refl _) (HV.out _ (zaa _ _ _)))|(go_at_call 144;exact zd5 (HP.out _ (zaa _ _ _)))))
            exact Q23
           ·replace c4:ltS P.name A.name=false:=Bool.eq_false_iff.2 c4
            have le4:Op.bytesLess P.name.toList A.name.toList=false:=c4;have HF:Hid (zaz (fun x=>zag x&&zan n x) zbc n.sectors=false):=za1 hlt (by rw[HUP.out c3,show zbc P A=false from c4];simp);have fp:=SP.out c3;have oN:=zai (w0:=wr) yn;have oB:=zai (w0:=wr) yb;rw[c1] at HV;rw[c2] at HP;go_wp2;refine zab wr.heap.size wr (Below.refl _ _) JI JI ?_
            repeat (go_big_quiet_step (first|(go_at_call 143;exact zah (Nat.le_refl _) (HV.out _ (zaa _ _ _)))|(go_at_call 144;exact zd5 (HP.out _ (zaa _ _ _)))))
            exact Q0j
          ·have i8:decide (0<k)=false:=by simpa using c3
           have HF:Hid (upOk (fun x=>zag x&&zan n x) zbc n.sectors k=true):=HUZ.out II HM.out;have oN:=zai (w0:=wr) yn;have oB:=zai (w0:=wr) yb;rw[c1] at HV;rw[c2] at HP;go_wp2;refine zab wr.heap.size wr (Below.refl _ _) JI JI ?_
           repeat (go_big_quiet_step (first|(go_at_call 143;exact zah (Nat.le_refl _) (HV.out _ (zaa _ _ _)))|(go_at_call 144;exact zd5 (HP.out _ (zaa _ _ _)))))
           exact Q25
         ·replace c2:zan n A=false:=Bool.eq_false_iff.2 c2
          have HF:Hid (zaz (fun x=>zag x&&zan n x) zbc n.sectors=false):=HUN.out (by show (zag A&&zan n A)=false;rw[c2,Bool.and_false]);have oN:=zai (w0:=wr) yn;have oB:=zai (w0:=wr) yb;rw[c1] at HV;rw[c2] at HP;go_wp2;refine zab wr.heap.size wr (Below.refl _ _) JI JI ?_
          repeat (go_big_quiet_step (first|(go_at_call 143;exact zah (Nat.le_refl _) (HV.out _ (zaa _ _ _)))|(go_at_call 144;exact zd5 (HP.out _ (zaa _ _ _)))))
          exact Q0f
        ·replace c1:zag A=false:=Bool.eq_false_iff.2 c1
         have HF:Hid (zaz (fun x=>zag x&&zan n x) zbc n.sectors=false):=HUN.out (by show (zag A&&zan n A)=false;rw[c1,Bool.false_and]);have oN:=zai (w0:=wr) yn;have oB:=zai (w0:=wr) yb;rw[c1] at HV;go_wp2;refine zab wr.heap.size wr (Below.refl _ _) JI JI ?_
         repeat (go_big_quiet_step (first|(go_at_call 143;exact zah (Nat.le_refl _) (HV.out _ (zaa _ _ _)))))
         exact Q0f
       ·obtain rfl:k=n.sectors.length:=II
        have HRSector:Hid (zaz (fun x=>zag x&&zan n x) zbc n.sectors=true):=zce HN.out;clear hk HN hlt;have HT:Hid (netB n=true):=by show _=_;rw[netB_eq,h0,decide_eq_true h1,decide_eq_true h2,HRSite.out,HRSector.out];rfl
        go_wp2;go_ret;exact⟨by rw[HT.out];rfl,BW.out⟩
   ·have h2i:24<n.sectors.length:=II
    have h1i:(n.sites.length:Int)≤12:=II
    have HE:Hid (netB n=false):=by show _=_;rw[netB_eq,decide_eq_false h2];simp
    exact Q12
  ·have h1i:12<n.sites.length:=II
   have HE:Hid (netB n=false):=by show _=_;rw[netB_eq,decide_eq_false h1];simp
   exact Q12
 ·replace h0:zdn n=false:=Bool.eq_false_iff.2 h0
  have HE:Hid (netB n=false):=by show _=_;rw[netB_eq,h0];rfl
  exact Q12
set_option maxHeartbeats 4000000
set_option maxRecDepth 100000
def endR (n:DNetwork) (x:DSector):DEnd:=⟨(ze2 n.sites (zby n.sites x.site).toNat).place,x.above⟩
theorem iEnd_any (n:DNetwork) (x:DSector) (v0 v1 v2 v3:Value) (w:World) (r0:Rd w w (DSite.sT n.sites) v0) (l0:n.sites.length≤1099511627776) (k:Nat) (hk:k<n.sites.length) (hi:zby n.sites x.site=(k:Int)) :
  Calls Tryz.prog 37 #[.agg #[v0,v1,v2,v3],.agg x] w fun e w'=>e=.returned (.agg (endR n x))∧OI w w w':=by
 have b0:OI w w (((w.alloc (.cells #[v0,v1,v2,v3] 32)).alloc (.cells x 43)).alloc (.cells #[J 0,J 0,J 0] 55)):=((((Below.refl _ _).alloc (Nat.le_refl _) _).alloc Q3k _).alloc Q3k _)
 have z0:(((w.alloc (.cells #[v0,v1,v2,v3] 32)).alloc (.cells x 43)).alloc (.cells #[J 0,J 0,J 0] 55)).heap.size=w.heap.size+3:=by simp
 have HE:Hid (endR n x=⟨(ze2 n.sites k).place,x.above⟩):=by show _=_;unfold endR;rw[hi,Int.toNat_natCast]
 have HS:Hid (∀ W:World,OI w w W→Calls Tryz.prog 74 #[.agg #[v0,v1,v2,v3],IQ x.site] W fun e w'=>e=.returned (J (k:Int))∧OI W W w'):=fun W hW=>by
  have:=siteNamed_any n.sites x.site v0 v1 v2 v3 w.heap.size W (r0.below hW) hW.size l0;rw[hi] at this;exact this
 obtain⟨a,c,e,_,_,hcl⟩:=DSite.rd r0;obtain⟨b,off,ea,hbl,hat⟩:=hcl II;subst ea e;obtain⟨_,_,s2,s3⟩:=hat k hk;rw[zde hk] at s2 s3;have i1:(0:Int)≤(k:Int):=II
 have i2:(k:Int)<(n.sites.length:Int):=II
 clear hcl hat r0 hi;generalize ze2 n.sites k=X at *;go_enter Tryz.func37,Tryz.ntmps37;go_wp2;have f0:(((w.alloc (.cells #[(IZ (some ⟨b,off,none⟩) n.sites.length c),v1,v2,v3] 32)).alloc (.cells x 43)).alloc (.cells #[J 0,J 0,J 0] 55)).cell? ⟨w,0,none⟩=some (IZ (some ⟨b,off,none⟩) n.sites.length c):=by simp[go_sem]
 have f1:(((w.alloc (.cells #[(IZ (some ⟨b,off,none⟩) n.sites.length c),v1,v2,v3] 32)).alloc (.cells x 43)).alloc (.cells #[J 0,J 0,J 0] 55)).cell? ⟨w,1,none⟩=some v1:=by simp[go_sem]
 have f2:(((w.alloc (.cells #[(IZ (some ⟨b,off,none⟩) n.sites.length c),v1,v2,v3] 32)).alloc (.cells x 43)).alloc (.cells #[J 0,J 0,J 0] 55)).cell? ⟨w,2,none⟩=some v2:=by simp[go_sem]
 have f3:(((w.alloc (.cells #[(IZ (some ⟨b,off,none⟩) n.sites.length c),v1,v2,v3] 32)).alloc (.cells x 43)).alloc (.cells #[J 0,J 0,J 0] 55)).cell? ⟨w,3,none⟩=some v3:=by simp[go_sem]
 have g1:(((w.alloc (.cells #[(IZ (some ⟨b,off,none⟩) n.sites.length c),v1,v2,v3] 32)).alloc (.cells x 43)).alloc (.cells #[J 0,J 0,J 0] 55)).cell? ⟨w.heap.size+1,1,none⟩=some (IQ x.site):=by simp[go_sem]
 have g7:(((w.alloc (.cells #[(IZ (some ⟨b,off,none⟩) n.sites.length c),v1,v2,v3] 32)).alloc (.cells x 43)).alloc (.cells #[J 0,J 0,J 0] 55)).cell? ⟨w.heap.size+1,7,none⟩=some (J x.above):=by simp[go_sem]
 have h0:(((w.alloc (.cells #[(IZ (some ⟨b,off,none⟩) n.sites.length c),v1,v2,v3] 32)).alloc (.cells x 43)).alloc (.cells #[J 0,J 0,J 0] 55)).cell? ⟨w.heap.size+1+1,0,none⟩=some (J 0):=by simp[go_sem]
 have h1:(((w.alloc (.cells #[(IZ (some ⟨b,off,none⟩) n.sites.length c),v1,v2,v3] 32)).alloc (.cells x 43)).alloc (.cells #[J 0,J 0,J 0] 55)).cell? ⟨w.heap.size+1+1,1,none⟩=some (J 0):=by simp[go_sem]
 have h2:(((w.alloc (.cells #[(IZ (some ⟨b,off,none⟩) n.sites.length c),v1,v2,v3] 32)).alloc (.cells x 43)).alloc (.cells #[J 0,J 0,J 0] 55)).cell? ⟨w.heap.size+1+1,2,none⟩=some (J 0):=by simp[go_sem]
 have hz:∀ o,(((w.alloc (.cells #[(IZ (some ⟨b,off,none⟩) n.sites.length c),v1,v2,v3] 32)).alloc (.cells x 43)).alloc (.cells #[J 0,J 0,J 0] 55)).frozen? ⟨w.heap.size+1+1,o,none⟩=false:=by intro o;simp[go_sem]
 have t2:=(bat b0 b _ hbl).trans s2;have t3:=(bat b0 b _ hbl).trans s3;generalize (((w.alloc (.cells #[(IZ (some ⟨b,off,none⟩) n.sites.length c),v1,v2,v3] 32)).alloc (.cells x 43)).alloc (.cells #[J 0,J 0,J 0] 55))=W1 at *;have B0:=IJ b0;have hcf:(W1,w.heap.size,0,IZ (some ⟨b,off,none⟩) n.sites.length c)∧(W1,w.heap.size,1,v1)∧(W1,w.heap.size,2,v2)∧(W1,w.heap.size,3,v3)∧(W1,w.heap.size+1,1,IQ x.site)∧(W1,w.heap.size+1,7,J x.above)∧(W1,b,off+k*4+2,J X.place.x)∧(W1,b,off+k*4+3,J X.place.y):=⟨f0,f1,f2,f3,g1,g7,t2,t3⟩
 clear b0;have nb:b≠w.heap.size+1+1:=II
 go_region_held3 (fun W=>(W,w.heap.size,0,IZ (some ⟨b,off,none⟩) n.sites.length c)∧(W,w.heap.size,1,v1)∧(W,w.heap.size,2,v2)∧(W,w.heap.size,3,v3)∧(W,w.heap.size+1,1,IQ x.site)∧(W,w.heap.size+1,7,J x.above)∧(W,b,off+k*4+2,J X.place.x)∧(W,b,off+k*4+3,J X.place.y)) (first|exact hcf|(refine⟨?_,?_,?_,?_,?_,?_,?_,?_⟩<;>simp[go_sem, *])) (first|(go_at_call 74;refine (HS.out _ B0.out.drew).mono ?_;rintro e w2 ⟨rfl,hb2⟩;obtain⟨qn2,_,yn2⟩:=zba hb2 (b:=w.heap.size) (by show w.heap.size<W1.heap.size;omega);obtain⟨qx2,_,yx2⟩:=zba hb2 (b:=w.heap.size+1) (by show w.heap.size+1<W1.heap.size;omega);obtain⟨qe2,qf2,ye2⟩:=zba hb2 (b:=w.heap.size+1+1) (by show w.heap.size+1+1<W1.heap.size;omega);obtain⟨qb2,_,yb2⟩:=zba hb2 (b:=b) (by show b<W1.heap.size;omega)))
 have B2:=IJ (B0.out.drew.trans (hb2.mono B0.out.size));clear hb2;go_wp2;refine bodyPost_ret (v:=.agg #[J X.place.x,J X.place.y,J x.above]) (by simp[results,Tryz.results37,go_sem, *]) rfl ?_;rw[HE.out];exact⟨rfl,((B2.out.setCell (p:=⟨w.heap.size+1+1,0,none⟩) Q34 _).setCell (p:=⟨w.heap.size+1+1,1,none⟩) Q34 _).setCell (p:=⟨w.heap.size+1+1,2,none⟩) Q34 _⟩
theorem site_of_sector {n:DNetwork} (h:netB n=true) {q:Nat} (hq:q<n.sectors.length):∃ k,∃ hk:k<n.sites.length,zby n.sites (zad n.sectors q).site=(k:Int):=by
 have h8:zaz (fun x=>zag x&&zan n x) zbc n.sectors=true:=by
  rw[netB_eq] at h;simp only[Bool.and_eq_true] at h;exact h.2.2.2.2
 have:=zd3 h8 hq;rw[za3 hq] at this;have h2:zan n (zad n.sectors q)=true:=by simpa using (Bool.and_eq_true_iff.1 this).2
 unfold zan at h2;rw[Bool.and_eq_true,decide_eq_true_iff] at h2
 rcases zb6 (fun y:DSite=>eqS y.name (zad n.sectors q).site) n.sites with ⟨hi,_⟩|⟨k,hk,hi,_,_⟩
 ·have:=h2.1
  unfold zby at this;rw[hi] at this;omega
 ·exact⟨k,hk,hi⟩
set_option maxHeartbeats 2000000
def mixN (l m u:Int):Int:=(l*(10-u)+m*u+5) / 10
theorem mul_bd {l u:Int} (h0:0≤l) (h1:l≤60000) (u0:0≤u) (u1:u≤10):0≤l*u∧l*u≤600000:=by
 refine⟨Int.mul_nonneg h0 u0,?_⟩;have:=Int.mul_le_mul h1 u1 u0 II;omega
theorem mix_bd {l m u:Int} (l0:0≤l) (l1:l≤60000) (m0:0≤m) (m1:m≤60000) (u0:0≤u) (u1:u≤9):0≤mixN l m u∧mixN l m u≤60000:=by
 have e:l*(10-u)+m*u≤60000*(10-u)+60000*u:=Int.add_le_add (Int.mul_le_mul_of_nonneg_right l1 II) (Int.mul_le_mul_of_nonneg_right m1 u0);have a:=Int.mul_nonneg l0 (show 0≤10-u by omega);have b:=Int.mul_nonneg m0 u0;unfold mixN;omega
theorem mixedLoss_any (l m u:Int) (w:World) (l0:0≤l) (l1:l≤60000) (m0:0≤m) (m1:m≤60000) (u0:0≤u) (u1:u≤9) :
  Calls Tryz.prog 207 #[J l,J m,J u] w fun e w'=>e=.returned (J (mixN l m u))∧w=w':=by
 have a:=mul_bd l0 l1 (show 0≤10-u by omega) II;have b:=mul_bd m0 m1 u0 II;obtain⟨a1,a2⟩:=a;obtain⟨b1,b2⟩:=b;have d0:(0:Int)≤10-u:=II
 unfold mixN;go_enter Tryz.func207,Tryz.ntmps207;go_wp2;go_ret;exact⟨rfl,rfl⟩
def degN (d:Int):Int:=(Int.tmod d 360+360) % 360
theorem tmod_bd (d:Int):-359≤Int.tmod d 360∧Int.tmod d 360≤359:=by
 have h1:=Int.tmod_lt_of_pos d (show (0:Int)<360 by omega);have h2:=Int.lt_tmod_of_pos d (show (0:Int)<360 by omega);omega
theorem deg_bd (d:Int):0≤degN d∧degN d≤359:=by unfold degN;omega
structure Loss (l:List Int) (n:Nat):Prop where
 len:l.length=n
 bd:∀ i,i<n→0≤gi l i∧gi l i≤60000
theorem antB_loss {a:DAntenna} (h:antB a=true):Loss a.horizontal 36∧Loss a.vertical 19:=by
 rw[antB_eq] at h;simp only[Bool.and_eq_true] at h;have key:∀ (l:List Int) (n m:Nat),zcu l n m=true→Loss l n:=by
  intro l n m hl;unfold zcu at hl;simp only[Bool.and_eq_true] at hl;have hn:=zec hl.1;refine⟨hn,fun i hi=>?_⟩;have:=(all_iff l 0 60000).1 hl.2.2 i II;exact zaq.1 this
 exact⟨key _ _ _ h.2.2.1,key _ _ _ h.2.2.2⟩
def horN (l:List Int) (angle:Int):Int:=mixN (gi l (degN angle / 10).toNat) (gi l ((degN angle / 10+1) % 36).toNat) (degN angle % 10)
def verN (l:List Int) (e:Int):Int:=mixN (gi l ((e+90) / 10).toNat) (gi l (min ((e+90) / 10+1) 18).toNat) ((e+90) % 10)
theorem hor_bd {l:List Int} (h:Loss l 36) (a:Int):0≤horN l a∧horN l a≤60000:=by
 have hd:=deg_bd a;have h1:=h.bd (degN a / 10).toNat II;have h2:=h.bd ((degN a / 10+1) % 36).toNat II;exact mix_bd h1.1 h1.2 h2.1 h2.2 II II
theorem ver_bd {l:List Int} (h:Loss l 19) (e:Int) (e0:-90≤e) (e1:e≤90):0≤verN l e∧verN l e≤60000:=by
 have h1:=h.bd ((e+90) / 10).toNat II;have h2:=h.bd (min ((e+90) / 10+1) 18).toNat II;exact mix_bd h1.1 h1.2 h2.1 h2.2 II II
theorem Rd.intAt {B:Nat} {w:World} {l:List Int} {a:Option Addr} {c:Nat} (h:Rd B w (zam l) (IZ a l.length c)) (hl:0<l.length):∃ b off,a=some ⟨b,off,none⟩∧b<B∧∀ i,i<l.length→w.cell? ⟨b,off+i,none⟩=some (J (gi l i)):=by
 obtain⟨a',c',e,_,_,hcl⟩:=h.ints;injection e with e1 _ e3;subst e1 e3;obtain⟨b,off,ea,hb,hat⟩:=hcl hl;exact⟨b,off,ea,hb,fun i hi=>by rw[hat i hi,gi_eq]⟩
theorem horizontal_any (x:DAntenna) (vh vv:Value) (angle:Int) (w:World) (hh:Rd w w (zam x.horizontal) vh) (hL:Loss x.horizontal 36) :
  Calls Tryz.prog 167 #[.agg (x,vh,vv),J angle] w fun e w'=>e=.returned (J (horN x.horizontal angle))∧OI w w w':=by
 obtain⟨ah,ch,eh,_,_,_⟩:=hh.ints;subst eh;have hlen:=hL.len;obtain⟨b,off,ea,hbl,hat⟩:=hh.intAt II;subst ea;have ht:=tmod_bd angle;have hd:=deg_bd angle;have HU:Hid (horN x.horizontal angle=mixN (gi x.horizontal (degN angle / 10).toNat) (gi x.horizontal ((degN angle / 10+1) % 36).toNat) (degN angle % 10)):=rfl;have ed:(Int.tmod angle 360+360) % 360=degN angle:=rfl;generalize degN angle=d at *;generalize et:Int.tmod angle 360=t at *;obtain⟨i,ei⟩:=Int.eq_ofNat_of_zero_le (show 0≤d / 10 by omega);obtain⟨j,ej⟩:=Int.eq_ofNat_of_zero_le (show 0≤(d / 10+1) % 36 by omega);rw[ej,ei,Int.toNat_natCast,Int.toNat_natCast] at HU;rw[ei] at ej;have hi:i<36:=II
 have hj:j<36:=II
 have s0:=hat i II;have s1:=hat j II;have q0:=hL.bd i hi;have q1:=hL.bd j hj;have b0:OI w w (w.alloc (.cells #[IQ x.name,J x.gain,IZ (some ⟨b,off,none⟩) x.horizontal.length ch,vv] 121)):=(Below.refl _ _).alloc (Nat.le_refl _) _;have f2:(w.alloc (.cells #[IQ x.name,J x.gain,IZ (some ⟨b,off,none⟩) x.horizontal.length ch,vv] 121)).cell? ⟨w,2,none⟩=some (IZ (some ⟨b,off,none⟩) x.horizontal.length ch):=by simp[go_sem]
 have t0:=(bat b0 b _ hbl).trans s0;have t1:=(bat b0 b _ hbl).trans s1;have u0:0≤d % 10:=II
 have u1:d % 10≤9:=II
 have HM:=IJ (fun W=>mixedLoss_any (gi x.horizontal i) (gi x.horizontal j) (d % 10) W q0.1 q0.2 q1.1 q1.2 u0 u1);have k1:(0:Int)≤(i:Int):=II
 have k2:(i:Int)<(x.horizontal.length:Int):=II
 have k3:(0:Int)≤(j:Int):=II
 have k4:(j:Int)<(x.horizontal.length:Int):=II
 have k5:(i:Int)≤35:=II
 have B0:=IJ b0;have HLEN:=IJ hlen;clear hat s0 s1 q0 q1 hh hlen hL b0;go_enter Tryz.func167,Tryz.ntmps167;go_wp2;generalize w.alloc (.cells #[IQ x.name,J x.gain,IZ (some ⟨b,off,none⟩) x.horizontal.length ch,vv] 121)=W1 at *;have i3:IntKind.i64.wrap ((i:Int)+1)=(i:Int)+1:=IntWalk.i64_in _ II;have i4:(0:Int)≤(i:Int)+1:=II
 have i5:Int.tmod ((i:Int)+1) 36=(j:Int):=by rw[Int.tmod_eq_emod_of_nonneg II];exact ej
 have i6:Int.tmod d 10=d % 10:=Int.tmod_eq_emod_of_nonneg II
 go_quiet ((go_at_call 207;exact zct (HM.out _)))
 clear i3 i5 i6;exact Q1s
set_option maxHeartbeats 4000000
theorem vertical_any (x:DAntenna) (vh vv:Value) (e:Int) (w:World) (hh:Rd w w (zam x.vertical) vv) (hL:Loss x.vertical 19) (e0:-90≤e) (e1:e≤90) :
  Calls Tryz.prog 168 #[.agg (x,vh,vv),J e] w fun r w'=>r=.returned (J (verN x.vertical e))∧OI w w w':=by
 obtain⟨ah,ch,eh,_,_,_⟩:=hh.ints;subst eh;have hlen:=hL.len;obtain⟨b,off,ea,hbl,hat⟩:=hh.intAt II;subst ea;have HU:Hid (verN x.vertical e=mixN (gi x.vertical ((e+90) / 10).toNat) (gi x.vertical (min ((e+90) / 10+1) 18).toNat) ((e+90) % 10)):=rfl;obtain⟨i,ei⟩:=Int.eq_ofNat_of_zero_le (show 0≤(e+90) / 10 by omega);rw[ei,Int.toNat_natCast] at HU;have hi:i<19:=II
 obtain⟨j,ej⟩:∃ j:Nat,min ((i:Int)+1) 18=(j:Int):=Int.eq_ofNat_of_zero_le II;rw[ej,Int.toNat_natCast] at HU;have hj:j<19:=II
 have s0:=hat i II;have s1:=hat j II;have q0:=hL.bd i hi;have q1:=hL.bd j hj;have b0:OI w w (w.alloc (.cells #[IQ x.name,J x.gain,vh,IZ (some ⟨b,off,none⟩) x.vertical.length ch] 121)):=(Below.refl _ _).alloc (Nat.le_refl _) _;have f2:(w.alloc (.cells #[IQ x.name,J x.gain,vh,IZ (some ⟨b,off,none⟩) x.vertical.length ch] 121)).cell? ⟨w,3,none⟩=some (IZ (some ⟨b,off,none⟩) x.vertical.length ch):=by simp[go_sem]
 have t0:=(bat b0 b _ hbl).trans s0;have t1:=(bat b0 b _ hbl).trans s1;have u0:0≤(e+90) % 10:=II
 have u1:(e+90) % 10≤9:=II
 have HM:=IJ (fun W=>mixedLoss_any (gi x.vertical i) (gi x.vertical j) ((e+90) % 10) W q0.1 q0.2 q1.1 q1.2 u0 u1);have k1:(0:Int)≤(i:Int):=II
 have k2:(i:Int)<(x.vertical.length:Int):=II
 have k3:(0:Int)≤(j:Int):=II
 have k4:(j:Int)<(x.vertical.length:Int):=II
 have k5:(i:Int)≤18:=II
 have B0:=IJ b0;have HLEN:=IJ hlen;have e2:0≤e+90:=II
 clear hat s0 s1 q0 q1 hh hlen hL b0;go_enter Tryz.func168,Tryz.ntmps168;go_wp2;generalize w.alloc (.cells #[IQ x.name,J x.gain,vh,IZ (some ⟨b,off,none⟩) x.vertical.length ch] 121)=W1 at *;have i3:IntKind.i64.wrap ((i:Int)+1)=(i:Int)+1:=IntWalk.i64_in _ II;have i7:IntKind.i64.wrap (e+90)=e+90:=IntWalk.i64_in _ II;have i4:(0:Int)≤(i:Int)+1:=II
 have i6:Int.tmod (e+90) 10=(e+90) % 10:=Int.tmod_eq_emod_of_nonneg II;have hmin:((i:Int)+1<18∧j=i+1)∨((i:Int)+1=18∧j=18)∨(18<(i:Int)+1∧j=18):=II
 clear ej
 rcases hmin with ⟨m1,m2⟩|⟨m1,m2⟩|⟨m1,m2⟩
 ·subst m2
  have m3:((i:Int)+1).toNat=i+1:=II
  have m4:(i:Int)+1<(x.vertical.length:Int):=II
  go_quiet ((go_at_call 207;exact zct (HM.out _)))
  clear i3 i6 i7 m3;exact Q1s
 ·subst m2
  rw[m1] at i3 i4
  go_quiet ((go_at_call 207;exact zct (HM.out _)))
  clear i3 i6 i7;exact Q1s
 ·subst m2
  go_quiet ((go_at_call 207;exact zct (HM.out _)))
  clear i3 i6 i7;exact Q1s
set_option maxHeartbeats 8000000
set_option maxRecDepth 100000
def upN (e tilt:Int):Int:=min (max (e+tilt) (-90)) 90
def towN (a:DAntenna) (az tilt b e:Int):Int:=a.gain-min (horN a.horizontal (b-az)+verN a.vertical (upN e tilt)) 60000
theorem up_bd (e tilt:Int):-90≤upN e tilt∧upN e tilt≤90:=by unfold upN;omega
theorem toward_any (x:DAntenna) (vh vv:Value) (az tilt b e:Int) (w:World) (hh:Rd w w (zam x.horizontal) vh) (hv:Rd w w (zam x.vertical) vv) (hL:Loss x.horizontal 36) (hM:Loss x.vertical 19)
  (g0:-60000≤x.gain) (g1:x.gain≤60000) (a0:0≤az) (a1:az≤359) (t0:0≤tilt) (t1:tilt≤30) (b0:0≤b) (b1:b≤359) (e0:-90≤e) (e1:e≤90) :
  Calls Tryz.prog 113 #[.agg (x,vh,vv),J az,J tilt,J b,J e] w fun r w'=>r=.returned (J (towN x az tilt b e))∧OI w w w':=by
 obtain⟨ah,ch,eh,_,_,_⟩:=hh.ints;obtain⟨av,cv,ev,_,_,_⟩:=hv.ints;subst eh ev;have hu:=up_bd e tilt;have HH:Hid (∀ W:World,OI w w W→Calls Tryz.prog 167 #[.agg (x,ah,ch,av,cv),J (b-az)] W fun r w'=>r=.returned (J (horN x.horizontal (b-az)))∧OI W W w'):=fun W hW=>horizontal_any x _ _ (b-az) W ((hh.below hW).mono hW.size) hL
 have HV:Hid (∀ W:World,OI w w W→Calls Tryz.prog 168 #[.agg (x,ah,ch,av,cv),J (upN e tilt)] W fun r w'=>r=.returned (J (verN x.vertical (upN e tilt)))∧OI W W w'):=fun W hW=>vertical_any x _ _ (upN e tilt) W ((hv.below hW).mono hW.size) hM hu.1 hu.2
 have hbd:=hor_bd hL (b-az);have vbd:=ver_bd hM (upN e tilt) hu.1 hu.2;have HT:Hid (towN x az tilt b e=x.gain-min (horN x.horizontal (b-az)+verN x.vertical (upN e tilt)) 60000):=rfl;have hup:(e+tilt = -90∧upN e tilt = -90)∨(-90<e+tilt∧e+tilt<90∧upN e tilt=e+tilt)∨(e+tilt=90∧upN e tilt=90)∨(90<e+tilt∧upN e tilt=90):=by unfold upN;omega
 generalize horN x.horizontal (b-az)=h at *;generalize verN x.vertical (upN e tilt)=v at *;have bb:OI w w (w.alloc (.cells (x,ah,ch,av,cv) 121)):=(Below.refl _ _).alloc (Nat.le_refl _) _;have f0:(w.alloc (.cells (x,ah,ch,av,cv) 121)).cell? ⟨w,0,none⟩=some (IQ x.name):=by simp[go_sem]
 have f1:(w.alloc (.cells (x,ah,ch,av,cv) 121)).cell? ⟨w,1,none⟩=some (J x.gain):=by simp[go_sem]
 have f2:(w.alloc (.cells (x,ah,ch,av,cv) 121)).cell? ⟨w,2,none⟩=some (IZ ah x.horizontal.length ch):=by simp[go_sem]
 have f3:(w.alloc (.cells (x,ah,ch,av,cv) 121)).cell? ⟨w,3,none⟩=some (IZ av x.vertical.length cv):=by simp[go_sem]
 have fz:w.heap.size<(w.alloc (.cells (x,ah,ch,av,cv) 121)).heap.size:=by simp
 clear hh hv hL hM;go_enter Tryz.func113,Tryz.ntmps113;go_wp2;generalize w.alloc (.cells (x,ah,ch,av,cv) 121)=W1 at *;have BB:=IJ bb;clear bb;have oX:=zai (w0:=W1) fz;have j1:IntKind.i64.wrap (b-az)=b-az:=IntWalk.i64_in _ II;have j2:IntKind.i64.wrap (e+tilt)=e+tilt:=IntWalk.i64_in _ II;have j3:IntKind.i64.wrap (h+v)=h+v:=IntWalk.i64_in _ II;obtain⟨h0,h1⟩:=hbd;obtain⟨v0,v1⟩:=vbd;have HB1:=IJ h1
 rcases hup with ⟨m1,m2⟩|⟨m1,m3,m2⟩|⟨m1,m2⟩|⟨m1,m2⟩
 all_goals
  rw[m2] at HV;clear m2 hu;refine zab W1.heap.size W1 (Below.refl _ _) JI JI ?_
  repeat (go_big_quiet_step (first|(go_at_call 167;exact zah (Nat.le_refl _) (HH.out _ (BB.out.trans ((zaa _ _ _).mono BB.out.size))))|(go_at_call 168;exact zah (Nat.le_refl _) (HV.out _ (BB.out.trans ((zaa _ _ _).mono BB.out.size))))))
  refine wpQuiet_nil ?_;rintro _ ⟨X,rfl⟩;have hX:=zaa W1.heap.size W1 X;have c1:=(oX X 1).trans f1;clear oX j1 j2 j3;generalize over W1.heap.size W1 X=w2 at *;have BE:=IJ (BB.out.trans (hX.mono BB.out.size));clear hX
  rcases Int.lt_trichotomy (h+v) 60000 with hm|hm|hm
  ·have HM:Hid (min (h+v) 60000=h+v):=by show _=_;omega
   go_wp2;go_ret;exact⟨by rw[HT.out,HM.out];rfl,BE.out⟩
  ·have HM:Hid (min (h+v) 60000=60000):=by show _=_;omega
   rw[hm];go_wp2;go_ret;exact⟨by rw[HT.out,HM.out];rfl,BE.out⟩
  ·have HM:Hid (min (h+v) 60000=60000):=by show _=_;omega
   go_wp2;go_ret;exact⟨by rw[HT.out,HM.out];rfl,BE.out⟩
end Go.Proofs.YtpakghepnahooaaGreatDoor
