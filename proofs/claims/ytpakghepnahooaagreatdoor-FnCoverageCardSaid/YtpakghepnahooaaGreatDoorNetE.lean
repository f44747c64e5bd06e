/- Contract: networks are valid, for the program. Conditions: bounded sizes. -/
import Derived.Test.YtpakghepnahooaaGreatDoorNetD
set_option linter.unusedVariables false
set_option linter.unusedSimpArgs false
namespace Go.Proofs.YtpakghepnahooaaGreatDoor
open Go.RowKit
theorem Q08 {p:Prop} (h:p:=by
 go_wp2
 go_roundw
 case rel=>exact⟨k+1,II,by go_num,zbo HN.out (HF.out),BF.out⟩
 case measure=>simp[intOf];omega):p:=h
theorem Q0g {p:Prop} (h:p:=by
 refine wpQuiet_nil ?_
 rintro _ ⟨X,rfl⟩
 have hX:=zaa W1.heap.size W1 X
 clear oX oN oB
 generalize over W1.heap.size W1 X=w2 at *
 have BE:=IJ (BB.out.trans (hX.mono BB.out.size))
 have BF:=IJ (BH.out.trans (hX.mono II))
 clear hX
 go_wp2
 go_ret
 exact⟨by rw[HNB.out (HF.out)];rfl,BE.out⟩):p:=h
theorem Q0k {p:Prop} (h:p:=by
 refine wpQuiet_nil ?_
 rintro _ ⟨X,rfl⟩
 have hX:=zaa W1.heap.size W1 X
 clear oX oN oB
 generalize over W1.heap.size W1 X=w2 at *
 have BE:=IJ (BB.out.trans (hX.mono BB.out.size))
 have BF:=IJ (BH.out.trans (hX.mono II))
 clear hX
 clear i3 i5
 go_wp2
 go_ret
 exact⟨by rw[HNB.out (HF.out)];rfl,BE.out⟩):p:=h
theorem Q1e {p:Prop} (h:p:=by
 go_enter Tryz.func32,Tryz.ntmps32
 go_wp2
 go_ret
 exact⟨by rw[HE.out];rfl,B0.out⟩):p:=h
theorem Q24 {p:Prop} (h:p:=by
 refine wpQuiet_nil ?_
 rintro _ ⟨X,rfl⟩
 have hX:=zaa W1.heap.size W1 X
 clear oX oN oB
 generalize over W1.heap.size W1 X=w2 at *
 have BE:=IJ (BB.out.trans (hX.mono BB.out.size))
 have BF:=IJ (BH.out.trans (hX.mono II))
 clear hX
 clear i3 i5
 exact Q08):p:=h
theorem Q26 {p:Prop} (h:p:=by
 refine wpQuiet_nil ?_
 rintro _ ⟨X,rfl⟩
 have hX:=zaa W1.heap.size W1 X
 clear oX oN oB
 generalize over W1.heap.size W1 X=w2 at *
 have BE:=IJ (BB.out.trans (hX.mono BB.out.size))
 have BF:=IJ (BH.out.trans (hX.mono II))
 clear hX
 exact Q08):p:=h
set_option maxHeartbeats 40000000
set_option maxRecDepth 100000
def zcq (p x:DSite):Bool:=ltS p.name x.name
def zbc (p x:DSector):Bool:=ltS p.name x.name
def za2 (p x:DAntenna):Bool:=ltS p.name x.name
def zbs (p x:DRadio):Bool:=ltS p.name x.name
def netB (n:DNetwork):Bool:=decide (n.sites.length≤12)&&(decide (n.sectors.length≤24)&&(decide (n.antennas.length≤8)&&(decide (n.radios.length≤8)&&(zaz zbk zcq n.sites&&(zaz antB za2 n.antennas&&(zaz radB zbs n.radios&&zaz (fun x=>zag x&&zan n x) zbc n.sectors))))))
theorem all_ok {α:Type} {p:α→Prop} {l:List α} (h:∀ x ∈ l,p x) {k:Nat} (hk:k<l.length):p l[k]:=h _ (List.getElem_mem hk)
def ze2 (l:List DSite) (i:Nat):DSite:=l.getD i ⟨⟨#[]⟩,⟨#[]⟩,⟨0,0⟩⟩
theorem zde {l:List DSite} {i:Nat} (h:i<l.length):l[i]=ze2 l i:=by simp[ze2,h]
def zad (l:List DSector) (i:Nat):DSector:=l.getD i ⟨⟨#[]⟩,⟨#[]⟩,⟨#[]⟩,⟨#[]⟩,⟨#[]⟩,0,0,0,0⟩
theorem za3 {l:List DSector} {i:Nat} (h:i<l.length):l[i]=zad l i:=by simp[zad,h]
def za5 (l:List DAntenna) (i:Nat):DAntenna:=l.getD i ⟨⟨#[]⟩,0,[],[]⟩
theorem zbn {l:List DAntenna} {i:Nat} (h:i<l.length):l[i]=za5 l i:=by simp[za5,h]
def zbg (l:List DRadio) (i:Nat):DRadio:=l.getD i ⟨⟨#[]⟩,0,0,0,0,[]⟩
theorem zcb {l:List DRadio} {i:Nat} (h:i<l.length):l[i]=zbg l i:=by simp[zbg,h]
theorem validNetwork_any (n:DNetwork) (v0 v1 v2 v3:Value) (w:World) (r0:Rd w w (DSite.sT n.sites) v0) (r1:Rd w w (DSector.sT n.sectors) v1) (r2:Rd w w (DAntenna.sT n.antennas) v2) (r3:Rd w w (DRadio.sT n.radios) v3) (hs:sizL n.tr≤1099511627776) (hk:n.ok) :
  Calls Tryz.prog 32 #[.agg #[v0,v1,v2,v3]] w fun e w'=>e=.returned (.bool (netB n))∧OI w w w':=by
 have hq:=DNetwork.siz_tr n;rw[DSite.siz_s,DSector.siz_s,DAntenna.siz_s,DRadio.siz_s] at hq;have hk_sites:=hk.sites;have hk_sectors:=hk.sectors;have hk_antennas:=hk.antennas;have hk_radios:=hk.radios;clear hk;have H0:=IJ r0;have H1:=IJ r1;have H2:=IJ r2;have H3:=IJ r3;clear r0 r1 r2 r3;obtain⟨A0,C0,e0,_,_,_⟩:=DSite.rd H0.out;obtain⟨A1,C1,e1,_,_,_⟩:=DSector.rd H1.out;obtain⟨A2,C2,e2,_,_,_⟩:=DAntenna.rd H2.out;obtain⟨A3,C3,e3,_,_,_⟩:=DRadio.rd H3.out;subst e0 e1 e2 e3;have B0:Hid (OI w w (w.alloc (.cells (n,A0,C0,A1,C1,A2,C2,A3,C3) 32))):=(Below.refl _ _).alloc (Nat.le_refl _) _
 by_cases h0:n.sites.length≤12
 ·skip
  by_cases h1:n.sectors.length≤24
  ·skip
   by_cases h2:n.antennas.length≤8
   ·skip
    by_cases h3:n.radios.length≤8
    ·skip
     go_enter Tryz.func32,Tryz.ntmps32;have hh0:(n.sites.length:Int)≤12:=II
     have hh1:(n.sectors.length:Int)≤24:=II
     have hh2:(n.antennas.length:Int)≤8:=II
     have hh3:(n.radios.length:Int)≤8:=II
     go_wp2;go_loopw [36] (fun i wr=>∃ (k:Nat),k≤n.sites.length∧i=J k∧(∀ j,j<k→upOk zbk zcq n.sites j=true)∧OI (w.heap.size+1) (w.alloc (.cells (n,A0,C0,A1,C1,A2,C2,A3,C3) 32)) wr) (fun i wr=>n.sites.length-(intOf i).toNat)
     case atStart=>exact⟨0,Nat.zero_le _,rfl,fun j hj=>absurd hj II,by first|exact HB.out|exact Below.refl _ _⟩
     case round =>
      obtain⟨k,hk,rfl,hno,hb⟩:=hrel;have HN:=IJ hno;have HB:=IJ hb;have zb:=hb.size;simp at zb;clear hno hb;have BW:Hid (OI w w wr):=B0.out.trans (HB.out.mono II);have yn:w.heap.size<wr.heap.size:=II
      have n0:wr.cell? ⟨w,0,none⟩=some (IZ A0 n.sites.length C0):=by rw[bat HB.out (w.heap.size) 0 II];simp[go_sem]
      have n1:wr.cell? ⟨w,1,none⟩=some (IZ A1 n.sectors.length C1):=by rw[bat HB.out (w.heap.size) 1 II];simp[go_sem]
      have n2:wr.cell? ⟨w,2,none⟩=some (IZ A2 n.antennas.length C2):=by rw[bat HB.out (w.heap.size) 2 II];simp[go_sem]
      have n3:wr.cell? ⟨w,3,none⟩=some (IZ A3 n.radios.length C3):=by rw[bat HB.out (w.heap.size) 3 II];simp[go_sem]
      obtain⟨aSite,cSite,eSite,_,_,hcl⟩:=DSite.rd H0.out;injection eSite with eSite1 _ eSite3;subst eSite1 eSite3;have HCL:=IJ hcl;clear hcl
      by_cases hlt:k<n.sites.length
      ·obtain⟨b,off,ea,hbl,hat⟩:=HCL.out II
       subst ea;obtain⟨s0,s1,s2,s3⟩:=hat k hlt;have hok:=all_ok hk_sites hlt;rw[← bat BW.out b _ hbl] at s0 s1 s2 s3;have sp:0<k→wr.cell? ⟨b,off+(k-1)*4,none⟩=some (IQ (ze2 n.sites (k-1)).name):=fun h=>by
        have t:=(hat (k-1) II).1;rw[← bat BW.out b _ hbl,zde (show k-1<n.sites.length by omega)] at t;exact t
       have SP:=IJ sp;clear sp hat;have HUN:Hid (zbk (ze2 n.sites k)=false→zaz zbk zcq n.sites=false):=fun h=>za1 hlt (zd2 hlt (by rw[zde hlt];exact h))
       have HUZ:Hid (k=0→zbk (ze2 n.sites k)=true→upOk zbk zcq n.sites k=true):=fun e h=>by subst e;rw[zci hlt,zde hlt];exact h
       have HUP:Hid (0<k→upOk zbk zcq n.sites k=(zbk (ze2 n.sites k)&&zcq (ze2 n.sites (k-1)) (ze2 n.sites k))):=fun h=>by rw[zcj h hlt,zde hlt,zde (show k-1<n.sites.length by omega)]
       have hsz:=zcl DSite.tr n.sites k hlt;have ks0:=hok.name;have ks1:=hok.holder;rw[zde hlt] at s0 s1 s2 s3 ks0 ks1;generalize hA:ze2 n.sites k=A at *;generalize hP:ze2 n.sites (k-1)=P at *;clear hA hP hok;have i1:(0:Int)≤(k:Int):=II
       have i2:(k:Int)<(n.sites.length:Int):=II
       have yb:b<wr.heap.size:=II
       have HV:Hid (∀ W:World,OI w w W→Calls Tryz.prog 69 #[.agg A] W fun e w'=>e=.returned (.bool (zbk A))∧OI W W w'):=fun W hW=>siteValid_any A ks0 ks1 W
       go_wp2;have b1:OI wr wr (wr.alloc (.cells A 119)):=(Below.refl _ _).alloc (Nat.le_refl _) _;have f0:(wr.alloc (.cells A 119)).cell? ⟨wr,0,none⟩=some (IQ A.name):=by simp[go_sem]
       have f1:(wr.alloc (.cells A 119)).cell? ⟨wr,1,none⟩=some (IQ A.holder):=by simp[go_sem]
       have f2:(wr.alloc (.cells A 119)).cell? ⟨wr,2,none⟩=some (J A.place.x):=by simp[go_sem]
       have f3:(wr.alloc (.cells A 119)).cell? ⟨wr,3,none⟩=some (J A.place.y):=by simp[go_sem]
       have fz:wr.heap.size<(wr.alloc (.cells A 119)).heap.size:=by simp
       generalize hW1:(wr.alloc (.cells A 119))=W1 at *;have m0:=(bat b1 (w.heap.size) 0 yn).trans n0;have m1:=(bat b1 (w.heap.size) 1 yn).trans n1;have m2:=(bat b1 (w.heap.size) 2 yn).trans n2;have m3:=(bat b1 (w.heap.size) 3 yn).trans n3;have BB:=IJ (BW.out.trans (b1.mono II));have BH:=IJ (HB.out.trans (b1.mono II));have B1:=IJ b1;have zz:=b1.size;clear b1 hW1 n0 n1 n2 n3;have HNB:Hid (zaz zbk zcq n.sites=false→netB n=false):=fun h=>by unfold netB;rw[h];simp
       by_cases c1:zbk A=true
       ·have HM:Hid (zbk A=true):=c1
        by_cases c3:0<k
        ·skip
         have i3:IntKind.i64.wrap ((k:Int)-1)=(k:Int)-1:=IntWalk.i64_in _ II;have i4:(0:Int)≤(k:Int)-1:=II
         have i6:(k:Int)-1<(n.sites.length:Int):=II
         have i7:(1:Int)≤(k:Int):=II
         have i8:decide (0<k)=true:=by simpa using c3
         have i5:((k:Int)-1).toNat=k-1:=II
         by_cases c4:ltS P.name A.name=true
         ·have le4:=zfa c4
          have HF:Hid (upOk zbk zcq n.sites k=true):=by show _=_;rw[HUP.out c3,Bool.and_eq_true];exact⟨HM.out,c4⟩
          have fp:=(bat B1.out b _ yb).trans (SP.out c3);have oX:=zai (w0:=W1) fz;have oN:=zai (w0:=W1) (show w.heap.size<W1.heap.size by omega);have oB:=zai (w0:=W1) (show b<W1.heap.size by omega);rw[c1] at HV;refine zab W1.heap.size W1 (Below.refl _ _) JI JI ?_
          repeat (go_big_quiet_step (first|(go_at_call 69;exact zah (Nat.le_refl _) (HV.out _ (BB.out.trans ((zaa _ _ _).mono BB.out.size))))))
          exact Q24
         ·replace c4:ltS P.name A.name=false:=Bool.eq_false_iff.2 c4
          have le4:=zel c4;have HF:Hid (zaz zbk zcq n.sites=false):=za1 hlt (by rw[HUP.out c3,show zcq P A=false from c4];simp);have fp:=(bat B1.out b _ yb).trans (SP.out c3);have oX:=zai (w0:=W1) fz;have oN:=zai (w0:=W1) (show w.heap.size<W1.heap.size by omega);have oB:=zai (w0:=W1) (show b<W1.heap.size by omega);rw[c1] at HV;refine zab W1.heap.size W1 (Below.refl _ _) JI JI ?_
          repeat (go_big_quiet_step (first|(go_at_call 69;exact zah (Nat.le_refl _) (HV.out _ (BB.out.trans ((zaa _ _ _).mono BB.out.size))))))
          exact Q0k
        ·have i8:decide (0<k)=false:=by simpa using c3
         have HF:Hid (upOk zbk zcq n.sites k=true):=HUZ.out II HM.out;have oX:=zai (w0:=W1) fz;have oN:=zai (w0:=W1) (show w.heap.size<W1.heap.size by omega);have oB:=zai (w0:=W1) (show b<W1.heap.size by omega);rw[c1] at HV;refine zab W1.heap.size W1 (Below.refl _ _) JI JI ?_
         repeat (go_big_quiet_step (first|(go_at_call 69;exact zah (Nat.le_refl _) (HV.out _ (BB.out.trans ((zaa _ _ _).mono BB.out.size))))))
         exact Q26
       ·replace c1:zbk A=false:=Bool.eq_false_iff.2 c1
        have HF:Hid (zaz zbk zcq n.sites=false):=HUN.out c1;have oX:=zai (w0:=W1) fz;have oN:=zai (w0:=W1) (show w.heap.size<W1.heap.size by omega);have oB:=zai (w0:=W1) (show b<W1.heap.size by omega);rw[c1] at HV;refine zab W1.heap.size W1 (Below.refl _ _) JI JI ?_
        repeat (go_big_quiet_step (first|(go_at_call 69;exact zah (Nat.le_refl _) (HV.out _ (BB.out.trans ((zaa _ _ _).mono BB.out.size))))))
        exact Q0g
      ·obtain rfl:k=n.sites.length:=II
       have HRSite:Hid (zaz zbk zcq n.sites=true):=zce HN.out;clear hk HN hlt;go_wp2;go_loopw [64] (fun i wr=>∃ (k:Nat),k≤n.antennas.length∧i=J k∧(∀ j,j<k→upOk antB za2 n.antennas j=true)∧OI (w.heap.size+1) (w.alloc (.cells (n,A0,C0,A1,C1,A2,C2,A3,C3) 32)) wr) (fun i wr=>n.antennas.length-(intOf i).toNat)
       case atStart=>exact⟨0,Nat.zero_le _,rfl,fun j hj=>absurd hj II,by first|exact HB.out|exact Below.refl _ _⟩
       case round =>
        obtain⟨k,hk,rfl,hno,hb⟩:=hrel;have HN:=IJ hno;have HB:=IJ hb;have zb:=hb.size;simp at zb;clear hno hb;have BW:Hid (OI w w wr):=B0.out.trans (HB.out.mono II);have yn:w.heap.size<wr.heap.size:=II
        have n0:wr.cell? ⟨w,0,none⟩=some (IZ A0 n.sites.length C0):=by rw[bat HB.out (w.heap.size) 0 II];simp[go_sem]
        have n1:wr.cell? ⟨w,1,none⟩=some (IZ A1 n.sectors.length C1):=by rw[bat HB.out (w.heap.size) 1 II];simp[go_sem]
        have n2:wr.cell? ⟨w,2,none⟩=some (IZ A2 n.antennas.length C2):=by rw[bat HB.out (w.heap.size) 2 II];simp[go_sem]
        have n3:wr.cell? ⟨w,3,none⟩=some (IZ A3 n.radios.length C3):=by rw[bat HB.out (w.heap.size) 3 II];simp[go_sem]
        obtain⟨aAntenna,cAntenna,eAntenna,_,_,hcl⟩:=DAntenna.rd H2.out;injection eAntenna with eAntenna1 _ eAntenna3;subst eAntenna1 eAntenna3;have HCL:=IJ hcl;clear hcl
        by_cases hlt:k<n.antennas.length
        ·obtain⟨b,off,ea,hbl,hat⟩:=HCL.out II
         subst ea;obtain⟨s0,s1,⟨u2,s2,ru2⟩,⟨u3,s3,ru3⟩⟩:=hat k hlt;have hok:=all_ok hk_antennas hlt;have RU2:=IJ ru2;have RU3:=IJ ru3;clear ru2 ru3;rw[← bat BW.out b _ hbl] at s0 s1 s2 s3;have sp:0<k→wr.cell? ⟨b,off+(k-1)*4,none⟩=some (IQ (za5 n.antennas (k-1)).name):=fun h=>by
          have t:=(hat (k-1) II).1;rw[← bat BW.out b _ hbl,zbn (show k-1<n.antennas.length by omega)] at t;exact t
         have SP:=IJ sp;clear sp hat;have HUN:Hid (antB (za5 n.antennas k)=false→zaz antB za2 n.antennas=false):=fun h=>za1 hlt (zd2 hlt (by rw[zbn hlt];exact h))
         have HUZ:Hid (k=0→antB (za5 n.antennas k)=true→upOk antB za2 n.antennas k=true):=fun e h=>by subst e;rw[zci hlt,zbn hlt];exact h
         have HUP:Hid (0<k→upOk antB za2 n.antennas k=(antB (za5 n.antennas k)&&za2 (za5 n.antennas (k-1)) (za5 n.antennas k))):=fun h=>by rw[zcj h hlt,zbn hlt,zbn (show k-1<n.antennas.length by omega)]
         have hsz:=zcl DAntenna.tr n.antennas k hlt;have ks0:=hok.name;have hst:=DAntenna.siz_tr n.antennas[k];rw[zdb,zdb] at hst;rw[zbn hlt] at s0 s1 ks0 RU2 RU3 hst hsz;generalize hA:za5 n.antennas k=A at *;generalize hP:za5 n.antennas (k-1)=P at *;clear hA hP hok;obtain⟨au2,cu2,eu2,_,_,_⟩:=Rd.ints RU2.out;subst eu2;obtain⟨au3,cu3,eu3,_,_,_⟩:=Rd.ints RU3.out;subst eu3;have i1:(0:Int)≤(k:Int):=II
         have i2:(k:Int)<(n.antennas.length:Int):=II
         have yb:b<wr.heap.size:=II
         have HV:Hid (∀ W:World,OI w w W→Calls Tryz.prog 70 #[.agg (A,au2,cu2,au3,cu3)] W fun e w'=>e=.returned (.bool (antB A))∧OI W W w'):=fun W hW=>validAntenna_any A _ _ W ((RU2.out.below hW).mono hW.size) ((RU3.out.below hW).mono hW.size) ks0 II II
         go_wp2;have b1:OI wr wr (wr.alloc (.cells (A,au2,cu2,au3,cu3) 121)):=(Below.refl _ _).alloc (Nat.le_refl _) _;have f0:(wr.alloc (.cells (A,au2,cu2,au3,cu3) 121)).cell? ⟨wr,0,none⟩=some (IQ A.name):=by simp[go_sem]
         have f1:(wr.alloc (.cells (A,au2,cu2,au3,cu3) 121)).cell? ⟨wr,1,none⟩=some (J A.gain):=by simp[go_sem]
         have f2:(wr.alloc (.cells (A,au2,cu2,au3,cu3) 121)).cell? ⟨wr,2,none⟩=some (IZ au2 A.horizontal.length cu2):=by simp[go_sem]
         have f3:(wr.alloc (.cells (A,au2,cu2,au3,cu3) 121)).cell? ⟨wr,3,none⟩=some (IZ au3 A.vertical.length cu3):=by simp[go_sem]
         have fz:wr.heap.size<(wr.alloc (.cells (A,au2,cu2,au3,cu3) 121)).heap.size:=by simp
         generalize hW1:(wr.alloc (.cells (A,au2,cu2,au3,cu3) 121))=W1 at *;have m0:=(bat b1 (w.heap.size) 0 yn).trans n0;have m1:=(bat b1 (w.heap.size) 1 yn).trans n1;have m2:=(bat b1 (w.heap.size) 2 yn).trans n2;have m3:=(bat b1 (w.heap.size) 3 yn).trans n3;have BB:=IJ (BW.out.trans (b1.mono II));have BH:=IJ (HB.out.trans (b1.mono II));have B1:=IJ b1;have zz:=b1.size;clear b1 hW1 n0 n1 n2 n3;have HNB:Hid (zaz antB za2 n.antennas=false→netB n=false):=fun h=>by unfold netB;rw[h];simp
         by_cases c1:antB A=true
         ·have HM:Hid (antB A=true):=c1
          by_cases c3:0<k
          ·skip
           have i3:IntKind.i64.wrap ((k:Int)-1)=(k:Int)-1:=IntWalk.i64_in _ II;have i4:(0:Int)≤(k:Int)-1:=II
           have i6:(k:Int)-1<(n.antennas.length:Int):=II
           have i7:(1:Int)≤(k:Int):=II
           have i8:decide (0<k)=true:=by simpa using c3
           have i5:((k:Int)-1).toNat=k-1:=II
           by_cases c4:ltS P.name A.name=true
           ·have le4:=zfa c4
            have HF:Hid (upOk antB za2 n.antennas k=true):=by show _=_;rw[HUP.out c3,Bool.and_eq_true];exact⟨HM.out,c4⟩
            have fp:=(bat B1.out b _ yb).trans (SP.out c3);have oX:=zai (w0:=W1) fz;have oN:=zai (w0:=W1) (show w.heap.size<W1.heap.size by omega);have oB:=zai (w0:=W1) (show b<W1.heap.size by omega);rw[c1] at HV;refine zab W1.heap.size W1 (Below.refl _ _) JI JI ?_
            repeat (go_big_quiet_step (first|(go_at_call 70;exact zah (Nat.le_refl _) (HV.out _ (BB.out.trans ((zaa _ _ _).mono BB.out.size))))))
            exact Q24
           ·replace c4:ltS P.name A.name=false:=Bool.eq_false_iff.2 c4
            have le4:=zel c4;have HF:Hid (zaz antB za2 n.antennas=false):=za1 hlt (by rw[HUP.out c3,show za2 P A=false from c4];simp);have fp:=(bat B1.out b _ yb).trans (SP.out c3);have oX:=zai (w0:=W1) fz;have oN:=zai (w0:=W1) (show w.heap.size<W1.heap.size by omega);have oB:=zai (w0:=W1) (show b<W1.heap.size by omega);rw[c1] at HV;refine zab W1.heap.size W1 (Below.refl _ _) JI JI ?_
            repeat (go_big_quiet_step (first|(go_at_call 70;exact zah (Nat.le_refl _) (HV.out _ (BB.out.trans ((zaa _ _ _).mono BB.out.size))))))
            exact Q0k
          ·have i8:decide (0<k)=false:=by simpa using c3
           have HF:Hid (upOk antB za2 n.antennas k=true):=HUZ.out II HM.out;have oX:=zai (w0:=W1) fz;have oN:=zai (w0:=W1) (show w.heap.size<W1.heap.size by omega);have oB:=zai (w0:=W1) (show b<W1.heap.size by omega);rw[c1] at HV;refine zab W1.heap.size W1 (Below.refl _ _) JI JI ?_
           repeat (go_big_quiet_step (first|(go_at_call 70;exact zah (Nat.le_refl _) (HV.out _ (BB.out.trans ((zaa _ _ _).mono BB.out.size))))))
           exact Q26
         ·replace c1:antB A=false:=Bool.eq_false_iff.2 c1
          have HF:Hid (zaz antB za2 n.antennas=false):=HUN.out c1;have oX:=zai (w0:=W1) fz;have oN:=zai (w0:=W1) (show w.heap.size<W1.heap.size by omega);have oB:=zai (w0:=W1) (show b<W1.heap.size by omega);rw[c1] at HV;refine zab W1.heap.size W1 (Below.refl _ _) JI JI ?_
          repeat (go_big_quiet_step (first|(go_at_call 70;exact zah (Nat.le_refl _) (HV.out _ (BB.out.trans ((zaa _ _ _).mono BB.out.size))))))
          exact Q0g
        ·obtain rfl:k=n.antennas.length:=II
         have HRAntenna:Hid (zaz antB za2 n.antennas=true):=zce HN.out;clear hk HN hlt;go_wp2;go_loopw [92] (fun i wr=>∃ (k:Nat),k≤n.radios.length∧i=J k∧(∀ j,j<k→upOk radB zbs n.radios j=true)∧OI (w.heap.size+1) (w.alloc (.cells (n,A0,C0,A1,C1,A2,C2,A3,C3) 32)) wr) (fun i wr=>n.radios.length-(intOf i).toNat)
         case atStart=>exact⟨0,Nat.zero_le _,rfl,fun j hj=>absurd hj II,by first|exact HB.out|exact Below.refl _ _⟩
         case round =>
          obtain⟨k,hk,rfl,hno,hb⟩:=hrel;have HN:=IJ hno;have HB:=IJ hb;have zb:=hb.size;simp at zb;clear hno hb;have BW:Hid (OI w w wr):=B0.out.trans (HB.out.mono II);have yn:w.heap.size<wr.heap.size:=II
          have n0:wr.cell? ⟨w,0,none⟩=some (IZ A0 n.sites.length C0):=by rw[bat HB.out (w.heap.size) 0 II];simp[go_sem]
          have n1:wr.cell? ⟨w,1,none⟩=some (IZ A1 n.sectors.length C1):=by rw[bat HB.out (w.heap.size) 1 II];simp[go_sem]
          have n2:wr.cell? ⟨w,2,none⟩=some (IZ A2 n.antennas.length C2):=by rw[bat HB.out (w.heap.size) 2 II];simp[go_sem]
          have n3:wr.cell? ⟨w,3,none⟩=some (IZ A3 n.radios.length C3):=by rw[bat HB.out (w.heap.size) 3 II];simp[go_sem]
          obtain⟨aRadio,cRadio,eRadio,_,_,hcl⟩:=DRadio.rd H3.out;injection eRadio with eRadio1 _ eRadio3;subst eRadio1 eRadio3;have HCL:=IJ hcl;clear hcl
          by_cases hlt:k<n.radios.length
          ·obtain⟨b,off,ea,hbl,hat⟩:=HCL.out II
           subst ea;obtain⟨s0,s1,s2,s3,s4,⟨u5,s5,ru5⟩⟩:=hat k hlt;have hok:=all_ok hk_radios hlt;have RU5:=IJ ru5;clear ru5;rw[← bat BW.out b _ hbl] at s0 s1 s2 s3 s4 s5;have sp:0<k→wr.cell? ⟨b,off+(k-1)*6,none⟩=some (IQ (zbg n.radios (k-1)).name):=fun h=>by
            have t:=(hat (k-1) II).1;rw[← bat BW.out b _ hbl,zcb (show k-1<n.radios.length by omega)] at t;exact t
           have SP:=IJ sp;clear sp hat;have HUN:Hid (radB (zbg n.radios k)=false→zaz radB zbs n.radios=false):=fun h=>za1 hlt (zd2 hlt (by rw[zcb hlt];exact h))
           have HUZ:Hid (k=0→radB (zbg n.radios k)=true→upOk radB zbs n.radios k=true):=fun e h=>by subst e;rw[zci hlt,zcb hlt];exact h
           have HUP:Hid (0<k→upOk radB zbs n.radios k=(radB (zbg n.radios k)&&zbs (zbg n.radios (k-1)) (zbg n.radios k))):=fun h=>by rw[zcj h hlt,zcb hlt,zcb (show k-1<n.radios.length by omega)]
           have hsz:=zcl DRadio.tr n.radios k hlt;have ks0:=hok.name;have hst:=DRadio.siz_tr n.radios[k];rw[DMode.siz_s] at hst;rw[zcb hlt] at s0 s1 s2 s3 s4 ks0 RU5 hst hsz;generalize hA:zbg n.radios k=A at *;generalize hP:zbg n.radios (k-1)=P at *;clear hA hP hok;obtain⟨au5,cu5,eu5,_,_,_⟩:=DMode.rd RU5.out;subst eu5;have i1:(0:Int)≤(k:Int):=II
           have i2:(k:Int)<(n.radios.length:Int):=II
           have yb:b<wr.heap.size:=II
           have HV:Hid (∀ W:World,OI w w W→Calls Tryz.prog 71 #[.agg (A,au5,cu5)] W fun e w'=>e=.returned (.bool (radB A))∧OI W W w'):=fun W hW=>validRadio_any A _ W ((RU5.out.below hW).mono hW.size) ks0 II
           go_wp2;have b1:OI wr wr (wr.alloc (.cells (A,au5,cu5) 125)):=(Below.refl _ _).alloc (Nat.le_refl _) _;have f0:(wr.alloc (.cells (A,au5,cu5) 125)).cell? ⟨wr,0,none⟩=some (IQ A.name):=by simp[go_sem]
           have f1:(wr.alloc (.cells (A,au5,cu5) 125)).cell? ⟨wr,1,none⟩=some (J A.power):=by simp[go_sem]
           have f2:(wr.alloc (.cells (A,au5,cu5) 125)).cell? ⟨wr,2,none⟩=some (J A.feeder):=by simp[go_sem]
           have f3:(wr.alloc (.cells (A,au5,cu5) 125)).cell? ⟨wr,3,none⟩=some (J A.noise):=by simp[go_sem]
           have f4:(wr.alloc (.cells (A,au5,cu5) 125)).cell? ⟨wr,4,none⟩=some (J A.width):=by simp[go_sem]
           have f5:(wr.alloc (.cells (A,au5,cu5) 125)).cell? ⟨wr,5,none⟩=some (IZ au5 A.modes.length cu5):=by simp[go_sem]
           have fz:wr.heap.size<(wr.alloc (.cells (A,au5,cu5) 125)).heap.size:=by simp
           generalize hW1:(wr.alloc (.cells (A,au5,cu5) 125))=W1 at *;have m0:=(bat b1 (w.heap.size) 0 yn).trans n0;have m1:=(bat b1 (w.heap.size) 1 yn).trans n1;have m2:=(bat b1 (w.heap.size) 2 yn).trans n2;have m3:=(bat b1 (w.heap.size) 3 yn).trans n3;have BB:=IJ (BW.out.trans (b1.mono II));have BH:=IJ (HB.out.trans (b1.mono II));have B1:=IJ b1;have zz:=b1.size;clear b1 hW1 n0 n1 n2 n3;have HNB:Hid (zaz radB zbs n.radios=false→netB n=false):=fun h=>by unfold netB;rw[h];simp
           by_cases c1:radB A=true
           ·have HM:Hid (radB A=true):=c1
            by_cases c3:0<k
            ·skip
             have i3:IntKind.i64.wrap ((k:Int)-1)=(k:Int)-1:=IntWalk.i64_in _ II;have i4:(0:Int)≤(k:Int)-1:=II
             have i6:(k:Int)-1<(n.radios.length:Int):=II
             have i7:(1:Int)≤(k:Int):=II
             have i8:decide (0<k)=true:=by simpa using c3
             have i5:((k:Int)-1).toNat=k-1:=II
             by_cases c4:ltS P.name A.name=true
             ·have le4:=zfa c4
              have HF:Hid (upOk radB zbs n.radios k=true):=by show _=_;rw[HUP.out c3,Bool.and_eq_true];exact⟨HM.out,c4⟩
              have fp:=(bat B1.out b _ yb).trans (SP.out c3);have oX:=zai (w0:=W1) fz;have oN:=zai (w0:=W1) (show w.heap.size<W1.heap.size by omega);have oB:=zai (w0:=W1) (show b<W1.heap.size by omega);rw[c1] at HV;refine zab W1.heap.size W1 (Below.refl _ _) JI JI ?_
              repeat (go_big_quiet_step (first|(go_at_call 71;exact zah (Nat.le_refl _) (HV.out _ (BB.out.trans ((zaa _ _ _).mono BB.out.size))))))
              exact Q24
             ·replace c4:ltS P.name A.name=false:=Bool.eq_false_iff.2 c4
              have le4:=zel c4;have HF:Hid (zaz radB zbs n.radios=false):=za1 hlt (by rw[HUP.out c3,show zbs P A=false from c4];simp);have fp:=(bat B1.out b _ yb).trans (SP.out c3);have oX:=zai (w0:=W1) fz;have oN:=zai (w0:=W1) (show w.heap.size<W1.heap.size by omega);have oB:=zai (w0:=W1) (show b<W1.heap.size by omega);rw[c1] at HV;refine zab W1.heap.size W1 (Below.refl _ _) JI JI ?_
              repeat (go_big_quiet_step (first|(go_at_call 71;exact zah (Nat.le_refl _) (HV.out _ (BB.out.trans ((zaa _ _ _).mono BB.out.size))))))
              exact Q0k
            ·have i8:decide (0<k)=false:=by simpa using c3
             have HF:Hid (upOk radB zbs n.radios k=true):=HUZ.out II HM.out;have oX:=zai (w0:=W1) fz;have oN:=zai (w0:=W1) (show w.heap.size<W1.heap.size by omega);have oB:=zai (w0:=W1) (show b<W1.heap.size by omega);rw[c1] at HV;refine zab W1.heap.size W1 (Below.refl _ _) JI JI ?_
             repeat (go_big_quiet_step (first|(go_at_call 71;exact zah (Nat.le_refl _) (HV.out _ (BB.out.trans ((zaa _ _ _).mono BB.out.size))))))
             exact Q26
           ·replace c1:radB A=false:=Bool.eq_false_iff.2 c1
            have HF:Hid (zaz radB zbs n.radios=false):=HUN.out c1;have oX:=zai (w0:=W1) fz;have oN:=zai (w0:=W1) (show w.heap.size<W1.heap.size by omega);have oB:=zai (w0:=W1) (show b<W1.heap.size by omega);rw[c1] at HV;refine zab W1.heap.size W1 (Below.refl _ _) JI JI ?_
            repeat (go_big_quiet_step (first|(go_at_call 71;exact zah (Nat.le_refl _) (HV.out _ (BB.out.trans ((zaa _ _ _).mono BB.out.size))))))
            exact Q0g
          ·obtain rfl:k=n.radios.length:=II
           have HRRadio:Hid (zaz radB zbs n.radios=true):=zce HN.out;clear hk HN hlt;go_wp2;go_loopw [120] (fun i wr=>∃ (k:Nat),k≤n.sectors.length∧i=J k∧(∀ j,j<k→upOk (fun x=>zag x&&zan n x) zbc n.sectors j=true)∧OI (w.heap.size+1) (w.alloc (.cells (n,A0,C0,A1,C1,A2,C2,A3,C3) 32)) wr) (fun i wr=>n.sectors.length-(intOf i).toNat)
           case atStart=>exact⟨0,Nat.zero_le _,rfl,fun j hj=>absurd hj II,by first|exact HB.out|exact Below.refl _ _⟩
           case round =>
            obtain⟨k,hk,rfl,hno,hb⟩:=hrel;have HN:=IJ hno;have HB:=IJ hb;have zb:=hb.size;simp at zb;clear hno hb;have BW:Hid (OI w w wr):=B0.out.trans (HB.out.mono II);have yn:w.heap.size<wr.heap.size:=II
            have n0:wr.cell? ⟨w,0,none⟩=some (IZ A0 n.sites.length C0):=by rw[bat HB.out (w.heap.size) 0 II];simp[go_sem]
            have n1:wr.cell? ⟨w,1,none⟩=some (IZ A1 n.sectors.length C1):=by rw[bat HB.out (w.heap.size) 1 II];simp[go_sem]
            have n2:wr.cell? ⟨w,2,none⟩=some (IZ A2 n.antennas.length C2):=by rw[bat HB.out (w.heap.size) 2 II];simp[go_sem]
            have n3:wr.cell? ⟨w,3,none⟩=some (IZ A3 n.radios.length C3):=by rw[bat HB.out (w.heap.size) 3 II];simp[go_sem]
            obtain⟨aSector,cSector,eSector,_,_,hcl⟩:=DSector.rd H1.out;injection eSector with eSector1 _ eSector3;subst eSector1 eSector3;have HCL:=IJ hcl;clear hcl
            by_cases hlt:k<n.sectors.length
            ·obtain⟨b,off,ea,hbl,hat⟩:=HCL.out II
             subst ea;obtain⟨s0,s1,s2,s3,s4,s5,s6,s7,s8⟩:=hat k hlt;have hok:=all_ok hk_sectors hlt;rw[← bat BW.out b _ hbl] at s0 s1 s2 s3 s4 s5 s6 s7 s8;have sp:0<k→wr.cell? ⟨b,off+(k-1)*9,none⟩=some (IQ (zad n.sectors (k-1)).name):=fun h=>by
              have t:=(hat (k-1) II).1;rw[← bat BW.out b _ hbl,za3 (show k-1<n.sectors.length by omega)] at t;exact t
             have SP:=IJ sp;clear sp hat;have HUN:Hid ((fun x=>zag x&&zan n x) (zad n.sectors k)=false→zaz (fun x=>zag x&&zan n x) zbc n.sectors=false):=fun h=>za1 hlt (zd2 hlt (by rw[za3 hlt];exact h))
             have HUZ:Hid (k=0→(fun x=>zag x&&zan n x) (zad n.sectors k)=true→upOk (fun x=>zag x&&zan n x) zbc n.sectors k=true):=fun e h=>by subst e;rw[zci hlt,za3 hlt];exact h
             have HUP:Hid (0<k→upOk (fun x=>zag x&&zan n x) zbc n.sectors k=((fun x=>zag x&&zan n x) (zad n.sectors k)&&zbc (zad n.sectors (k-1)) (zad n.sectors k))):=fun h=>by rw[zcj h hlt,za3 hlt,za3 (show k-1<n.sectors.length by omega)]
             have hsz:=zcl DSector.tr n.sectors k hlt;have ks0:=hok.name;have ks1:=hok.site;have ks2:=hok.antenna;have ks3:=hok.radio;have ks4:=hok.band;rw[za3 hlt] at s0 s1 s2 s3 s4 s5 s6 s7 s8 ks0 ks1 ks2 ks3 ks4;generalize hA:zad n.sectors k=A at *;generalize hP:zad n.sectors (k-1)=P at *;clear hA hP hok;have i1:(0:Int)≤(k:Int):=II
             have i2:(k:Int)<(n.sectors.length:Int):=II
             have yb:b<wr.heap.size:=II
             have HV:Hid (∀ W:World,OI w w W→Calls Tryz.prog 72 #[.agg A] W fun e w'=>e=.returned (.bool (zag A))∧OI W W w'):=fun W hW=>sectorValid_any A ks0 ks1 ks2 ks3 ks4 W
             have HP:Hid (∀ W:World,OI w w W→Calls Tryz.prog 73 #[.agg #[IZ A0 n.sites.length C0,IZ (some ⟨b,off,none⟩) n.sectors.length C1,IZ A2 n.antennas.length C2,IZ A3 n.radios.length C3],.agg A] W fun e w'=>e=.returned (.bool (zan n A))∧OI W W w'):=fun W hW=>hasParts_any n A _ _ _ _ W ((H0.out.below hW).mono hW.size) ((H2.out.below hW).mono hW.size) ((H3.out.below hW).mono hW.size) II II II
             go_wp2;have b1:OI wr wr (wr.alloc (.cells A 43)):=(Below.refl _ _).alloc (Nat.le_refl _) _;have f0:(wr.alloc (.cells A 43)).cell? ⟨wr,0,none⟩=some (IQ A.name):=by simp[go_sem]
             have f1:(wr.alloc (.cells A 43)).cell? ⟨wr,1,none⟩=some (IQ A.site):=by simp[go_sem]
             have f2:(wr.alloc (.cells A 43)).cell? ⟨wr,2,none⟩=some (IQ A.antenna):=by simp[go_sem]
             have f3:(wr.alloc (.cells A 43)).cell? ⟨wr,3,none⟩=some (IQ A.radio):=by simp[go_sem]
             have f4:(wr.alloc (.cells A 43)).cell? ⟨wr,4,none⟩=some (IQ A.band):=by simp[go_sem]
             have f5:(wr.alloc (.cells A 43)).cell? ⟨wr,5,none⟩=some (J A.azimuth):=by simp[go_sem]
             have f6:(wr.alloc (.cells A 43)).cell? ⟨wr,6,none⟩=some (J A.tilt):=by simp[go_sem]
             have f7:(wr.alloc (.cells A 43)).cell? ⟨wr,7,none⟩=some (J A.above):=by simp[go_sem]
             have f8:(wr.alloc (.cells A 43)).cell? ⟨wr,8,none⟩=some (J A.channel):=by simp[go_sem]
             have fz:wr.heap.size<(wr.alloc (.cells A 43)).heap.size:=by simp
             generalize hW1:(wr.alloc (.cells A 43))=W1 at *;have m0:=(bat b1 (w.heap.size) 0 yn).trans n0;have m1:=(bat b1 (w.heap.size) 1 yn).trans n1;have m2:=(bat b1 (w.heap.size) 2 yn).trans n2;have m3:=(bat b1 (w.heap.size) 3 yn).trans n3;have BB:=IJ (BW.out.trans (b1.mono II));have BH:=IJ (HB.out.trans (b1.mono II));have B1:=IJ b1;have zz:=b1.size;clear b1 hW1 n0 n1 n2 n3;have HNB:Hid (zaz (fun x=>zag x&&zan n x) zbc n.sectors=false→netB n=false):=fun h=>by unfold netB;rw[h];simp
             by_cases c1:zag A=true
             ·by_cases c2:zan n A=true
              ·have HM:Hid ((fun x=>zag x&&zan n x) A=true):=by show (zag A&&zan n A)=true;rw[c1,c2];rfl
               by_cases c3:0<k
               ·skip
                have i3:IntKind.i64.wrap ((k:Int)-1)=(k:Int)-1:=IntWalk.i64_in _ II;have i4:(0:Int)≤(k:Int)-1:=II
                have i6:(k:Int)-1<(n.sectors.length:Int):=II
                have i7:(1:Int)≤(k:Int):=II
                have i8:decide (0<k)=true:=by simpa using c3
                have i5:((k:Int)-1).toNat=k-1:=II
                by_cases c4:ltS P.name A.name=true
                ·have le4:=zfa c4
                 have HF:Hid (upOk (fun x=>zag x&&zan n x) zbc n.sectors k=true):=by show _=_;rw[HUP.out c3,Bool.and_eq_true];exact⟨HM.out,c4⟩
                 have fp:=(bat B1.out b _ yb).trans (SP.out c3);have oX:=zai (w0:=W1) fz;have oN:=zai (w0:=W1) (show w.heap.size<W1.heap.size by omega);have oB:=zai (w0:=W1) (show b<W1.heap.size by omega);rw[c1] at HV;rw[c2] at HP;refine zab W1.heap.size W1 (Below.refl _ _) JI JI ?_
                 repeat (go_big_quiet_step (first|(go_at_call 72;exact zah (Nat.le_refl _) (HV.out _ (BB.out.trans ((zaa _ _ _).mono BB.out.size))))|(go_at_call 73;exact zah (Nat.le_refl _) (HP.out _ (BB.out.trans ((zaa _ _ _).mono BB.out.size))))))
                 exact Q24
                ·replace c4:ltS P.name A.name=false:=Bool.eq_false_iff.2 c4
                 have le4:=zel c4;have HF:Hid (zaz (fun x=>zag x&&zan n x) zbc n.sectors=false):=za1 hlt (by rw[HUP.out c3,show zbc P A=false from c4];simp);have fp:=(bat B1.out b _ yb).trans (SP.out c3);have oX:=zai (w0:=W1) fz;have oN:=zai (w0:=W1) (show w.heap.size<W1.heap.size by omega);have oB:=zai (w0:=W1) (show b<W1.heap.size by omega);rw[c1] at HV;rw[c2] at HP;refine zab W1.heap.size W1 (Below.refl _ _) JI JI ?_
                 repeat (go_big_quiet_step (first|(go_at_call 72;exact zah (Nat.le_refl _) (HV.out _ (BB.out.trans ((zaa _ _ _).mono BB.out.size))))|(go_at_call 73;exact zah (Nat.le_refl _) (HP.out _ (BB.out.trans ((zaa _ _ _).mono BB.out.size))))))
                 exact Q0k
               ·have i8:decide (0<k)=false:=by simpa using c3
                have HF:Hid (upOk (fun x=>zag x&&zan n x) zbc n.sectors k=true):=HUZ.out II HM.out;have oX:=zai (w0:=W1) fz;have oN:=zai (w0:=W1) (show w.heap.size<W1.heap.size by omega);have oB:=zai (w0:=W1) (show b<W1.heap.size by omega);rw[c1] at HV;rw[c2] at HP;refine zab W1.heap.size W1 (Below.refl _ _) JI JI ?_
                repeat (go_big_quiet_step (first|(go_at_call 72;exact zah (Nat.le_refl _) (HV.out _ (BB.out.trans ((zaa _ _ _).mono BB.out.size))))|(go_at_call 73;exact zah (Nat.le_refl _) (HP.out _ (BB.out.trans ((zaa _ _ _).mono BB.out.size))))))
                exact Q26
              ·replace c2:zan n A=false:=Bool.eq_false_iff.2 c2
               have HF:Hid (zaz (fun x=>zag x&&zan n x) zbc n.sectors=false):=HUN.out (by show (zag A&&zan n A)=false;rw[c2,Bool.and_false]);have oX:=zai (w0:=W1) fz;have oN:=zai (w0:=W1) (show w.heap.size<W1.heap.size by omega);have oB:=zai (w0:=W1) (show b<W1.heap.size by omega);rw[c1] at HV;rw[c2] at HP;refine zab W1.heap.size W1 (Below.refl _ _) JI JI ?_
               repeat (go_big_quiet_step (first|(go_at_call 72;exact zah (Nat.le_refl _) (HV.out _ (BB.out.trans ((zaa _ _ _).mono BB.out.size))))|(go_at_call 73;exact zah (Nat.le_refl _) (HP.out _ (BB.out.trans ((zaa _ _ _).mono BB.out.size))))))
               exact Q0g
             ·replace c1:zag A=false:=Bool.eq_false_iff.2 c1
              have HF:Hid (zaz (fun x=>zag x&&zan n x) zbc n.sectors=false):=HUN.out (by show (zag A&&zan n A)=false;rw[c1,Bool.false_and]);have oX:=zai (w0:=W1) fz;have oN:=zai (w0:=W1) (show w.heap.size<W1.heap.size by omega);have oB:=zai (w0:=W1) (show b<W1.heap.size by omega);rw[c1] at HV;refine zab W1.heap.size W1 (Below.refl _ _) JI JI ?_
              repeat (go_big_quiet_step (first|(go_at_call 72;exact zah (Nat.le_refl _) (HV.out _ (BB.out.trans ((zaa _ _ _).mono BB.out.size))))))
              exact Q0g
            ·obtain rfl:k=n.sectors.length:=II
             have HRSector:Hid (zaz (fun x=>zag x&&zan n x) zbc n.sectors=true):=zce HN.out;clear hk HN hlt;have HT:Hid (netB n=true):=by show _=_;unfold netB;rw[decide_eq_true h0,decide_eq_true h1,decide_eq_true h2,decide_eq_true h3,HRSite.out,HRAntenna.out,HRRadio.out,HRSector.out];rfl
             go_wp2;go_ret;exact⟨by rw[HT.out];rfl,BW.out⟩
    ·have hx:8<n.radios.length:=II
     have HE:Hid (netB n=false):=by show _=_;unfold netB;rw[decide_eq_false h3];simp
     exact Q1e
   ·have hx:8<n.antennas.length:=II
    have HE:Hid (netB n=false):=by show _=_;unfold netB;rw[decide_eq_false h2];simp
    exact Q1e
  ·have hx:24<n.sectors.length:=II
   have HE:Hid (netB n=false):=by show _=_;unfold netB;rw[decide_eq_false h1];simp
   exact Q1e
 ·have hx:12<n.sites.length:=II
  have HE:Hid (netB n=false):=by show _=_;unfold netB;rw[decide_eq_false h0];simp
  exact Q1e
end Go.Proofs.YtpakghepnahooaaGreatDoor
