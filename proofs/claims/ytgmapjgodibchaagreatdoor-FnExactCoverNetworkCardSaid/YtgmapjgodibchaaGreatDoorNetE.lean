/- Contract: networks are valid, for the program. Conditions: bounded sizes. -/
import Derived.Test.YtgmapjgodibchaaGreatDoorNetD
set_option linter.unusedVariables false
set_option linter.unusedSimpArgs false
namespace Go.Proofs.YtgmapjgodibchaaGreatDoor
open Go.RowKit
set_option maxHeartbeats 40000000
set_option maxRecDepth 100000
def zck (p x:DSite):Bool:=ltS p.name x.name
def zbd (p x:DSector):Bool:=ltS p.name x.name
def zbb (p x:DAntenna):Bool:=ltS p.name x.name
def zbx (p x:DRadio):Bool:=ltS p.name x.name
def netB (n:DNetwork):Bool:=decide (n.sites.length≤12)&&(decide (n.sectors.length≤24)&&(decide (n.antennas.length≤8)&&(decide (n.radios.length≤8)&&(zba zbw zck n.sites&&(zba antB zbb n.antennas&&(zba radB zbx n.radios&&zba (fun x=>zan x&&zar n x) zbd n.sectors))))))
theorem all_ok {α:Type} {p:α→Prop} {l:List α} (h:∀ x ∈ l,p x) {k:Nat} (hk:k<l.length):p l[k]:=h _ (List.getElem_mem hk)
def zen (l:List DSite) (i:Nat):DSite:=l.getD i ⟨⟨#[]⟩,⟨#[]⟩,⟨0,0⟩⟩
theorem zct {l:List DSite} {i:Nat} (h:i<l.length):l[i]=zen l i:=by simp[zen,h]
def zab (l:List DSector) (i:Nat):DSector:=l.getD i ⟨⟨#[]⟩,⟨#[]⟩,⟨#[]⟩,⟨#[]⟩,⟨#[]⟩,0,0,0,0⟩
theorem za5 {l:List DSector} {i:Nat} (h:i<l.length):l[i]=zab l i:=by simp[zab,h]
def zav (l:List DAntenna) (i:Nat):DAntenna:=l.getD i ⟨⟨#[]⟩,0,[],[]⟩
theorem zbf {l:List DAntenna} {i:Nat} (h:i<l.length):l[i]=zav l i:=by simp[zav,h]
def za4 (l:List DRadio) (i:Nat):DRadio:=l.getD i ⟨⟨#[]⟩,0,0,0,0,[]⟩
theorem zbo {l:List DRadio} {i:Nat} (h:i<l.length):l[i]=za4 l i:=by simp[za4,h]
theorem validNetwork_any (n:DNetwork) (v0 v1 v2 v3:Value) (w:World) (r0:Rd w w (DSite.sT n.sites) v0) (r1:Rd w w (DSector.sT n.sectors) v1) (r2:Rd w w (DAntenna.sT n.antennas) v2) (r3:Rd w w (DRadio.sT n.radios) v3) (hs:sizL n.tr≤1099511627776) (hk:n.ok) :
  Calls Tryz.prog 52 #[.agg #[v0,v1,v2,v3]] w fun e w'=>e=.returned (.bool (netB n))∧IJ w w w':=by
 have hq:=DNetwork.siz_tr n;rw[DSite.siz_s,DSector.siz_s,DAntenna.siz_s,DRadio.siz_s] at hq;have hk_sites:=hk.sites;have hk_sectors:=hk.sectors;have hk_antennas:=hk.antennas;have hk_radios:=hk.radios;clear hk;have H0:=J r0;have H1:=J r1;have H2:=J r2;have H3:=J r3;clear r0 r1 r2 r3;obtain⟨A0,C0,e0,_,_,_⟩:=DSite.rd H0.out;obtain⟨A1,C1,e1,_,_,_⟩:=DSector.rd H1.out;obtain⟨A2,C2,e2,_,_,_⟩:=DAntenna.rd H2.out;obtain⟨A3,C3,e3,_,_,_⟩:=DRadio.rd H3.out;subst e0 e1 e2 e3;have B0:Hid (IJ w w (w.alloc (.cells #[II A0 n.sites.length C0,II A1 n.sectors.length C1,II A2 n.antennas.length C2,II A3 n.radios.length C3] 44))):=(Below.refl _ _).alloc (Nat.le_refl _) _
 by_cases h0:n.sites.length≤12
 ·skip
  by_cases h1:n.sectors.length≤24
  ·skip
   by_cases h2:n.antennas.length≤8
   ·skip
    by_cases h3:n.radios.length≤8
    ·skip
     go_enter Tryz.func52,Tryz.ntmps52;have hh0:(n.sites.length:Int)≤12:=O
     have hh1:(n.sectors.length:Int)≤24:=O
     have hh2:(n.antennas.length:Int)≤8:=O
     have hh3:(n.radios.length:Int)≤8:=O
     go_wp2;go_loopw [36] (fun i wr=>∃ (k:Nat),k≤n.sites.length∧i=I k∧(∀ j,j<k→upOk zbw zck n.sites j=true)∧IJ (w.heap.size+1) (w.alloc (.cells #[II A0 n.sites.length C0,II A1 n.sectors.length C1,II A2 n.antennas.length C2,II A3 n.radios.length C3] 44)) wr) (fun i wr=>n.sites.length-(intOf i).toNat)
     case atStart=>exact⟨0,Nat.zero_le _,rfl,fun j hj=>absurd hj O,by first|exact HB.out|exact Below.refl _ _⟩
     case round =>
      obtain⟨k,hk,rfl,hno,hb⟩:=hrel;have HN:=J hno;have HB:=J hb;have zb:=hb.size;simp at zb;clear hno hb;have BW:Hid (IJ w w wr):=B0.out.trans (HB.out.mono O);have yn:w.heap.size<wr.heap.size:=O
      have n0:wr.cell? ⟨w,0,none⟩=some (II A0 n.sites.length C0):=by rw[bat HB.out (w.heap.size) 0 O];simp[go_sem]
      have n1:wr.cell? ⟨w,1,none⟩=some (II A1 n.sectors.length C1):=by rw[bat HB.out (w.heap.size) 1 O];simp[go_sem]
      have n2:wr.cell? ⟨w,2,none⟩=some (II A2 n.antennas.length C2):=by rw[bat HB.out (w.heap.size) 2 O];simp[go_sem]
      have n3:wr.cell? ⟨w,3,none⟩=some (II A3 n.radios.length C3):=by rw[bat HB.out (w.heap.size) 3 O];simp[go_sem]
      obtain⟨aSite,cSite,eSite,_,_,hcl⟩:=DSite.rd H0.out;injection eSite with eSite1 _ eSite3;subst eSite1 eSite3;have HCL:=J hcl;clear hcl
      by_cases hlt:k<n.sites.length
      ·obtain⟨b,off,ea,hbl,hat⟩:=HCL.out O
       subst ea;obtain⟨s0,s1,s2,s3⟩:=hat k hlt;have hok:=all_ok hk_sites hlt;rw[← bat BW.out b _ hbl] at s0 s1 s2 s3;have sp:0<k→wr.cell? ⟨b,off+(k-1)*4,none⟩=some (F (zen n.sites (k-1)).name):=fun h=>by
        have t:=(hat (k-1) O).1;rw[← bat BW.out b _ hbl,zct (show k-1<n.sites.length by omega)] at t;exact t
       have SP:=J sp;clear sp hat;have HUN:Hid (zbw (zen n.sites k)=false→zba zbw zck n.sites=false):=fun h=>za7 hlt (zdv hlt (by rw[zct hlt];exact h))
       have HUZ:Hid (k=0→zbw (zen n.sites k)=true→upOk zbw zck n.sites k=true):=fun e h=>by subst e;rw[zc5 hlt,zct hlt];exact h
       have HUP:Hid (0<k→upOk zbw zck n.sites k=(zbw (zen n.sites k)&&zck (zen n.sites (k-1)) (zen n.sites k))):=fun h=>by rw[zdi h hlt,zct hlt,zct (show k-1<n.sites.length by omega)]
       have hsz:=za3 DSite.tr n.sites k hlt;have ks0:=hok.name;have ks1:=hok.holder;rw[zct hlt] at s0 s1 s2 s3 ks0 ks1;generalize hA:zen n.sites k=A at *;generalize hP:zen n.sites (k-1)=P at *;clear hA hP hok;have i1:(0:Int)≤(k:Int):=O
       have i2:(k:Int)<(n.sites.length:Int):=O
       have yb:b<wr.heap.size:=O
       have HV:Hid (∀ W:World,IJ w w W→Calls Tryz.prog 101 #[.agg #[F A.name,F A.holder,I A.place.x,I A.place.y]] W fun e w'=>e=.returned (.bool (zbw A))∧IJ W W w'):=fun W hW=>siteValid_any A ks0 ks1 W
       go_wp2;have b1:IJ wr wr (wr.alloc (.cells #[F A.name,F A.holder,I A.place.x,I A.place.y] 158)):=(Below.refl _ _).alloc (Nat.le_refl _) _;have f0:(wr.alloc (.cells #[F A.name,F A.holder,I A.place.x,I A.place.y] 158)).cell? ⟨wr,0,none⟩=some (F A.name):=by simp[go_sem]
       have f1:(wr.alloc (.cells #[F A.name,F A.holder,I A.place.x,I A.place.y] 158)).cell? ⟨wr,1,none⟩=some (F A.holder):=by simp[go_sem]
       have f2:(wr.alloc (.cells #[F A.name,F A.holder,I A.place.x,I A.place.y] 158)).cell? ⟨wr,2,none⟩=some (I A.place.x):=by simp[go_sem]
       have f3:(wr.alloc (.cells #[F A.name,F A.holder,I A.place.x,I A.place.y] 158)).cell? ⟨wr,3,none⟩=some (I A.place.y):=by simp[go_sem]
       have fz:wr.heap.size<(wr.alloc (.cells #[F A.name,F A.holder,I A.place.x,I A.place.y] 158)).heap.size:=by simp
       generalize hW1:(wr.alloc (.cells #[F A.name,F A.holder,I A.place.x,I A.place.y] 158))=W1 at *;have m0:=(bat b1 (w.heap.size) 0 yn).trans n0;have m1:=(bat b1 (w.heap.size) 1 yn).trans n1;have m2:=(bat b1 (w.heap.size) 2 yn).trans n2;have m3:=(bat b1 (w.heap.size) 3 yn).trans n3;have BB:=J (BW.out.trans (b1.mono O));have BH:=J (HB.out.trans (b1.mono O));have B1:=J b1;have zz:=b1.size;clear b1 hW1 n0 n1 n2 n3;have HNB:Hid (zba zbw zck n.sites=false→netB n=false):=fun h=>by unfold netB;rw[h];simp
       by_cases c1:zbw A=true
       ·have HM:Hid (zbw A=true):=c1
        by_cases c3:0<k
        ·skip
         have i3:IntKind.i64.wrap ((k:Int)-1)=(k:Int)-1:=IntWalk.i64_in _ O;have i4:(0:Int)≤(k:Int)-1:=O
         have i6:(k:Int)-1<(n.sites.length:Int):=O
         have i7:(1:Int)≤(k:Int):=O
         have i8:decide (0<k)=true:=by simpa using c3
         have i5:((k:Int)-1).toNat=k-1:=O
         by_cases c4:ltS P.name A.name=true
         ·have le4:=geS_of_lt c4
          have HF:Hid (upOk zbw zck n.sites k=true):=by show _=_;rw[HUP.out c3,Bool.and_eq_true];exact⟨HM.out,c4⟩
          have fp:=(bat B1.out b _ yb).trans (SP.out c3);have oX:=zal (w0:=W1) fz;have oN:=zal (w0:=W1) (show w.heap.size<W1.heap.size by omega);have oB:=zal (w0:=W1) (show b<W1.heap.size by omega);rw[c1] at HV;refine zad W1.heap.size W1 (Below.refl _ _) OJ OJ ?_
          repeat (go_big_quiet_step (first|(go_at_call 101;exact zaj (Nat.le_refl _) (HV.out _ (BB.out.trans ((zaa _ _ _).mono BB.out.size))))))
          refine wpQuiet_nil ?_;rintro _ ⟨X,rfl⟩;have hX:=zaa W1.heap.size W1 X;clear oX oN oB;generalize over W1.heap.size W1 X=w2 at *;have BE:=J (BB.out.trans (hX.mono BB.out.size));have BF:=J (BH.out.trans (hX.mono O));clear hX;clear i3 i5;go_wp2;go_roundw
          case rel=>exact⟨k+1,O,by go_num,zbj HN.out (HF.out),BF.out⟩
          case measure=>simp[intOf];omega
         ·replace c4:ltS P.name A.name=false:=Bool.eq_false_iff.2 c4
          have le4:=geS_of_not c4;have HF:Hid (zba zbw zck n.sites=false):=za7 hlt (by rw[HUP.out c3,show zck P A=false from c4];simp);have fp:=(bat B1.out b _ yb).trans (SP.out c3);have oX:=zal (w0:=W1) fz;have oN:=zal (w0:=W1) (show w.heap.size<W1.heap.size by omega);have oB:=zal (w0:=W1) (show b<W1.heap.size by omega);rw[c1] at HV;refine zad W1.heap.size W1 (Below.refl _ _) OJ OJ ?_
          repeat (go_big_quiet_step (first|(go_at_call 101;exact zaj (Nat.le_refl _) (HV.out _ (BB.out.trans ((zaa _ _ _).mono BB.out.size))))))
          refine wpQuiet_nil ?_;rintro _ ⟨X,rfl⟩;have hX:=zaa W1.heap.size W1 X;clear oX oN oB;generalize over W1.heap.size W1 X=w2 at *;have BE:=J (BB.out.trans (hX.mono BB.out.size));have BF:=J (BH.out.trans (hX.mono O));clear hX;clear i3 i5;go_wp2;go_ret;exact⟨by rw[HNB.out (HF.out)];rfl,BE.out⟩
        ·have i8:decide (0<k)=false:=by simpa using c3
         have HF:Hid (upOk zbw zck n.sites k=true):=HUZ.out O HM.out;have oX:=zal (w0:=W1) fz;have oN:=zal (w0:=W1) (show w.heap.size<W1.heap.size by omega);have oB:=zal (w0:=W1) (show b<W1.heap.size by omega);rw[c1] at HV;refine zad W1.heap.size W1 (Below.refl _ _) OJ OJ ?_
         repeat (go_big_quiet_step (first|(go_at_call 101;exact zaj (Nat.le_refl _) (HV.out _ (BB.out.trans ((zaa _ _ _).mono BB.out.size))))))
         refine wpQuiet_nil ?_;rintro _ ⟨X,rfl⟩;have hX:=zaa W1.heap.size W1 X;clear oX oN oB;generalize over W1.heap.size W1 X=w2 at *;have BE:=J (BB.out.trans (hX.mono BB.out.size));have BF:=J (BH.out.trans (hX.mono O));clear hX;go_wp2;go_roundw
         case rel=>exact⟨k+1,O,by go_num,zbj HN.out (HF.out),BF.out⟩
         case measure=>simp[intOf];omega
       ·replace c1:zbw A=false:=Bool.eq_false_iff.2 c1
        have HF:Hid (zba zbw zck n.sites=false):=HUN.out c1;have oX:=zal (w0:=W1) fz;have oN:=zal (w0:=W1) (show w.heap.size<W1.heap.size by omega);have oB:=zal (w0:=W1) (show b<W1.heap.size by omega);rw[c1] at HV;refine zad W1.heap.size W1 (Below.refl _ _) OJ OJ ?_
        repeat (go_big_quiet_step (first|(go_at_call 101;exact zaj (Nat.le_refl _) (HV.out _ (BB.out.trans ((zaa _ _ _).mono BB.out.size))))))
        refine wpQuiet_nil ?_;rintro _ ⟨X,rfl⟩;have hX:=zaa W1.heap.size W1 X;clear oX oN oB;generalize over W1.heap.size W1 X=w2 at *;have BE:=J (BB.out.trans (hX.mono BB.out.size));have BF:=J (BH.out.trans (hX.mono O));clear hX;go_wp2;go_ret;exact⟨by rw[HNB.out (HF.out)];rfl,BE.out⟩
      ·obtain rfl:k=n.sites.length:=O
       have HRSite:Hid (zba zbw zck n.sites=true):=zcp HN.out;clear hk HN hlt;go_wp2;go_loopw [64] (fun i wr=>∃ (k:Nat),k≤n.antennas.length∧i=I k∧(∀ j,j<k→upOk antB zbb n.antennas j=true)∧IJ (w.heap.size+1) (w.alloc (.cells #[II A0 n.sites.length C0,II A1 n.sectors.length C1,II A2 n.antennas.length C2,II A3 n.radios.length C3] 44)) wr) (fun i wr=>n.antennas.length-(intOf i).toNat)
       case atStart=>exact⟨0,Nat.zero_le _,rfl,fun j hj=>absurd hj O,by first|exact HB.out|exact Below.refl _ _⟩
       case round =>
        obtain⟨k,hk,rfl,hno,hb⟩:=hrel;have HN:=J hno;have HB:=J hb;have zb:=hb.size;simp at zb;clear hno hb;have BW:Hid (IJ w w wr):=B0.out.trans (HB.out.mono O);have yn:w.heap.size<wr.heap.size:=O
        have n0:wr.cell? ⟨w,0,none⟩=some (II A0 n.sites.length C0):=by rw[bat HB.out (w.heap.size) 0 O];simp[go_sem]
        have n1:wr.cell? ⟨w,1,none⟩=some (II A1 n.sectors.length C1):=by rw[bat HB.out (w.heap.size) 1 O];simp[go_sem]
        have n2:wr.cell? ⟨w,2,none⟩=some (II A2 n.antennas.length C2):=by rw[bat HB.out (w.heap.size) 2 O];simp[go_sem]
        have n3:wr.cell? ⟨w,3,none⟩=some (II A3 n.radios.length C3):=by rw[bat HB.out (w.heap.size) 3 O];simp[go_sem]
        obtain⟨aAntenna,cAntenna,eAntenna,_,_,hcl⟩:=DAntenna.rd H2.out;injection eAntenna with eAntenna1 _ eAntenna3;subst eAntenna1 eAntenna3;have HCL:=J hcl;clear hcl
        by_cases hlt:k<n.antennas.length
        ·obtain⟨b,off,ea,hbl,hat⟩:=HCL.out O
         subst ea;obtain⟨s0,s1,⟨u2,s2,ru2⟩,⟨u3,s3,ru3⟩⟩:=hat k hlt;have hok:=all_ok hk_antennas hlt;have RU2:=J ru2;have RU3:=J ru3;clear ru2 ru3;rw[← bat BW.out b _ hbl] at s0 s1 s2 s3;have sp:0<k→wr.cell? ⟨b,off+(k-1)*4,none⟩=some (F (zav n.antennas (k-1)).name):=fun h=>by
          have t:=(hat (k-1) O).1;rw[← bat BW.out b _ hbl,zbf (show k-1<n.antennas.length by omega)] at t;exact t
         have SP:=J sp;clear sp hat;have HUN:Hid (antB (zav n.antennas k)=false→zba antB zbb n.antennas=false):=fun h=>za7 hlt (zdv hlt (by rw[zbf hlt];exact h))
         have HUZ:Hid (k=0→antB (zav n.antennas k)=true→upOk antB zbb n.antennas k=true):=fun e h=>by subst e;rw[zc5 hlt,zbf hlt];exact h
         have HUP:Hid (0<k→upOk antB zbb n.antennas k=(antB (zav n.antennas k)&&zbb (zav n.antennas (k-1)) (zav n.antennas k))):=fun h=>by rw[zdi h hlt,zbf hlt,zbf (show k-1<n.antennas.length by omega)]
         have hsz:=za3 DAntenna.tr n.antennas k hlt;have ks0:=hok.name;have hst:=DAntenna.siz_tr n.antennas[k];rw[zcb,zcb] at hst;rw[zbf hlt] at s0 s1 ks0 RU2 RU3 hst hsz;generalize hA:zav n.antennas k=A at *;generalize hP:zav n.antennas (k-1)=P at *;clear hA hP hok;obtain⟨au2,cu2,eu2,_,_,_⟩:=Rd.ints RU2.out;subst eu2;obtain⟨au3,cu3,eu3,_,_,_⟩:=Rd.ints RU3.out;subst eu3;have i1:(0:Int)≤(k:Int):=O
         have i2:(k:Int)<(n.antennas.length:Int):=O
         have yb:b<wr.heap.size:=O
         have HV:Hid (∀ W:World,IJ w w W→Calls Tryz.prog 102 #[.agg #[F A.name,I A.gain,II au2 A.horizontal.length cu2,II au3 A.vertical.length cu3]] W fun e w'=>e=.returned (.bool (antB A))∧IJ W W w'):=fun W hW=>validAntenna_any A _ _ W ((RU2.out.below hW).mono hW.size) ((RU3.out.below hW).mono hW.size) ks0 O O
         go_wp2;have b1:IJ wr wr (wr.alloc (.cells #[F A.name,I A.gain,II au2 A.horizontal.length cu2,II au3 A.vertical.length cu3] 154)):=(Below.refl _ _).alloc (Nat.le_refl _) _;have f0:(wr.alloc (.cells #[F A.name,I A.gain,II au2 A.horizontal.length cu2,II au3 A.vertical.length cu3] 154)).cell? ⟨wr,0,none⟩=some (F A.name):=by simp[go_sem]
         have f1:(wr.alloc (.cells #[F A.name,I A.gain,II au2 A.horizontal.length cu2,II au3 A.vertical.length cu3] 154)).cell? ⟨wr,1,none⟩=some (I A.gain):=by simp[go_sem]
         have f2:(wr.alloc (.cells #[F A.name,I A.gain,II au2 A.horizontal.length cu2,II au3 A.vertical.length cu3] 154)).cell? ⟨wr,2,none⟩=some (II au2 A.horizontal.length cu2):=by simp[go_sem]
         have f3:(wr.alloc (.cells #[F A.name,I A.gain,II au2 A.horizontal.length cu2,II au3 A.vertical.length cu3] 154)).cell? ⟨wr,3,none⟩=some (II au3 A.vertical.length cu3):=by simp[go_sem]
         have fz:wr.heap.size<(wr.alloc (.cells #[F A.name,I A.gain,II au2 A.horizontal.length cu2,II au3 A.vertical.length cu3] 154)).heap.size:=by simp
         generalize hW1:(wr.alloc (.cells #[F A.name,I A.gain,II au2 A.horizontal.length cu2,II au3 A.vertical.length cu3] 154))=W1 at *;have m0:=(bat b1 (w.heap.size) 0 yn).trans n0;have m1:=(bat b1 (w.heap.size) 1 yn).trans n1;have m2:=(bat b1 (w.heap.size) 2 yn).trans n2;have m3:=(bat b1 (w.heap.size) 3 yn).trans n3;have BB:=J (BW.out.trans (b1.mono O));have BH:=J (HB.out.trans (b1.mono O));have B1:=J b1;have zz:=b1.size;clear b1 hW1 n0 n1 n2 n3;have HNB:Hid (zba antB zbb n.antennas=false→netB n=false):=fun h=>by unfold netB;rw[h];simp
         by_cases c1:antB A=true
         ·have HM:Hid (antB A=true):=c1
          by_cases c3:0<k
          ·skip
           have i3:IntKind.i64.wrap ((k:Int)-1)=(k:Int)-1:=IntWalk.i64_in _ O;have i4:(0:Int)≤(k:Int)-1:=O
           have i6:(k:Int)-1<(n.antennas.length:Int):=O
           have i7:(1:Int)≤(k:Int):=O
           have i8:decide (0<k)=true:=by simpa using c3
           have i5:((k:Int)-1).toNat=k-1:=O
           by_cases c4:ltS P.name A.name=true
           ·have le4:=geS_of_lt c4
            have HF:Hid (upOk antB zbb n.antennas k=true):=by show _=_;rw[HUP.out c3,Bool.and_eq_true];exact⟨HM.out,c4⟩
            have fp:=(bat B1.out b _ yb).trans (SP.out c3);have oX:=zal (w0:=W1) fz;have oN:=zal (w0:=W1) (show w.heap.size<W1.heap.size by omega);have oB:=zal (w0:=W1) (show b<W1.heap.size by omega);rw[c1] at HV;refine zad W1.heap.size W1 (Below.refl _ _) OJ OJ ?_
            repeat (go_big_quiet_step (first|(go_at_call 102;exact zaj (Nat.le_refl _) (HV.out _ (BB.out.trans ((zaa _ _ _).mono BB.out.size))))))
            refine wpQuiet_nil ?_;rintro _ ⟨X,rfl⟩;have hX:=zaa W1.heap.size W1 X;clear oX oN oB;generalize over W1.heap.size W1 X=w2 at *;have BE:=J (BB.out.trans (hX.mono BB.out.size));have BF:=J (BH.out.trans (hX.mono O));clear hX;clear i3 i5;go_wp2;go_roundw
            case rel=>exact⟨k+1,O,by go_num,zbj HN.out (HF.out),BF.out⟩
            case measure=>simp[intOf];omega
           ·replace c4:ltS P.name A.name=false:=Bool.eq_false_iff.2 c4
            have le4:=geS_of_not c4;have HF:Hid (zba antB zbb n.antennas=false):=za7 hlt (by rw[HUP.out c3,show zbb P A=false from c4];simp);have fp:=(bat B1.out b _ yb).trans (SP.out c3);have oX:=zal (w0:=W1) fz;have oN:=zal (w0:=W1) (show w.heap.size<W1.heap.size by omega);have oB:=zal (w0:=W1) (show b<W1.heap.size by omega);rw[c1] at HV;refine zad W1.heap.size W1 (Below.refl _ _) OJ OJ ?_
            repeat (go_big_quiet_step (first|(go_at_call 102;exact zaj (Nat.le_refl _) (HV.out _ (BB.out.trans ((zaa _ _ _).mono BB.out.size))))))
            refine wpQuiet_nil ?_;rintro _ ⟨X,rfl⟩;have hX:=zaa W1.heap.size W1 X;clear oX oN oB;generalize over W1.heap.size W1 X=w2 at *;have BE:=J (BB.out.trans (hX.mono BB.out.size));have BF:=J (BH.out.trans (hX.mono O));clear hX;clear i3 i5;go_wp2;go_ret;exact⟨by rw[HNB.out (HF.out)];rfl,BE.out⟩
          ·have i8:decide (0<k)=false:=by simpa using c3
           have HF:Hid (upOk antB zbb n.antennas k=true):=HUZ.out O HM.out;have oX:=zal (w0:=W1) fz;have oN:=zal (w0:=W1) (show w.heap.size<W1.heap.size by omega);have oB:=zal (w0:=W1) (show b<W1.heap.size by omega);rw[c1] at HV;refine zad W1.heap.size W1 (Below.refl _ _) OJ OJ ?_
           repeat (go_big_quiet_step (first|(go_at_call 102;exact zaj (Nat.le_refl _) (HV.out _ (BB.out.trans ((zaa _ _ _).mono BB.out.size))))))
           refine wpQuiet_nil ?_;rintro _ ⟨X,rfl⟩;have hX:=zaa W1.heap.size W1 X;clear oX oN oB;generalize over W1.heap.size W1 X=w2 at *;have BE:=J (BB.out.trans (hX.mono BB.out.size));have BF:=J (BH.out.trans (hX.mono O));clear hX;go_wp2;go_roundw
           case rel=>exact⟨k+1,O,by go_num,zbj HN.out (HF.out),BF.out⟩
           case measure=>simp[intOf];omega
         ·replace c1:antB A=false:=Bool.eq_false_iff.2 c1
          have HF:Hid (zba antB zbb n.antennas=false):=HUN.out c1;have oX:=zal (w0:=W1) fz;have oN:=zal (w0:=W1) (show w.heap.size<W1.heap.size by omega);have oB:=zal (w0:=W1) (show b<W1.heap.size by omega);rw[c1] at HV;refine zad W1.heap.size W1 (Below.refl _ _) OJ OJ ?_
          repeat (go_big_quiet_step (first|(go_at_call 102;exact zaj (Nat.le_refl _) (HV.out _ (BB.out.trans ((zaa _ _ _).mono BB.out.size))))))
          refine wpQuiet_nil ?_;rintro _ ⟨X,rfl⟩;have hX:=zaa W1.heap.size W1 X;clear oX oN oB;generalize over W1.heap.size W1 X=w2 at *;have BE:=J (BB.out.trans (hX.mono BB.out.size));have BF:=J (BH.out.trans (hX.mono O));clear hX;go_wp2;go_ret;exact⟨by rw[HNB.out (HF.out)];rfl,BE.out⟩
        ·obtain rfl:k=n.antennas.length:=O
         have HRAntenna:Hid (zba antB zbb n.antennas=true):=zcp HN.out;clear hk HN hlt;go_wp2;go_loopw [92] (fun i wr=>∃ (k:Nat),k≤n.radios.length∧i=I k∧(∀ j,j<k→upOk radB zbx n.radios j=true)∧IJ (w.heap.size+1) (w.alloc (.cells #[II A0 n.sites.length C0,II A1 n.sectors.length C1,II A2 n.antennas.length C2,II A3 n.radios.length C3] 44)) wr) (fun i wr=>n.radios.length-(intOf i).toNat)
         case atStart=>exact⟨0,Nat.zero_le _,rfl,fun j hj=>absurd hj O,by first|exact HB.out|exact Below.refl _ _⟩
         case round =>
          obtain⟨k,hk,rfl,hno,hb⟩:=hrel;have HN:=J hno;have HB:=J hb;have zb:=hb.size;simp at zb;clear hno hb;have BW:Hid (IJ w w wr):=B0.out.trans (HB.out.mono O);have yn:w.heap.size<wr.heap.size:=O
          have n0:wr.cell? ⟨w,0,none⟩=some (II A0 n.sites.length C0):=by rw[bat HB.out (w.heap.size) 0 O];simp[go_sem]
          have n1:wr.cell? ⟨w,1,none⟩=some (II A1 n.sectors.length C1):=by rw[bat HB.out (w.heap.size) 1 O];simp[go_sem]
          have n2:wr.cell? ⟨w,2,none⟩=some (II A2 n.antennas.length C2):=by rw[bat HB.out (w.heap.size) 2 O];simp[go_sem]
          have n3:wr.cell? ⟨w,3,none⟩=some (II A3 n.radios.length C3):=by rw[bat HB.out (w.heap.size) 3 O];simp[go_sem]
          obtain⟨aRadio,cRadio,eRadio,_,_,hcl⟩:=DRadio.rd H3.out;injection eRadio with eRadio1 _ eRadio3;subst eRadio1 eRadio3;have HCL:=J hcl;clear hcl
          by_cases hlt:k<n.radios.length
          ·obtain⟨b,off,ea,hbl,hat⟩:=HCL.out O
           subst ea;obtain⟨s0,s1,s2,s3,s4,⟨u5,s5,ru5⟩⟩:=hat k hlt;have hok:=all_ok hk_radios hlt;have RU5:=J ru5;clear ru5;rw[← bat BW.out b _ hbl] at s0 s1 s2 s3 s4 s5;have sp:0<k→wr.cell? ⟨b,off+(k-1)*6,none⟩=some (F (za4 n.radios (k-1)).name):=fun h=>by
            have t:=(hat (k-1) O).1;rw[← bat BW.out b _ hbl,zbo (show k-1<n.radios.length by omega)] at t;exact t
           have SP:=J sp;clear sp hat;have HUN:Hid (radB (za4 n.radios k)=false→zba radB zbx n.radios=false):=fun h=>za7 hlt (zdv hlt (by rw[zbo hlt];exact h))
           have HUZ:Hid (k=0→radB (za4 n.radios k)=true→upOk radB zbx n.radios k=true):=fun e h=>by subst e;rw[zc5 hlt,zbo hlt];exact h
           have HUP:Hid (0<k→upOk radB zbx n.radios k=(radB (za4 n.radios k)&&zbx (za4 n.radios (k-1)) (za4 n.radios k))):=fun h=>by rw[zdi h hlt,zbo hlt,zbo (show k-1<n.radios.length by omega)]
           have hsz:=za3 DRadio.tr n.radios k hlt;have ks0:=hok.name;have hst:=DRadio.siz_tr n.radios[k];rw[DMode.siz_s] at hst;rw[zbo hlt] at s0 s1 s2 s3 s4 ks0 RU5 hst hsz;generalize hA:za4 n.radios k=A at *;generalize hP:za4 n.radios (k-1)=P at *;clear hA hP hok;obtain⟨au5,cu5,eu5,_,_,_⟩:=DMode.rd RU5.out;subst eu5;have i1:(0:Int)≤(k:Int):=O
           have i2:(k:Int)<(n.radios.length:Int):=O
           have yb:b<wr.heap.size:=O
           have HV:Hid (∀ W:World,IJ w w W→Calls Tryz.prog 103 #[.agg #[F A.name,I A.power,I A.feeder,I A.noise,I A.width,II au5 A.modes.length cu5]] W fun e w'=>e=.returned (.bool (radB A))∧IJ W W w'):=fun W hW=>validRadio_any A _ W ((RU5.out.below hW).mono hW.size) ks0 O
           go_wp2;have b1:IJ wr wr (wr.alloc (.cells #[F A.name,I A.power,I A.feeder,I A.noise,I A.width,II au5 A.modes.length cu5] 153)):=(Below.refl _ _).alloc (Nat.le_refl _) _;have f0:(wr.alloc (.cells #[F A.name,I A.power,I A.feeder,I A.noise,I A.width,II au5 A.modes.length cu5] 153)).cell? ⟨wr,0,none⟩=some (F A.name):=by simp[go_sem]
           have f1:(wr.alloc (.cells #[F A.name,I A.power,I A.feeder,I A.noise,I A.width,II au5 A.modes.length cu5] 153)).cell? ⟨wr,1,none⟩=some (I A.power):=by simp[go_sem]
           have f2:(wr.alloc (.cells #[F A.name,I A.power,I A.feeder,I A.noise,I A.width,II au5 A.modes.length cu5] 153)).cell? ⟨wr,2,none⟩=some (I A.feeder):=by simp[go_sem]
           have f3:(wr.alloc (.cells #[F A.name,I A.power,I A.feeder,I A.noise,I A.width,II au5 A.modes.length cu5] 153)).cell? ⟨wr,3,none⟩=some (I A.noise):=by simp[go_sem]
           have f4:(wr.alloc (.cells #[F A.name,I A.power,I A.feeder,I A.noise,I A.width,II au5 A.modes.length cu5] 153)).cell? ⟨wr,4,none⟩=some (I A.width):=by simp[go_sem]
           have f5:(wr.alloc (.cells #[F A.name,I A.power,I A.feeder,I A.noise,I A.width,II au5 A.modes.length cu5] 153)).cell? ⟨wr,5,none⟩=some (II au5 A.modes.length cu5):=by simp[go_sem]
           have fz:wr.heap.size<(wr.alloc (.cells #[F A.name,I A.power,I A.feeder,I A.noise,I A.width,II au5 A.modes.length cu5] 153)).heap.size:=by simp
           generalize hW1:(wr.alloc (.cells #[F A.name,I A.power,I A.feeder,I A.noise,I A.width,II au5 A.modes.length cu5] 153))=W1 at *;have m0:=(bat b1 (w.heap.size) 0 yn).trans n0;have m1:=(bat b1 (w.heap.size) 1 yn).trans n1;have m2:=(bat b1 (w.heap.size) 2 yn).trans n2;have m3:=(bat b1 (w.heap.size) 3 yn).trans n3;have BB:=J (BW.out.trans (b1.mono O));have BH:=J (HB.out.trans (b1.mono O));have B1:=J b1;have zz:=b1.size;clear b1 hW1 n0 n1 n2 n3;have HNB:Hid (zba radB zbx n.radios=false→netB n=false):=fun h=>by unfold netB;rw[h];simp
           by_cases c1:radB A=true
           ·have HM:Hid (radB A=true):=c1
            by_cases c3:0<k
            ·skip
             have i3:IntKind.i64.wrap ((k:Int)-1)=(k:Int)-1:=IntWalk.i64_in _ O;have i4:(0:Int)≤(k:Int)-1:=O
             have i6:(k:Int)-1<(n.radios.length:Int):=O
             have i7:(1:Int)≤(k:Int):=O
             have i8:decide (0<k)=true:=by simpa using c3
             have i5:((k:Int)-1).toNat=k-1:=O
             by_cases c4:ltS P.name A.name=true
             ·have le4:=geS_of_lt c4
              have HF:Hid (upOk radB zbx n.radios k=true):=by show _=_;rw[HUP.out c3,Bool.and_eq_true];exact⟨HM.out,c4⟩
              have fp:=(bat B1.out b _ yb).trans (SP.out c3);have oX:=zal (w0:=W1) fz;have oN:=zal (w0:=W1) (show w.heap.size<W1.heap.size by omega);have oB:=zal (w0:=W1) (show b<W1.heap.size by omega);rw[c1] at HV;refine zad W1.heap.size W1 (Below.refl _ _) OJ OJ ?_
              repeat (go_big_quiet_step (first|(go_at_call 103;exact zaj (Nat.le_refl _) (HV.out _ (BB.out.trans ((zaa _ _ _).mono BB.out.size))))))
              refine wpQuiet_nil ?_;rintro _ ⟨X,rfl⟩;have hX:=zaa W1.heap.size W1 X;clear oX oN oB;generalize over W1.heap.size W1 X=w2 at *;have BE:=J (BB.out.trans (hX.mono BB.out.size));have BF:=J (BH.out.trans (hX.mono O));clear hX;clear i3 i5;go_wp2;go_roundw
              case rel=>exact⟨k+1,O,by go_num,zbj HN.out (HF.out),BF.out⟩
              case measure=>simp[intOf];omega
             ·replace c4:ltS P.name A.name=false:=Bool.eq_false_iff.2 c4
              have le4:=geS_of_not c4;have HF:Hid (zba radB zbx n.radios=false):=za7 hlt (by rw[HUP.out c3,show zbx P A=false from c4];simp);have fp:=(bat B1.out b _ yb).trans (SP.out c3);have oX:=zal (w0:=W1) fz;have oN:=zal (w0:=W1) (show w.heap.size<W1.heap.size by omega);have oB:=zal (w0:=W1) (show b<W1.heap.size by omega);rw[c1] at HV;refine zad W1.heap.size W1 (Below.refl _ _) OJ OJ ?_
              repeat (go_big_quiet_step (first|(go_at_call 103;exact zaj (Nat.le_refl _) (HV.out _ (BB.out.trans ((zaa _ _ _).mono BB.out.size))))))
              refine wpQuiet_nil ?_;rintro _ ⟨X,rfl⟩;have hX:=zaa W1.heap.size W1 X;clear oX oN oB;generalize over W1.heap.size W1 X=w2 at *;have BE:=J (BB.out.trans (hX.mono BB.out.size));have BF:=J (BH.out.trans (hX.mono O));clear hX;clear i3 i5;go_wp2;go_ret;exact⟨by rw[HNB.out (HF.out)];rfl,BE.out⟩
            ·have i8:decide (0<k)=false:=by simpa using c3
             have HF:Hid (upOk radB zbx n.radios k=true):=HUZ.out O HM.out;have oX:=zal (w0:=W1) fz;have oN:=zal (w0:=W1) (show w.heap.size<W1.heap.size by omega);have oB:=zal (w0:=W1) (show b<W1.heap.size by omega);rw[c1] at HV;refine zad W1.heap.size W1 (Below.refl _ _) OJ OJ ?_
             repeat (go_big_quiet_step (first|(go_at_call 103;exact zaj (Nat.le_refl _) (HV.out _ (BB.out.trans ((zaa _ _ _).mono BB.out.size))))))
             refine wpQuiet_nil ?_;rintro _ ⟨X,rfl⟩;have hX:=zaa W1.heap.size W1 X;clear oX oN oB;generalize over W1.heap.size W1 X=w2 at *;have BE:=J (BB.out.trans (hX.mono BB.out.size));have BF:=J (BH.out.trans (hX.mono O));clear hX;go_wp2;go_roundw
             case rel=>exact⟨k+1,O,by go_num,zbj HN.out (HF.out),BF.out⟩
             case measure=>simp[intOf];omega
           ·replace c1:radB A=false:=Bool.eq_false_iff.2 c1
            have HF:Hid (zba radB zbx n.radios=false):=HUN.out c1;have oX:=zal (w0:=W1) fz;have oN:=zal (w0:=W1) (show w.heap.size<W1.heap.size by omega);have oB:=zal (w0:=W1) (show b<W1.heap.size by omega);rw[c1] at HV;refine zad W1.heap.size W1 (Below.refl _ _) OJ OJ ?_
            repeat (go_big_quiet_step (first|(go_at_call 103;exact zaj (Nat.le_refl _) (HV.out _ (BB.out.trans ((zaa _ _ _).mono BB.out.size))))))
            refine wpQuiet_nil ?_;rintro _ ⟨X,rfl⟩;have hX:=zaa W1.heap.size W1 X;clear oX oN oB;generalize over W1.heap.size W1 X=w2 at *;have BE:=J (BB.out.trans (hX.mono BB.out.size));have BF:=J (BH.out.trans (hX.mono O));clear hX;go_wp2;go_ret;exact⟨by rw[HNB.out (HF.out)];rfl,BE.out⟩
          ·obtain rfl:k=n.radios.length:=O
           have HRRadio:Hid (zba radB zbx n.radios=true):=zcp HN.out;clear hk HN hlt;go_wp2;go_loopw [120] (fun i wr=>∃ (k:Nat),k≤n.sectors.length∧i=I k∧(∀ j,j<k→upOk (fun x=>zan x&&zar n x) zbd n.sectors j=true)∧IJ (w.heap.size+1) (w.alloc (.cells #[II A0 n.sites.length C0,II A1 n.sectors.length C1,II A2 n.antennas.length C2,II A3 n.radios.length C3] 44)) wr) (fun i wr=>n.sectors.length-(intOf i).toNat)
           case atStart=>exact⟨0,Nat.zero_le _,rfl,fun j hj=>absurd hj O,by first|exact HB.out|exact Below.refl _ _⟩
           case round =>
            obtain⟨k,hk,rfl,hno,hb⟩:=hrel;have HN:=J hno;have HB:=J hb;have zb:=hb.size;simp at zb;clear hno hb;have BW:Hid (IJ w w wr):=B0.out.trans (HB.out.mono O);have yn:w.heap.size<wr.heap.size:=O
            have n0:wr.cell? ⟨w,0,none⟩=some (II A0 n.sites.length C0):=by rw[bat HB.out (w.heap.size) 0 O];simp[go_sem]
            have n1:wr.cell? ⟨w,1,none⟩=some (II A1 n.sectors.length C1):=by rw[bat HB.out (w.heap.size) 1 O];simp[go_sem]
            have n2:wr.cell? ⟨w,2,none⟩=some (II A2 n.antennas.length C2):=by rw[bat HB.out (w.heap.size) 2 O];simp[go_sem]
            have n3:wr.cell? ⟨w,3,none⟩=some (II A3 n.radios.length C3):=by rw[bat HB.out (w.heap.size) 3 O];simp[go_sem]
            obtain⟨aSector,cSector,eSector,_,_,hcl⟩:=DSector.rd H1.out;injection eSector with eSector1 _ eSector3;subst eSector1 eSector3;have HCL:=J hcl;clear hcl
            by_cases hlt:k<n.sectors.length
            ·obtain⟨b,off,ea,hbl,hat⟩:=HCL.out O
             subst ea;obtain⟨s0,s1,s2,s3,s4,s5,s6,s7,s8⟩:=hat k hlt;have hok:=all_ok hk_sectors hlt;rw[← bat BW.out b _ hbl] at s0 s1 s2 s3 s4 s5 s6 s7 s8;have sp:0<k→wr.cell? ⟨b,off+(k-1)*9,none⟩=some (F (zab n.sectors (k-1)).name):=fun h=>by
              have t:=(hat (k-1) O).1;rw[← bat BW.out b _ hbl,za5 (show k-1<n.sectors.length by omega)] at t;exact t
             have SP:=J sp;clear sp hat;have HUN:Hid ((fun x=>zan x&&zar n x) (zab n.sectors k)=false→zba (fun x=>zan x&&zar n x) zbd n.sectors=false):=fun h=>za7 hlt (zdv hlt (by rw[za5 hlt];exact h))
             have HUZ:Hid (k=0→(fun x=>zan x&&zar n x) (zab n.sectors k)=true→upOk (fun x=>zan x&&zar n x) zbd n.sectors k=true):=fun e h=>by subst e;rw[zc5 hlt,za5 hlt];exact h
             have HUP:Hid (0<k→upOk (fun x=>zan x&&zar n x) zbd n.sectors k=((fun x=>zan x&&zar n x) (zab n.sectors k)&&zbd (zab n.sectors (k-1)) (zab n.sectors k))):=fun h=>by rw[zdi h hlt,za5 hlt,za5 (show k-1<n.sectors.length by omega)]
             have hsz:=za3 DSector.tr n.sectors k hlt;have ks0:=hok.name;have ks1:=hok.site;have ks2:=hok.antenna;have ks3:=hok.radio;have ks4:=hok.band;rw[za5 hlt] at s0 s1 s2 s3 s4 s5 s6 s7 s8 ks0 ks1 ks2 ks3 ks4;generalize hA:zab n.sectors k=A at *;generalize hP:zab n.sectors (k-1)=P at *;clear hA hP hok;have i1:(0:Int)≤(k:Int):=O
             have i2:(k:Int)<(n.sectors.length:Int):=O
             have yb:b<wr.heap.size:=O
             have HV:Hid (∀ W:World,IJ w w W→Calls Tryz.prog 104 #[.agg #[F A.name,F A.site,F A.antenna,F A.radio,F A.band,I A.azimuth,I A.tilt,I A.above,I A.channel]] W fun e w'=>e=.returned (.bool (zan A))∧IJ W W w'):=fun W hW=>sectorValid_any A ks0 ks1 ks2 ks3 ks4 W
             have HP:Hid (∀ W:World,IJ w w W→Calls Tryz.prog 105 #[.agg #[II A0 n.sites.length C0,II (some ⟨b,off,none⟩) n.sectors.length C1,II A2 n.antennas.length C2,II A3 n.radios.length C3],.agg #[F A.name,F A.site,F A.antenna,F A.radio,F A.band,I A.azimuth,I A.tilt,I A.above,I A.channel]] W fun e w'=>e=.returned (.bool (zar n A))∧IJ W W w'):=fun W hW=>hasParts_any n A _ _ _ _ W ((H0.out.below hW).mono hW.size) ((H2.out.below hW).mono hW.size) ((H3.out.below hW).mono hW.size) O O O
             go_wp2;have b1:IJ wr wr (wr.alloc (.cells #[F A.name,F A.site,F A.antenna,F A.radio,F A.band,I A.azimuth,I A.tilt,I A.above,I A.channel] 105)):=(Below.refl _ _).alloc (Nat.le_refl _) _;have f0:(wr.alloc (.cells #[F A.name,F A.site,F A.antenna,F A.radio,F A.band,I A.azimuth,I A.tilt,I A.above,I A.channel] 105)).cell? ⟨wr,0,none⟩=some (F A.name):=by simp[go_sem]
             have f1:(wr.alloc (.cells #[F A.name,F A.site,F A.antenna,F A.radio,F A.band,I A.azimuth,I A.tilt,I A.above,I A.channel] 105)).cell? ⟨wr,1,none⟩=some (F A.site):=by simp[go_sem]
             have f2:(wr.alloc (.cells #[F A.name,F A.site,F A.antenna,F A.radio,F A.band,I A.azimuth,I A.tilt,I A.above,I A.channel] 105)).cell? ⟨wr,2,none⟩=some (F A.antenna):=by simp[go_sem]
             have f3:(wr.alloc (.cells #[F A.name,F A.site,F A.antenna,F A.radio,F A.band,I A.azimuth,I A.tilt,I A.above,I A.channel] 105)).cell? ⟨wr,3,none⟩=some (F A.radio):=by simp[go_sem]
             have f4:(wr.alloc (.cells #[F A.name,F A.site,F A.antenna,F A.radio,F A.band,I A.azimuth,I A.tilt,I A.above,I A.channel] 105)).cell? ⟨wr,4,none⟩=some (F A.band):=by simp[go_sem]
             have f5:(wr.alloc (.cells #[F A.name,F A.site,F A.antenna,F A.radio,F A.band,I A.azimuth,I A.tilt,I A.above,I A.channel] 105)).cell? ⟨wr,5,none⟩=some (I A.azimuth):=by simp[go_sem]
             have f6:(wr.alloc (.cells #[F A.name,F A.site,F A.antenna,F A.radio,F A.band,I A.azimuth,I A.tilt,I A.above,I A.channel] 105)).cell? ⟨wr,6,none⟩=some (I A.tilt):=by simp[go_sem]
             have f7:(wr.alloc (.cells #[F A.name,F A.site,F A.antenna,F A.radio,F A.band,I A.azimuth,I A.tilt,I A.above,I A.channel] 105)).cell? ⟨wr,7,none⟩=some (I A.above):=by simp[go_sem]
             have f8:(wr.alloc (.cells #[F A.name,F A.site,F A.antenna,F A.radio,F A.band,I A.azimuth,I A.tilt,I A.above,I A.channel] 105)).cell? ⟨wr,8,none⟩=some (I A.channel):=by simp[go_sem]
             have fz:wr.heap.size<(wr.alloc (.cells #[F A.name,F A.site,F A.antenna,F A.radio,F A.band,I A.azimuth,I A.tilt,I A.above,I A.channel] 105)).heap.size:=by simp
             generalize hW1:(wr.alloc (.cells #[F A.name,F A.site,F A.antenna,F A.radio,F A.band,I A.azimuth,I A.tilt,I A.above,I A.channel] 105))=W1 at *;have m0:=(bat b1 (w.heap.size) 0 yn).trans n0;have m1:=(bat b1 (w.heap.size) 1 yn).trans n1;have m2:=(bat b1 (w.heap.size) 2 yn).trans n2;have m3:=(bat b1 (w.heap.size) 3 yn).trans n3;have BB:=J (BW.out.trans (b1.mono O));have BH:=J (HB.out.trans (b1.mono O));have B1:=J b1;have zz:=b1.size;clear b1 hW1 n0 n1 n2 n3;have HNB:Hid (zba (fun x=>zan x&&zar n x) zbd n.sectors=false→netB n=false):=fun h=>by unfold netB;rw[h];simp
             by_cases c1:zan A=true
             ·by_cases c2:zar n A=true
              ·have HM:Hid ((fun x=>zan x&&zar n x) A=true):=by show (zan A&&zar n A)=true;rw[c1,c2];rfl
               by_cases c3:0<k
               ·skip
                have i3:IntKind.i64.wrap ((k:Int)-1)=(k:Int)-1:=IntWalk.i64_in _ O;have i4:(0:Int)≤(k:Int)-1:=O
                have i6:(k:Int)-1<(n.sectors.length:Int):=O
                have i7:(1:Int)≤(k:Int):=O
                have i8:decide (0<k)=true:=by simpa using c3
                have i5:((k:Int)-1).toNat=k-1:=O
                by_cases c4:ltS P.name A.name=true
                ·have le4:=geS_of_lt c4
                 have HF:Hid (upOk (fun x=>zan x&&zar n x) zbd n.sectors k=true):=by show _=_;rw[HUP.out c3,Bool.and_eq_true];exact⟨HM.out,c4⟩
                 have fp:=(bat B1.out b _ yb).trans (SP.out c3);have oX:=zal (w0:=W1) fz;have oN:=zal (w0:=W1) (show w.heap.size<W1.heap.size by omega);have oB:=zal (w0:=W1) (show b<W1.heap.size by omega);rw[c1] at HV;rw[c2] at HP;refine zad W1.heap.size W1 (Below.refl _ _) OJ OJ ?_
                 repeat (go_big_quiet_step (first|(go_at_call 104;exact zaj (Nat.le_refl _) (HV.out _ (BB.out.trans ((zaa _ _ _).mono BB.out.size))))|(go_at_call 105;exact zaj (Nat.le_refl _) (HP.out _ (BB.out.trans ((zaa _ _ _).mono BB.out.size))))))
                 refine wpQuiet_nil ?_;rintro _ ⟨X,rfl⟩;have hX:=zaa W1.heap.size W1 X;clear oX oN oB;generalize over W1.heap.size W1 X=w2 at *;have BE:=J (BB.out.trans (hX.mono BB.out.size));have BF:=J (BH.out.trans (hX.mono O));clear hX;clear i3 i5;go_wp2;go_roundw
                 case rel=>exact⟨k+1,O,by go_num,zbj HN.out (HF.out),BF.out⟩
                 case measure=>simp[intOf];omega
                ·replace c4:ltS P.name A.name=false:=Bool.eq_false_iff.2 c4
                 have le4:=geS_of_not c4;have HF:Hid (zba (fun x=>zan x&&zar n x) zbd n.sectors=false):=za7 hlt (by rw[HUP.out c3,show zbd P A=false from c4];simp);have fp:=(bat B1.out b _ yb).trans (SP.out c3);have oX:=zal (w0:=W1) fz;have oN:=zal (w0:=W1) (show w.heap.size<W1.heap.size by omega);have oB:=zal (w0:=W1) (show b<W1.heap.size by omega);rw[c1] at HV;rw[c2] at HP;refine zad W1.heap.size W1 (Below.refl _ _) OJ OJ ?_
                 repeat (go_big_quiet_step (first|(go_at_call 104;exact zaj (Nat.le_refl _) (HV.out _ (BB.out.trans ((zaa _ _ _).mono BB.out.size))))|(go_at_call 105;exact zaj (Nat.le_refl _) (HP.out _ (BB.out.trans ((zaa _ _ _).mono BB.out.size))))))
                 refine wpQuiet_nil ?_;rintro _ ⟨X,rfl⟩;have hX:=zaa W1.heap.size W1 X;clear oX oN oB;generalize over W1.heap.size W1 X=w2 at *;have BE:=J (BB.out.trans (hX.mono BB.out.size));have BF:=J (BH.out.trans (hX.mono O));clear hX;clear i3 i5;go_wp2;go_ret;exact⟨by rw[HNB.out (HF.out)];rfl,BE.out⟩
               ·have i8:decide (0<k)=false:=by simpa using c3
                have HF:Hid (upOk (fun x=>zan x&&zar n x) zbd n.sectors k=true):=HUZ.out O HM.out;have oX:=zal (w0:=W1) fz;have oN:=zal (w0:=W1) (show w.heap.size<W1.heap.size by omega);have oB:=zal (w0:=W1) (show b<W1.heap.size by omega);rw[c1] at HV;rw[c2] at HP;refine zad W1.heap.size W1 (Below.refl _ _) OJ OJ ?_
                repeat (go_big_quiet_step (first|(go_at_call 104;exact zaj (Nat.le_refl _) (HV.out _ (BB.out.trans ((zaa _ _ _).mono BB.out.size))))|(go_at_call 105;exact zaj (Nat.le_refl _) (HP.out _ (BB.out.trans ((zaa _ _ _).mono BB.out.size))))))
                refine wpQuiet_nil ?_;rintro _ ⟨X,rfl⟩;have hX:=zaa W1.heap.size W1 X;clear oX oN oB;generalize over W1.heap.size W1 X=w2 at *;have BE:=J (BB.out.trans (hX.mono BB.out.size));have BF:=J (BH.out.trans (hX.mono O));clear hX;go_wp2;go_roundw
                case rel=>exact⟨k+1,O,by go_num,zbj HN.out (HF.out),BF.out⟩
                case measure=>simp[intOf];omega
              ·replace c2:zar n A=false:=Bool.eq_false_iff.2 c2
               have HF:Hid (zba (fun x=>zan x&&zar n x) zbd n.sectors=false):=HUN.out (by show (zan A&&zar n A)=false;rw[c2,Bool.and_false]);have oX:=zal (w0:=W1) fz;have oN:=zal (w0:=W1) (show w.heap.size<W1.heap.size by omega);have oB:=zal (w0:=W1) (show b<W1.heap.size by omega);rw[c1] at HV;rw[c2] at HP;refine zad W1.heap.size W1 (Below.refl _ _) OJ OJ ?_
               repeat (go_big_quiet_step (first|(go_at_call 104;exact zaj (Nat.le_refl _) (HV.out _ (BB.out.trans ((zaa _ _ _).mono BB.out.size))))|(go_at_call 105;exact zaj (Nat.le_refl _) (HP.out _ (BB.out.trans ((zaa _ _ _).mono BB.out.size))))))
               refine wpQuiet_nil ?_;rintro _ ⟨X,rfl⟩;have hX:=zaa W1.heap.size W1 X;clear oX oN oB;generalize over W1.heap.size W1 X=w2 at *;have BE:=J (BB.out.trans (hX.mono BB.out.size));have BF:=J (BH.out.trans (hX.mono O));clear hX;go_wp2;go_ret;exact⟨by rw[HNB.out (HF.out)];rfl,BE.out⟩
             ·replace c1:zan A=false:=Bool.eq_false_iff.2 c1
              have HF:Hid (zba (fun x=>zan x&&zar n x) zbd n.sectors=false):=HUN.out (by show (zan A&&zar n A)=false;rw[c1,Bool.false_and]);have oX:=zal (w0:=W1) fz;have oN:=zal (w0:=W1) (show w.heap.size<W1.heap.size by omega);have oB:=zal (w0:=W1) (show b<W1.heap.size by omega);rw[c1] at HV;refine zad W1.heap.size W1 (Below.refl _ _) OJ OJ ?_
              repeat (go_big_quiet_step (first|(go_at_call 104;exact zaj (Nat.le_refl _) (HV.out _ (BB.out.trans ((zaa _ _ _).mono BB.out.size))))))
              refine wpQuiet_nil ?_;rintro _ ⟨X,rfl⟩;have hX:=zaa W1.heap.size W1 X;clear oX oN oB;generalize over W1.heap.size W1 X=w2 at *;have BE:=J (BB.out.trans (hX.mono BB.out.size));have BF:=J (BH.out.trans (hX.mono O));clear hX;go_wp2;go_ret;exact⟨by rw[HNB.out (HF.out)];rfl,BE.out⟩
            ·obtain rfl:k=n.sectors.length:=O
             have HRSector:Hid (zba (fun x=>zan x&&zar n x) zbd n.sectors=true):=zcp HN.out;clear hk HN hlt;have HT:Hid (netB n=true):=by show _=_;unfold netB;rw[decide_eq_true h0,decide_eq_true h1,decide_eq_true h2,decide_eq_true h3,HRSite.out,HRAntenna.out,HRRadio.out,HRSector.out];rfl
             go_wp2;go_ret;exact⟨by rw[HT.out];rfl,BW.out⟩
    ·have hx:8<n.radios.length:=O
     have HE:Hid (netB n=false):=by show _=_;unfold netB;rw[decide_eq_false h3];simp
     go_enter Tryz.func52,Tryz.ntmps52;go_wp2;go_ret;exact⟨by rw[HE.out];rfl,B0.out⟩
   ·have hx:8<n.antennas.length:=O
    have HE:Hid (netB n=false):=by show _=_;unfold netB;rw[decide_eq_false h2];simp
    go_enter Tryz.func52,Tryz.ntmps52;go_wp2;go_ret;exact⟨by rw[HE.out];rfl,B0.out⟩
  ·have hx:24<n.sectors.length:=O
   have HE:Hid (netB n=false):=by show _=_;unfold netB;rw[decide_eq_false h1];simp
   go_enter Tryz.func52,Tryz.ntmps52;go_wp2;go_ret;exact⟨by rw[HE.out];rfl,B0.out⟩
 ·have hx:12<n.sites.length:=O
  have HE:Hid (netB n=false):=by show _=_;unfold netB;rw[decide_eq_false h0];simp
  go_enter Tryz.func52,Tryz.ntmps52;go_wp2;go_ret;exact⟨by rw[HE.out];rfl,B0.out⟩
end Go.Proofs.YtgmapjgodibchaaGreatDoor
