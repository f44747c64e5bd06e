/- Contract: networks are valid, for the reference. Conditions: bounded sizes. -/
import Derived.Test.YtgmapjgodibchaaGreatDoorNetE
set_option linter.unusedVariables false
set_option linter.unusedSimpArgs false
namespace Go.Proofs.YtgmapjgodibchaaGreatDoor
open Go.RowKit
set_option maxHeartbeats 40000000
set_option maxRecDepth 100000
def zde (n:DNetwork):Bool:=zba antB zbb n.antennas&&(zba radB zbx n.radios&&(decide (n.antennas.length≤8)&&decide (n.radios.length≤8)))
theorem l14Models_any (n:DNetwork) (v0 v1 v2 v3:Value) (bp:Nat) (w:World) (r0:Rd w w (DSite.sT n.sites) v0) (r1:Rd w w (DSector.sT n.sectors) v1) (r2:Rd w w (DAntenna.sT n.antennas) v2) (r3:Rd w w (DRadio.sT n.radios) v3) (hbp:bp<w.heap.size) (p0:w.cell? ⟨bp,0,none⟩=some v0) (p1:w.cell? ⟨bp,1,none⟩=some v1) (p2:w.cell? ⟨bp,2,none⟩=some v2) (p3:w.cell? ⟨bp,3,none⟩=some v3) (hs:sizL n.tr≤1099511627776) (hk:n.ok) :
  Calls Tryz.prog 129 #[.pointer (some ⟨bp,0,none⟩)] w fun e w'=>e=.returned (.bool (zde n))∧IJ w w w':=by
 have hq:=DNetwork.siz_tr n;rw[DSite.siz_s,DSector.siz_s,DAntenna.siz_s,DRadio.siz_s] at hq;have hk_sites:=hk.sites;have hk_sectors:=hk.sectors;have hk_antennas:=hk.antennas;have hk_radios:=hk.radios;clear hk;have H0:=J r0;have H1:=J r1;have H2:=J r2;have H3:=J r3;clear r0 r1 r2 r3;obtain⟨A0,C0,e0,_,_,_⟩:=DSite.rd H0.out;obtain⟨A1,C1,e1,_,_,_⟩:=DSector.rd H1.out;obtain⟨A2,C2,e2,_,_,_⟩:=DAntenna.rd H2.out;obtain⟨A3,C3,e3,_,_,_⟩:=DRadio.rd H3.out;subst e0 e1 e2 e3;have B0:Hid (IJ w w w):=Below.refl _ _;go_enter Tryz.func129,Tryz.ntmps129;go_wp2;go_loopw [3] (fun i wr=>∃ (k:Nat),k≤n.antennas.length∧i=I k∧(∀ j,j<k→upOk antB zbb n.antennas j=true)∧IJ (w.heap.size) w wr) (fun i wr=>n.antennas.length-(intOf i).toNat)
 case atStart=>exact⟨0,Nat.zero_le _,rfl,fun j hj=>absurd hj O,by first|exact HB.out|exact Below.refl _ _⟩
 case round =>
  obtain⟨k,hk,rfl,hno,hb⟩:=hrel;have HN:=J hno;have HB:=J hb;have zb:=hb.size;clear hno hb;have BW:Hid (IJ w w wr):=B0.out.trans (HB.out.mono O);have yn:bp<wr.heap.size:=O
  have n0:wr.cell? ⟨bp,0,none⟩=some (II A0 n.sites.length C0):=by rw[bat HB.out (bp) 0 O];exact p0
  have n1:wr.cell? ⟨bp,1,none⟩=some (II A1 n.sectors.length C1):=by rw[bat HB.out (bp) 1 O];exact p1
  have n2:wr.cell? ⟨bp,2,none⟩=some (II A2 n.antennas.length C2):=by rw[bat HB.out (bp) 2 O];exact p2
  have n3:wr.cell? ⟨bp,3,none⟩=some (II A3 n.radios.length C3):=by rw[bat HB.out (bp) 3 O];exact p3
  obtain⟨aAntenna,cAntenna,eAntenna,_,_,hcl⟩:=DAntenna.rd H2.out;injection eAntenna with eAntenna1 _ eAntenna3;subst eAntenna1 eAntenna3;have HCL:=J hcl;clear hcl
  by_cases hlt:k<n.antennas.length
  ·obtain⟨b,off,ea,hbl,hat⟩:=HCL.out O
   subst ea;obtain⟨s0,s1,⟨u2,s2,ru2⟩,⟨u3,s3,ru3⟩⟩:=hat k hlt;have hok:=all_ok hk_antennas hlt;have RU2:=J ru2;have RU3:=J ru3;clear ru2 ru3;rw[← bat BW.out b _ hbl] at s0 s1 s2 s3;have sp:0<k→wr.cell? ⟨b,off+(k-1)*4,none⟩=some (F (zav n.antennas (k-1)).name):=fun h=>by
    have t:=(hat (k-1) O).1;rw[← bat BW.out b _ hbl,zbf (show k-1<n.antennas.length by omega)] at t;exact t
   have SP:=J sp;clear sp hat;have HUN:Hid (antB (zav n.antennas k)=false→zba antB zbb n.antennas=false):=fun h=>za7 hlt (zdv hlt (by rw[zbf hlt];exact h))
   have HUZ:Hid (k=0→antB (zav n.antennas k)=true→upOk antB zbb n.antennas k=true):=fun e h=>by subst e;rw[zc5 hlt,zbf hlt];exact h
   have HUP:Hid (0<k→upOk antB zbb n.antennas k=(antB (zav n.antennas k)&&zbb (zav n.antennas (k-1)) (zav n.antennas k))):=fun h=>by rw[zdi h hlt,zbf hlt,zbf (show k-1<n.antennas.length by omega)]
   have hsz:=za3 DAntenna.tr n.antennas k hlt;have ks0:=hok.name;have hst:=DAntenna.siz_tr n.antennas[k];rw[zcb,zcb] at hst;rw[zbf hlt] at s0 s1 ks0 RU2 RU3 hst hsz;generalize hA:zav n.antennas k=A at *;generalize hP:zav n.antennas (k-1)=P at *;clear hA hP hok;obtain⟨au2,cu2,eu2,_,_,_⟩:=Rd.ints RU2.out;subst eu2;obtain⟨au3,cu3,eu3,_,_,_⟩:=Rd.ints RU3.out;subst eu3;have i1:(0:Int)≤(k:Int):=O
   have i2:(k:Int)<(n.antennas.length:Int):=O
   have yb:b<wr.heap.size:=O
   have HV:Hid (∀ W:World,IJ wr wr W→Calls Tryz.prog 167 #[.pointer (some ⟨b,off+k*4,none⟩)] W fun e w'=>e=.returned (.bool (antB A))∧W=w'):=fun W hW=>l06Ok_any A _ _ b (off+k*4) W.heap.size W ((RU2.out.below (BW.out.trans (hW.mono BW.out.size))).mono (BW.out.trans (hW.mono BW.out.size)).size) ((RU3.out.below (BW.out.trans (hW.mono BW.out.size))).mono (BW.out.trans (hW.mono BW.out.size)).size) (Nat.le_refl _) ((bat hW b _ yb).trans s0) ((bat hW b _ yb).trans s1) ((bat hW b _ yb).trans s2) ((bat hW b _ yb).trans s3) ks0 O O
   have HNB:Hid (zba antB zbb n.antennas=false→zde n=false):=fun h=>by unfold zde;rw[h];simp
   by_cases c1:antB A=true
   ·have HM:Hid (antB A=true):=c1
    by_cases c3:0<k
    ·skip
     have i3:IntKind.i64.wrap ((k:Int)-1)=(k:Int)-1:=IntWalk.i64_in _ O;have i4:(0:Int)≤(k:Int)-1:=O
     have i6:(k:Int)-1<(n.antennas.length:Int):=O
     have i7:(1:Int)≤(k:Int):=O
     have i8:decide (0<k)=true:=by simpa using c3
     have i5:((k:Int)-1).toNat=k-1:=O
     by_cases c4:ltS P.name A.name=true
     ·have le4:Op.bytesLess P.name.toList A.name.toList=true:=c4
      have HF:Hid (upOk antB zbb n.antennas k=true):=by show _=_;rw[HUP.out c3,Bool.and_eq_true];exact⟨HM.out,c4⟩
      have fp:=SP.out c3;have oN:=zal (w0:=wr) yn;have oB:=zal (w0:=wr) yb;rw[c1] at HV;go_wp2;refine zad wr.heap.size wr (Below.refl _ _) OJ OJ ?_
      repeat (go_big_quiet_step (first|(go_at_call 167;exact zbm (HV.out _ (zaa _ _ _)))))
      refine wpQuiet_nil ?_;rintro _ ⟨X,rfl⟩;have hX:=zaa wr.heap.size wr X;clear oN oB;generalize over wr.heap.size wr X=w2 at *;have BE:=J (BW.out.trans (hX.mono BW.out.size));have BF:=J (HB.out.trans (hX.mono HB.out.size));clear hX;clear i3 i5;go_wp2;go_roundw
      case rel=>exact⟨k+1,O,by go_num,zbj HN.out (HF.out),BF.out⟩
      case measure=>simp[intOf];omega
     ·replace c4:ltS P.name A.name=false:=Bool.eq_false_iff.2 c4
      have le4:Op.bytesLess P.name.toList A.name.toList=false:=c4;have HF:Hid (zba antB zbb n.antennas=false):=za7 hlt (by rw[HUP.out c3,show zbb P A=false from c4];simp);have fp:=SP.out c3;have oN:=zal (w0:=wr) yn;have oB:=zal (w0:=wr) yb;rw[c1] at HV;go_wp2;refine zad wr.heap.size wr (Below.refl _ _) OJ OJ ?_
      repeat (go_big_quiet_step (first|(go_at_call 167;exact zbm (HV.out _ (zaa _ _ _)))))
      refine wpQuiet_nil ?_;rintro _ ⟨X,rfl⟩;have hX:=zaa wr.heap.size wr X;clear oN oB;generalize over wr.heap.size wr X=w2 at *;have BE:=J (BW.out.trans (hX.mono BW.out.size));have BF:=J (HB.out.trans (hX.mono HB.out.size));clear hX;clear i3 i5;go_wp2;go_ret;exact⟨by rw[HNB.out (HF.out)];rfl,BE.out⟩
    ·have i8:decide (0<k)=false:=by simpa using c3
     have HF:Hid (upOk antB zbb n.antennas k=true):=HUZ.out O HM.out;have oN:=zal (w0:=wr) yn;have oB:=zal (w0:=wr) yb;rw[c1] at HV;go_wp2;refine zad wr.heap.size wr (Below.refl _ _) OJ OJ ?_
     repeat (go_big_quiet_step (first|(go_at_call 167;exact zbm (HV.out _ (zaa _ _ _)))))
     refine wpQuiet_nil ?_;rintro _ ⟨X,rfl⟩;have hX:=zaa wr.heap.size wr X;clear oN oB;generalize over wr.heap.size wr X=w2 at *;have BE:=J (BW.out.trans (hX.mono BW.out.size));have BF:=J (HB.out.trans (hX.mono HB.out.size));clear hX;go_wp2;go_roundw
     case rel=>exact⟨k+1,O,by go_num,zbj HN.out (HF.out),BF.out⟩
     case measure=>simp[intOf];omega
   ·replace c1:antB A=false:=Bool.eq_false_iff.2 c1
    have HF:Hid (zba antB zbb n.antennas=false):=HUN.out c1;have oN:=zal (w0:=wr) yn;have oB:=zal (w0:=wr) yb;rw[c1] at HV;go_wp2;refine zad wr.heap.size wr (Below.refl _ _) OJ OJ ?_
    repeat (go_big_quiet_step (first|(go_at_call 167;exact zbm (HV.out _ (zaa _ _ _)))))
    refine wpQuiet_nil ?_;rintro _ ⟨X,rfl⟩;have hX:=zaa wr.heap.size wr X;clear oN oB;generalize over wr.heap.size wr X=w2 at *;have BE:=J (BW.out.trans (hX.mono BW.out.size));have BF:=J (HB.out.trans (hX.mono HB.out.size));clear hX;go_wp2;go_ret;exact⟨by rw[HNB.out (HF.out)];rfl,BE.out⟩
  ·obtain rfl:k=n.antennas.length:=O
   have HRAntenna:Hid (zba antB zbb n.antennas=true):=zcp HN.out;clear hk HN hlt;go_wp2;go_loopw [4] (fun i wr=>∃ (k:Nat),k≤n.radios.length∧i=I k∧(∀ j,j<k→upOk radB zbx n.radios j=true)∧IJ (w.heap.size) w wr) (fun i wr=>n.radios.length-(intOf i).toNat)
   case atStart=>exact⟨0,Nat.zero_le _,rfl,fun j hj=>absurd hj O,by first|exact HB.out|exact Below.refl _ _⟩
   case round =>
    obtain⟨k,hk,rfl,hno,hb⟩:=hrel;have HN:=J hno;have HB:=J hb;have zb:=hb.size;clear hno hb;have BW:Hid (IJ w w wr):=B0.out.trans (HB.out.mono O);have yn:bp<wr.heap.size:=O
    have n0:wr.cell? ⟨bp,0,none⟩=some (II A0 n.sites.length C0):=by rw[bat HB.out (bp) 0 O];exact p0
    have n1:wr.cell? ⟨bp,1,none⟩=some (II A1 n.sectors.length C1):=by rw[bat HB.out (bp) 1 O];exact p1
    have n2:wr.cell? ⟨bp,2,none⟩=some (II A2 n.antennas.length C2):=by rw[bat HB.out (bp) 2 O];exact p2
    have n3:wr.cell? ⟨bp,3,none⟩=some (II A3 n.radios.length C3):=by rw[bat HB.out (bp) 3 O];exact p3
    obtain⟨aRadio,cRadio,eRadio,_,_,hcl⟩:=DRadio.rd H3.out;injection eRadio with eRadio1 _ eRadio3;subst eRadio1 eRadio3;have HCL:=J hcl;clear hcl
    by_cases hlt:k<n.radios.length
    ·obtain⟨b,off,ea,hbl,hat⟩:=HCL.out O
     subst ea;obtain⟨s0,s1,s2,s3,s4,⟨u5,s5,ru5⟩⟩:=hat k hlt;have hok:=all_ok hk_radios hlt;have RU5:=J ru5;clear ru5;rw[← bat BW.out b _ hbl] at s0 s1 s2 s3 s4 s5;have sp:0<k→wr.cell? ⟨b,off+(k-1)*6,none⟩=some (F (za4 n.radios (k-1)).name):=fun h=>by
      have t:=(hat (k-1) O).1;rw[← bat BW.out b _ hbl,zbo (show k-1<n.radios.length by omega)] at t;exact t
     have SP:=J sp;clear sp hat;have HUN:Hid (radB (za4 n.radios k)=false→zba radB zbx n.radios=false):=fun h=>za7 hlt (zdv hlt (by rw[zbo hlt];exact h))
     have HUZ:Hid (k=0→radB (za4 n.radios k)=true→upOk radB zbx n.radios k=true):=fun e h=>by subst e;rw[zc5 hlt,zbo hlt];exact h
     have HUP:Hid (0<k→upOk radB zbx n.radios k=(radB (za4 n.radios k)&&zbx (za4 n.radios (k-1)) (za4 n.radios k))):=fun h=>by rw[zdi h hlt,zbo hlt,zbo (show k-1<n.radios.length by omega)]
     have hsz:=za3 DRadio.tr n.radios k hlt;have ks0:=hok.name;have hst:=DRadio.siz_tr n.radios[k];rw[DMode.siz_s] at hst;rw[zbo hlt] at s0 s1 s2 s3 s4 ks0 RU5 hst hsz;generalize hA:za4 n.radios k=A at *;generalize hP:za4 n.radios (k-1)=P at *;clear hA hP hok;obtain⟨au5,cu5,eu5,_,_,_⟩:=DMode.rd RU5.out;subst eu5;have i1:(0:Int)≤(k:Int):=O
     have i2:(k:Int)<(n.radios.length:Int):=O
     have yb:b<wr.heap.size:=O
     have HV:Hid (∀ W:World,IJ wr wr W→Calls Tryz.prog 168 #[.pointer (some ⟨b,off+k*6,none⟩)] W fun e w'=>e=.returned (.bool (radB A))∧IJ W W w'):=fun W hW=>l07Ok_any A _ b (off+k*6) W ((RU5.out.below (BW.out.trans (hW.mono BW.out.size))).mono (BW.out.trans (hW.mono BW.out.size)).size) (by have:=hW.size;omega) ((bat hW b _ yb).trans s0) ((bat hW b _ yb).trans s1) ((bat hW b _ yb).trans s2) ((bat hW b _ yb).trans s3) ((bat hW b _ yb).trans s4) ((bat hW b _ yb).trans s5) ks0 O
     have HNB:Hid (zba radB zbx n.radios=false→zde n=false):=fun h=>by unfold zde;rw[h];simp
     by_cases c1:radB A=true
     ·have HM:Hid (radB A=true):=c1
      by_cases c3:0<k
      ·skip
       have i3:IntKind.i64.wrap ((k:Int)-1)=(k:Int)-1:=IntWalk.i64_in _ O;have i4:(0:Int)≤(k:Int)-1:=O
       have i6:(k:Int)-1<(n.radios.length:Int):=O
       have i7:(1:Int)≤(k:Int):=O
       have i8:decide (0<k)=true:=by simpa using c3
       have i5:((k:Int)-1).toNat=k-1:=O
       by_cases c4:ltS P.name A.name=true
       ·have le4:Op.bytesLess P.name.toList A.name.toList=true:=c4
        have HF:Hid (upOk radB zbx n.radios k=true):=by show _=_;rw[HUP.out c3,Bool.and_eq_true];exact⟨HM.out,c4⟩
        have fp:=SP.out c3;have oN:=zal (w0:=wr) yn;have oB:=zal (w0:=wr) yb;rw[c1] at HV;go_wp2;refine zad wr.heap.size wr (Below.refl _ _) OJ OJ ?_
        repeat (go_big_quiet_step (first|(go_at_call 168;exact zaj (Nat.le_refl _) (HV.out _ (zaa _ _ _)))))
        refine wpQuiet_nil ?_;rintro _ ⟨X,rfl⟩;have hX:=zaa wr.heap.size wr X;clear oN oB;generalize over wr.heap.size wr X=w2 at *;have BE:=J (BW.out.trans (hX.mono BW.out.size));have BF:=J (HB.out.trans (hX.mono HB.out.size));clear hX;clear i3 i5;go_wp2;go_roundw
        case rel=>exact⟨k+1,O,by go_num,zbj HN.out (HF.out),BF.out⟩
        case measure=>simp[intOf];omega
       ·replace c4:ltS P.name A.name=false:=Bool.eq_false_iff.2 c4
        have le4:Op.bytesLess P.name.toList A.name.toList=false:=c4;have HF:Hid (zba radB zbx n.radios=false):=za7 hlt (by rw[HUP.out c3,show zbx P A=false from c4];simp);have fp:=SP.out c3;have oN:=zal (w0:=wr) yn;have oB:=zal (w0:=wr) yb;rw[c1] at HV;go_wp2;refine zad wr.heap.size wr (Below.refl _ _) OJ OJ ?_
        repeat (go_big_quiet_step (first|(go_at_call 168;exact zaj (Nat.le_refl _) (HV.out _ (zaa _ _ _)))))
        refine wpQuiet_nil ?_;rintro _ ⟨X,rfl⟩;have hX:=zaa wr.heap.size wr X;clear oN oB;generalize over wr.heap.size wr X=w2 at *;have BE:=J (BW.out.trans (hX.mono BW.out.size));have BF:=J (HB.out.trans (hX.mono HB.out.size));clear hX;clear i3 i5;go_wp2;go_ret;exact⟨by rw[HNB.out (HF.out)];rfl,BE.out⟩
      ·have i8:decide (0<k)=false:=by simpa using c3
       have HF:Hid (upOk radB zbx n.radios k=true):=HUZ.out O HM.out;have oN:=zal (w0:=wr) yn;have oB:=zal (w0:=wr) yb;rw[c1] at HV;go_wp2;refine zad wr.heap.size wr (Below.refl _ _) OJ OJ ?_
       repeat (go_big_quiet_step (first|(go_at_call 168;exact zaj (Nat.le_refl _) (HV.out _ (zaa _ _ _)))))
       refine wpQuiet_nil ?_;rintro _ ⟨X,rfl⟩;have hX:=zaa wr.heap.size wr X;clear oN oB;generalize over wr.heap.size wr X=w2 at *;have BE:=J (BW.out.trans (hX.mono BW.out.size));have BF:=J (HB.out.trans (hX.mono HB.out.size));clear hX;go_wp2;go_roundw
       case rel=>exact⟨k+1,O,by go_num,zbj HN.out (HF.out),BF.out⟩
       case measure=>simp[intOf];omega
     ·replace c1:radB A=false:=Bool.eq_false_iff.2 c1
      have HF:Hid (zba radB zbx n.radios=false):=HUN.out c1;have oN:=zal (w0:=wr) yn;have oB:=zal (w0:=wr) yb;rw[c1] at HV;go_wp2;refine zad wr.heap.size wr (Below.refl _ _) OJ OJ ?_
      repeat (go_big_quiet_step (first|(go_at_call 168;exact zaj (Nat.le_refl _) (HV.out _ (zaa _ _ _)))))
      refine wpQuiet_nil ?_;rintro _ ⟨X,rfl⟩;have hX:=zaa wr.heap.size wr X;clear oN oB;generalize over wr.heap.size wr X=w2 at *;have BE:=J (BW.out.trans (hX.mono BW.out.size));have BF:=J (HB.out.trans (hX.mono HB.out.size));clear hX;go_wp2;go_ret;exact⟨by rw[HNB.out (HF.out)];rfl,BE.out⟩
    ·obtain rfl:k=n.radios.length:=O
     have HRRadio:Hid (zba radB zbx n.radios=true):=zcp HN.out;clear hk HN hlt
     by_cases h2:n.antennas.length≤8
     ·have h2i:(n.antennas.length:Int)≤8:=O
      have HT:Hid (zde n=decide (n.radios.length≤8)):=by show _=_;unfold zde;rw[HRAntenna.out,HRRadio.out,decide_eq_true h2];rfl
      have HD3:Hid (decide ((n.radios.length:Int)≤8)=decide (n.radios.length≤8)):=decide_eq_decide.2 O;go_wp2;go_ret;exact⟨by rw[HT.out,← HD3.out];rfl,BW.out⟩
     ·have h2i:8<n.antennas.length:=O
      have HT:Hid (zde n=false):=by show _=_;unfold zde;rw[decide_eq_false h2];simp
      go_wp2;go_ret;exact⟨by rw[HT.out];rfl,BW.out⟩
theorem netB_eq (n:DNetwork):netB n=(zde n&&(decide (n.sites.length≤12)&&(decide (n.sectors.length≤24)&&(zba zbw zck n.sites&&zba (fun x=>zan x&&zar n x) zbd n.sectors)))):=by
 unfold netB zde;generalize decide (n.sites.length≤12)=x0;generalize decide (n.sectors.length≤24)=x1;generalize decide (n.antennas.length≤8)=x2;generalize decide (n.radios.length≤8)=x3;generalize zba zbw zck n.sites=x4;generalize zba antB zbb n.antennas=x5;generalize zba radB zbx n.radios=x6;generalize zba (fun x=>zan x&&zar n x) zbd n.sectors=x7
 cases x0<;>cases x1<;>cases x2<;>cases x3<;>cases x4<;>cases x5<;>cases x6<;>cases x7<;>rfl
theorem l14Ok_any (n:DNetwork) (v0 v1 v2 v3:Value) (bp:Nat) (w:World) (r0:Rd w w (DSite.sT n.sites) v0) (r1:Rd w w (DSector.sT n.sectors) v1) (r2:Rd w w (DAntenna.sT n.antennas) v2) (r3:Rd w w (DRadio.sT n.radios) v3) (hbp:bp<w.heap.size) (p0:w.cell? ⟨bp,0,none⟩=some v0) (p1:w.cell? ⟨bp,1,none⟩=some v1) (p2:w.cell? ⟨bp,2,none⟩=some v2) (p3:w.cell? ⟨bp,3,none⟩=some v3) (hs:sizL n.tr≤1099511627776) (hk:n.ok) :
  Calls Tryz.prog 87 #[.pointer (some ⟨bp,0,none⟩)] w fun e w'=>e=.returned (.bool (netB n))∧IJ w w w':=by
 have HM:=J (l14Models_any n v0 v1 v2 v3 bp w r0 r1 r2 r3 hbp p0 p1 p2 p3 hs hk);have hq:=DNetwork.siz_tr n;rw[DSite.siz_s,DSector.siz_s,DAntenna.siz_s,DRadio.siz_s] at hq;have hk_sites:=hk.sites;have hk_sectors:=hk.sectors;have hk_antennas:=hk.antennas;have hk_radios:=hk.radios;clear hk;have H0:=J r0;have H1:=J r1;have H2:=J r2;have H3:=J r3;clear r0 r1 r2 r3;obtain⟨A0,C0,e0,_,_,_⟩:=DSite.rd H0.out;obtain⟨A1,C1,e1,_,_,_⟩:=DSector.rd H1.out;obtain⟨A2,C2,e2,_,_,_⟩:=DAntenna.rd H2.out;obtain⟨A3,C3,e3,_,_,_⟩:=DRadio.rd H3.out;subst e0 e1 e2 e3;have B0:Hid (IJ w w w):=Below.refl _ _;have HD:∀ (w1:World),IJ w w w1→(w1.cell? ⟨bp,0,none⟩=w.cell? ⟨bp,0,none⟩∧w1.cell? ⟨bp,1,none⟩=w.cell? ⟨bp,1,none⟩):=fun w1 h=>⟨bat h bp 0 hbp,bat h bp 1 hbp⟩
 have HDH:=J HD;clear HD
 by_cases h0:zde n=true
 ·by_cases h1:n.sites.length≤12
  ·by_cases h2:n.sectors.length≤24
   ·have h1i:(n.sites.length:Int)≤12:=O
    have h2i:(n.sectors.length:Int)≤24:=O
    go_enter Tryz.func87,Tryz.ntmps87;go_wp2_with (go_at_call 129;refine (HM.out).mono ?_;rintro e w1 ⟨rfl,hb1⟩;obtain⟨t0,t1⟩:=HDH.out _ hb1;have HB:=J hb1;clear hb1);clear t0 t1;go_loopw [3] (fun i wr=>∃ (k:Nat),k≤n.sites.length∧i=I k∧(∀ j,j<k→upOk zbw zck n.sites j=true)∧IJ (w.heap.size) w wr) (fun i wr=>n.sites.length-(intOf i).toNat)
    case atStart=>exact⟨0,Nat.zero_le _,rfl,fun j hj=>absurd hj O,by first|exact HB.out|exact Below.refl _ _⟩
    case round =>
     obtain⟨k,hk,rfl,hno,hb⟩:=hrel;have HN:=J hno;have HB:=J hb;have zb:=hb.size;clear hno hb;have BW:Hid (IJ w w wr):=B0.out.trans (HB.out.mono O);have yn:bp<wr.heap.size:=O
     have n0:wr.cell? ⟨bp,0,none⟩=some (II A0 n.sites.length C0):=by rw[bat HB.out (bp) 0 O];exact p0
     have n1:wr.cell? ⟨bp,1,none⟩=some (II A1 n.sectors.length C1):=by rw[bat HB.out (bp) 1 O];exact p1
     have n2:wr.cell? ⟨bp,2,none⟩=some (II A2 n.antennas.length C2):=by rw[bat HB.out (bp) 2 O];exact p2
     have n3:wr.cell? ⟨bp,3,none⟩=some (II A3 n.radios.length C3):=by rw[bat HB.out (bp) 3 O];exact p3
     obtain⟨aSite,cSite,eSite,_,_,hcl⟩:=DSite.rd H0.out;injection eSite with eSite1 _ eSite3;subst eSite1 eSite3;have HCL:=J hcl;clear hcl
     by_cases hlt:k<n.sites.length
     ·obtain⟨b,off,ea,hbl,hat⟩:=HCL.out O
      subst ea;obtain⟨s0,s1,s2,s3⟩:=hat k hlt;have hok:=all_ok hk_sites hlt;rw[← bat BW.out b _ hbl] at s0 s1 s2 s3;have sp:0<k→wr.cell? ⟨b,off+(k-1)*4,none⟩=some (F (zen n.sites (k-1)).name):=fun h=>by
       have t:=(hat (k-1) O).1;rw[← bat BW.out b _ hbl,zct (show k-1<n.sites.length by omega)] at t;exact t
      have SP:=J sp;clear sp hat;have HUN:Hid (zbw (zen n.sites k)=false→zba zbw zck n.sites=false):=fun h=>za7 hlt (zdv hlt (by rw[zct hlt];exact h))
      have HUZ:Hid (k=0→zbw (zen n.sites k)=true→upOk zbw zck n.sites k=true):=fun e h=>by subst e;rw[zc5 hlt,zct hlt];exact h
      have HUP:Hid (0<k→upOk zbw zck n.sites k=(zbw (zen n.sites k)&&zck (zen n.sites (k-1)) (zen n.sites k))):=fun h=>by rw[zdi h hlt,zct hlt,zct (show k-1<n.sites.length by omega)]
      have hsz:=za3 DSite.tr n.sites k hlt;have ks0:=hok.name;have ks1:=hok.holder;rw[zct hlt] at s0 s1 s2 s3 ks0 ks1;generalize hA:zen n.sites k=A at *;generalize hP:zen n.sites (k-1)=P at *;clear hA hP hok;have i1:(0:Int)≤(k:Int):=O
      have i2:(k:Int)<(n.sites.length:Int):=O
      have yb:b<wr.heap.size:=O
      have HV:Hid (∀ W:World,IJ wr wr W→Calls Tryz.prog 130 #[.pointer (some ⟨b,off+k*4,none⟩)] W fun e w'=>e=.returned (.bool (zbw A))∧IJ W W w'):=fun W hW=>l14Site_any A b (off+k*4) W ((bat hW b _ yb).trans s0) ((bat hW b _ yb).trans s1) ((bat hW b _ yb).trans s2) ((bat hW b _ yb).trans s3) ks0 ks1
      have HNB:Hid (zba zbw zck n.sites=false→netB n=false):=fun h=>by unfold netB;rw[h];simp
      by_cases c1:zbw A=true
      ·have HM:Hid (zbw A=true):=c1
       by_cases c3:0<k
       ·skip
        have i3:IntKind.i64.wrap ((k:Int)-1)=(k:Int)-1:=IntWalk.i64_in _ O;have i4:(0:Int)≤(k:Int)-1:=O
        have i6:(k:Int)-1<(n.sites.length:Int):=O
        have i7:(1:Int)≤(k:Int):=O
        have i8:decide (0<k)=true:=by simpa using c3
        have i5:((k:Int)-1).toNat=k-1:=O
        by_cases c4:ltS P.name A.name=true
        ·have le4:Op.bytesLess P.name.toList A.name.toList=true:=c4
         have HF:Hid (upOk zbw zck n.sites k=true):=by show _=_;rw[HUP.out c3,Bool.and_eq_true];exact⟨HM.out,c4⟩
         have fp:=SP.out c3;have oN:=zal (w0:=wr) yn;have oB:=zal (w0:=wr) yb;rw[c1] at HV;go_wp2;refine zad wr.heap.size wr (Below.refl _ _) OJ OJ ?_
         repeat (go_big_quiet_step (first|(go_at_call 130;exact zaj (Nat.le_refl _) (HV.out _ (zaa _ _ _)))))
         refine wpQuiet_nil ?_;rintro _ ⟨X,rfl⟩;have hX:=zaa wr.heap.size wr X;clear oN oB;generalize over wr.heap.size wr X=w2 at *;have BE:=J (BW.out.trans (hX.mono BW.out.size));have BF:=J (HB.out.trans (hX.mono HB.out.size));clear hX;clear i3 i5;go_wp2;go_roundw
         case rel=>exact⟨k+1,O,by go_num,zbj HN.out (HF.out),BF.out⟩
         case measure=>simp[intOf];omega
        ·replace c4:ltS P.name A.name=false:=Bool.eq_false_iff.2 c4
         have le4:Op.bytesLess P.name.toList A.name.toList=false:=c4;have HF:Hid (zba zbw zck n.sites=false):=za7 hlt (by rw[HUP.out c3,show zck P A=false from c4];simp);have fp:=SP.out c3;have oN:=zal (w0:=wr) yn;have oB:=zal (w0:=wr) yb;rw[c1] at HV;go_wp2;refine zad wr.heap.size wr (Below.refl _ _) OJ OJ ?_
         repeat (go_big_quiet_step (first|(go_at_call 130;exact zaj (Nat.le_refl _) (HV.out _ (zaa _ _ _)))))
         refine wpQuiet_nil ?_;rintro _ ⟨X,rfl⟩;have hX:=zaa wr.heap.size wr X;clear oN oB;generalize over wr.heap.size wr X=w2 at *;have BE:=J (BW.out.trans (hX.mono BW.out.size));have BF:=J (HB.out.trans (hX.mono HB.out.size));clear hX;clear i3 i5;go_wp2;go_ret;exact⟨by rw[HNB.out (HF.out)];rfl,BE.out⟩
       ·have i8:decide (0<k)=false:=by simpa using c3
        have HF:Hid (upOk zbw zck n.sites k=true):=HUZ.out O HM.out;have oN:=zal (w0:=wr) yn;have oB:=zal (w0:=wr) yb;rw[c1] at HV;go_wp2;refine zad wr.heap.size wr (Below.refl _ _) OJ OJ ?_
        repeat (go_big_quiet_step (first|(go_at_call 130;exact zaj (Nat.le_refl _) (HV.out _ (zaa _ _ _)))))
        refine wpQuiet_nil ?_;rintro _ ⟨X,rfl⟩;have hX:=zaa wr.heap.size wr X;clear oN oB;generalize over wr.heap.size wr X=w2 at *;have BE:=J (BW.out.trans (hX.mono BW.out.size));have BF:=J (HB.out.trans (hX.mono HB.out.size));clear hX;go_wp2;go_roundw
        case rel=>exact⟨k+1,O,by go_num,zbj HN.out (HF.out),BF.out⟩
        case measure=>simp[intOf];omega
      ·replace c1:zbw A=false:=Bool.eq_false_iff.2 c1
       have HF:Hid (zba zbw zck n.sites=false):=HUN.out c1;have oN:=zal (w0:=wr) yn;have oB:=zal (w0:=wr) yb;rw[c1] at HV;go_wp2;refine zad wr.heap.size wr (Below.refl _ _) OJ OJ ?_
       repeat (go_big_quiet_step (first|(go_at_call 130;exact zaj (Nat.le_refl _) (HV.out _ (zaa _ _ _)))))
       refine wpQuiet_nil ?_;rintro _ ⟨X,rfl⟩;have hX:=zaa wr.heap.size wr X;clear oN oB;generalize over wr.heap.size wr X=w2 at *;have BE:=J (BW.out.trans (hX.mono BW.out.size));have BF:=J (HB.out.trans (hX.mono HB.out.size));clear hX;go_wp2;go_ret;exact⟨by rw[HNB.out (HF.out)];rfl,BE.out⟩
     ·obtain rfl:k=n.sites.length:=O
      have HRSite:Hid (zba zbw zck n.sites=true):=zcp HN.out;clear hk HN hlt;go_wp2;go_loopw [4] (fun i wr=>∃ (k:Nat),k≤n.sectors.length∧i=I k∧(∀ j,j<k→upOk (fun x=>zan x&&zar n x) zbd n.sectors j=true)∧IJ (w.heap.size) w wr) (fun i wr=>n.sectors.length-(intOf i).toNat)
      case atStart=>exact⟨0,Nat.zero_le _,rfl,fun j hj=>absurd hj O,by first|exact HB.out|exact Below.refl _ _⟩
      case round =>
       obtain⟨k,hk,rfl,hno,hb⟩:=hrel;have HN:=J hno;have HB:=J hb;have zb:=hb.size;clear hno hb;have BW:Hid (IJ w w wr):=B0.out.trans (HB.out.mono O);have yn:bp<wr.heap.size:=O
       have n0:wr.cell? ⟨bp,0,none⟩=some (II A0 n.sites.length C0):=by rw[bat HB.out (bp) 0 O];exact p0
       have n1:wr.cell? ⟨bp,1,none⟩=some (II A1 n.sectors.length C1):=by rw[bat HB.out (bp) 1 O];exact p1
       have n2:wr.cell? ⟨bp,2,none⟩=some (II A2 n.antennas.length C2):=by rw[bat HB.out (bp) 2 O];exact p2
       have n3:wr.cell? ⟨bp,3,none⟩=some (II A3 n.radios.length C3):=by rw[bat HB.out (bp) 3 O];exact p3
       obtain⟨aSector,cSector,eSector,_,_,hcl⟩:=DSector.rd H1.out;injection eSector with eSector1 _ eSector3;subst eSector1 eSector3;have HCL:=J hcl;clear hcl
       by_cases hlt:k<n.sectors.length
       ·obtain⟨b,off,ea,hbl,hat⟩:=HCL.out O
        subst ea;obtain⟨s0,s1,s2,s3,s4,s5,s6,s7,s8⟩:=hat k hlt;have hok:=all_ok hk_sectors hlt;rw[← bat BW.out b _ hbl] at s0 s1 s2 s3 s4 s5 s6 s7 s8;have sp:0<k→wr.cell? ⟨b,off+(k-1)*9,none⟩=some (F (zab n.sectors (k-1)).name):=fun h=>by
         have t:=(hat (k-1) O).1;rw[← bat BW.out b _ hbl,za5 (show k-1<n.sectors.length by omega)] at t;exact t
        have SP:=J sp;clear sp hat;have HUN:Hid ((fun x=>zan x&&zar n x) (zab n.sectors k)=false→zba (fun x=>zan x&&zar n x) zbd n.sectors=false):=fun h=>za7 hlt (zdv hlt (by rw[za5 hlt];exact h))
        have HUZ:Hid (k=0→(fun x=>zan x&&zar n x) (zab n.sectors k)=true→upOk (fun x=>zan x&&zar n x) zbd n.sectors k=true):=fun e h=>by subst e;rw[zc5 hlt,za5 hlt];exact h
        have HUP:Hid (0<k→upOk (fun x=>zan x&&zar n x) zbd n.sectors k=((fun x=>zan x&&zar n x) (zab n.sectors k)&&zbd (zab n.sectors (k-1)) (zab n.sectors k))):=fun h=>by rw[zdi h hlt,za5 hlt,za5 (show k-1<n.sectors.length by omega)]
        have hsz:=za3 DSector.tr n.sectors k hlt;have ks0:=hok.name;have ks1:=hok.site;have ks2:=hok.antenna;have ks3:=hok.radio;have ks4:=hok.band;rw[za5 hlt] at s0 s1 s2 s3 s4 s5 s6 s7 s8 ks0 ks1 ks2 ks3 ks4;generalize hA:zab n.sectors k=A at *;generalize hP:zab n.sectors (k-1)=P at *;clear hA hP hok;have i1:(0:Int)≤(k:Int):=O
        have i2:(k:Int)<(n.sectors.length:Int):=O
        have yb:b<wr.heap.size:=O
        have HV:Hid (∀ W:World,IJ wr wr W→Calls Tryz.prog 131 #[.pointer (some ⟨b,off+k*9,none⟩)] W fun e w'=>e=.returned (.bool (zan A))∧IJ W W w'):=fun W hW=>(l14Sector_any A b (off+k*9) W ((bat hW b _ yb).trans s0) ((bat hW b _ yb).trans s1) ((bat hW b _ yb).trans s2) ((bat hW b _ yb).trans s3) ((bat hW b _ yb).trans s4) ((bat hW b _ yb).trans s5) ((bat hW b _ yb).trans s6) ((bat hW b _ yb).trans s7) ((bat hW b _ yb).trans s8) ks0 ks1 ks2 ks3 ks4)
        have HP:Hid (∀ W:World,IJ wr wr W→Calls Tryz.prog 132 #[.pointer (some ⟨bp,0,none⟩),.pointer (some ⟨b,off+k*9,none⟩)] W fun e w'=>e=.returned (.bool (zar n A))∧W=w'):=fun W hW=>l14Refers_any n A _ _ _ bp b (off+k*9) W.heap.size W ((H0.out.below (BW.out.trans (hW.mono BW.out.size))).mono (BW.out.trans (hW.mono BW.out.size)).size) ((H2.out.below (BW.out.trans (hW.mono BW.out.size))).mono (BW.out.trans (hW.mono BW.out.size)).size) ((H3.out.below (BW.out.trans (hW.mono BW.out.size))).mono (BW.out.trans (hW.mono BW.out.size)).size) (Nat.le_refl _) ((bat hW bp 0 yn).trans n0) ((bat hW bp 2 yn).trans n2) ((bat hW bp 3 yn).trans n3) ((bat hW b _ yb).trans s1) ((bat hW b _ yb).trans s2) ((bat hW b _ yb).trans s3) O O O
        have HNB:Hid (zba (fun x=>zan x&&zar n x) zbd n.sectors=false→netB n=false):=fun h=>by unfold netB;rw[h];simp
        by_cases c1:zan A=true
        ·by_cases c2:zar n A=true
         ·have HM:Hid ((fun x=>zan x&&zar n x) A=true):=by show (zan A&&zar n A)=true;rw[c1,c2];rfl
          by_cases c3:0<k
          ·skip
           have i3:IntKind.i64.wrap ((k:Int)-1)=(k:Int)-1:=IntWalk.i64_in _ O;have i4:(0:Int)≤(k:Int)-1:=O
           have i6:(k:Int)-1<(n.sectors.length:Int):=O
           have i7:(1:Int)≤(k:Int):=O
           have i8:decide (0<k)=true:=by simpa using c3
           have i5:((k:Int)-1).toNat=k-1:=O
           by_cases c4:ltS P.name A.name=true
           ·have le4:Op.bytesLess P.name.toList A.name.toList=true:=c4
            have HF:Hid (upOk (fun x=>zan x&&zar n x) zbd n.sectors k=true):=by show _=_;rw[HUP.out c3,Bool.and_eq_true];exact⟨HM.out,c4⟩
            have fp:=SP.out c3;have oN:=zal (w0:=wr) yn;have oB:=zal (w0:=wr) yb;rw[c1] at HV;rw[c2] at HP;go_wp2;refine zad wr.heap.size wr (Below.refl _ _) OJ OJ ?_
            repeat (go_big_quiet_step (first|(go_at_call 131;exact zaj (Nat.le_refl _) (HV.out _ (zaa _ _ _)))|(go_at_call 132;exact zbm (HP.out _ (zaa _ _ _)))))
            refine wpQuiet_nil ?_;rintro _ ⟨X,rfl⟩;have hX:=zaa wr.heap.size wr X;clear oN oB;generalize over wr.heap.size wr X=w2 at *;have BE:=J (BW.out.trans (hX.mono BW.out.size));have BF:=J (HB.out.trans (hX.mono HB.out.size));clear hX;clear i3 i5;go_wp2;go_roundw
            case rel=>exact⟨k+1,O,by go_num,zbj HN.out (HF.out),BF.out⟩
            case measure=>simp[intOf];omega
           ·replace c4:ltS P.name A.name=false:=Bool.eq_false_iff.2 c4
            have le4:Op.bytesLess P.name.toList A.name.toList=false:=c4;have HF:Hid (zba (fun x=>zan x&&zar n x) zbd n.sectors=false):=za7 hlt (by rw[HUP.out c3,show zbd P A=false from c4];simp);have fp:=SP.out c3;have oN:=zal (w0:=wr) yn;have oB:=zal (w0:=wr) yb;rw[c1] at HV;rw[c2] at HP;go_wp2;refine zad wr.heap.size wr (Below.refl _ _) OJ OJ ?_
            repeat (go_big_quiet_step (first|(go_at_call 131;exact zaj (Nat.le_refl _) (HV.out _ (zaa _ _ _)))|(go_at_call 132;exact zbm (HP.out _ (zaa _ _ _)))))
            refine wpQuiet_nil ?_;rintro _ ⟨X,rfl⟩;have hX:=zaa wr.heap.size wr X;clear oN oB;generalize over wr.heap.size wr X=w2 at *;have BE:=J (BW.out.trans (hX.mono BW.out.size));have BF:=J (HB.out.trans (hX.mono HB.out.size));clear hX;clear i3 i5;go_wp2;go_ret;exact⟨by rw[HNB.out (HF.out)];rfl,BE.out⟩
          ·have i8:decide (0<k)=false:=by simpa using c3
           have HF:Hid (upOk (fun x=>zan x&&zar n x) zbd n.sectors k=true):=HUZ.out O HM.out;have oN:=zal (w0:=wr) yn;have oB:=zal (w0:=wr) yb;rw[c1] at HV;rw[c2] at HP;go_wp2;refine zad wr.heap.size wr (Below.refl _ _) OJ OJ ?_
           repeat (go_big_quiet_step (first|(go_at_call 131;exact zaj (Nat.le_refl _) (HV.out _ (zaa _ _ _)))|(go_at_call 132;exact zbm (HP.out _ (zaa _ _ _)))))
           refine wpQuiet_nil ?_;rintro _ ⟨X,rfl⟩;have hX:=zaa wr.heap.size wr X;clear oN oB;generalize over wr.heap.size wr X=w2 at *;have BE:=J (BW.out.trans (hX.mono BW.out.size));have BF:=J (HB.out.trans (hX.mono HB.out.size));clear hX;go_wp2;go_roundw
           case rel=>exact⟨k+1,O,by go_num,zbj HN.out (HF.out),BF.out⟩
           case measure=>simp[intOf];omega
         ·replace c2:zar n A=false:=Bool.eq_false_iff.2 c2
          have HF:Hid (zba (fun x=>zan x&&zar n x) zbd n.sectors=false):=HUN.out (by show (zan A&&zar n A)=false;rw[c2,Bool.and_false]);have oN:=zal (w0:=wr) yn;have oB:=zal (w0:=wr) yb;rw[c1] at HV;rw[c2] at HP;go_wp2;refine zad wr.heap.size wr (Below.refl _ _) OJ OJ ?_
          repeat (go_big_quiet_step (first|(go_at_call 131;exact zaj (Nat.le_refl _) (HV.out _ (zaa _ _ _)))|(go_at_call 132;exact zbm (HP.out _ (zaa _ _ _)))))
          refine wpQuiet_nil ?_;rintro _ ⟨X,rfl⟩;have hX:=zaa wr.heap.size wr X;clear oN oB;generalize over wr.heap.size wr X=w2 at *;have BE:=J (BW.out.trans (hX.mono BW.out.size));have BF:=J (HB.out.trans (hX.mono HB.out.size));clear hX;go_wp2;go_ret;exact⟨by rw[HNB.out (HF.out)];rfl,BE.out⟩
        ·replace c1:zan A=false:=Bool.eq_false_iff.2 c1
         have HF:Hid (zba (fun x=>zan x&&zar n x) zbd n.sectors=false):=HUN.out (by show (zan A&&zar n A)=false;rw[c1,Bool.false_and]);have oN:=zal (w0:=wr) yn;have oB:=zal (w0:=wr) yb;rw[c1] at HV;go_wp2;refine zad wr.heap.size wr (Below.refl _ _) OJ OJ ?_
         repeat (go_big_quiet_step (first|(go_at_call 131;exact zaj (Nat.le_refl _) (HV.out _ (zaa _ _ _)))))
         refine wpQuiet_nil ?_;rintro _ ⟨X,rfl⟩;have hX:=zaa wr.heap.size wr X;clear oN oB;generalize over wr.heap.size wr X=w2 at *;have BE:=J (BW.out.trans (hX.mono BW.out.size));have BF:=J (HB.out.trans (hX.mono HB.out.size));clear hX;go_wp2;go_ret;exact⟨by rw[HNB.out (HF.out)];rfl,BE.out⟩
       ·obtain rfl:k=n.sectors.length:=O
        have HRSector:Hid (zba (fun x=>zan x&&zar n x) zbd n.sectors=true):=zcp HN.out;clear hk HN hlt;have HT:Hid (netB n=true):=by show _=_;rw[netB_eq,h0,decide_eq_true h1,decide_eq_true h2,HRSite.out,HRSector.out];rfl
        go_wp2;go_ret;exact⟨by rw[HT.out];rfl,BW.out⟩
   ·have h2i:24<n.sectors.length:=O
    have h1i:(n.sites.length:Int)≤12:=O
    have HE:Hid (netB n=false):=by show _=_;rw[netB_eq,decide_eq_false h2];simp
    go_enter Tryz.func87,Tryz.ntmps87;go_wp2_with (go_at_call 129;refine (HM.out).mono ?_;rintro e w1 ⟨rfl,hb1⟩;obtain⟨t0,t1⟩:=HDH.out _ hb1;have HB:=J hb1;clear hb1);go_ret;exact⟨by rw[HE.out];rfl,HB.out⟩
  ·have h1i:12<n.sites.length:=O
   have HE:Hid (netB n=false):=by show _=_;rw[netB_eq,decide_eq_false h1];simp
   go_enter Tryz.func87,Tryz.ntmps87;go_wp2_with (go_at_call 129;refine (HM.out).mono ?_;rintro e w1 ⟨rfl,hb1⟩;obtain⟨t0,t1⟩:=HDH.out _ hb1;have HB:=J hb1;clear hb1);go_ret;exact⟨by rw[HE.out];rfl,HB.out⟩
 ·replace h0:zde n=false:=Bool.eq_false_iff.2 h0
  have HE:Hid (netB n=false):=by show _=_;rw[netB_eq,h0];rfl
  go_enter Tryz.func87,Tryz.ntmps87;go_wp2_with (go_at_call 129;refine (HM.out).mono ?_;rintro e w1 ⟨rfl,hb1⟩;obtain⟨t0,t1⟩:=HDH.out _ hb1;have HB:=J hb1;clear hb1);go_ret;exact⟨by rw[HE.out];rfl,HB.out⟩
end Go.Proofs.YtgmapjgodibchaaGreatDoor
