/- Contract: networks are valid, for the program. Conditions: bounded sizes. -/
import Derived.Test.YtdgmgchdjlfchaaGreatDoorNetD
set_option linter.unusedVariables false
set_option linter.unusedSimpArgs false
namespace Go.Proofs.YtdgmgchdjlfchaaGreatDoor
open Go.RowKit
set_option maxHeartbeats 40000000
set_option maxRecDepth 100000
def zce (p x:DSite):Bool:=ltS p.name x.name
def zbb (p x:DSector):Bool:=ltS p.name x.name
def za8 (p x:DAntenna):Bool:=ltS p.name x.name
def zbw (p x:DRadio):Bool:=ltS p.name x.name
def netB (n:DNetwork):Bool:=decide (n.sites.length≤12)&&(decide (n.sectors.length≤24)&&(decide (n.antennas.length≤8)&&(decide (n.radios.length≤8)&&(za7 zbv zce n.sites&&(za7 antB za8 n.antennas&&(za7 radB zbw n.radios&&za7 (fun x=>zal x&&zas n x) zbb n.sectors))))))
theorem all_ok {α:Type} {p:α→Prop} {l:List α} (h:∀ x ∈ l,p x) {k:Nat} (hk:k<l.length):p l[k]:=h _ (List.getElem_mem hk)
def zeh (l:List DSite) (i:Nat):DSite:=l.getD i ⟨⟨#[]⟩,⟨#[]⟩,⟨0,0⟩⟩
theorem zco {l:List DSite} {i:Nat} (h:i<l.length):l[i]=zeh l i:=by simp[zeh,h]
def zad (l:List DSector) (i:Nat):DSector:=l.getD i ⟨⟨#[]⟩,⟨#[]⟩,⟨#[]⟩,⟨#[]⟩,⟨#[]⟩,0,0,0,0⟩
theorem za9 {l:List DSector} {i:Nat} (h:i<l.length):l[i]=zad l i:=by simp[zad,h]
def zax (l:List DAntenna) (i:Nat):DAntenna:=l.getD i ⟨⟨#[]⟩,0,[],[]⟩
theorem zbe {l:List DAntenna} {i:Nat} (h:i<l.length):l[i]=zax l i:=by simp[zax,h]
def za5 (l:List DRadio) (i:Nat):DRadio:=l.getD i ⟨⟨#[]⟩,0,0,0,0,[]⟩
theorem zbn {l:List DRadio} {i:Nat} (h:i<l.length):l[i]=za5 l i:=by simp[za5,h]
theorem validNetwork_any (n:DNetwork) (v0 v1 v2 v3:Value) (w:World) (r0:Rd w.heap.size w (DSite.sT n.sites) v0) (r1:Rd w.heap.size w (DSector.sT n.sectors) v1) (r2:Rd w.heap.size w (DAntenna.sT n.antennas) v2) (r3:Rd w.heap.size w (DRadio.sT n.radios) v3) (hs:sizL n.tr≤1099511627776) (hk:n.ok) :
  Calls Tryz.prog 55 #[.agg #[v0,v1,v2,v3]] w fun e w'=>e=.returned (.bool (netB n))∧Below w.heap.size w w':=by
 have hq:=DNetwork.siz_tr n;rw[DSite.siz_s,DSector.siz_s,DAntenna.siz_s,DRadio.siz_s] at hq;have hk_sites:=hk.sites;have hk_sectors:=hk.sectors;have hk_antennas:=hk.antennas;have hk_radios:=hk.radios;clear hk;have H0:=Lib.hid r0;have H1:=Lib.hid r1;have H2:=Lib.hid r2;have H3:=Lib.hid r3;clear r0 r1 r2 r3;obtain⟨A0,C0,e0,_,_,_⟩:=DSite.rd H0.out;obtain⟨A1,C1,e1,_,_,_⟩:=DSector.rd H1.out;obtain⟨A2,C2,e2,_,_,_⟩:=DAntenna.rd H2.out;obtain⟨A3,C3,e3,_,_,_⟩:=DRadio.rd H3.out;subst e0 e1 e2 e3;have B0:Hid (Below w.heap.size w (w.alloc (.cells #[.slice A0 n.sites.length C0,.slice A1 n.sectors.length C1,.slice A2 n.antennas.length C2,.slice A3 n.radios.length C3] 46))):=(Below.refl _ _).alloc (Nat.le_refl _) _
 by_cases h0:n.sites.length≤12
 ·skip
  by_cases h1:n.sectors.length≤24
  ·skip
   by_cases h2:n.antennas.length≤8
   ·skip
    by_cases h3:n.radios.length≤8
    ·skip
     go_enter Tryz.func55,Tryz.ntmps55;have hh0:(n.sites.length:Int)≤12:=by omega
     have hh1:(n.sectors.length:Int)≤24:=by omega
     have hh2:(n.antennas.length:Int)≤8:=by omega
     have hh3:(n.radios.length:Int)≤8:=by omega
     go_wp2;go_loopw [36] (fun i wr=>∃ (k:Nat),k≤n.sites.length∧i=.int .i64 k∧(∀ j,j<k→upOk zbv zce n.sites j=true)∧Below (w.heap.size+1) (w.alloc (.cells #[.slice A0 n.sites.length C0,.slice A1 n.sectors.length C1,.slice A2 n.antennas.length C2,.slice A3 n.radios.length C3] 46)) wr) (fun i wr=>n.sites.length-(intOf i).toNat)
     case atStart=>exact⟨0,Nat.zero_le _,rfl,fun j hj=>absurd hj (by omega),by first|exact HB.out|exact Below.refl _ _⟩
     case round =>
      obtain⟨k,hk,rfl,hno,hb⟩:=hrel;have HN:=Lib.hid hno;have HB:=Lib.hid hb;have zb:=hb.size;simp at zb;clear hno hb;have BW:Hid (Below w.heap.size w wr):=B0.out.trans (HB.out.mono (by omega));have yn:w.heap.size<wr.heap.size:=by omega
      have n0:wr.cell? ⟨w.heap.size,0,none⟩=some (.slice A0 n.sites.length C0):=by rw[bat HB.out (w.heap.size) 0 (by omega)];simp[go_sem]
      have n1:wr.cell? ⟨w.heap.size,1,none⟩=some (.slice A1 n.sectors.length C1):=by rw[bat HB.out (w.heap.size) 1 (by omega)];simp[go_sem]
      have n2:wr.cell? ⟨w.heap.size,2,none⟩=some (.slice A2 n.antennas.length C2):=by rw[bat HB.out (w.heap.size) 2 (by omega)];simp[go_sem]
      have n3:wr.cell? ⟨w.heap.size,3,none⟩=some (.slice A3 n.radios.length C3):=by rw[bat HB.out (w.heap.size) 3 (by omega)];simp[go_sem]
      obtain⟨aSite,cSite,eSite,_,_,hcl⟩:=DSite.rd H0.out;injection eSite with eSite1 _ eSite3;subst eSite1 eSite3;have HCL:=Lib.hid hcl;clear hcl
      by_cases hlt:k<n.sites.length
      ·obtain⟨b,off,ea,hbl,hat⟩:=HCL.out (by omega)
       subst ea;obtain⟨s0,s1,s2,s3⟩:=hat k hlt;have hok:=all_ok hk_sites hlt;rw[← bat BW.out b _ hbl] at s0 s1 s2 s3;have sp:0<k→wr.cell? ⟨b,off+(k-1)*4,none⟩=some (.string (zeh n.sites (k-1)).name):=fun h=>by
        have t:=(hat (k-1) (by omega)).1;rw[← bat BW.out b _ hbl,zco (show k-1<n.sites.length by omega)] at t;exact t
       have SP:=Lib.hid sp;clear sp hat;have HUN:Hid (zbv (zeh n.sites k)=false→za7 zbv zce n.sites=false):=fun h=>za6 hlt (zdq hlt (by rw[zco hlt];exact h))
       have HUZ:Hid (k=0→zbv (zeh n.sites k)=true→upOk zbv zce n.sites k=true):=fun e h=>by subst e;rw[zc0 hlt,zco hlt];exact h
       have HUP:Hid (0<k→upOk zbv zce n.sites k=(zbv (zeh n.sites k)&&zce (zeh n.sites (k-1)) (zeh n.sites k))):=fun h=>by rw[zdd h hlt,zco hlt,zco (show k-1<n.sites.length by omega)]
       have hsz:=za4 DSite.tr n.sites k hlt;have ks0:=hok.name;have ks1:=hok.holder;rw[zco hlt] at s0 s1 s2 s3 ks0 ks1;generalize hA:zeh n.sites k=A at *;generalize hP:zeh n.sites (k-1)=P at *;clear hA hP hok;have i1:(0:Int)≤(k:Int):=by omega
       have i2:(k:Int)<(n.sites.length:Int):=by omega
       have yb:b<wr.heap.size:=by omega
       have HV:Hid (∀ W:World,Below w.heap.size w W→Calls Tryz.prog 103 #[.agg #[.string A.name,.string A.holder,.int .i64 A.place.x,.int .i64 A.place.y]] W fun e w'=>e=.returned (.bool (zbv A))∧Below W.heap.size W w'):=fun W hW=>siteValid_any A ks0 ks1 W
       go_wp2;have b1:Below wr.heap.size wr (wr.alloc (.cells #[.string A.name,.string A.holder,.int .i64 A.place.x,.int .i64 A.place.y] 137)):=(Below.refl _ _).alloc (Nat.le_refl _) _;have f0:(wr.alloc (.cells #[.string A.name,.string A.holder,.int .i64 A.place.x,.int .i64 A.place.y] 137)).cell? ⟨wr.heap.size,0,none⟩=some (.string A.name):=by simp[go_sem]
       have f1:(wr.alloc (.cells #[.string A.name,.string A.holder,.int .i64 A.place.x,.int .i64 A.place.y] 137)).cell? ⟨wr.heap.size,1,none⟩=some (.string A.holder):=by simp[go_sem]
       have f2:(wr.alloc (.cells #[.string A.name,.string A.holder,.int .i64 A.place.x,.int .i64 A.place.y] 137)).cell? ⟨wr.heap.size,2,none⟩=some (.int .i64 A.place.x):=by simp[go_sem]
       have f3:(wr.alloc (.cells #[.string A.name,.string A.holder,.int .i64 A.place.x,.int .i64 A.place.y] 137)).cell? ⟨wr.heap.size,3,none⟩=some (.int .i64 A.place.y):=by simp[go_sem]
       have fz:wr.heap.size<(wr.alloc (.cells #[.string A.name,.string A.holder,.int .i64 A.place.x,.int .i64 A.place.y] 137)).heap.size:=by simp
       generalize hW1:(wr.alloc (.cells #[.string A.name,.string A.holder,.int .i64 A.place.x,.int .i64 A.place.y] 137))=W1 at *;have m0:=(bat b1 (w.heap.size) 0 yn).trans n0;have m1:=(bat b1 (w.heap.size) 1 yn).trans n1;have m2:=(bat b1 (w.heap.size) 2 yn).trans n2;have m3:=(bat b1 (w.heap.size) 3 yn).trans n3;have BB:=Lib.hid (BW.out.trans (b1.mono (by omega)));have BH:=Lib.hid (HB.out.trans (b1.mono (by omega)));have B1:=Lib.hid b1;have zz:=b1.size;clear b1 hW1 n0 n1 n2 n3;have HNB:Hid (za7 zbv zce n.sites=false→netB n=false):=fun h=>by unfold netB;rw[h];simp
       by_cases c1:zbv A=true
       ·have HM:Hid (zbv A=true):=c1
        by_cases c3:0<k
        ·skip
         have i3:IntKind.i64.wrap ((k:Int)-1)=(k:Int)-1:=IntWalk.i64_in _ (by omega);have i4:(0:Int)≤(k:Int)-1:=by omega
         have i6:(k:Int)-1<(n.sites.length:Int):=by omega
         have i7:(1:Int)≤(k:Int):=by omega
         have i8:decide (0<k)=true:=by simpa using c3
         have i5:((k:Int)-1).toNat=k-1:=by omega
         by_cases c4:ltS P.name A.name=true
         ·have le4:=geS_of_lt c4
          have HF:Hid (upOk zbv zce n.sites k=true):=by show _=_;rw[HUP.out c3,Bool.and_eq_true];exact⟨HM.out,c4⟩
          have fp:=(bat B1.out b _ yb).trans (SP.out c3);have oX:=zan (w0:=W1) fz;have oN:=zan (w0:=W1) (show w.heap.size<W1.heap.size by omega);have oB:=zan (w0:=W1) (show b<W1.heap.size by omega);rw[c1] at HV;refine zae W1.heap.size W1 (Below.refl _ _) (by kernel_rfl) (by kernel_rfl) ?_
          repeat (go_big_quiet_step (first|(go_at_call 103;exact zai (Nat.le_refl _) (HV.out _ (BB.out.trans ((zaa _ _ _).mono BB.out.size))))))
          refine wpQuiet_nil ?_;rintro _ ⟨X,rfl⟩;have hX:=zaa W1.heap.size W1 X;clear oX oN oB;generalize over W1.heap.size W1 X=w2 at *;have BE:=Lib.hid (BB.out.trans (hX.mono BB.out.size));have BF:=Lib.hid (BH.out.trans (hX.mono (by omega)));clear hX;clear i3 i5;go_wp2;go_roundw
          case rel=>exact⟨k+1,by omega,by go_num,zbj HN.out (HF.out),BF.out⟩
          case measure=>simp[intOf];omega
         ·replace c4:ltS P.name A.name=false:=Bool.eq_false_iff.2 c4
          have le4:=geS_of_not c4;have HF:Hid (za7 zbv zce n.sites=false):=za6 hlt (by rw[HUP.out c3,show zce P A=false from c4];simp);have fp:=(bat B1.out b _ yb).trans (SP.out c3);have oX:=zan (w0:=W1) fz;have oN:=zan (w0:=W1) (show w.heap.size<W1.heap.size by omega);have oB:=zan (w0:=W1) (show b<W1.heap.size by omega);rw[c1] at HV;refine zae W1.heap.size W1 (Below.refl _ _) (by kernel_rfl) (by kernel_rfl) ?_
          repeat (go_big_quiet_step (first|(go_at_call 103;exact zai (Nat.le_refl _) (HV.out _ (BB.out.trans ((zaa _ _ _).mono BB.out.size))))))
          refine wpQuiet_nil ?_;rintro _ ⟨X,rfl⟩;have hX:=zaa W1.heap.size W1 X;clear oX oN oB;generalize over W1.heap.size W1 X=w2 at *;have BE:=Lib.hid (BB.out.trans (hX.mono BB.out.size));have BF:=Lib.hid (BH.out.trans (hX.mono (by omega)));clear hX;clear i3 i5;go_wp2;go_ret;exact⟨by rw[HNB.out (HF.out)];rfl,BE.out⟩
        ·have i8:decide (0<k)=false:=by simpa using c3
         have HF:Hid (upOk zbv zce n.sites k=true):=HUZ.out (by omega) HM.out;have oX:=zan (w0:=W1) fz;have oN:=zan (w0:=W1) (show w.heap.size<W1.heap.size by omega);have oB:=zan (w0:=W1) (show b<W1.heap.size by omega);rw[c1] at HV;refine zae W1.heap.size W1 (Below.refl _ _) (by kernel_rfl) (by kernel_rfl) ?_
         repeat (go_big_quiet_step (first|(go_at_call 103;exact zai (Nat.le_refl _) (HV.out _ (BB.out.trans ((zaa _ _ _).mono BB.out.size))))))
         refine wpQuiet_nil ?_;rintro _ ⟨X,rfl⟩;have hX:=zaa W1.heap.size W1 X;clear oX oN oB;generalize over W1.heap.size W1 X=w2 at *;have BE:=Lib.hid (BB.out.trans (hX.mono BB.out.size));have BF:=Lib.hid (BH.out.trans (hX.mono (by omega)));clear hX;go_wp2;go_roundw
         case rel=>exact⟨k+1,by omega,by go_num,zbj HN.out (HF.out),BF.out⟩
         case measure=>simp[intOf];omega
       ·replace c1:zbv A=false:=Bool.eq_false_iff.2 c1
        have HF:Hid (za7 zbv zce n.sites=false):=HUN.out c1;have oX:=zan (w0:=W1) fz;have oN:=zan (w0:=W1) (show w.heap.size<W1.heap.size by omega);have oB:=zan (w0:=W1) (show b<W1.heap.size by omega);rw[c1] at HV;refine zae W1.heap.size W1 (Below.refl _ _) (by kernel_rfl) (by kernel_rfl) ?_
        repeat (go_big_quiet_step (first|(go_at_call 103;exact zai (Nat.le_refl _) (HV.out _ (BB.out.trans ((zaa _ _ _).mono BB.out.size))))))
        refine wpQuiet_nil ?_;rintro _ ⟨X,rfl⟩;have hX:=zaa W1.heap.size W1 X;clear oX oN oB;generalize over W1.heap.size W1 X=w2 at *;have BE:=Lib.hid (BB.out.trans (hX.mono BB.out.size));have BF:=Lib.hid (BH.out.trans (hX.mono (by omega)));clear hX;go_wp2;go_ret;exact⟨by rw[HNB.out (HF.out)];rfl,BE.out⟩
      ·obtain rfl:k=n.sites.length:=by omega
       have HRSite:Hid (za7 zbv zce n.sites=true):=zck HN.out;clear hk HN hlt;go_wp2;go_loopw [64] (fun i wr=>∃ (k:Nat),k≤n.antennas.length∧i=.int .i64 k∧(∀ j,j<k→upOk antB za8 n.antennas j=true)∧Below (w.heap.size+1) (w.alloc (.cells #[.slice A0 n.sites.length C0,.slice A1 n.sectors.length C1,.slice A2 n.antennas.length C2,.slice A3 n.radios.length C3] 46)) wr) (fun i wr=>n.antennas.length-(intOf i).toNat)
       case atStart=>exact⟨0,Nat.zero_le _,rfl,fun j hj=>absurd hj (by omega),by first|exact HB.out|exact Below.refl _ _⟩
       case round =>
        obtain⟨k,hk,rfl,hno,hb⟩:=hrel;have HN:=Lib.hid hno;have HB:=Lib.hid hb;have zb:=hb.size;simp at zb;clear hno hb;have BW:Hid (Below w.heap.size w wr):=B0.out.trans (HB.out.mono (by omega));have yn:w.heap.size<wr.heap.size:=by omega
        have n0:wr.cell? ⟨w.heap.size,0,none⟩=some (.slice A0 n.sites.length C0):=by rw[bat HB.out (w.heap.size) 0 (by omega)];simp[go_sem]
        have n1:wr.cell? ⟨w.heap.size,1,none⟩=some (.slice A1 n.sectors.length C1):=by rw[bat HB.out (w.heap.size) 1 (by omega)];simp[go_sem]
        have n2:wr.cell? ⟨w.heap.size,2,none⟩=some (.slice A2 n.antennas.length C2):=by rw[bat HB.out (w.heap.size) 2 (by omega)];simp[go_sem]
        have n3:wr.cell? ⟨w.heap.size,3,none⟩=some (.slice A3 n.radios.length C3):=by rw[bat HB.out (w.heap.size) 3 (by omega)];simp[go_sem]
        obtain⟨aAntenna,cAntenna,eAntenna,_,_,hcl⟩:=DAntenna.rd H2.out;injection eAntenna with eAntenna1 _ eAntenna3;subst eAntenna1 eAntenna3;have HCL:=Lib.hid hcl;clear hcl
        by_cases hlt:k<n.antennas.length
        ·obtain⟨b,off,ea,hbl,hat⟩:=HCL.out (by omega)
         subst ea;obtain⟨s0,s1,⟨u2,s2,ru2⟩,⟨u3,s3,ru3⟩⟩:=hat k hlt;have hok:=all_ok hk_antennas hlt;have RU2:=Lib.hid ru2;have RU3:=Lib.hid ru3;clear ru2 ru3;rw[← bat BW.out b _ hbl] at s0 s1 s2 s3;have sp:0<k→wr.cell? ⟨b,off+(k-1)*4,none⟩=some (.string (zax n.antennas (k-1)).name):=fun h=>by
          have t:=(hat (k-1) (by omega)).1;rw[← bat BW.out b _ hbl,zbe (show k-1<n.antennas.length by omega)] at t;exact t
         have SP:=Lib.hid sp;clear sp hat;have HUN:Hid (antB (zax n.antennas k)=false→za7 antB za8 n.antennas=false):=fun h=>za6 hlt (zdq hlt (by rw[zbe hlt];exact h))
         have HUZ:Hid (k=0→antB (zax n.antennas k)=true→upOk antB za8 n.antennas k=true):=fun e h=>by subst e;rw[zc0 hlt,zbe hlt];exact h
         have HUP:Hid (0<k→upOk antB za8 n.antennas k=(antB (zax n.antennas k)&&za8 (zax n.antennas (k-1)) (zax n.antennas k))):=fun h=>by rw[zdd h hlt,zbe hlt,zbe (show k-1<n.antennas.length by omega)]
         have hsz:=za4 DAntenna.tr n.antennas k hlt;have ks0:=hok.name;have hst:=DAntenna.siz_tr n.antennas[k];rw[zcc,zcc] at hst;rw[zbe hlt] at s0 s1 ks0 RU2 RU3 hst hsz;generalize hA:zax n.antennas k=A at *;generalize hP:zax n.antennas (k-1)=P at *;clear hA hP hok;obtain⟨au2,cu2,eu2,_,_,_⟩:=Rd.ints RU2.out;subst eu2;obtain⟨au3,cu3,eu3,_,_,_⟩:=Rd.ints RU3.out;subst eu3;have i1:(0:Int)≤(k:Int):=by omega
         have i2:(k:Int)<(n.antennas.length:Int):=by omega
         have yb:b<wr.heap.size:=by omega
         have HV:Hid (∀ W:World,Below w.heap.size w W→Calls Tryz.prog 104 #[.agg #[.string A.name,.int .i64 A.gain,.slice au2 A.horizontal.length cu2,.slice au3 A.vertical.length cu3]] W fun e w'=>e=.returned (.bool (antB A))∧Below W.heap.size W w'):=fun W hW=>validAntenna_any A _ _ W ((RU2.out.below hW).mono hW.size) ((RU3.out.below hW).mono hW.size) ks0 (by omega) (by omega)
         go_wp2;have b1:Below wr.heap.size wr (wr.alloc (.cells #[.string A.name,.int .i64 A.gain,.slice au2 A.horizontal.length cu2,.slice au3 A.vertical.length cu3] 147)):=(Below.refl _ _).alloc (Nat.le_refl _) _;have f0:(wr.alloc (.cells #[.string A.name,.int .i64 A.gain,.slice au2 A.horizontal.length cu2,.slice au3 A.vertical.length cu3] 147)).cell? ⟨wr.heap.size,0,none⟩=some (.string A.name):=by simp[go_sem]
         have f1:(wr.alloc (.cells #[.string A.name,.int .i64 A.gain,.slice au2 A.horizontal.length cu2,.slice au3 A.vertical.length cu3] 147)).cell? ⟨wr.heap.size,1,none⟩=some (.int .i64 A.gain):=by simp[go_sem]
         have f2:(wr.alloc (.cells #[.string A.name,.int .i64 A.gain,.slice au2 A.horizontal.length cu2,.slice au3 A.vertical.length cu3] 147)).cell? ⟨wr.heap.size,2,none⟩=some (.slice au2 A.horizontal.length cu2):=by simp[go_sem]
         have f3:(wr.alloc (.cells #[.string A.name,.int .i64 A.gain,.slice au2 A.horizontal.length cu2,.slice au3 A.vertical.length cu3] 147)).cell? ⟨wr.heap.size,3,none⟩=some (.slice au3 A.vertical.length cu3):=by simp[go_sem]
         have fz:wr.heap.size<(wr.alloc (.cells #[.string A.name,.int .i64 A.gain,.slice au2 A.horizontal.length cu2,.slice au3 A.vertical.length cu3] 147)).heap.size:=by simp
         generalize hW1:(wr.alloc (.cells #[.string A.name,.int .i64 A.gain,.slice au2 A.horizontal.length cu2,.slice au3 A.vertical.length cu3] 147))=W1 at *;have m0:=(bat b1 (w.heap.size) 0 yn).trans n0;have m1:=(bat b1 (w.heap.size) 1 yn).trans n1;have m2:=(bat b1 (w.heap.size) 2 yn).trans n2;have m3:=(bat b1 (w.heap.size) 3 yn).trans n3;have BB:=Lib.hid (BW.out.trans (b1.mono (by omega)));have BH:=Lib.hid (HB.out.trans (b1.mono (by omega)));have B1:=Lib.hid b1;have zz:=b1.size;clear b1 hW1 n0 n1 n2 n3;have HNB:Hid (za7 antB za8 n.antennas=false→netB n=false):=fun h=>by unfold netB;rw[h];simp
         by_cases c1:antB A=true
         ·have HM:Hid (antB A=true):=c1
          by_cases c3:0<k
          ·skip
           have i3:IntKind.i64.wrap ((k:Int)-1)=(k:Int)-1:=IntWalk.i64_in _ (by omega);have i4:(0:Int)≤(k:Int)-1:=by omega
           have i6:(k:Int)-1<(n.antennas.length:Int):=by omega
           have i7:(1:Int)≤(k:Int):=by omega
           have i8:decide (0<k)=true:=by simpa using c3
           have i5:((k:Int)-1).toNat=k-1:=by omega
           by_cases c4:ltS P.name A.name=true
           ·have le4:=geS_of_lt c4
            have HF:Hid (upOk antB za8 n.antennas k=true):=by show _=_;rw[HUP.out c3,Bool.and_eq_true];exact⟨HM.out,c4⟩
            have fp:=(bat B1.out b _ yb).trans (SP.out c3);have oX:=zan (w0:=W1) fz;have oN:=zan (w0:=W1) (show w.heap.size<W1.heap.size by omega);have oB:=zan (w0:=W1) (show b<W1.heap.size by omega);rw[c1] at HV;refine zae W1.heap.size W1 (Below.refl _ _) (by kernel_rfl) (by kernel_rfl) ?_
            repeat (go_big_quiet_step (first|(go_at_call 104;exact zai (Nat.le_refl _) (HV.out _ (BB.out.trans ((zaa _ _ _).mono BB.out.size))))))
            refine wpQuiet_nil ?_;rintro _ ⟨X,rfl⟩;have hX:=zaa W1.heap.size W1 X;clear oX oN oB;generalize over W1.heap.size W1 X=w2 at *;have BE:=Lib.hid (BB.out.trans (hX.mono BB.out.size));have BF:=Lib.hid (BH.out.trans (hX.mono (by omega)));clear hX;clear i3 i5;go_wp2;go_roundw
            case rel=>exact⟨k+1,by omega,by go_num,zbj HN.out (HF.out),BF.out⟩
            case measure=>simp[intOf];omega
           ·replace c4:ltS P.name A.name=false:=Bool.eq_false_iff.2 c4
            have le4:=geS_of_not c4;have HF:Hid (za7 antB za8 n.antennas=false):=za6 hlt (by rw[HUP.out c3,show za8 P A=false from c4];simp);have fp:=(bat B1.out b _ yb).trans (SP.out c3);have oX:=zan (w0:=W1) fz;have oN:=zan (w0:=W1) (show w.heap.size<W1.heap.size by omega);have oB:=zan (w0:=W1) (show b<W1.heap.size by omega);rw[c1] at HV;refine zae W1.heap.size W1 (Below.refl _ _) (by kernel_rfl) (by kernel_rfl) ?_
            repeat (go_big_quiet_step (first|(go_at_call 104;exact zai (Nat.le_refl _) (HV.out _ (BB.out.trans ((zaa _ _ _).mono BB.out.size))))))
            refine wpQuiet_nil ?_;rintro _ ⟨X,rfl⟩;have hX:=zaa W1.heap.size W1 X;clear oX oN oB;generalize over W1.heap.size W1 X=w2 at *;have BE:=Lib.hid (BB.out.trans (hX.mono BB.out.size));have BF:=Lib.hid (BH.out.trans (hX.mono (by omega)));clear hX;clear i3 i5;go_wp2;go_ret;exact⟨by rw[HNB.out (HF.out)];rfl,BE.out⟩
          ·have i8:decide (0<k)=false:=by simpa using c3
           have HF:Hid (upOk antB za8 n.antennas k=true):=HUZ.out (by omega) HM.out;have oX:=zan (w0:=W1) fz;have oN:=zan (w0:=W1) (show w.heap.size<W1.heap.size by omega);have oB:=zan (w0:=W1) (show b<W1.heap.size by omega);rw[c1] at HV;refine zae W1.heap.size W1 (Below.refl _ _) (by kernel_rfl) (by kernel_rfl) ?_
           repeat (go_big_quiet_step (first|(go_at_call 104;exact zai (Nat.le_refl _) (HV.out _ (BB.out.trans ((zaa _ _ _).mono BB.out.size))))))
           refine wpQuiet_nil ?_;rintro _ ⟨X,rfl⟩;have hX:=zaa W1.heap.size W1 X;clear oX oN oB;generalize over W1.heap.size W1 X=w2 at *;have BE:=Lib.hid (BB.out.trans (hX.mono BB.out.size));have BF:=Lib.hid (BH.out.trans (hX.mono (by omega)));clear hX;go_wp2;go_roundw
           case rel=>exact⟨k+1,by omega,by go_num,zbj HN.out (HF.out),BF.out⟩
           case measure=>simp[intOf];omega
         ·replace c1:antB A=false:=Bool.eq_false_iff.2 c1
          have HF:Hid (za7 antB za8 n.antennas=false):=HUN.out c1;have oX:=zan (w0:=W1) fz;have oN:=zan (w0:=W1) (show w.heap.size<W1.heap.size by omega);have oB:=zan (w0:=W1) (show b<W1.heap.size by omega);rw[c1] at HV;refine zae W1.heap.size W1 (Below.refl _ _) (by kernel_rfl) (by kernel_rfl) ?_
          repeat (go_big_quiet_step (first|(go_at_call 104;exact zai (Nat.le_refl _) (HV.out _ (BB.out.trans ((zaa _ _ _).mono BB.out.size))))))
          refine wpQuiet_nil ?_;rintro _ ⟨X,rfl⟩;have hX:=zaa W1.heap.size W1 X;clear oX oN oB;generalize over W1.heap.size W1 X=w2 at *;have BE:=Lib.hid (BB.out.trans (hX.mono BB.out.size));have BF:=Lib.hid (BH.out.trans (hX.mono (by omega)));clear hX;go_wp2;go_ret;exact⟨by rw[HNB.out (HF.out)];rfl,BE.out⟩
        ·obtain rfl:k=n.antennas.length:=by omega
         have HRAntenna:Hid (za7 antB za8 n.antennas=true):=zck HN.out;clear hk HN hlt;go_wp2;go_loopw [92] (fun i wr=>∃ (k:Nat),k≤n.radios.length∧i=.int .i64 k∧(∀ j,j<k→upOk radB zbw n.radios j=true)∧Below (w.heap.size+1) (w.alloc (.cells #[.slice A0 n.sites.length C0,.slice A1 n.sectors.length C1,.slice A2 n.antennas.length C2,.slice A3 n.radios.length C3] 46)) wr) (fun i wr=>n.radios.length-(intOf i).toNat)
         case atStart=>exact⟨0,Nat.zero_le _,rfl,fun j hj=>absurd hj (by omega),by first|exact HB.out|exact Below.refl _ _⟩
         case round =>
          obtain⟨k,hk,rfl,hno,hb⟩:=hrel;have HN:=Lib.hid hno;have HB:=Lib.hid hb;have zb:=hb.size;simp at zb;clear hno hb;have BW:Hid (Below w.heap.size w wr):=B0.out.trans (HB.out.mono (by omega));have yn:w.heap.size<wr.heap.size:=by omega
          have n0:wr.cell? ⟨w.heap.size,0,none⟩=some (.slice A0 n.sites.length C0):=by rw[bat HB.out (w.heap.size) 0 (by omega)];simp[go_sem]
          have n1:wr.cell? ⟨w.heap.size,1,none⟩=some (.slice A1 n.sectors.length C1):=by rw[bat HB.out (w.heap.size) 1 (by omega)];simp[go_sem]
          have n2:wr.cell? ⟨w.heap.size,2,none⟩=some (.slice A2 n.antennas.length C2):=by rw[bat HB.out (w.heap.size) 2 (by omega)];simp[go_sem]
          have n3:wr.cell? ⟨w.heap.size,3,none⟩=some (.slice A3 n.radios.length C3):=by rw[bat HB.out (w.heap.size) 3 (by omega)];simp[go_sem]
          obtain⟨aRadio,cRadio,eRadio,_,_,hcl⟩:=DRadio.rd H3.out;injection eRadio with eRadio1 _ eRadio3;subst eRadio1 eRadio3;have HCL:=Lib.hid hcl;clear hcl
          by_cases hlt:k<n.radios.length
          ·obtain⟨b,off,ea,hbl,hat⟩:=HCL.out (by omega)
           subst ea;obtain⟨s0,s1,s2,s3,s4,⟨u5,s5,ru5⟩⟩:=hat k hlt;have hok:=all_ok hk_radios hlt;have RU5:=Lib.hid ru5;clear ru5;rw[← bat BW.out b _ hbl] at s0 s1 s2 s3 s4 s5;have sp:0<k→wr.cell? ⟨b,off+(k-1)*6,none⟩=some (.string (za5 n.radios (k-1)).name):=fun h=>by
            have t:=(hat (k-1) (by omega)).1;rw[← bat BW.out b _ hbl,zbn (show k-1<n.radios.length by omega)] at t;exact t
           have SP:=Lib.hid sp;clear sp hat;have HUN:Hid (radB (za5 n.radios k)=false→za7 radB zbw n.radios=false):=fun h=>za6 hlt (zdq hlt (by rw[zbn hlt];exact h))
           have HUZ:Hid (k=0→radB (za5 n.radios k)=true→upOk radB zbw n.radios k=true):=fun e h=>by subst e;rw[zc0 hlt,zbn hlt];exact h
           have HUP:Hid (0<k→upOk radB zbw n.radios k=(radB (za5 n.radios k)&&zbw (za5 n.radios (k-1)) (za5 n.radios k))):=fun h=>by rw[zdd h hlt,zbn hlt,zbn (show k-1<n.radios.length by omega)]
           have hsz:=za4 DRadio.tr n.radios k hlt;have ks0:=hok.name;have hst:=DRadio.siz_tr n.radios[k];rw[DMode.siz_s] at hst;rw[zbn hlt] at s0 s1 s2 s3 s4 ks0 RU5 hst hsz;generalize hA:za5 n.radios k=A at *;generalize hP:za5 n.radios (k-1)=P at *;clear hA hP hok;obtain⟨au5,cu5,eu5,_,_,_⟩:=DMode.rd RU5.out;subst eu5;have i1:(0:Int)≤(k:Int):=by omega
           have i2:(k:Int)<(n.radios.length:Int):=by omega
           have yb:b<wr.heap.size:=by omega
           have HV:Hid (∀ W:World,Below w.heap.size w W→Calls Tryz.prog 105 #[.agg #[.string A.name,.int .i64 A.power,.int .i64 A.feeder,.int .i64 A.noise,.int .i64 A.width,.slice au5 A.modes.length cu5]] W fun e w'=>e=.returned (.bool (radB A))∧Below W.heap.size W w'):=fun W hW=>validRadio_any A _ W ((RU5.out.below hW).mono hW.size) ks0 (by omega)
           go_wp2;have b1:Below wr.heap.size wr (wr.alloc (.cells #[.string A.name,.int .i64 A.power,.int .i64 A.feeder,.int .i64 A.noise,.int .i64 A.width,.slice au5 A.modes.length cu5] 151)):=(Below.refl _ _).alloc (Nat.le_refl _) _;have f0:(wr.alloc (.cells #[.string A.name,.int .i64 A.power,.int .i64 A.feeder,.int .i64 A.noise,.int .i64 A.width,.slice au5 A.modes.length cu5] 151)).cell? ⟨wr.heap.size,0,none⟩=some (.string A.name):=by simp[go_sem]
           have f1:(wr.alloc (.cells #[.string A.name,.int .i64 A.power,.int .i64 A.feeder,.int .i64 A.noise,.int .i64 A.width,.slice au5 A.modes.length cu5] 151)).cell? ⟨wr.heap.size,1,none⟩=some (.int .i64 A.power):=by simp[go_sem]
           have f2:(wr.alloc (.cells #[.string A.name,.int .i64 A.power,.int .i64 A.feeder,.int .i64 A.noise,.int .i64 A.width,.slice au5 A.modes.length cu5] 151)).cell? ⟨wr.heap.size,2,none⟩=some (.int .i64 A.feeder):=by simp[go_sem]
           have f3:(wr.alloc (.cells #[.string A.name,.int .i64 A.power,.int .i64 A.feeder,.int .i64 A.noise,.int .i64 A.width,.slice au5 A.modes.length cu5] 151)).cell? ⟨wr.heap.size,3,none⟩=some (.int .i64 A.noise):=by simp[go_sem]
           have f4:(wr.alloc (.cells #[.string A.name,.int .i64 A.power,.int .i64 A.feeder,.int .i64 A.noise,.int .i64 A.width,.slice au5 A.modes.length cu5] 151)).cell? ⟨wr.heap.size,4,none⟩=some (.int .i64 A.width):=by simp[go_sem]
           have f5:(wr.alloc (.cells #[.string A.name,.int .i64 A.power,.int .i64 A.feeder,.int .i64 A.noise,.int .i64 A.width,.slice au5 A.modes.length cu5] 151)).cell? ⟨wr.heap.size,5,none⟩=some (.slice au5 A.modes.length cu5):=by simp[go_sem]
           have fz:wr.heap.size<(wr.alloc (.cells #[.string A.name,.int .i64 A.power,.int .i64 A.feeder,.int .i64 A.noise,.int .i64 A.width,.slice au5 A.modes.length cu5] 151)).heap.size:=by simp
           generalize hW1:(wr.alloc (.cells #[.string A.name,.int .i64 A.power,.int .i64 A.feeder,.int .i64 A.noise,.int .i64 A.width,.slice au5 A.modes.length cu5] 151))=W1 at *;have m0:=(bat b1 (w.heap.size) 0 yn).trans n0;have m1:=(bat b1 (w.heap.size) 1 yn).trans n1;have m2:=(bat b1 (w.heap.size) 2 yn).trans n2;have m3:=(bat b1 (w.heap.size) 3 yn).trans n3;have BB:=Lib.hid (BW.out.trans (b1.mono (by omega)));have BH:=Lib.hid (HB.out.trans (b1.mono (by omega)));have B1:=Lib.hid b1;have zz:=b1.size;clear b1 hW1 n0 n1 n2 n3;have HNB:Hid (za7 radB zbw n.radios=false→netB n=false):=fun h=>by unfold netB;rw[h];simp
           by_cases c1:radB A=true
           ·have HM:Hid (radB A=true):=c1
            by_cases c3:0<k
            ·skip
             have i3:IntKind.i64.wrap ((k:Int)-1)=(k:Int)-1:=IntWalk.i64_in _ (by omega);have i4:(0:Int)≤(k:Int)-1:=by omega
             have i6:(k:Int)-1<(n.radios.length:Int):=by omega
             have i7:(1:Int)≤(k:Int):=by omega
             have i8:decide (0<k)=true:=by simpa using c3
             have i5:((k:Int)-1).toNat=k-1:=by omega
             by_cases c4:ltS P.name A.name=true
             ·have le4:=geS_of_lt c4
              have HF:Hid (upOk radB zbw n.radios k=true):=by show _=_;rw[HUP.out c3,Bool.and_eq_true];exact⟨HM.out,c4⟩
              have fp:=(bat B1.out b _ yb).trans (SP.out c3);have oX:=zan (w0:=W1) fz;have oN:=zan (w0:=W1) (show w.heap.size<W1.heap.size by omega);have oB:=zan (w0:=W1) (show b<W1.heap.size by omega);rw[c1] at HV;refine zae W1.heap.size W1 (Below.refl _ _) (by kernel_rfl) (by kernel_rfl) ?_
              repeat (go_big_quiet_step (first|(go_at_call 105;exact zai (Nat.le_refl _) (HV.out _ (BB.out.trans ((zaa _ _ _).mono BB.out.size))))))
              refine wpQuiet_nil ?_;rintro _ ⟨X,rfl⟩;have hX:=zaa W1.heap.size W1 X;clear oX oN oB;generalize over W1.heap.size W1 X=w2 at *;have BE:=Lib.hid (BB.out.trans (hX.mono BB.out.size));have BF:=Lib.hid (BH.out.trans (hX.mono (by omega)));clear hX;clear i3 i5;go_wp2;go_roundw
              case rel=>exact⟨k+1,by omega,by go_num,zbj HN.out (HF.out),BF.out⟩
              case measure=>simp[intOf];omega
             ·replace c4:ltS P.name A.name=false:=Bool.eq_false_iff.2 c4
              have le4:=geS_of_not c4;have HF:Hid (za7 radB zbw n.radios=false):=za6 hlt (by rw[HUP.out c3,show zbw P A=false from c4];simp);have fp:=(bat B1.out b _ yb).trans (SP.out c3);have oX:=zan (w0:=W1) fz;have oN:=zan (w0:=W1) (show w.heap.size<W1.heap.size by omega);have oB:=zan (w0:=W1) (show b<W1.heap.size by omega);rw[c1] at HV;refine zae W1.heap.size W1 (Below.refl _ _) (by kernel_rfl) (by kernel_rfl) ?_
              repeat (go_big_quiet_step (first|(go_at_call 105;exact zai (Nat.le_refl _) (HV.out _ (BB.out.trans ((zaa _ _ _).mono BB.out.size))))))
              refine wpQuiet_nil ?_;rintro _ ⟨X,rfl⟩;have hX:=zaa W1.heap.size W1 X;clear oX oN oB;generalize over W1.heap.size W1 X=w2 at *;have BE:=Lib.hid (BB.out.trans (hX.mono BB.out.size));have BF:=Lib.hid (BH.out.trans (hX.mono (by omega)));clear hX;clear i3 i5;go_wp2;go_ret;exact⟨by rw[HNB.out (HF.out)];rfl,BE.out⟩
            ·have i8:decide (0<k)=false:=by simpa using c3
             have HF:Hid (upOk radB zbw n.radios k=true):=HUZ.out (by omega) HM.out;have oX:=zan (w0:=W1) fz;have oN:=zan (w0:=W1) (show w.heap.size<W1.heap.size by omega);have oB:=zan (w0:=W1) (show b<W1.heap.size by omega);rw[c1] at HV;refine zae W1.heap.size W1 (Below.refl _ _) (by kernel_rfl) (by kernel_rfl) ?_
             repeat (go_big_quiet_step (first|(go_at_call 105;exact zai (Nat.le_refl _) (HV.out _ (BB.out.trans ((zaa _ _ _).mono BB.out.size))))))
             refine wpQuiet_nil ?_;rintro _ ⟨X,rfl⟩;have hX:=zaa W1.heap.size W1 X;clear oX oN oB;generalize over W1.heap.size W1 X=w2 at *;have BE:=Lib.hid (BB.out.trans (hX.mono BB.out.size));have BF:=Lib.hid (BH.out.trans (hX.mono (by omega)));clear hX;go_wp2;go_roundw
             case rel=>exact⟨k+1,by omega,by go_num,zbj HN.out (HF.out),BF.out⟩
             case measure=>simp[intOf];omega
           ·replace c1:radB A=false:=Bool.eq_false_iff.2 c1
            have HF:Hid (za7 radB zbw n.radios=false):=HUN.out c1;have oX:=zan (w0:=W1) fz;have oN:=zan (w0:=W1) (show w.heap.size<W1.heap.size by omega);have oB:=zan (w0:=W1) (show b<W1.heap.size by omega);rw[c1] at HV;refine zae W1.heap.size W1 (Below.refl _ _) (by kernel_rfl) (by kernel_rfl) ?_
            repeat (go_big_quiet_step (first|(go_at_call 105;exact zai (Nat.le_refl _) (HV.out _ (BB.out.trans ((zaa _ _ _).mono BB.out.size))))))
            refine wpQuiet_nil ?_;rintro _ ⟨X,rfl⟩;have hX:=zaa W1.heap.size W1 X;clear oX oN oB;generalize over W1.heap.size W1 X=w2 at *;have BE:=Lib.hid (BB.out.trans (hX.mono BB.out.size));have BF:=Lib.hid (BH.out.trans (hX.mono (by omega)));clear hX;go_wp2;go_ret;exact⟨by rw[HNB.out (HF.out)];rfl,BE.out⟩
          ·obtain rfl:k=n.radios.length:=by omega
           have HRRadio:Hid (za7 radB zbw n.radios=true):=zck HN.out;clear hk HN hlt;go_wp2;go_loopw [120] (fun i wr=>∃ (k:Nat),k≤n.sectors.length∧i=.int .i64 k∧(∀ j,j<k→upOk (fun x=>zal x&&zas n x) zbb n.sectors j=true)∧Below (w.heap.size+1) (w.alloc (.cells #[.slice A0 n.sites.length C0,.slice A1 n.sectors.length C1,.slice A2 n.antennas.length C2,.slice A3 n.radios.length C3] 46)) wr) (fun i wr=>n.sectors.length-(intOf i).toNat)
           case atStart=>exact⟨0,Nat.zero_le _,rfl,fun j hj=>absurd hj (by omega),by first|exact HB.out|exact Below.refl _ _⟩
           case round =>
            obtain⟨k,hk,rfl,hno,hb⟩:=hrel;have HN:=Lib.hid hno;have HB:=Lib.hid hb;have zb:=hb.size;simp at zb;clear hno hb;have BW:Hid (Below w.heap.size w wr):=B0.out.trans (HB.out.mono (by omega));have yn:w.heap.size<wr.heap.size:=by omega
            have n0:wr.cell? ⟨w.heap.size,0,none⟩=some (.slice A0 n.sites.length C0):=by rw[bat HB.out (w.heap.size) 0 (by omega)];simp[go_sem]
            have n1:wr.cell? ⟨w.heap.size,1,none⟩=some (.slice A1 n.sectors.length C1):=by rw[bat HB.out (w.heap.size) 1 (by omega)];simp[go_sem]
            have n2:wr.cell? ⟨w.heap.size,2,none⟩=some (.slice A2 n.antennas.length C2):=by rw[bat HB.out (w.heap.size) 2 (by omega)];simp[go_sem]
            have n3:wr.cell? ⟨w.heap.size,3,none⟩=some (.slice A3 n.radios.length C3):=by rw[bat HB.out (w.heap.size) 3 (by omega)];simp[go_sem]
            obtain⟨aSector,cSector,eSector,_,_,hcl⟩:=DSector.rd H1.out;injection eSector with eSector1 _ eSector3;subst eSector1 eSector3;have HCL:=Lib.hid hcl;clear hcl
            by_cases hlt:k<n.sectors.length
            ·obtain⟨b,off,ea,hbl,hat⟩:=HCL.out (by omega)
             subst ea;obtain⟨s0,s1,s2,s3,s4,s5,s6,s7,s8⟩:=hat k hlt;have hok:=all_ok hk_sectors hlt;rw[← bat BW.out b _ hbl] at s0 s1 s2 s3 s4 s5 s6 s7 s8;have sp:0<k→wr.cell? ⟨b,off+(k-1)*9,none⟩=some (.string (zad n.sectors (k-1)).name):=fun h=>by
              have t:=(hat (k-1) (by omega)).1;rw[← bat BW.out b _ hbl,za9 (show k-1<n.sectors.length by omega)] at t;exact t
             have SP:=Lib.hid sp;clear sp hat;have HUN:Hid ((fun x=>zal x&&zas n x) (zad n.sectors k)=false→za7 (fun x=>zal x&&zas n x) zbb n.sectors=false):=fun h=>za6 hlt (zdq hlt (by rw[za9 hlt];exact h))
             have HUZ:Hid (k=0→(fun x=>zal x&&zas n x) (zad n.sectors k)=true→upOk (fun x=>zal x&&zas n x) zbb n.sectors k=true):=fun e h=>by subst e;rw[zc0 hlt,za9 hlt];exact h
             have HUP:Hid (0<k→upOk (fun x=>zal x&&zas n x) zbb n.sectors k=((fun x=>zal x&&zas n x) (zad n.sectors k)&&zbb (zad n.sectors (k-1)) (zad n.sectors k))):=fun h=>by rw[zdd h hlt,za9 hlt,za9 (show k-1<n.sectors.length by omega)]
             have hsz:=za4 DSector.tr n.sectors k hlt;have ks0:=hok.name;have ks1:=hok.site;have ks2:=hok.antenna;have ks3:=hok.radio;have ks4:=hok.band;rw[za9 hlt] at s0 s1 s2 s3 s4 s5 s6 s7 s8 ks0 ks1 ks2 ks3 ks4;generalize hA:zad n.sectors k=A at *;generalize hP:zad n.sectors (k-1)=P at *;clear hA hP hok;have i1:(0:Int)≤(k:Int):=by omega
             have i2:(k:Int)<(n.sectors.length:Int):=by omega
             have yb:b<wr.heap.size:=by omega
             have HV:Hid (∀ W:World,Below w.heap.size w W→Calls Tryz.prog 106 #[.agg #[.string A.name,.string A.site,.string A.antenna,.string A.radio,.string A.band,.int .i64 A.azimuth,.int .i64 A.tilt,.int .i64 A.above,.int .i64 A.channel]] W fun e w'=>e=.returned (.bool (zal A))∧Below W.heap.size W w'):=fun W hW=>sectorValid_any A ks0 ks1 ks2 ks3 ks4 W
             have HP:Hid (∀ W:World,Below w.heap.size w W→Calls Tryz.prog 107 #[.agg #[.slice A0 n.sites.length C0,.slice (some ⟨b,off,none⟩) n.sectors.length C1,.slice A2 n.antennas.length C2,.slice A3 n.radios.length C3],.agg #[.string A.name,.string A.site,.string A.antenna,.string A.radio,.string A.band,.int .i64 A.azimuth,.int .i64 A.tilt,.int .i64 A.above,.int .i64 A.channel]] W fun e w'=>e=.returned (.bool (zas n A))∧Below W.heap.size W w'):=fun W hW=>hasParts_any n A _ _ _ _ W ((H0.out.below hW).mono hW.size) ((H2.out.below hW).mono hW.size) ((H3.out.below hW).mono hW.size) (by omega) (by omega) (by omega)
             go_wp2;have b1:Below wr.heap.size wr (wr.alloc (.cells #[.string A.name,.string A.site,.string A.antenna,.string A.radio,.string A.band,.int .i64 A.azimuth,.int .i64 A.tilt,.int .i64 A.above,.int .i64 A.channel] 102)):=(Below.refl _ _).alloc (Nat.le_refl _) _;have f0:(wr.alloc (.cells #[.string A.name,.string A.site,.string A.antenna,.string A.radio,.string A.band,.int .i64 A.azimuth,.int .i64 A.tilt,.int .i64 A.above,.int .i64 A.channel] 102)).cell? ⟨wr.heap.size,0,none⟩=some (.string A.name):=by simp[go_sem]
             have f1:(wr.alloc (.cells #[.string A.name,.string A.site,.string A.antenna,.string A.radio,.string A.band,.int .i64 A.azimuth,.int .i64 A.tilt,.int .i64 A.above,.int .i64 A.channel] 102)).cell? ⟨wr.heap.size,1,none⟩=some (.string A.site):=by simp[go_sem]
             have f2:(wr.alloc (.cells #[.string A.name,.string A.site,.string A.antenna,.string A.radio,.string A.band,.int .i64 A.azimuth,.int .i64 A.tilt,.int .i64 A.above,.int .i64 A.channel] 102)).cell? ⟨wr.heap.size,2,none⟩=some (.string A.antenna):=by simp[go_sem]
             have f3:(wr.alloc (.cells #[.string A.name,.string A.site,.string A.antenna,.string A.radio,.string A.band,.int .i64 A.azimuth,.int .i64 A.tilt,.int .i64 A.above,.int .i64 A.channel] 102)).cell? ⟨wr.heap.size,3,none⟩=some (.string A.radio):=by simp[go_sem]
             have f4:(wr.alloc (.cells #[.string A.name,.string A.site,.string A.antenna,.string A.radio,.string A.band,.int .i64 A.azimuth,.int .i64 A.tilt,.int .i64 A.above,.int .i64 A.channel] 102)).cell? ⟨wr.heap.size,4,none⟩=some (.string A.band):=by simp[go_sem]
             have f5:(wr.alloc (.cells #[.string A.name,.string A.site,.string A.antenna,.string A.radio,.string A.band,.int .i64 A.azimuth,.int .i64 A.tilt,.int .i64 A.above,.int .i64 A.channel] 102)).cell? ⟨wr.heap.size,5,none⟩=some (.int .i64 A.azimuth):=by simp[go_sem]
             have f6:(wr.alloc (.cells #[.string A.name,.string A.site,.string A.antenna,.string A.radio,.string A.band,.int .i64 A.azimuth,.int .i64 A.tilt,.int .i64 A.above,.int .i64 A.channel] 102)).cell? ⟨wr.heap.size,6,none⟩=some (.int .i64 A.tilt):=by simp[go_sem]
             have f7:(wr.alloc (.cells #[.string A.name,.string A.site,.string A.antenna,.string A.radio,.string A.band,.int .i64 A.azimuth,.int .i64 A.tilt,.int .i64 A.above,.int .i64 A.channel] 102)).cell? ⟨wr.heap.size,7,none⟩=some (.int .i64 A.above):=by simp[go_sem]
             have f8:(wr.alloc (.cells #[.string A.name,.string A.site,.string A.antenna,.string A.radio,.string A.band,.int .i64 A.azimuth,.int .i64 A.tilt,.int .i64 A.above,.int .i64 A.channel] 102)).cell? ⟨wr.heap.size,8,none⟩=some (.int .i64 A.channel):=by simp[go_sem]
             have fz:wr.heap.size<(wr.alloc (.cells #[.string A.name,.string A.site,.string A.antenna,.string A.radio,.string A.band,.int .i64 A.azimuth,.int .i64 A.tilt,.int .i64 A.above,.int .i64 A.channel] 102)).heap.size:=by simp
             generalize hW1:(wr.alloc (.cells #[.string A.name,.string A.site,.string A.antenna,.string A.radio,.string A.band,.int .i64 A.azimuth,.int .i64 A.tilt,.int .i64 A.above,.int .i64 A.channel] 102))=W1 at *;have m0:=(bat b1 (w.heap.size) 0 yn).trans n0;have m1:=(bat b1 (w.heap.size) 1 yn).trans n1;have m2:=(bat b1 (w.heap.size) 2 yn).trans n2;have m3:=(bat b1 (w.heap.size) 3 yn).trans n3;have BB:=Lib.hid (BW.out.trans (b1.mono (by omega)));have BH:=Lib.hid (HB.out.trans (b1.mono (by omega)));have B1:=Lib.hid b1;have zz:=b1.size;clear b1 hW1 n0 n1 n2 n3;have HNB:Hid (za7 (fun x=>zal x&&zas n x) zbb n.sectors=false→netB n=false):=fun h=>by unfold netB;rw[h];simp
             by_cases c1:zal A=true
             ·by_cases c2:zas n A=true
              ·have HM:Hid ((fun x=>zal x&&zas n x) A=true):=by show (zal A&&zas n A)=true;rw[c1,c2];rfl
               by_cases c3:0<k
               ·skip
                have i3:IntKind.i64.wrap ((k:Int)-1)=(k:Int)-1:=IntWalk.i64_in _ (by omega);have i4:(0:Int)≤(k:Int)-1:=by omega
                have i6:(k:Int)-1<(n.sectors.length:Int):=by omega
                have i7:(1:Int)≤(k:Int):=by omega
                have i8:decide (0<k)=true:=by simpa using c3
                have i5:((k:Int)-1).toNat=k-1:=by omega
                by_cases c4:ltS P.name A.name=true
                ·have le4:=geS_of_lt c4
                 have HF:Hid (upOk (fun x=>zal x&&zas n x) zbb n.sectors k=true):=by show _=_;rw[HUP.out c3,Bool.and_eq_true];exact⟨HM.out,c4⟩
                 have fp:=(bat B1.out b _ yb).trans (SP.out c3);have oX:=zan (w0:=W1) fz;have oN:=zan (w0:=W1) (show w.heap.size<W1.heap.size by omega);have oB:=zan (w0:=W1) (show b<W1.heap.size by omega);rw[c1] at HV;rw[c2] at HP;refine zae W1.heap.size W1 (Below.refl _ _) (by kernel_rfl) (by kernel_rfl) ?_
                 repeat (go_big_quiet_step (first|(go_at_call 106;exact zai (Nat.le_refl _) (HV.out _ (BB.out.trans ((zaa _ _ _).mono BB.out.size))))|(go_at_call 107;exact zai (Nat.le_refl _) (HP.out _ (BB.out.trans ((zaa _ _ _).mono BB.out.size))))))
                 refine wpQuiet_nil ?_;rintro _ ⟨X,rfl⟩;have hX:=zaa W1.heap.size W1 X;clear oX oN oB;generalize over W1.heap.size W1 X=w2 at *;have BE:=Lib.hid (BB.out.trans (hX.mono BB.out.size));have BF:=Lib.hid (BH.out.trans (hX.mono (by omega)));clear hX;clear i3 i5;go_wp2;go_roundw
                 case rel=>exact⟨k+1,by omega,by go_num,zbj HN.out (HF.out),BF.out⟩
                 case measure=>simp[intOf];omega
                ·replace c4:ltS P.name A.name=false:=Bool.eq_false_iff.2 c4
                 have le4:=geS_of_not c4;have HF:Hid (za7 (fun x=>zal x&&zas n x) zbb n.sectors=false):=za6 hlt (by rw[HUP.out c3,show zbb P A=false from c4];simp);have fp:=(bat B1.out b _ yb).trans (SP.out c3);have oX:=zan (w0:=W1) fz;have oN:=zan (w0:=W1) (show w.heap.size<W1.heap.size by omega);have oB:=zan (w0:=W1) (show b<W1.heap.size by omega);rw[c1] at HV;rw[c2] at HP;refine zae W1.heap.size W1 (Below.refl _ _) (by kernel_rfl) (by kernel_rfl) ?_
                 repeat (go_big_quiet_step (first|(go_at_call 106;exact zai (Nat.le_refl _) (HV.out _ (BB.out.trans ((zaa _ _ _).mono BB.out.size))))|(go_at_call 107;exact zai (Nat.le_refl _) (HP.out _ (BB.out.trans ((zaa _ _ _).mono BB.out.size))))))
                 refine wpQuiet_nil ?_;rintro _ ⟨X,rfl⟩;have hX:=zaa W1.heap.size W1 X;clear oX oN oB;generalize over W1.heap.size W1 X=w2 at *;have BE:=Lib.hid (BB.out.trans (hX.mono BB.out.size));have BF:=Lib.hid (BH.out.trans (hX.mono (by omega)));clear hX;clear i3 i5;go_wp2;go_ret;exact⟨by rw[HNB.out (HF.out)];rfl,BE.out⟩
               ·have i8:decide (0<k)=false:=by simpa using c3
                have HF:Hid (upOk (fun x=>zal x&&zas n x) zbb n.sectors k=true):=HUZ.out (by omega) HM.out;have oX:=zan (w0:=W1) fz;have oN:=zan (w0:=W1) (show w.heap.size<W1.heap.size by omega);have oB:=zan (w0:=W1) (show b<W1.heap.size by omega);rw[c1] at HV;rw[c2] at HP;refine zae W1.heap.size W1 (Below.refl _ _) (by kernel_rfl) (by kernel_rfl) ?_
                repeat (go_big_quiet_step (first|(go_at_call 106;exact zai (Nat.le_refl _) (HV.out _ (BB.out.trans ((zaa _ _ _).mono BB.out.size))))|(go_at_call 107;exact zai (Nat.le_refl _) (HP.out _ (BB.out.trans ((zaa _ _ _).mono BB.out.size))))))
                refine wpQuiet_nil ?_;rintro _ ⟨X,rfl⟩;have hX:=zaa W1.heap.size W1 X;clear oX oN oB;generalize over W1.heap.size W1 X=w2 at *;have BE:=Lib.hid (BB.out.trans (hX.mono BB.out.size));have BF:=Lib.hid (BH.out.trans (hX.mono (by omega)));clear hX;go_wp2;go_roundw
                case rel=>exact⟨k+1,by omega,by go_num,zbj HN.out (HF.out),BF.out⟩
                case measure=>simp[intOf];omega
              ·replace c2:zas n A=false:=Bool.eq_false_iff.2 c2
               have HF:Hid (za7 (fun x=>zal x&&zas n x) zbb n.sectors=false):=HUN.out (by show (zal A&&zas n A)=false;rw[c2,Bool.and_false]);have oX:=zan (w0:=W1) fz;have oN:=zan (w0:=W1) (show w.heap.size<W1.heap.size by omega);have oB:=zan (w0:=W1) (show b<W1.heap.size by omega);rw[c1] at HV;rw[c2] at HP;refine zae W1.heap.size W1 (Below.refl _ _) (by kernel_rfl) (by kernel_rfl) ?_
               repeat (go_big_quiet_step (first|(go_at_call 106;exact zai (Nat.le_refl _) (HV.out _ (BB.out.trans ((zaa _ _ _).mono BB.out.size))))|(go_at_call 107;exact zai (Nat.le_refl _) (HP.out _ (BB.out.trans ((zaa _ _ _).mono BB.out.size))))))
               refine wpQuiet_nil ?_;rintro _ ⟨X,rfl⟩;have hX:=zaa W1.heap.size W1 X;clear oX oN oB;generalize over W1.heap.size W1 X=w2 at *;have BE:=Lib.hid (BB.out.trans (hX.mono BB.out.size));have BF:=Lib.hid (BH.out.trans (hX.mono (by omega)));clear hX;go_wp2;go_ret;exact⟨by rw[HNB.out (HF.out)];rfl,BE.out⟩
             ·replace c1:zal A=false:=Bool.eq_false_iff.2 c1
              have HF:Hid (za7 (fun x=>zal x&&zas n x) zbb n.sectors=false):=HUN.out (by show (zal A&&zas n A)=false;rw[c1,Bool.false_and]);have oX:=zan (w0:=W1) fz;have oN:=zan (w0:=W1) (show w.heap.size<W1.heap.size by omega);have oB:=zan (w0:=W1) (show b<W1.heap.size by omega);rw[c1] at HV;refine zae W1.heap.size W1 (Below.refl _ _) (by kernel_rfl) (by kernel_rfl) ?_
              repeat (go_big_quiet_step (first|(go_at_call 106;exact zai (Nat.le_refl _) (HV.out _ (BB.out.trans ((zaa _ _ _).mono BB.out.size))))))
              refine wpQuiet_nil ?_;rintro _ ⟨X,rfl⟩;have hX:=zaa W1.heap.size W1 X;clear oX oN oB;generalize over W1.heap.size W1 X=w2 at *;have BE:=Lib.hid (BB.out.trans (hX.mono BB.out.size));have BF:=Lib.hid (BH.out.trans (hX.mono (by omega)));clear hX;go_wp2;go_ret;exact⟨by rw[HNB.out (HF.out)];rfl,BE.out⟩
            ·obtain rfl:k=n.sectors.length:=by omega
             have HRSector:Hid (za7 (fun x=>zal x&&zas n x) zbb n.sectors=true):=zck HN.out;clear hk HN hlt;have HT:Hid (netB n=true):=by show _=_;unfold netB;rw[decide_eq_true h0,decide_eq_true h1,decide_eq_true h2,decide_eq_true h3,HRSite.out,HRAntenna.out,HRRadio.out,HRSector.out];rfl
             go_wp2;go_ret;exact⟨by rw[HT.out];rfl,BW.out⟩
    ·have hx:8<n.radios.length:=by omega
     have HE:Hid (netB n=false):=by show _=_;unfold netB;rw[decide_eq_false h3];simp
     go_enter Tryz.func55,Tryz.ntmps55;go_wp2;go_ret;exact⟨by rw[HE.out];rfl,B0.out⟩
   ·have hx:8<n.antennas.length:=by omega
    have HE:Hid (netB n=false):=by show _=_;unfold netB;rw[decide_eq_false h2];simp
    go_enter Tryz.func55,Tryz.ntmps55;go_wp2;go_ret;exact⟨by rw[HE.out];rfl,B0.out⟩
  ·have hx:24<n.sectors.length:=by omega
   have HE:Hid (netB n=false):=by show _=_;unfold netB;rw[decide_eq_false h1];simp
   go_enter Tryz.func55,Tryz.ntmps55;go_wp2;go_ret;exact⟨by rw[HE.out];rfl,B0.out⟩
 ·have hx:12<n.sites.length:=by omega
  have HE:Hid (netB n=false):=by show _=_;unfold netB;rw[decide_eq_false h0];simp
  go_enter Tryz.func55,Tryz.ntmps55;go_wp2;go_ret;exact⟨by rw[HE.out];rfl,B0.out⟩
end Go.Proofs.YtdgmgchdjlfchaaGreatDoor
