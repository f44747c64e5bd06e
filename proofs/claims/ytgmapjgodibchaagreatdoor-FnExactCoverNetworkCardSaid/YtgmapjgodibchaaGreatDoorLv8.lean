/- Contracts: worst places, valid profiles, parts of profiles, losses over several edges, for the reference. Conditions: bounded profiles. -/
import Derived.Test.YtgmapjgodibchaaGreatDoorLv7
import Derived.Test.YtgmapjgodibchaaGreatDoorClone
set_option linter.unusedVariables false
set_option linter.unusedSimpArgs false
namespace Go.Proofs.YtgmapjgodibchaaGreatDoor
open Go.RowKit
set_option maxHeartbeats 16000000
set_option maxRecDepth 100000
def bS (o:Int→Int):Nat→Int
 | 0=>-1
 | k+1=>zaz o 1 k
def mS (o v:Int→Int):Nat→Int
 | 0=>0
 | k+1=>v (zaz o 1 k)
theorem bS_bd (o:Int→Int) (k:Nat):-1≤bS o k∧bS o k≤(k:Int):=by
 cases k with
 | zero=>simp[bS]
 | succ k=>have:=zdb o 1 k;simp only[bS];omega
theorem wst_bS {p:Pf} (f:Int) (h:3≤p.hs.length):wstP p f=bS (nuP p f) (p.hs.length-2):=by
 obtain⟨k,hk⟩:∃ k,p.hs.length=k+3:=⟨p.hs.length-3,O⟩
 unfold wstP;rw[hk];rfl
theorem wst_mS {p:Pf} (f:Int) (h:3≤p.hs.length):nuP p f (wstP p f)=mS (nuP p f) (nuP p f) (p.hs.length-2):=by
 obtain⟨k,hk⟩:∃ k,p.hs.length=k+3:=⟨p.hs.length-3,O⟩
 unfold wstP;rw[hk];rfl
theorem zew (P:Pf) (h:PfOk P) (vh:Value) (b off:Nat) (f:Int) (f0:1≤f) (f1:f≤100000000)  (w:World) (r:Rd w w (zai P.hs) vh) (c0:w.cell? ⟨b,off,none⟩=some (I P.d)) (c1:w.cell? ⟨b,off+1,none⟩=some (I P.f)) (c2:w.cell? ⟨b,off+2,none⟩=some (I P.l)) (c3:w.cell? ⟨b,off+3,none⟩=some (vh)) :
  Calls Tryz.prog 224 #[.pointer (some ⟨b,off,none⟩),I f] w fun e w'=>e=.returned (.tuple #[I (bS (nuP P f) (P.hs.length-2)),I (mS (nuP P f) (nuP P f) (P.hs.length-2))])∧IJ w w w':=by
 have hbp:b<w.heap.size:=zbh c0;have n0_:=h.n0;have n1_:=h.n1;obtain⟨M,hM⟩:∃ M,P.hs.length=M+2:=⟨P.hs.length-2,O⟩
 have hM2:P.hs.length-2=M:=O
 rw[hM2];clear hM2;have hl1:(P.hs.length:Int)≤(M:Int)+2:=O
 have hl2:(M:Int)+2≤(P.hs.length:Int):=O
 have hMb:(M:Int)≤63:=O
 obtain⟨av,cv,ev,_,_,_⟩:=r.ints;subst ev;have B0:Hid (IJ w w w):=Below.refl _ _;have HD:Hid (∀ W:World,IJ w w W→(W.cell? ⟨b,off,none⟩=some (I P.d)∧W.cell? ⟨b,off+1,none⟩=some (I P.f)∧W.cell? ⟨b,off+2,none⟩=some (I P.l)∧W.cell? ⟨b,off+3,none⟩=some (II av P.hs.length cv))):=fun W hW=>⟨(bat hW b _ O).trans c0,(bat hW b _ O).trans c1,(bat hW b _ O).trans c2,(bat hW b _ O).trans c3⟩
 have HB:Hid (IJ w w w):=Below.refl _ _;have CN:Hid (∀ (x:Int) (hx:0≤x∧x<(M:Int)+2) (W:World),IJ w w W→Calls Tryz.prog 252 #[.pointer (some ⟨b,off,none⟩),I f,I x] W fun e w'=>e=.returned (I (nuP P f x))∧IJ W W w'):=fun x hx W hW=>by
   obtain⟨k,rfl⟩:=Int.eq_ofNat_of_zero_le hx.1;obtain⟨t0,t1,t2,t3⟩:=HD.out W hW;exact l10Nu_any P h _ b off f f0 f1 k O W (zb4 r B0.out hW) t0 t1 t2 t3
 clear c0 c1 c2 c3 r n0_ n1_ hM h;generalize nuP P f=g at *;go_enter Tryz.func224,Tryz.ntmps224;obtain⟨t0,t1,t2,t3⟩:=HD.out _ HB.out;go_wp2;go_loopw [6,7,8] (fun bs ms ii wr=>∃ j:Nat,j≤M∧bs=I (bS g j)∧ms=I (mS g g j)∧ii=I (1+(j:Int))∧IJ w w wr) (fun bs ms ii wr=>(M+1-(intOf ii)).toNat)
 case atStart=>exact⟨0,Nat.zero_le _,rfl,rfl,by simp,HB.out⟩
 case round =>
  obtain⟨j,hj,rfl,rfl,rfl,hbw⟩:=hrel;clear t0 t1 t2 t3;replace HB:=J hbw;clear hbw;obtain⟨t0,t1,t2,t3⟩:=HD.out _ HB.out;have hji:(j:Int)≤(M:Int):=O
  by_cases hlt:j<M
  ·have hjl:(j:Int)<(M:Int):=O
   cases j with
   | zero =>
    have ha:bS g 0 = -1:=rfl;have hb2:mS g g 0=0:=rfl;rw[ha,hb2];clear ha hb2;go_wp2_with (go_at_call 252;with_reducible refine (CN.out _ ⟨O,O⟩ _ HB.out).mono ?_;rintro e v1 ⟨rfl,hb_⟩;(try clear t0 t1 t2 t3);replace HB:=btr HB hb_;clear hb_;obtain⟨t0,t1,t2,t3⟩:=HD.out _ HB.out);go_roundw
    case rel=>exact⟨1,O,by show _=Value.int .i64 (zaz g 1 0);simp[zaz],by show _=Value.int .i64 (g (zaz g 1 0));simp[zaz],by simp,HB.out⟩
    case measure=>simp[intOf];omega
   | succ k =>
    obtain⟨bb0,bb1⟩:=zdb g 1 k;have hp:=zfm (g:=g) (s:=1) (k:=k);have hn2:=zfn (g:=g) (s:=1) (k:=k);have ha:bS g (k+1)=zaz g 1 k:=rfl;have hb2:mS g g (k+1)=g (zaz g 1 k):=rfl;rw[ha,hb2];clear ha hb2;have hkc:((k+1:Nat):Int)=(k:Int)+1:=O
    have HP:=J hp;have HN:=J hn2;clear hp hn2
    by_cases hc:g (zaz g 1 k)<g (1+((k+1:Nat):Int))
    ·have HE2:=J (HP.out hc)
     clear HP HN;rw[hkc] at hc;generalize hob:zaz g 1 k=ob at *;have HOB:=J hob;have HKC:=J hkc;clear hob hkc;rw[HKC.out];go_wp2_with (go_at_call 252;with_reducible refine (CN.out _ ⟨O,O⟩ _ HB.out).mono ?_;rintro e v1 ⟨rfl,hb_⟩;(try clear t0 t1 t2 t3);replace HB:=btr HB hb_;clear hb_;obtain⟨t0,t1,t2,t3⟩:=HD.out _ HB.out);go_roundw
     case rel=>exact⟨k+2,O,by show _=Value.int .i64 (zaz g 1 (k+1));rw[HE2.out];go_num,by show _=Value.int .i64 (g (zaz g 1 (k+1)));rw[HE2.out,HKC.out],by go_num,HB.out⟩
     case measure=>simp[intOf];omega
    ·have HE2:=J (HN.out hc)
     clear HP HN;rw[hkc] at hc;generalize hob:zaz g 1 k=ob at *;have HKC:=J hkc;clear hkc;have HOB:=J hob;clear hob;rw[HKC.out];go_wp2_with (go_at_call 252;with_reducible refine (CN.out _ ⟨O,O⟩ _ HB.out).mono ?_;rintro e v1 ⟨rfl,hb_⟩;(try clear t0 t1 t2 t3);replace HB:=btr HB hb_;clear hb_;obtain⟨t0,t1,t2,t3⟩:=HD.out _ HB.out);go_roundw
     case rel=>exact⟨k+2,O,by show _=Value.int .i64 (zaz g 1 (k+1));rw[HE2.out],by show _=Value.int .i64 (g (zaz g 1 (k+1)));rw[HE2.out],by go_num,HB.out⟩
     case measure=>simp[intOf];omega
  ·obtain rfl:j=M:=O
   have hbb:=bS_bd g j;generalize hob:bS g j=ob at *;generalize hom:mS g g j=om at *;have HOB:=J hob;have HOM:=J hom;clear hob hom;go_wp2;go_ret2;exact⟨by rw[HOB.out,HOM.out];rfl,HB.out⟩
theorem l05Worst_any (P:Pf) (h:PfOk P) (vh:Value) (b off:Nat) (f:Int) (f0:1≤f) (f1:f≤100000000)  (w:World) (r:Rd w w (zai P.hs) vh) (c0:w.cell? ⟨b,off,none⟩=some (I P.d)) (c1:w.cell? ⟨b,off+1,none⟩=some (I P.f)) (c2:w.cell? ⟨b,off+2,none⟩=some (I P.l)) (c3:w.cell? ⟨b,off+3,none⟩=some (vh)) :
  Calls Tryz.prog 230 #[.pointer (some ⟨b,off,none⟩),I f] w fun e w'=>e=.returned (.tuple #[I (bS (fun x=>-(shrP P f x)) (P.hs.length-2)),I (mS (fun x=>-(shrP P f x)) (shrP P f) (P.hs.length-2))])∧IJ w w w':=by
 have hbp:b<w.heap.size:=zbh c0;have n0_:=h.n0;have n1_:=h.n1;obtain⟨M,hM⟩:∃ M,P.hs.length=M+2:=⟨P.hs.length-2,O⟩
 have hM2:P.hs.length-2=M:=O
 rw[hM2];clear hM2;have hl1:(P.hs.length:Int)≤(M:Int)+2:=O
 have hl2:(M:Int)+2≤(P.hs.length:Int):=O
 have hMb:(M:Int)≤63:=O
 obtain⟨av,cv,ev,_,_,_⟩:=r.ints;subst ev;have B0:Hid (IJ w w w):=Below.refl _ _;have HD:Hid (∀ W:World,IJ w w W→(W.cell? ⟨b,off,none⟩=some (I P.d)∧W.cell? ⟨b,off+1,none⟩=some (I P.f)∧W.cell? ⟨b,off+2,none⟩=some (I P.l)∧W.cell? ⟨b,off+3,none⟩=some (II av P.hs.length cv))):=fun W hW=>⟨(bat hW b _ O).trans c0,(bat hW b _ O).trans c1,(bat hW b _ O).trans c2,(bat hW b _ O).trans c3⟩
 have HB:Hid (IJ w w w):=Below.refl _ _;have CN:Hid (∀ (x:Int) (hx:0≤x∧x<(M:Int)+2) (W:World),IJ w w W→Calls Tryz.prog 255 #[.pointer (some ⟨b,off,none⟩),I f,I x] W fun e w'=>e=.returned (I (shrP P f x))∧IJ W W w'):=fun x hx W hW=>by
   obtain⟨k,rfl⟩:=Int.eq_ofNat_of_zero_le hx.1;obtain⟨t0,t1,t2,t3⟩:=HD.out W hW;exact l05Share_any P h _ b off f f0 f1 k O W (zb4 r B0.out hW) t0 t1 t2 t3
 clear c0 c1 c2 c3 r n0_ n1_ hM h;have HG:Hid (∀ x,(fun x=>-(shrP P f x)) x = -(shrP P f x)):=fun x=>rfl
 generalize (fun x=>-(shrP P f x))=g at *;generalize shrP P f=v at *;go_enter Tryz.func230,Tryz.ntmps230;obtain⟨t0,t1,t2,t3⟩:=HD.out _ HB.out;go_wp2;go_loopw [6,7,8] (fun bs ms ii wr=>∃ j:Nat,j≤M∧bs=I (bS g j)∧ms=I (mS g v j)∧ii=I (1+(j:Int))∧IJ w w wr) (fun bs ms ii wr=>(M+1-(intOf ii)).toNat)
 case atStart=>exact⟨0,Nat.zero_le _,rfl,rfl,by simp,HB.out⟩
 case round =>
  obtain⟨j,hj,rfl,rfl,rfl,hbw⟩:=hrel;clear t0 t1 t2 t3;replace HB:=J hbw;clear hbw;obtain⟨t0,t1,t2,t3⟩:=HD.out _ HB.out;have hji:(j:Int)≤(M:Int):=O
  by_cases hlt:j<M
  ·have hjl:(j:Int)<(M:Int):=O
   cases j with
   | zero =>
    have ha:bS g 0 = -1:=rfl;have hb2:mS g v 0=0:=rfl;rw[ha,hb2];clear ha hb2;go_wp2_with (go_at_call 255;with_reducible refine (CN.out _ ⟨O,O⟩ _ HB.out).mono ?_;rintro e v1 ⟨rfl,hb_⟩;(try clear t0 t1 t2 t3);replace HB:=btr HB hb_;clear hb_;obtain⟨t0,t1,t2,t3⟩:=HD.out _ HB.out);go_roundw
    case rel=>exact⟨1,O,by show _=Value.int .i64 (zaz g 1 0);simp[zaz],by show _=Value.int .i64 (v (zaz g 1 0));simp[zaz],by simp,HB.out⟩
    case measure=>simp[intOf];omega
   | succ k =>
    obtain⟨bb0,bb1⟩:=zdb g 1 k;have hp:=zfm (g:=g) (s:=1) (k:=k);have hn2:=zfn (g:=g) (s:=1) (k:=k);have ha:bS g (k+1)=zaz g 1 k:=rfl;have hb2:mS g v (k+1)=v (zaz g 1 k):=rfl;rw[ha,hb2];clear ha hb2;have hkc:((k+1:Nat):Int)=(k:Int)+1:=O
    have HP:=J hp;have HN:=J hn2;clear hp hn2
    by_cases hc:v (1+((k+1:Nat):Int))<v (zaz g 1 k)
    ·have HE2:=J (HP.out (by have a:=HG.out (zaz g 1 k);have b:=HG.out (1+((k+1:Nat):Int));omega))
     clear HP HN;rw[hkc] at hc;generalize hob:zaz g 1 k=ob at *;have HOB:=J hob;have HKC:=J hkc;clear hob hkc;rw[HKC.out];go_wp2_with (go_at_call 255;with_reducible refine (CN.out _ ⟨O,O⟩ _ HB.out).mono ?_;rintro e v1 ⟨rfl,hb_⟩;(try clear t0 t1 t2 t3);replace HB:=btr HB hb_;clear hb_;obtain⟨t0,t1,t2,t3⟩:=HD.out _ HB.out);go_roundw
     case rel=>exact⟨k+2,O,by show _=Value.int .i64 (zaz g 1 (k+1));rw[HE2.out];go_num,by show _=Value.int .i64 (v (zaz g 1 (k+1)));rw[HE2.out,HKC.out],by go_num,HB.out⟩
     case measure=>simp[intOf];omega
    ·have HE2:=J (HN.out (by have a:=HG.out (zaz g 1 k);have b:=HG.out (1+((k+1:Nat):Int));omega))
     clear HP HN;rw[hkc] at hc;generalize hob:zaz g 1 k=ob at *;have HKC:=J hkc;clear hkc;have HOB:=J hob;clear hob;rw[HKC.out];go_wp2_with (go_at_call 255;with_reducible refine (CN.out _ ⟨O,O⟩ _ HB.out).mono ?_;rintro e v1 ⟨rfl,hb_⟩;(try clear t0 t1 t2 t3);replace HB:=btr HB hb_;clear hb_;obtain⟨t0,t1,t2,t3⟩:=HD.out _ HB.out);go_roundw
     case rel=>exact⟨k+2,O,by show _=Value.int .i64 (zaz g 1 (k+1));rw[HE2.out],by show _=Value.int .i64 (v (zaz g 1 (k+1)));rw[HE2.out],by go_num,HB.out⟩
     case measure=>simp[intOf];omega
  ·obtain rfl:j=M:=O
   have hbb:=bS_bd g j;generalize hob:bS g j=ob at *;generalize hom:mS g v j=om at *;have HOB:=J hob;have HOM:=J hom;clear hob hom;go_wp2;go_ret2;exact⟨by rw[HOB.out,HOM.out];rfl,HB.out⟩
theorem l05Height_any (n:Int) (w:World):Calls Tryz.prog 254 #[I n] w fun e w'=>e=.returned (.bool (inB n 0 90000))∧w=w':=by
 go_enter Tryz.func254,Tryz.ntmps254;go_wp2_with (go_at_call 89;refine (zaq _ _ _ _).mono ?_;rintro e w1 ⟨rfl,rfl⟩);go_ret;exact⟨rfl,rfl⟩
theorem l05Ok_any (P:Pf) (h:PfW P) (vh:Value) (b off:Nat) (w:World) (r:Rd w w (zai P.hs) vh) (c0:w.cell? ⟨b,off,none⟩=some (I P.d)) (c1:w.cell? ⟨b,off+1,none⟩=some (I P.f)) (c2:w.cell? ⟨b,off+2,none⟩=some (I P.l)) (c3:w.cell? ⟨b,off+3,none⟩=some (vh)) :
  Calls Tryz.prog 228 #[.pointer (some ⟨b,off,none⟩)] w fun e w'=>e=.returned (.bool (pfB P))∧IJ w w w':=by
 have hbp:b<w.heap.size:=zbh c0;have hpf:=pfB_w h;have HF:=J hpf;have f0_:=zat.2 (show 0≤P.f∧P.f≤180000 from ⟨h.f0,h.f1⟩);have l0_:=zat.2 (show 0≤P.l∧P.l≤180000 from ⟨h.l0,h.l1⟩);have HH:Hid (∀ k,inB (gi P.hs k) 0 90000=true):=fun k=>zat.2 (h.hs k)
 have n0_:=h.n0;have n1_:=h.n1;clear hpf;obtain⟨av,cv,ev,_,_,_⟩:=r.ints;subst ev;obtain⟨bh,oh,ea_,hbl,hat⟩:=r.intAt O;subst ea_;have cl0:=hat 0 O;have cl1:=hat (P.hs.length-1) O;rw[Nat.add_zero] at cl0;have HAT:=J hat;have xl:(P.hs.length:Int)-1=((P.hs.length-1:Nat):Int):=O
 have xl1:(0:Int)≤((P.hs.length-1:Nat):Int):=O
 have xl2:((P.hs.length-1:Nat):Int)<(P.hs.length:Int):=O
 have XL:=J xl;have ni0:(2:Int)≤(P.hs.length:Int):=O
 have ni1:(P.hs.length:Int)≤65:=O
 clear hat xl;have B0:Hid (IJ w w w):=Below.refl _ _;have HD:Hid (∀ W:World,IJ w w W→(W.cell? ⟨b,off,none⟩=some (I P.d)∧W.cell? ⟨b,off+1,none⟩=some (I P.f)∧W.cell? ⟨b,off+2,none⟩=some (I P.l)∧W.cell? ⟨b,off+3,none⟩=some (II (some ⟨bh,oh,none⟩) P.hs.length cv)∧W.cell? ⟨bh,oh,none⟩=some (I (gi P.hs 0))∧W.cell? ⟨bh,oh+(P.hs.length-1),none⟩=some (I (gi P.hs (P.hs.length-1))))):=fun W hW=>⟨(bat hW b _ O).trans c0,(bat hW b _ O).trans c1,(bat hW b _ O).trans c2,(bat hW b _ O).trans c3,(bat hW bh _ O).trans cl0,(bat hW bh _ O).trans cl1⟩
 have HB:Hid (IJ w w w):=Below.refl _ _;have CF:Hid (∀ W:World,IJ w w W→Calls Tryz.prog 89 #[I P.f,I 0,I 180000] W fun e w'=>e=.returned (.bool true)∧IJ W W w'):=fun  W hW=>by
   have hh:=zaq P.f 0 180000 W;rw[f0_] at hh;exact zam hh
 have CL:Hid (∀ W:World,IJ w w W→Calls Tryz.prog 89 #[I P.l,I 0,I 180000] W fun e w'=>e=.returned (.bool true)∧IJ W W w'):=fun  W hW=>by
   have hh:=zaq P.l 0 180000 W;rw[l0_] at hh;exact zam hh
 have CD:Hid (∀ W:World,IJ w w W→Calls Tryz.prog 89 #[I P.d,I 1,I 283000] W fun e w'=>e=.returned (.bool (inB P.d 1 283000))∧IJ W W w'):=fun  W hW=>zam (zaq P.d 1 283000 W)
 have CH:Hid (∀ (k:Nat) (W:World),IJ w w W→Calls Tryz.prog 254 #[I (gi P.hs k)] W fun e w'=>e=.returned (.bool true)∧IJ W W w'):=fun k W hW=>by
   have hh:=l05Height_any (gi P.hs k) W;rw[HH.out k] at hh;exact zam hh
 have HA:Hid (∀ W:World,IJ w w W→∀ k,k<P.hs.length→W.cell? ⟨bh,oh+k,none⟩=some (I (gi P.hs k))):=fun W hW k hk=>(bat hW bh _ hbl).trans (HAT.out k hk)
 clear c0 c1 c2 c3 cl0 cl1 r f0_ l0_ h HH HAT;generalize gi P.hs 0=h0 at *;generalize hhz:gi P.hs (P.hs.length-1)=hz at *;clear hhz;generalize pfB P=PB at *
 cases hA:inB P.d 1 283000 with
 | false =>
  rw[hA] at CD HF;have HE:Hid (PB=false):=by show _=_;rw[HF.out];rfl
  go_enter Tryz.func228,Tryz.ntmps228;obtain⟨t0,t1,t2,t3,t4,t5⟩:=HD.out _ HB.out;go_wp2_with ((first|(go_at_call 89;with_reducible refine (CF.out _ HB.out).mono ?_)|(go_at_call 89;with_reducible refine (CL.out _ HB.out).mono ?_)|(go_at_call 89;with_reducible refine (CD.out _ HB.out).mono ?_));rintro e v1 ⟨rfl,hb_⟩;(try clear t0 t1 t2 t3 t4 t5);replace HB:=btr HB hb_;clear hb_;obtain⟨t0,t1,t2,t3,t4,t5⟩:=HD.out _ HB.out);go_ret;exact⟨by rw[HE.out];rfl,B0.out.trans (HB.out.mono B0.out.size)⟩
 | true =>
  rw[hA] at CD HF;go_enter Tryz.func228,Tryz.ntmps228;obtain⟨t0,t1,t2,t3,t4,t5⟩:=HD.out _ HB.out;go_wp2_with ((first|(go_at_call 89;with_reducible refine (CF.out _ HB.out).mono ?_)|(go_at_call 89;with_reducible refine (CL.out _ HB.out).mono ?_)|(go_at_call 89;with_reducible refine (CD.out _ HB.out).mono ?_));rintro e v1 ⟨rfl,hb_⟩;(try clear t0 t1 t2 t3 t4 t5);replace HB:=btr HB hb_;clear hb_;obtain⟨t0,t1,t2,t3,t4,t5⟩:=HD.out _ HB.out);go_loopw [3] (fun ii wr=>∃ k:Nat,k≤P.hs.length∧ii=I (k:Int)∧IJ w w wr) (fun ii wr=>(P.hs.length-(intOf ii)).toNat)
  case atStart=>exact⟨0,Nat.zero_le _,rfl,HB.out⟩
  case round =>
   obtain⟨k,hk,rfl,hbw⟩:=hrel;clear t0 t1 t2 t3 t4 t5;replace HB:=J hbw;clear hbw;obtain⟨t0,t1,t2,t3,t4,t5⟩:=HD.out _ HB.out;have hk0:(0:Int)≤(k:Int):=O
   by_cases hlt:k<P.hs.length
   ·have hki:(k:Int)<(P.hs.length:Int):=O
    have tk:=HA.out _ HB.out k hlt;have CK:Hid (∀ W:World,IJ w w W→Calls Tryz.prog 254 #[I (gi P.hs k)] W fun e w'=>e=.returned (.bool true)∧IJ W W w'):=fun W hW=>CH.out k W hW
    generalize gi P.hs k=hx at *;go_wp2_with (go_at_call 254;with_reducible refine (CK.out _ HB.out).mono ?_;rintro e v9 ⟨rfl,hb_⟩;(try clear tk);(try clear t0 t1 t2 t3 t4 t5);replace HB:=btr HB hb_;clear hb_;obtain⟨t0,t1,t2,t3,t4,t5⟩:=HD.out _ HB.out);go_roundw
    case rel=>exact⟨k+1,O,by go_num,HB.out⟩
    case measure=>simp[intOf];omega
   ·obtain rfl:k=P.hs.length:=O
    go_upto_region 9 with (fail);have xl:=XL.out
    by_cases hG:h0≤P.f
    case neg =>
     have hGd:decide (h0≤P.f)=false:=decide_eq_false hG;have HE:Hid (PB=false):=by show _=_;rw[HF.out,decide_eq_false hG];rfl
     have o0:=zal (w0:=wr) (show b<wr.heap.size by have:=HB.out.size;omega);have o1:=zal (w0:=wr) (show bh<wr.heap.size by have:=HB.out.size;omega);refine zad wr.heap.size wr (Below.refl _ _) OJ OJ ?_
     repeat (go_big_quiet_step (first|fail))
     refine wpQuiet_nil ?_;rintro _ ⟨X,rfl⟩;replace HB:=btr HB (zaa wr.heap.size wr X);clear o0 o1
     (try clear t0 t1 t2 t3 t4 t5)
     generalize over wr.heap.size wr X=u2 at *;obtain⟨t0,t1,t2,t3,t4,t5⟩:=HD.out _ HB.out;go_wp2;go_ret;exact⟨by rw[HE.out];rfl,B0.out.trans (HB.out.mono B0.out.size)⟩
    by_cases hH:hz≤P.l
    case neg =>
     have hGd:decide (h0≤P.f)=true:=decide_eq_true hG;have hHd:decide (hz≤P.l)=false:=decide_eq_false hH;have HE:Hid (PB=false):=by show _=_;rw[HF.out,decide_eq_false hH,decide_eq_true hG];rfl
     have o0:=zal (w0:=wr) (show b<wr.heap.size by have:=HB.out.size;omega);have o1:=zal (w0:=wr) (show bh<wr.heap.size by have:=HB.out.size;omega);refine zad wr.heap.size wr (Below.refl _ _) OJ OJ ?_
     repeat (go_big_quiet_step (first|fail))
     refine wpQuiet_nil ?_;rintro _ ⟨X,rfl⟩;replace HB:=btr HB (zaa wr.heap.size wr X);clear o0 o1
     (try clear t0 t1 t2 t3 t4 t5)
     generalize over wr.heap.size wr X=u2 at *;obtain⟨t0,t1,t2,t3,t4,t5⟩:=HD.out _ HB.out;go_wp2;go_ret;exact⟨by rw[HE.out];rfl,B0.out.trans (HB.out.mono B0.out.size)⟩
    have hGd:decide (h0≤P.f)=true:=decide_eq_true hG;have hHd:decide (hz≤P.l)=true:=decide_eq_true hH;have HE:Hid (PB=true):=by show _=_;rw[HF.out,decide_eq_true hH,decide_eq_true hG];rfl
    have o0:=zal (w0:=wr) (show b<wr.heap.size by have:=HB.out.size;omega);have o1:=zal (w0:=wr) (show bh<wr.heap.size by have:=HB.out.size;omega);refine zad wr.heap.size wr (Below.refl _ _) OJ OJ ?_
    repeat (go_big_quiet_step (first|fail))
    refine wpQuiet_nil ?_;rintro _ ⟨X,rfl⟩;replace HB:=btr HB (zaa wr.heap.size wr X);clear o0 o1
    (try clear t0 t1 t2 t3 t4 t5)
    generalize over wr.heap.size wr X=u2 at *;obtain⟨t0,t1,t2,t3,t4,t5⟩:=HD.out _ HB.out;go_wp2;go_ret;exact⟨by rw[HE.out];rfl,B0.out.trans (HB.out.mono B0.out.size)⟩
theorem rd_cut {B:Nat} {w:World} {l:List Int} {bh oh cv:Nat} (r:Rd B w (zai l) (II (some ⟨bh,oh,none⟩) l.length cv)) {i k:Nat} (hik:i<k) (hk:k<l.length) :
  Rd B w (zai ((l.drop i).take (k+1-i))) (II (some ⟨bh,oh+i,none⟩) (k+1-i) (cv-i)):=by
 obtain⟨a,c,e,h1,h2,h3⟩:=r.ints;injection e with ea _ ec;subst ec;obtain⟨b',o',e',hb,hat⟩:=h3 O;rw[e'] at ea;injection ea with ea;injection ea with e1 e2;subst e1 e2;have hl:((l.drop i).take (k+1-i)).length=k+1-i:=by rw[List.length_take,List.length_drop];omega
 refine⟨[bh],zcf.2 ⟨_,k+1-i,cv-i,rfl,by rw[List.length_map,hl,Nat.mul_one],O,O,Or.inr ⟨bh,oh+i,[],?_,rfl,rfl,?_⟩⟩,fun x hx=>by simp at hx;omega⟩
 ·intro e
  have:=congrArg List.length e;rw[List.length_map,hl] at this;simp at this;omega
 ·have e2:((l.drop i).take (k+1-i)).map intT=(((l.drop i).take (k+1-i)).map (Value.int .i64)).map .lit:=by rw[List.map_map];rfl
  rw[e2];refine Reps.lits _ _ _ (fun j hj=>?_);rw[List.length_map,hl] at hj;rw[Nat.add_assoc,hat (i+j) O];simp
theorem l10Part_any (P:Pf) (h:PfOk P) (vh:Value) (b off:Nat) (i k:Nat) (hik:i<k) (hk:k<P.hs.length) (w:World) (r:Rd w w (zai P.hs) vh) (c0:w.cell? ⟨b,off,none⟩=some (I P.d)) (c1:w.cell? ⟨b,off+1,none⟩=some (I P.f)) (c2:w.cell? ⟨b,off+2,none⟩=some (I P.l)) (c3:w.cell? ⟨b,off+3,none⟩=some (vh)) :
  Calls Tryz.prog 253 #[.pointer (some ⟨b,off,none⟩),I (i:Int),I (k:Int)] w fun e w'=>∃ (a':Option Addr) (c':Nat),e=.returned (.agg #[I (zbq P i k).d,I (zbq P i k).f,I (zbq P i k).l,II a' (zbq P i k).hs.length c'])∧IJ w w w'∧Rd w'.heap.size w' (zai (zbq P i k).hs) (II a' (zbq P i k).hs.length c'):=by
 have hbp:b<w.heap.size:=zbh c0;have n0_:=h.n0;have n1_:=h.n1;have hn:P.n=(P.hs.length:Int)-1:=rfl;have hql:=partP_len hik hk;have hq0:(zbq P i k).hs=(P.hs.drop i).take (k+1-i):=by
  show (P.hs.drop (i:Int).toNat).take ((k:Int)+1-(i:Int)).toNat=_
  rw[Int.toNat_natCast,show ((k:Int)+1-(i:Int)).toNat=k+1-i by omega]
 have hqd:(zbq P i k).d=offP P.d P.n k-offP P.d P.n i:=rfl;have hqf:(zbq P i k).f=if (i:Int)=0 then P.f else gi P.hs i:=by
  show (if (i:Int)=0 then P.f else gi P.hs (i:Int).toNat)=_
  rw[Int.toNat_natCast]
 have hqll:(zbq P i k).l=if (k:Int)=P.n then P.l else gi P.hs k:=by
  show (if (k:Int)=P.n then P.l else gi P.hs (k:Int).toNat)=_
  rw[Int.toNat_natCast]
 have hod:=offP_diff h (i:=(i:Int)) (k:=(k:Int)) O O O O;obtain⟨av,cv,ev,hcv,hcm,_⟩:=r.ints;subst ev;obtain⟨bh,oh,ea_,hbl,hat⟩:=r.intAt O;subst ea_;have ti:=hat i O;have tk:=hat k hk;have RC:=J (rd_cut r hik hk);have i0:(0:Int)≤(i:Int):=O
 have i1:(i:Int)<(P.hs.length:Int):=O
 have i2:(i:Int)≤(k:Int)+1:=O
 have i3:(0:Int)≤(k:Int):=O
 have i4:(k:Int)<(P.hs.length:Int):=O
 have i5:(k:Int)+1≤(cv:Int):=O
 have i6:(k:Int)≤64:=O
 have i7:¬ cv=i:=O
 have hw1:IntKind.i64.wrap ((k:Int)+1)=(k:Int)+1:=IntWalk.i64_in _ O;have hw2:IntKind.i64.wrap (offP P.d P.n k-offP P.d P.n i)=offP P.d P.n k-offP P.d P.n i:=IntWalk.i64_in _ O;have e0:((i:Int) == 0)=decide (i=0):=by rw[Bool.eq_iff_iff];simp
 have e1:((k:Int) == (P.hs.length:Int)-1)=decide (k+1=P.hs.length):=by rw[Bool.eq_iff_iff];simp<;>omega
 have e2:(if (i:Int)=0 then P.f else gi P.hs i)=if i=0 then P.f else gi P.hs i:=by by_cases hz:i=0<;>simp[hz]
 have e3:(if (k:Int)=P.n then P.l else gi P.hs k)=if k+1=P.hs.length then P.l else gi P.hs k:=by
  by_cases hz:k+1=P.hs.length
  ·rw[if_pos hz,if_pos O]
  ·rw[if_neg hz,if_neg O]
 rw[e2] at hqf;rw[e3] at hqll;have HQL:=J hql;have HQ0:=J hq0;have HQD:=J hqd;have HQF:=J hqf;have HQLL:=J hqll;have E0:=J e0;have E1:=J e1;have HODB:=J hod;clear hql hq0 hqd hqf hqll e0 e1 e2 e3 hn hat hod;have B0:Hid (IJ w w w):=Below.refl _ _;have HD:Hid (∀ W:World,IJ w w W→(W.cell? ⟨b,off,none⟩=some (I P.d)∧W.cell? ⟨b,off+1,none⟩=some (I P.f)∧W.cell? ⟨b,off+2,none⟩=some (I P.l)∧W.cell? ⟨b,off+3,none⟩=some (II (some ⟨bh,oh,none⟩) P.hs.length cv)∧W.cell? ⟨bh,oh+i,none⟩=some (I (gi P.hs i))∧W.cell? ⟨bh,oh+k,none⟩=some (I (gi P.hs k)))):=fun W hW=>⟨(bat hW b _ O).trans c0,(bat hW b _ O).trans c1,(bat hW b _ O).trans c2,(bat hW b _ O).trans c3,(bat hW bh _ O).trans ti,(bat hW bh _ O).trans tk⟩
 have HB:Hid (IJ w w w):=Below.refl _ _;have CK:Hid (∀ W:World,IJ w w W→Calls Tryz.prog 267 #[.pointer (some ⟨b,off,none⟩),I (k:Int)] W fun e w'=>e=.returned (I (offP P.d P.n k))∧IJ W W w'):=fun  W hW=>by
   obtain⟨t0,t1,t2,t3,t4,t5⟩:=HD.out W hW;exact zdm P h _ b off k O W (zb4 r B0.out hW) t0 t1 t2 t3
 have CI:Hid (∀ W:World,IJ w w W→Calls Tryz.prog 267 #[.pointer (some ⟨b,off,none⟩),I (i:Int)] W fun e w'=>e=.returned (I (offP P.d P.n i))∧IJ W W w'):=fun  W hW=>by
   obtain⟨t0,t1,t2,t3,t4,t5⟩:=HD.out W hW;exact zdm P h _ b off i O W (zb4 r B0.out hW) t0 t1 t2 t3
 have CO:Hid (∀ W:World,IJ w w W→Calls Tryz.prog 92 #[II (some ⟨bh,oh+i,none⟩) (k+1-i) (cv-i)] W fun e w'=>∃ (a':Option Addr) (c':Nat) (fp:List Nat),e=.returned (II a' (zbq P i k).hs.length c')∧IJ W W w'∧Own w' (zai (zbq P i k).hs) (II a' (zbq P i k).hs.length c') fp∧In W w'.heap.size fp):=fun  W hW=>by
   have hh:=l00Own_any ((P.hs.drop i).take (k+1-i)) _ W (zb4 RC.out B0.out hW) (by have:=List.length_take_le (k+1-i) (P.hs.drop i);omega);rw[← HQ0.out] at hh;exact hh
 clear c0 c1 c2 c3 ti tk r RC h;generalize offP P.d P.n k=ok at *;generalize offP P.d P.n i=oi at *;generalize zbq P i k=Q at *;generalize gi P.hs i=gI at *;generalize gi P.hs k=gK at *;have KR:Hid ((w.alloc (.cells #[I 0,I 0,I 0,II none 0 0] 211)).heap[w.heap.size]? = some (.cells #[I 0,I 0,I 0,II none 0 0] 211 (0,0))):=bkN w _ _;have B1:Hid (IJ w w (w.alloc (.cells #[I 0,I 0,I 0,II none 0 0] 211))):=za2 w _;have z1:w.heap.size+1≤(w.alloc (.cells #[I 0,I 0,I 0,II none 0 0] 211)).heap.size:=by simp
 go_enter Tryz.func253,Tryz.ntmps253;obtain⟨t0,t1,t2,t3,t4,t5⟩:=HD.out _ HB.out;go_upto_region 1 with (fail);clear t0 t1 t2 t3 t4 t5;generalize w.alloc (.cells #[I 0,I 0,I 0,II none 0 0] 211)=W1 at *;go_cut [7] (fun s7 wx=>∃ (g:Nat) (a':Option Addr) (c':Nat) (fp:List Nat),s7=.pointer (some ⟨g,0,none⟩)∧wx.heap[g]? = some (.cells #[I (ok-oi),I gI,I gK,II a' Q.hs.length c'] 211 (0,0))∧wx.heap[w.heap.size]? = some (.cells #[I 0,I 0,I 0,II none 0 0] 211 (0,0))∧IJ w w wx∧Own wx (zai Q.hs) (II a' Q.hs.length c') fp∧g ∉ fp∧In (w.heap.size+1) wx.heap.size fp∧w.heap.size+1≤g∧g<wx.heap.size)
 case first =>
  refine zap 33 (.read 0 (.read 1 (.read 3 (.read 4 (.read 7 (.read 8 (.read 9 (.read 10 (.read 11 (.read 12 (.read 13 (.read 14 (.read 15 (.read 16 (.read 17 (.read 18 (.read 19 (.read 20 (.read 21 (.read 22 (.read 23 (.read 24 (.read 25 (.read 26 (.read 27 (.read 28 (.two 2 31 (.two 5 31 (.read 6 (.two 29 31 (.read 30 (.one 31 (.one 32 .nil))) (.one 29 (.read 30 (.one 32 .nil))))) (.one 5 (.read 6 (.one 29 (.read 30 (.one 32 .nil)))))) (.one 2 (.one 5 (.read 6 (.one 29 (.read 30 (.one 32 .nil))))))))))))))))))))))))))))))))) (fun W=>IJ w w W) OJ OJ (B1.out.drew) ?_;have YB:=J (B1.out.drew);have Yz:W1.heap.size≤W1.drew.heap.size:=Nat.le_refl _;have Ykr:Hid (W1.drew.heap[w.heap.size]? = some (.cells #[I 0,I 0,I 0,II none 0 0] 211 (0,0))):=KR.out;generalize W1.drew=Y at *
  iterate 26
   refine zag (v:=?_) rfl (fun _ _ _ h=>h) ?_ ?_
   rotate_left
   ·(intro W hSW;(try dsimp only at hSW);obtain⟨t0,t1,t2,t3,t4,t5⟩:=HD.out W hSW;(go_simp<;>with_reducible rfl))
   (try simp only[Act.put,IQ,IZ,OI])
  refine za0 ?_ ?_;refine zae rfl (fun K hK=>?_);go_simp;refine (CK.out _ YB.out).mono ?_;rintro e Y1 ⟨rfl,hb1⟩;have YB1:=btr YB hb1;refine hK.out _ _ YB1.out ?_;clear hK K;have bs1:=hb1.size;have Ykr1:=bkH Ykr hb1;clear hb1;refine za0 ?_ ?_;refine zae rfl (fun K hK=>?_);go_simp;refine (CI.out _ YB1.out).mono ?_;rintro e Y2 ⟨rfl,hb2⟩;have YB2:=btr YB1 hb2;refine hK.out _ _ YB2.out ?_;clear hK K;have bs2:=hb2.size;have Ykr2:=bkH Ykr1 hb2;clear hb2;refine zag (v:=?_) rfl (fun _ _ _ h=>h) ?_ ?_
  rotate_left
  ·(intro W hSW;(try dsimp only at hSW);obtain⟨t0,t1,t2,t3,t4,t5⟩:=HD.out W hSW;(go_simp<;>with_reducible rfl))
  (try simp only[Act.put,IQ,IZ,OI])
  refine za0 ?_ ?_;refine zae rfl (fun K hK=>?_);go_simp;refine (CO.out _ YB2.out).mono ?_;rintro e Y3 ⟨a_,c_,p_,rfl,hb3,ho3,hi3⟩;have YB3:=btr YB2 hb3;refine hK.out _ _ YB3.out ?_;clear hK K;have bs3:=hb3.size;have Yoq3:=J ho3;have Yiq3:=J hi3;clear ho3 hi3;have Ykr3:=bkH Ykr2 hb3;clear hb3;refine zag (v:=?_) rfl (fun _ _ _ h=>h) ?_ ?_
  rotate_left
  ·(intro W hSW;(try dsimp only at hSW);obtain⟨t0,t1,t2,t3,t4,t5⟩:=HD.out W hSW;(go_simp<;>with_reducible rfl))
  (try simp only[Act.put,IQ,IZ,OI])
  refine zaf ?_;refine zae rfl (fun K hK=>?_);go_simp;obtain⟨Y4,hW4,hb4,zl4,hk4⟩:=zax Y3 #[I 0,I 0,I 0,II none 0 0] 211;rw[hW4];have Yko4:=J hk4;have YB4:=btr YB3 hb4;have Yoq4:=J (Yoq3.out.below Yiq3.out O hb4);have Ykr4:=bkH Ykr3 hb4;refine hK.out _ _ YB4.out ?_;have bs4:=hb4.size;clear hK K hW4 hk4 hb4;refine zaf ?_;refine zae rfl (fun K hK=>?_);obtain⟨g0,g1,g2,g3,fz⟩:=bz4 Yko4.out;go_simp;obtain⟨Y5,hW5,Yko5,bs5,ho5,hl5⟩:=zca Yko4 [I (ok-oi),I gI,I gK,II a_ Q.hs.length c_] rfl;simp only[zb1] at hW5;rw[hW5];have YB5:=J (hl5.out w (by have:=YB4.out.size;omega) YB4.out);have Yoq5:=J (Yoq4.out.frame (fun x hx=>ho5.out x (fun e=>by subst e;have:=Yiq3.out _ hx;omega)));have Ykr5:=J ((ho5.out _ O).trans Ykr4.out);refine hK.out _ _ YB5.out ?_;clear hK K fz hW5 ho5 hl5 g0 g1 g2 g3;refine zak ?_;simp only[List.drop_succ_cons,List.drop_zero];go_wp2_with fail;go_meet;exact⟨_,a_,c_,p_,rfl,Yko5.out,Ykr5.out,YB5.out,Yoq5.out,(fun e=>by have:=Yiq3.out _ e;omega),Yiq3.out.mono O O,O,O⟩;refine zae rfl (fun K hK=>?_);go_simp;obtain⟨Y6,hW6,hb6,zl6,hk6⟩:=zax Y2 #[I 0,I 0,I 0,II none 0 0] 211;rw[hW6];have Yko6:=J hk6;have YB6:=btr YB2 hb6;have Ykr6:=bkH Ykr2 hb6;refine hK.out _ _ YB6.out ?_;have bs6:=hb6.size;clear hK K hW6 hk6 hb6;refine zaf ?_;refine zae rfl (fun K hK=>?_);go_simp;refine (CO.out _ YB6.out).mono ?_;rintro e Y7 ⟨a_,c_,p_,rfl,hb7,ho7,hi7⟩;have YB7:=btr YB6 hb7;refine hK.out _ _ YB7.out ?_;clear hK K;have bs7:=hb7.size;have Yoq7:=J ho7;have Yiq7:=J hi7;clear ho7 hi7;have Ykr7:=bkH Ykr6 hb7;have Yko7:=bkH Yko6 hb7;clear hb7;refine zag (v:=?_) rfl (fun _ _ _ h=>h) ?_ ?_
  rotate_left
  ·(intro W hSW;(try dsimp only at hSW);obtain⟨t0,t1,t2,t3,t4,t5⟩:=HD.out W hSW;(go_simp<;>with_reducible rfl))
  (try simp only[Act.put,IQ,IZ,OI])
  refine zaf ?_;refine zae rfl (fun K hK=>?_);obtain⟨g0,g1,g2,g3,fz⟩:=bz4 Yko7.out;go_simp;obtain⟨Y8,hW8,Yko8,bs8,ho8,hl8⟩:=zca Yko7 [I (ok-oi),I gI,I gK,II a_ Q.hs.length c_] rfl;simp only[zb1] at hW8;rw[hW8];have YB8:=J (hl8.out w (by have:=YB7.out.size;omega) YB7.out);have Yoq8:=J (Yoq7.out.frame (fun x hx=>ho8.out x (fun e=>by subst e;have:=Yiq7.out _ hx;omega)));have Ykr8:=J ((ho8.out _ O).trans Ykr7.out);refine hK.out _ _ YB8.out ?_;clear hK K fz hW8 ho8 hl8 g0 g1 g2 g3;refine zak ?_;simp only[List.drop_succ_cons,List.drop_zero];go_wp2_with fail;go_meet;exact⟨_,a_,c_,p_,rfl,Yko8.out,Ykr8.out,YB8.out,Yoq8.out,(fun e=>by have:=Yiq7.out _ e;omega),Yiq7.out.mono O O,O,O⟩;refine zae rfl (fun K hK=>?_);go_simp;obtain⟨Y9,hW9,hb9,zl9,hk9⟩:=zax Y1 #[I 0,I 0,I 0,II none 0 0] 211;rw[hW9];have Yko9:=J hk9;have YB9:=btr YB1 hb9;have Ykr9:=bkH Ykr1 hb9;refine hK.out _ _ YB9.out ?_;have bs9:=hb9.size;clear hK K hW9 hk9 hb9;refine zaf ?_;refine zae rfl (fun K hK=>?_);go_simp;refine (CI.out _ YB9.out).mono ?_;rintro e Y10 ⟨rfl,hb10⟩;have YB10:=btr YB9 hb10;refine hK.out _ _ YB10.out ?_;clear hK K;have bs10:=hb10.size;have Ykr10:=bkH Ykr9 hb10;have Yko10:=bkH Yko9 hb10;clear hb10;refine zag (v:=?_) rfl (fun _ _ _ h=>h) ?_ ?_
  rotate_left
  ·(intro W hSW;(try dsimp only at hSW);obtain⟨t0,t1,t2,t3,t4,t5⟩:=HD.out W hSW;(go_simp<;>with_reducible rfl))
  (try simp only[Act.put,IQ,IZ,OI])
  refine zaf ?_;refine zae rfl (fun K hK=>?_);go_simp;refine (CO.out _ YB10.out).mono ?_;rintro e Y11 ⟨a_,c_,p_,rfl,hb11,ho11,hi11⟩;have YB11:=btr YB10 hb11;refine hK.out _ _ YB11.out ?_;clear hK K;have bs11:=hb11.size;have Yoq11:=J ho11;have Yiq11:=J hi11;clear ho11 hi11;have Ykr11:=bkH Ykr10 hb11;have Yko11:=bkH Yko10 hb11;clear hb11;refine zag (v:=?_) rfl (fun _ _ _ h=>h) ?_ ?_
  rotate_left
  ·(intro W hSW;(try dsimp only at hSW);obtain⟨t0,t1,t2,t3,t4,t5⟩:=HD.out W hSW;(go_simp<;>with_reducible rfl))
  (try simp only[Act.put,IQ,IZ,OI])
  refine zaf ?_;refine zae rfl (fun K hK=>?_);obtain⟨g0,g1,g2,g3,fz⟩:=bz4 Yko11.out;go_simp;obtain⟨Y12,hW12,Yko12,bs12,ho12,hl12⟩:=zca Yko11 [I (ok-oi),I gI,I gK,II a_ Q.hs.length c_] rfl;simp only[zb1] at hW12;rw[hW12];have YB12:=J (hl12.out w (by have:=YB11.out.size;omega) YB11.out);have Yoq12:=J (Yoq11.out.frame (fun x hx=>ho12.out x (fun e=>by subst e;have:=Yiq11.out _ hx;omega)));have Ykr12:=J ((ho12.out _ O).trans Ykr11.out);refine hK.out _ _ YB12.out ?_;clear hK K fz hW12 ho12 hl12 g0 g1 g2 g3;refine zak ?_;simp only[List.drop_succ_cons,List.drop_zero];go_wp2_with fail;go_meet;exact⟨_,a_,c_,p_,rfl,Yko12.out,Ykr12.out,YB12.out,Yoq12.out,(fun e=>by have:=Yiq11.out _ e;omega),Yiq11.out.mono O O,O,O⟩;refine zae rfl (fun K hK=>?_);go_simp;obtain⟨Y13,hW13,hb13,zl13,hk13⟩:=zax Y #[I 0,I 0,I 0,II none 0 0] 211;rw[hW13];have Yko13:=J hk13;have YB13:=btr YB hb13;have Ykr13:=bkH Ykr hb13;refine hK.out _ _ YB13.out ?_;have bs13:=hb13.size;clear hK K hW13 hk13 hb13;refine zaf ?_;refine zae rfl (fun K hK=>?_);go_simp;refine (CK.out _ YB13.out).mono ?_;rintro e Y14 ⟨rfl,hb14⟩;have YB14:=btr YB13 hb14;refine hK.out _ _ YB14.out ?_;clear hK K;have bs14:=hb14.size;have Ykr14:=bkH Ykr13 hb14;have Yko14:=bkH Yko13 hb14;clear hb14;refine zaf ?_;refine zae rfl (fun K hK=>?_);go_simp;refine (CI.out _ YB14.out).mono ?_;rintro e Y15 ⟨rfl,hb15⟩;have YB15:=btr YB14 hb15;refine hK.out _ _ YB15.out ?_;clear hK K;have bs15:=hb15.size;have Ykr15:=bkH Ykr14 hb15;have Yko15:=bkH Yko14 hb15;clear hb15;refine zag (v:=?_) rfl (fun _ _ _ h=>h) ?_ ?_
  rotate_left
  ·(intro W hSW;(try dsimp only at hSW);obtain⟨t0,t1,t2,t3,t4,t5⟩:=HD.out W hSW;(go_simp<;>with_reducible rfl))
  (try simp only[Act.put,IQ,IZ,OI])
  refine zaf ?_;refine zae rfl (fun K hK=>?_);go_simp;refine (CO.out _ YB15.out).mono ?_;rintro e Y16 ⟨a_,c_,p_,rfl,hb16,ho16,hi16⟩;have YB16:=btr YB15 hb16;refine hK.out _ _ YB16.out ?_;clear hK K;have bs16:=hb16.size;have Yoq16:=J ho16;have Yiq16:=J hi16;clear ho16 hi16;have Ykr16:=bkH Ykr15 hb16;have Yko16:=bkH Yko15 hb16;clear hb16;refine zag (v:=?_) rfl (fun _ _ _ h=>h) ?_ ?_
  rotate_left
  ·(intro W hSW;(try dsimp only at hSW);obtain⟨t0,t1,t2,t3,t4,t5⟩:=HD.out W hSW;(go_simp<;>with_reducible rfl))
  (try simp only[Act.put,IQ,IZ,OI])
  refine zaf ?_;refine zae rfl (fun K hK=>?_);obtain⟨g0,g1,g2,g3,fz⟩:=bz4 Yko16.out;go_simp;obtain⟨Y17,hW17,Yko17,bs17,ho17,hl17⟩:=zca Yko16 [I (ok-oi),I gI,I gK,II a_ Q.hs.length c_] rfl;simp only[zb1] at hW17;rw[hW17];have YB17:=J (hl17.out w (by have:=YB16.out.size;omega) YB16.out);have Yoq17:=J (Yoq16.out.frame (fun x hx=>ho17.out x (fun e=>by subst e;have:=Yiq16.out _ hx;omega)));have Ykr17:=J ((ho17.out _ O).trans Ykr16.out);refine hK.out _ _ YB17.out ?_;clear hK K fz hW17 ho17 hl17 g0 g1 g2 g3;refine zak ?_;simp only[List.drop_succ_cons,List.drop_zero];go_wp2_with fail;go_meet;exact⟨_,a_,c_,p_,rfl,Yko17.out,Ykr17.out,YB17.out,Yoq17.out,(fun e=>by have:=Yiq16.out _ e;omega),Yiq16.out.mono O O,O,O⟩
 obtain⟨g,a',c',fp,rfl,kg_,kr_,hbW,ow_,hg_,hin_,hg1,hg2⟩:=hcut;generalize wc=w3 at *;have KG:=J kg_;have KR3:=J kr_;have OW:=J ow_;have IN:=J hin_;have HG_:=J hg_;replace HB:=J hbW;clear kg_ kr_ ow_ hin_ hg_ hbW B1 KR hw1 hw2 CK CI CO;obtain⟨t0,t1,t2,t3,t4,t5⟩:=HD.out _ HB.out;have y0:=bkC (v:=I (ok-oi)) KG.out 0 rfl;have y1:=bkC (v:=I gI) KG.out 1 rfl;have y2:=bkC (v:=I gK) KG.out 2 rfl;have y3:=bkC (v:=II a' Q.hs.length c') KG.out 3 rfl;have yf:=bkF KG.out;have q0:=bkC (v:=I 0) KR3.out 0 rfl;have q1:=bkC (v:=I 0) KR3.out 1 rfl;have q2:=bkC (v:=I 0) KR3.out 2 rfl;have q3:=bkC (v:=II none 0 0) KR3.out 3 rfl;have qf:=bkF KR3.out;have hx0:=E0.out;have hx1:=E1.out;clear E0 E1
 by_cases hz:i=0
 ·by_cases hy:k+1=P.hs.length
  ·have FQ:Hid (Q.f=P.f):=by show _=_;rw[HQF.out,if_pos hz]
   have LQ:Hid (Q.l=P.l):=by show _=_;rw[HQLL.out,if_pos hy]
   rw[decide_eq_true hz] at hx0;rw[decide_eq_true hy] at hx1;have BF:=J ((((((HB.out.setCell (p:=⟨g,1,none⟩) (by show w.heap.size≤g;omega) (I P.f)).setCell (p:=⟨g,2,none⟩) (by show w.heap.size≤g;omega) (I P.l)).setCell (p:=⟨w,0,none⟩) (by show w.heap.size≤w.heap.size;omega) (I (ok-oi))).setCell (p:=⟨w,1,none⟩) (by show w.heap.size≤w.heap.size;omega) (I P.f)).setCell (p:=⟨w,2,none⟩) (by show w.heap.size≤w.heap.size;omega) (I P.l)).setCell (p:=⟨w,3,none⟩) (by show w.heap.size≤w.heap.size;omega) (II a' Q.hs.length c'));have OF:=J ((((((OW.out.setFar (p:=⟨g,1,none⟩) HG_.out (I P.f)).setFar (p:=⟨g,2,none⟩) HG_.out (I P.l)).setFar (p:=⟨w,0,none⟩) (fun e=>by have:=IN.out _ e;simp only at this;omega) (I (ok-oi))).setFar (p:=⟨w,1,none⟩) (fun e=>by have:=IN.out _ e;simp only at this;omega) (I P.f)).setFar (p:=⟨w,2,none⟩) (fun e=>by have:=IN.out _ e;simp only at this;omega) (I P.l)).setFar (p:=⟨w,3,none⟩) (fun e=>by have:=IN.out _ e;simp only at this;omega) (II a' Q.hs.length c'));clear HQF HQLL hz hy;go_wp2;refine bodyPost_ret (v:=.agg #[I (ok-oi),I P.f,I P.l,II a' Q.hs.length c']) (by simp[results,Tryz.results253,go_sem, *]) rfl ⟨a',c',by rw[HQD.out,FQ.out,LQ.out],BF.out,?_⟩;have h_:=OF.out.rd IN.out;simp only[zac];exact h_
  ·have FQ:Hid (Q.f=P.f):=by show _=_;rw[HQF.out,if_pos hz]
   have LQ:Hid (Q.l=gK):=by show _=_;rw[HQLL.out,if_neg hy]
   rw[decide_eq_true hz] at hx0;rw[decide_eq_false hy] at hx1;have BF:=J (((((HB.out.setCell (p:=⟨g,1,none⟩) (by show w.heap.size≤g;omega) (I P.f)).setCell (p:=⟨w,0,none⟩) (by show w.heap.size≤w.heap.size;omega) (I (ok-oi))).setCell (p:=⟨w,1,none⟩) (by show w.heap.size≤w.heap.size;omega) (I P.f)).setCell (p:=⟨w,2,none⟩) (by show w.heap.size≤w.heap.size;omega) (I gK)).setCell (p:=⟨w,3,none⟩) (by show w.heap.size≤w.heap.size;omega) (II a' Q.hs.length c'));have OF:=J (((((OW.out.setFar (p:=⟨g,1,none⟩) HG_.out (I P.f)).setFar (p:=⟨w,0,none⟩) (fun e=>by have:=IN.out _ e;simp only at this;omega) (I (ok-oi))).setFar (p:=⟨w,1,none⟩) (fun e=>by have:=IN.out _ e;simp only at this;omega) (I P.f)).setFar (p:=⟨w,2,none⟩) (fun e=>by have:=IN.out _ e;simp only at this;omega) (I gK)).setFar (p:=⟨w,3,none⟩) (fun e=>by have:=IN.out _ e;simp only at this;omega) (II a' Q.hs.length c'));clear HQF HQLL hz hy;go_wp2;refine bodyPost_ret (v:=.agg #[I (ok-oi),I P.f,I gK,II a' Q.hs.length c']) (by simp[results,Tryz.results253,go_sem, *]) rfl ⟨a',c',by rw[HQD.out,FQ.out,LQ.out],BF.out,?_⟩;have h_:=OF.out.rd IN.out;simp only[zac];exact h_
 ·by_cases hy:k+1=P.hs.length
  ·have FQ:Hid (Q.f=gI):=by show _=_;rw[HQF.out,if_neg hz]
   have LQ:Hid (Q.l=P.l):=by show _=_;rw[HQLL.out,if_pos hy]
   rw[decide_eq_false hz] at hx0;rw[decide_eq_true hy] at hx1;have BF:=J (((((HB.out.setCell (p:=⟨g,2,none⟩) (by show w.heap.size≤g;omega) (I P.l)).setCell (p:=⟨w,0,none⟩) (by show w.heap.size≤w.heap.size;omega) (I (ok-oi))).setCell (p:=⟨w,1,none⟩) (by show w.heap.size≤w.heap.size;omega) (I gI)).setCell (p:=⟨w,2,none⟩) (by show w.heap.size≤w.heap.size;omega) (I P.l)).setCell (p:=⟨w,3,none⟩) (by show w.heap.size≤w.heap.size;omega) (II a' Q.hs.length c'));have OF:=J (((((OW.out.setFar (p:=⟨g,2,none⟩) HG_.out (I P.l)).setFar (p:=⟨w,0,none⟩) (fun e=>by have:=IN.out _ e;simp only at this;omega) (I (ok-oi))).setFar (p:=⟨w,1,none⟩) (fun e=>by have:=IN.out _ e;simp only at this;omega) (I gI)).setFar (p:=⟨w,2,none⟩) (fun e=>by have:=IN.out _ e;simp only at this;omega) (I P.l)).setFar (p:=⟨w,3,none⟩) (fun e=>by have:=IN.out _ e;simp only at this;omega) (II a' Q.hs.length c'));clear HQF HQLL hz hy;go_wp2;refine bodyPost_ret (v:=.agg #[I (ok-oi),I gI,I P.l,II a' Q.hs.length c']) (by simp[results,Tryz.results253,go_sem, *]) rfl ⟨a',c',by rw[HQD.out,FQ.out,LQ.out],BF.out,?_⟩;have h_:=OF.out.rd IN.out;simp only[zac];exact h_
  ·have FQ:Hid (Q.f=gI):=by show _=_;rw[HQF.out,if_neg hz]
   have LQ:Hid (Q.l=gK):=by show _=_;rw[HQLL.out,if_neg hy]
   rw[decide_eq_false hz] at hx0;rw[decide_eq_false hy] at hx1;have BF:=J ((((HB.out.setCell (p:=⟨w,0,none⟩) (by show w.heap.size≤w.heap.size;omega) (I (ok-oi))).setCell (p:=⟨w,1,none⟩) (by show w.heap.size≤w.heap.size;omega) (I gI)).setCell (p:=⟨w,2,none⟩) (by show w.heap.size≤w.heap.size;omega) (I gK)).setCell (p:=⟨w,3,none⟩) (by show w.heap.size≤w.heap.size;omega) (II a' Q.hs.length c'));have OF:=J ((((OW.out.setFar (p:=⟨w,0,none⟩) (fun e=>by have:=IN.out _ e;simp only at this;omega) (I (ok-oi))).setFar (p:=⟨w,1,none⟩) (fun e=>by have:=IN.out _ e;simp only at this;omega) (I gI)).setFar (p:=⟨w,2,none⟩) (fun e=>by have:=IN.out _ e;simp only at this;omega) (I gK)).setFar (p:=⟨w,3,none⟩) (fun e=>by have:=IN.out _ e;simp only at this;omega) (II a' Q.hs.length c'));clear HQF HQLL hz hy;go_wp2;refine bodyPost_ret (v:=.agg #[I (ok-oi),I gI,I gK,II a' Q.hs.length c']) (by simp[results,Tryz.results253,go_sem, *]) rfl ⟨a',c',by rw[HQD.out,FQ.out,LQ.out],BF.out,?_⟩;have h_:=OF.out.rd IN.out;simp only[zac];exact h_
end Go.Proofs.YtgmapjgodibchaaGreatDoor
