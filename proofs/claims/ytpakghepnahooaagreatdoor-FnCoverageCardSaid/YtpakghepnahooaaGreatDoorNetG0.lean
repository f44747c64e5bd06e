/- Words for networks that are changed: parts of a network of one's own, rows of sectors. Plain lemmas; no program. -/
import Derived.Test.YtpakghepnahooaaGreatDoorNetI
import Derived.Test.YtpakghepnahooaaGreatDoorOverTail
import Derived.Test.YtpakghepnahooaaGreatDoorNetK
set_option linter.unusedVariables false
set_option linter.unusedSimpArgs false
namespace Go.Proofs.YtpakghepnahooaaGreatDoor
open Go.RowKit
theorem Q2c {p:Prop} (h:p:=by repeat (first|(with_reducible exact K3.out)|(with_reducible exact K2.out)|(with_reducible exact Below.refl _ _)|(with_reducible refine Below.setCell ?_ (by first|exact Nat.le_refl _|(dsimp only;omega)|(simp<;>omega)) _)|(with_reducible refine Below.alloc ?_ (by first|exact Nat.le_refl _|omega|(simp;done)|(simp<;>omega)) _)|(with_reducible refine Below.drew ?_))):p:=h
theorem Q2d {p:Prop} (h:p:=by repeat (first|(with_reducible exact K2.out)|(with_reducible exact Below.refl _ _)|(with_reducible refine Below.setCell ?_ (by first|exact Nat.le_refl _|(dsimp only;omega)|(simp<;>omega)) _)|(with_reducible refine Below.alloc ?_ (by first|exact Nat.le_refl _|omega|(simp;done)|(simp<;>omega)) _)|(with_reducible refine Below.drew ?_))):p:=h
theorem Q2e {p:Prop} (h:p:=by repeat (first|(with_reducible exact Below.refl _ _)|(with_reducible refine Below.setCell ?_ (by first|exact Nat.le_refl _|(dsimp only;omega)|(simp<;>omega)) _)|(with_reducible refine Below.alloc ?_ (by first|exact Nat.le_refl _|omega|(simp;done)|(simp<;>omega)) _)|(with_reducible refine Below.drew ?_))):p:=h
theorem Q2h {p:Prop} (h:p:=by first|exact Nat.le_refl _|(dsimp only;omega)|(simp<;>omega)):p:=h
theorem Q2l {p:Prop} (h:p:=by first|exact Nat.le_refl _|omega|(simp;done)|(simp<;>omega)):p:=h
set_option maxHeartbeats 16000000
set_option maxRecDepth 100000
theorem cell_set_same {w:World} {a:Addr} {u:Value} (h:(w.cell? a).isSome=true):(w.setCell a u).cell? a=some u:=by
 obtain⟨v,hv⟩:=Option.isSome_iff_exists.1 h;exact World.cell?_setCell_same w a u hv
def eirpN (n:DNetwork) (x:DSector) (b e:Int):Int:=(zbg n.radios (zch n.radios x.radio).toNat).power-(zbg n.radios (zch n.radios x.radio).toNat).feeder+towN (za5 n.antennas (zb3 n.antennas x.antenna).toNat) x.azimuth x.tilt b e
structure Parts (n:DNetwork) (x:DSector) (ka kr:Nat):Prop where
 la:ka<n.antennas.length
 lr:kr<n.radios.length
 ia:zb3 n.antennas x.antenna=(ka:Int)
 ir:zch n.radios x.radio=(kr:Int)
 ok:antB (za5 n.antennas ka)=true
 rok:radB (zbg n.radios kr)=true
 sec:zag x=true
theorem zc2 {n:DNetwork} (h:netB n=true) {q:Nat} (hq:q<n.sectors.length):∃ ka kr,Parts n (zad n.sectors q) ka kr:=by
 have hh:=h;rw[netB_eq] at h;unfold zdn at h;simp only[Bool.and_eq_true] at h;have:=zd3 h.2.2.2.2 hq;rw[za3 hq] at this;have hs:zag (zad n.sectors q)=true:=(Bool.and_eq_true_iff.1 this).1;have h2:zan n (zad n.sectors q)=true:=(Bool.and_eq_true_iff.1 this).2;unfold zan at h2;simp only[Bool.and_eq_true,decide_eq_true_iff] at h2
 rcases zb6 (fun y:DAntenna=>eqS y.name (zad n.sectors q).antenna) n.antennas with ⟨hi,_⟩|⟨ka,hka,hia,_,_⟩
 ·have:=h2.2.1;unfold zb3 at this;rw[hi] at this;omega
 rcases zb6 (fun y:DRadio=>eqS y.name (zad n.sectors q).radio) n.radios with ⟨hi,_⟩|⟨kr,hkr,hir,_,_⟩
 ·have:=h2.2.2;unfold zch at this;rw[hi] at this;omega
 have ha:=zd3 h.1.1 hka;have hr:=zd3 h.1.2.1 hkr;rw[zbn hka] at ha;rw[zcb hkr] at hr;exact⟨ka,kr,hka,hkr,hia,hir,ha,hr,hs⟩
theorem sector_bd {x:DSector} (h:zag x=true):(0≤x.azimuth∧x.azimuth≤359)∧(0≤x.tilt∧x.tilt≤30):=by
 unfold zag at h;simp only[Bool.and_eq_true] at h;exact⟨zaq.1 h.2.2.2.2.2.1,zaq.1 h.2.2.2.2.2.2.1⟩
theorem radio_bd {r:DRadio} (h:radB r=true):(-100000≤r.power∧r.power≤100000)∧(0≤r.feeder∧r.feeder≤30000):=by
 unfold radB at h;simp only[Bool.and_eq_true] at h;exact⟨zaq.1 h.2.1,zaq.1 h.2.2.1⟩
theorem ant_gain {a:DAntenna} (h:antB a=true):-60000≤a.gain∧a.gain≤60000:=by
 unfold antB at h;simp only[Bool.and_eq_true] at h;exact zaq.1 h.2.1
theorem tow_bd {a:DAntenna} (h:antB a=true) (az tilt b e:Int):-120000≤towN a az tilt b e∧towN a az tilt b e≤60000:=by
 have hg:=ant_gain h;obtain⟨hl,hm⟩:=antB_loss h;have h1:=hor_bd hl (b-az);have hu:=up_bd e tilt;have h2:=ver_bd hm (upN e tilt) hu.1 hu.2;unfold towN;omega
theorem iRadio_any (n:DNetwork) (x:DSector) (v0 v1 v2 v3:Value) (w:World) (r3:Rd w w (DRadio.sT n.radios) v3) (l3:n.radios.length≤1099511627776) (k:Nat) (hk:k<n.radios.length) (hi:zch n.radios x.radio=(k:Int)) (b off c cm:Nat) (am:Option Addr) (ev:v3=IZ (some ⟨b,off,none⟩) n.radios.length c) (hbl:b<w.heap.size) (sm:w.cell? ⟨b,off+k*6+5,none⟩=some (IZ am (zbg n.radios k).modes.length cm)) :
  Calls Tryz.prog 75 #[.agg #[v0,v1,v2,v3],.agg x] w fun e w'=>e=.returned (.agg ((zbg n.radios k),am,cm))∧OI w w w':=by
 have HS:Hid (∀ W:World,OI w w W→Calls Tryz.prog 116 #[.agg #[v0,v1,v2,v3],IQ x.radio] W fun e w'=>e=.returned (J (k:Int))∧OI W W w'):=fun W hW=>by
  have:=radioNamed_any n.radios x.radio v0 v1 v2 v3 w.heap.size W (r3.below hW) hW.size l3;rw[hi] at this;exact this
 obtain⟨a,c',e,_,_,hcl⟩:=DRadio.rd r3;obtain⟨b',off',ea,hbl',hat⟩:=hcl II;subst ea ev;injection e with e1 _ e3;injection e1 with e1;injection e1 with e1 e2;subst e1 e2 e3;obtain⟨s0,s1,s2,s3,s4,_⟩:=hat k hk;rw[zcb hk] at s0 s1 s2 s3 s4;have s5:=sm;have i1:(0:Int)≤(k:Int):=II
 have i2:(k:Int)<(n.radios.length:Int):=II
 clear hcl hat r3 hi sm hbl';generalize zbg n.radios k=R at *;have b0:OI w w (((w.alloc (.cells #[v0,v1,v2,IZ (some ⟨b,off,none⟩) n.radios.length c] 32)).alloc (.cells x 43)).alloc (.cells #[IQ ⟨#[]⟩,J 0,J 0,J 0,J 0,IZ none 0 0] 125)):=((((Below.refl _ _).alloc (Nat.le_refl _) _).alloc Q3k _).alloc Q3k _)
 have z0:w.heap.size+3≤(((w.alloc (.cells #[v0,v1,v2,IZ (some ⟨b,off,none⟩) n.radios.length c] 32)).alloc (.cells x 43)).alloc (.cells #[IQ ⟨#[]⟩,J 0,J 0,J 0,J 0,IZ none 0 0] 125)).heap.size:=by simp
 go_enter Tryz.func75,Tryz.ntmps75;go_wp2;have f0:(((w.alloc (.cells #[v0,v1,v2,IZ (some ⟨b,off,none⟩) n.radios.length c] 32)).alloc (.cells x 43)).alloc (.cells #[IQ ⟨#[]⟩,J 0,J 0,J 0,J 0,IZ none 0 0] 125)).cell? ⟨w,0,none⟩=some (v0):=by simp[go_sem]
 have f1:(((w.alloc (.cells #[v0,v1,v2,IZ (some ⟨b,off,none⟩) n.radios.length c] 32)).alloc (.cells x 43)).alloc (.cells #[IQ ⟨#[]⟩,J 0,J 0,J 0,J 0,IZ none 0 0] 125)).cell? ⟨w,1,none⟩=some (v1):=by simp[go_sem]
 have f2:(((w.alloc (.cells #[v0,v1,v2,IZ (some ⟨b,off,none⟩) n.radios.length c] 32)).alloc (.cells x 43)).alloc (.cells #[IQ ⟨#[]⟩,J 0,J 0,J 0,J 0,IZ none 0 0] 125)).cell? ⟨w,2,none⟩=some (v2):=by simp[go_sem]
 have f3:(((w.alloc (.cells #[v0,v1,v2,IZ (some ⟨b,off,none⟩) n.radios.length c] 32)).alloc (.cells x 43)).alloc (.cells #[IQ ⟨#[]⟩,J 0,J 0,J 0,J 0,IZ none 0 0] 125)).cell? ⟨w,3,none⟩=some (IZ (some ⟨b,off,none⟩) n.radios.length c):=by simp[go_sem]
 have g3:(((w.alloc (.cells #[v0,v1,v2,IZ (some ⟨b,off,none⟩) n.radios.length c] 32)).alloc (.cells x 43)).alloc (.cells #[IQ ⟨#[]⟩,J 0,J 0,J 0,J 0,IZ none 0 0] 125)).cell? ⟨w.heap.size+1,3,none⟩=some (IQ x.radio):=by simp[go_sem]
 have h0:(((w.alloc (.cells #[v0,v1,v2,IZ (some ⟨b,off,none⟩) n.radios.length c] 32)).alloc (.cells x 43)).alloc (.cells #[IQ ⟨#[]⟩,J 0,J 0,J 0,J 0,IZ none 0 0] 125)).cell? ⟨w.heap.size+1+1,0,none⟩=some (IQ ⟨#[]⟩):=by simp[go_sem]
 have h1:(((w.alloc (.cells #[v0,v1,v2,IZ (some ⟨b,off,none⟩) n.radios.length c] 32)).alloc (.cells x 43)).alloc (.cells #[IQ ⟨#[]⟩,J 0,J 0,J 0,J 0,IZ none 0 0] 125)).cell? ⟨w.heap.size+1+1,1,none⟩=some (J 0):=by simp[go_sem]
 have h2:(((w.alloc (.cells #[v0,v1,v2,IZ (some ⟨b,off,none⟩) n.radios.length c] 32)).alloc (.cells x 43)).alloc (.cells #[IQ ⟨#[]⟩,J 0,J 0,J 0,J 0,IZ none 0 0] 125)).cell? ⟨w.heap.size+1+1,2,none⟩=some (J 0):=by simp[go_sem]
 have h3:(((w.alloc (.cells #[v0,v1,v2,IZ (some ⟨b,off,none⟩) n.radios.length c] 32)).alloc (.cells x 43)).alloc (.cells #[IQ ⟨#[]⟩,J 0,J 0,J 0,J 0,IZ none 0 0] 125)).cell? ⟨w.heap.size+1+1,3,none⟩=some (J 0):=by simp[go_sem]
 have h4:(((w.alloc (.cells #[v0,v1,v2,IZ (some ⟨b,off,none⟩) n.radios.length c] 32)).alloc (.cells x 43)).alloc (.cells #[IQ ⟨#[]⟩,J 0,J 0,J 0,J 0,IZ none 0 0] 125)).cell? ⟨w.heap.size+1+1,4,none⟩=some (J 0):=by simp[go_sem]
 have h5:(((w.alloc (.cells #[v0,v1,v2,IZ (some ⟨b,off,none⟩) n.radios.length c] 32)).alloc (.cells x 43)).alloc (.cells #[IQ ⟨#[]⟩,J 0,J 0,J 0,J 0,IZ none 0 0] 125)).cell? ⟨w.heap.size+1+1,5,none⟩=some (IZ none 0 0):=by simp[go_sem]
 have hz:∀ o,(((w.alloc (.cells #[v0,v1,v2,IZ (some ⟨b,off,none⟩) n.radios.length c] 32)).alloc (.cells x 43)).alloc (.cells #[IQ ⟨#[]⟩,J 0,J 0,J 0,J 0,IZ none 0 0] 125)).frozen? ⟨w.heap.size+1+1,o,none⟩=false:=by intro o;simp[go_sem]
 have t0:=(bat b0 b _ hbl).trans s0;have t1:=(bat b0 b _ hbl).trans s1;have t2:=(bat b0 b _ hbl).trans s2;have t3:=(bat b0 b _ hbl).trans s3;have t4:=(bat b0 b _ hbl).trans s4;have t5:=(bat b0 b _ hbl).trans s5;generalize (((w.alloc (.cells #[v0,v1,v2,IZ (some ⟨b,off,none⟩) n.radios.length c] 32)).alloc (.cells x 43)).alloc (.cells #[IQ ⟨#[]⟩,J 0,J 0,J 0,J 0,IZ none 0 0] 125))=W1 at *;have B0:=IJ b0;clear b0 s0 s1 s2 s3 s4 s5;have oN:=zai (w0:=W1) (show w.heap.size<W1.heap.size by omega);have oX:=zai (w0:=W1) (show w.heap.size+1<W1.heap.size by omega);have oB:=zai (w0:=W1) (show b<W1.heap.size by omega);refine wp_region_over_tail 8 W1.heap.size W1 (Below.refl _ _) JI JI ?_;simp only[List.take_succ_cons,List.take_zero,List.drop_succ_cons,List.drop_zero]
 repeat (go_big_quiet_step (first|(go_at_call 116;exact zah (Nat.le_refl _) (HS.out _ (B0.out.trans ((zaa _ _ _).mono B0.out.size))))))
 refine wpQuiet_nil ?_;intro X;have hX:=zaa W1.heap.size W1 X;clear oN oX oB;generalize over W1.heap.size W1 X=w2 at *;obtain⟨qe2,qf2,ye2⟩:=zba hX (b:=w.heap.size+1+1) II;have B2:=IJ (B0.out.trans (hX.mono B0.out.size));clear hX;go_wp2;refine bodyPost_ret (v:=.agg (R,am,cm)) (by simp[results,Tryz.results75,go_sem, *]) rfl ?_;exact⟨rfl,((((((B2.out.setCell (p:=⟨w.heap.size+1+1,0,none⟩) Q34 _).setCell (p:=⟨w.heap.size+1+1,1,none⟩) Q34 _).setCell (p:=⟨w.heap.size+1+1,2,none⟩) Q34 _).setCell (p:=⟨w.heap.size+1+1,3,none⟩) Q34 _).setCell (p:=⟨w.heap.size+1+1,4,none⟩) Q34 _).setCell (p:=⟨w.heap.size+1+1,5,none⟩) Q34 _)⟩
theorem iEirp_any (n:DNetwork) (x:DSector) (v0 v1 v2 v3:Value) (bb e:Int) (w:World) (r2:Rd w w (DAntenna.sT n.antennas) v2) (r3:Rd w w (DRadio.sT n.radios) v3) (l2:n.antennas.length≤1099511627776) (l3:n.radios.length≤1099511627776) (ka kr:Nat) (hp:Parts n x ka kr) (b0:0≤bb) (b1:bb≤359) (e0:-90≤e) (e1:e≤90) :
  Calls Tryz.prog 64 #[.agg #[v0,v1,v2,v3],.agg x,J bb,J e] w fun r w'=>r=.returned (J (eirpN n x bb e))∧OI w w w':=by
 have hka:=hp.la;have hia:=hp.ia;have HE:Hid (eirpN n x bb e=(zbg n.radios kr).power-(zbg n.radios kr).feeder+towN (za5 n.antennas ka) x.azimuth x.tilt bb e):=by show _=_;unfold eirpN;rw[hp.ia,hp.ir,Int.toNat_natCast,Int.toNat_natCast]
 have HA:Hid (∀ W:World,OI w w W→Calls Tryz.prog 76 #[.agg #[v0,v1,v2,v3],IQ x.antenna] W fun e w'=>e=.returned (J (ka:Int))∧OI W W w'):=fun W hW=>by
  have:=zed n.antennas x.antenna v0 v1 v2 v3 w.heap.size W (r2.below hW) hW.size l2;rw[hia] at this;exact this
 obtain⟨ar,cr,er,_,_,hclr⟩:=DRadio.rd r3;obtain⟨br,ofr,ear,hbr,hatr⟩:=hclr (by have:=hp.lr;omega);subst ear;have hlr:=hp.lr;obtain⟨-,-,-,-,-,⟨um,hsm,rum⟩⟩:=hatr kr hlr;obtain⟨am,cm,eum,_,_,_⟩:=DMode.rd rum;subst eum;rw[zcb hlr] at hsm;have HR:Hid (∀ W:World,OI w w W→Calls Tryz.prog 75 #[.agg #[v0,v1,v2,v3],.agg x] W fun e w'=>e=.returned (.agg ((zbg n.radios kr),am,cm))∧OI W W w'):=fun W hW=>iRadio_any n x v0 v1 v2 v3 W ((r3.below hW).mono hW.size) l3 kr hp.lr hp.ir br ofr cr cm am er (by have:=hW.size;omega) ((bat hW br _ hbr).trans hsm)
 obtain⟨rp0,rp1⟩:=(radio_bd hp.rok).1;obtain⟨rf0,rf1⟩:=(radio_bd hp.rok).2;obtain⟨xa0,xa1⟩:=(sector_bd hp.sec).1;obtain⟨xt0,xt1⟩:=(sector_bd hp.sec).2;obtain⟨tb0,tb1⟩:=tow_bd hp.ok x.azimuth x.tilt bb e;obtain⟨hl,hm⟩:=antB_loss hp.ok;obtain⟨ag0,ag1⟩:=ant_gain hp.ok;obtain⟨a,c,ee,_,_,hcl⟩:=DAntenna.rd r2;obtain⟨b,off,ea,hbl,hat⟩:=hcl II;subst ea ee;obtain⟨s0,s1,⟨u2,s2,ru2⟩,⟨u3,s3,ru3⟩⟩:=hat ka hka;rw[zbn hka] at s0 s1 ru2 ru3;have HTW:Hid (∀ W:World,OI w w W→Calls Tryz.prog 113 #[.agg ((za5 n.antennas ka),u2,u3),J x.azimuth,J x.tilt,J bb,J e] W fun r w'=>r=.returned (J (towN (za5 n.antennas ka) x.azimuth x.tilt bb e))∧OI W W w'):=fun W hW=>toward_any _ _ _ _ _ _ _ W ((ru2.below hW).mono hW.size) ((ru3.below hW).mono hW.size) hl hm ag0 ag1 xa0 xa1 xt0 xt1 b0 b1 e0 e1
 obtain⟨ah,ch,e2,_,_,_⟩:=ru2.ints;obtain⟨av,cv,e3,_,_,_⟩:=ru3.ints;subst e2 e3;have i1:(0:Int)≤(ka:Int):=II
 have i2:(ka:Int)<(n.antennas.length:Int):=II
 clear hcl hat r2 r3 hia hl hm ru2 ru3 hp hclr hatr rum;clear hsm er;generalize towN (za5 n.antennas ka) x.azimuth x.tilt bb e=T at *;generalize zbg n.radios kr=R at *;generalize za5 n.antennas ka=A at *;have w0:OI w w ((w.alloc (.cells #[v0,v1,IZ (some ⟨b,off,none⟩) n.antennas.length c,v3] 32)).alloc (.cells x 43)):=(((Below.refl _ _).alloc (Nat.le_refl _) _).alloc Q3k _)
 have z0:w.heap.size+2≤((w.alloc (.cells #[v0,v1,IZ (some ⟨b,off,none⟩) n.antennas.length c,v3] 32)).alloc (.cells x 43)).heap.size:=by simp
 go_enter Tryz.func64,Tryz.ntmps64;go_wp2;have f0:((w.alloc (.cells #[v0,v1,IZ (some ⟨b,off,none⟩) n.antennas.length c,v3] 32)).alloc (.cells x 43)).cell? ⟨w,0,none⟩=some (v0):=by simp[go_sem]
 have f1:((w.alloc (.cells #[v0,v1,IZ (some ⟨b,off,none⟩) n.antennas.length c,v3] 32)).alloc (.cells x 43)).cell? ⟨w,1,none⟩=some (v1):=by simp[go_sem]
 have f2:((w.alloc (.cells #[v0,v1,IZ (some ⟨b,off,none⟩) n.antennas.length c,v3] 32)).alloc (.cells x 43)).cell? ⟨w,2,none⟩=some (IZ (some ⟨b,off,none⟩) n.antennas.length c):=by simp[go_sem]
 have f3:((w.alloc (.cells #[v0,v1,IZ (some ⟨b,off,none⟩) n.antennas.length c,v3] 32)).alloc (.cells x 43)).cell? ⟨w,3,none⟩=some (v3):=by simp[go_sem]
 have g0:((w.alloc (.cells #[v0,v1,IZ (some ⟨b,off,none⟩) n.antennas.length c,v3] 32)).alloc (.cells x 43)).cell? ⟨w.heap.size+1,0,none⟩=some (IQ x.name):=by simp[go_sem]
 have g1:((w.alloc (.cells #[v0,v1,IZ (some ⟨b,off,none⟩) n.antennas.length c,v3] 32)).alloc (.cells x 43)).cell? ⟨w.heap.size+1,1,none⟩=some (IQ x.site):=by simp[go_sem]
 have g2:((w.alloc (.cells #[v0,v1,IZ (some ⟨b,off,none⟩) n.antennas.length c,v3] 32)).alloc (.cells x 43)).cell? ⟨w.heap.size+1,2,none⟩=some (IQ x.antenna):=by simp[go_sem]
 have g3:((w.alloc (.cells #[v0,v1,IZ (some ⟨b,off,none⟩) n.antennas.length c,v3] 32)).alloc (.cells x 43)).cell? ⟨w.heap.size+1,3,none⟩=some (IQ x.radio):=by simp[go_sem]
 have g4:((w.alloc (.cells #[v0,v1,IZ (some ⟨b,off,none⟩) n.antennas.length c,v3] 32)).alloc (.cells x 43)).cell? ⟨w.heap.size+1,4,none⟩=some (IQ x.band):=by simp[go_sem]
 have g5:((w.alloc (.cells #[v0,v1,IZ (some ⟨b,off,none⟩) n.antennas.length c,v3] 32)).alloc (.cells x 43)).cell? ⟨w.heap.size+1,5,none⟩=some (J x.azimuth):=by simp[go_sem]
 have g6:((w.alloc (.cells #[v0,v1,IZ (some ⟨b,off,none⟩) n.antennas.length c,v3] 32)).alloc (.cells x 43)).cell? ⟨w.heap.size+1,6,none⟩=some (J x.tilt):=by simp[go_sem]
 have g7:((w.alloc (.cells #[v0,v1,IZ (some ⟨b,off,none⟩) n.antennas.length c,v3] 32)).alloc (.cells x 43)).cell? ⟨w.heap.size+1,7,none⟩=some (J x.above):=by simp[go_sem]
 have g8:((w.alloc (.cells #[v0,v1,IZ (some ⟨b,off,none⟩) n.antennas.length c,v3] 32)).alloc (.cells x 43)).cell? ⟨w.heap.size+1,8,none⟩=some (J x.channel):=by simp[go_sem]
 have t0:=(bat w0 b _ hbl).trans s0;have t1:=(bat w0 b _ hbl).trans s1;have t2:=(bat w0 b _ hbl).trans s2;have t3:=(bat w0 b _ hbl).trans s3;generalize ((w.alloc (.cells #[v0,v1,IZ (some ⟨b,off,none⟩) n.antennas.length c,v3] 32)).alloc (.cells x 43))=W1 at *;have B0:=IJ w0;have hcf:(W1,w.heap.size,0,v0)∧(W1,w.heap.size,1,v1)∧(W1,w.heap.size,2,IZ (some ⟨b,off,none⟩) n.antennas.length c)∧(W1,w.heap.size,3,v3)∧(W1,w.heap.size+1,0,IQ x.name)∧(W1,w.heap.size+1,1,IQ x.site)∧(W1,w.heap.size+1,2,IQ x.antenna)∧(W1,w.heap.size+1,3,IQ x.radio)∧(W1,w.heap.size+1,4,IQ x.band)∧(W1,w.heap.size+1,5,J x.azimuth)∧(W1,w.heap.size+1,6,J x.tilt)∧(W1,w.heap.size+1,7,J x.above)∧(W1,w.heap.size+1,8,J x.channel)∧(W1,b,off+ka*4,IQ A.name)∧(W1,b,off+ka*4+1,J A.gain)∧(W1,b,off+ka*4+2,IZ ah A.horizontal.length ch)∧(W1,b,off+ka*4+3,IZ av A.vertical.length cv):=⟨f0,f1,f2,f3,g0,g1,g2,g3,g4,g5,g6,g7,g8,t0,t1,t2,t3⟩
 clear w0 s0 s1 s2 s3;have u11:w.heap.size<W1.heap.size:=II
 have u12:w.heap.size+1<W1.heap.size:=II
 have u13:b<W1.heap.size:=II
 have HK:Hid (∀ W:World,OI W1 W1 W→(W,w.heap.size,0,v0)∧(W,w.heap.size,1,v1)∧(W,w.heap.size,2,IZ (some ⟨b,off,none⟩) n.antennas.length c)∧(W,w.heap.size,3,v3)∧(W,w.heap.size+1,0,IQ x.name)∧(W,w.heap.size+1,1,IQ x.site)∧(W,w.heap.size+1,2,IQ x.antenna)∧(W,w.heap.size+1,3,IQ x.radio)∧(W,w.heap.size+1,4,IQ x.band)∧(W,w.heap.size+1,5,J x.azimuth)∧(W,w.heap.size+1,6,J x.tilt)∧(W,w.heap.size+1,7,J x.above)∧(W,w.heap.size+1,8,J x.channel)∧(W,b,off+ka*4,IQ A.name)∧(W,b,off+ka*4+1,J A.gain)∧(W,b,off+ka*4+2,IZ ah A.horizontal.length ch)∧(W,b,off+ka*4+3,IZ av A.vertical.length cv)):=fun W h=>⟨(bat h _ _ u11).trans f0,(bat h _ _ u11).trans f1,(bat h _ _ u11).trans f2,(bat h _ _ u11).trans f3,(bat h _ _ u12).trans g0,(bat h _ _ u12).trans g1,(bat h _ _ u12).trans g2,(bat h _ _ u12).trans g3,(bat h _ _ u12).trans g4,(bat h _ _ u12).trans g5,(bat h _ _ u12).trans g6,(bat h _ _ u12).trans g7,(bat h _ _ u12).trans g8,(bat h _ _ u13).trans t0,(bat h _ _ u13).trans t1,(bat h _ _ u13).trans t2,(bat h _ _ u13).trans t3⟩
 have HBW:Hid (∀ W:World,OI W1 W1 W→OI w w W):=fun W h=>B0.out.trans (h.mono B0.out.size)
 have xx1:W1.heap.size<W1.heap.size+1+1:=II
 go_cut [9,10] (fun s9 s10 wx=>∃ g h:Nat,s9=.pointer (some ⟨g,0,none⟩)∧s10=.pointer (some ⟨h,0,none⟩)∧(wx,g,1,J R.power)∧(wx,g,2,J R.feeder)∧(wx,h,0,IQ A.name)∧(wx,h,1,J A.gain)∧(wx,h,2,IZ ah A.horizontal.length ch)∧(wx,h,3,IZ av A.vertical.length cv)∧(wx,w.heap.size+1,5,J x.azimuth)∧(wx,w.heap.size+1,6,J x.tilt)∧g<wx.heap.size∧h<wx.heap.size∧w.heap.size+1<wx.heap.size∧OI w w wx)
 case first =>
  go_region_held3 (fun W=>(W,w.heap.size,0,v0)∧(W,w.heap.size,1,v1)∧(W,w.heap.size,2,IZ (some ⟨b,off,none⟩) n.antennas.length c)∧(W,w.heap.size,3,v3)∧(W,w.heap.size+1,0,IQ x.name)∧(W,w.heap.size+1,1,IQ x.site)∧(W,w.heap.size+1,2,IQ x.antenna)∧(W,w.heap.size+1,3,IQ x.radio)∧(W,w.heap.size+1,4,IQ x.band)∧(W,w.heap.size+1,5,J x.azimuth)∧(W,w.heap.size+1,6,J x.tilt)∧(W,w.heap.size+1,7,J x.above)∧(W,w.heap.size+1,8,J x.channel)∧(W,b,off+ka*4,IQ A.name)∧(W,b,off+ka*4+1,J A.gain)∧(W,b,off+ka*4+2,IZ ah A.horizontal.length ch)∧(W,b,off+ka*4+3,IZ av A.vertical.length cv)) (exact HK.out _ Q2c) (first|(go_at_call 75;refine (HR.out _ (HBW.out _ Q2e)).mono ?_;rintro e' w2 ⟨rfl,hb2⟩;have K2:Hid (OI W1 W1 w2):=Below.trans Q2e (hb2.mono Q2l);have yz2:W1.heap.size≤w2.heap.size:=K2.out.size;have hs2:=hb2.size;(try simp at hs2);(try have p21:W1.heap.size<w2.heap.size:=II);(try have p22:W1.heap.size+1<w2.heap.size:=II);have xx2:w2.heap.size<w2.heap.size+1+1:=II;have p23:W1.heap.size<w2.heap.size+1:=II;have p24:W1.heap.size<w2.heap.size+1+1:=II;(try have p25:W1.heap.size+1<w2.heap.size+1:=II);obtain⟨qq2,qf2⟩:=bcell hb2;clear hb2)|(go_at_call 76;refine (HA.out _ (HBW.out _ Q2d)).mono ?_;rintro e' w3 ⟨rfl,hb3⟩;have K3:Hid (OI W1 W1 w3):=Below.trans Q2d (hb3.mono Q2l);have yz3:w2.heap.size≤w3.heap.size:=(by have hh:=hb3.size;first|exact hh|(simp at hh;omega));have hs3:=hb3.size;(try simp at hs3);(try have p31:W1.heap.size<w3.heap.size:=II);(try have p32:W1.heap.size+1<w3.heap.size:=II);(try have p33:w2.heap.size<w3.heap.size:=II);(try have p34:w2.heap.size+1<w3.heap.size:=II);obtain⟨qq3,qf3⟩:=bcell hb3;clear hb3))
  all_goals (go_wp2_with fail;go_meet)
  all_goals refine⟨_,_,rfl,rfl,?_,?_,?_,?_,?_,?_,?_,?_,?_,?_,?_,HBW.out _ Q2c⟩
  all_goals first|(simp[go_sem, *];done)|(simp[go_sem,cell_set_same, *];done)|(simp[zac];omega)|(simp only[zac];omega)|(simp[go_sem, *];omega)
 case rest =>
  obtain⟨gR,gA,rfl,rfl,k1,k2,m0,m1,m2,m3,d5,d6,y1,y2,y3,hBx⟩:=hcut;go_wp2;generalize wc=W3 at *;have BG:=IJ hBx;clear hBx hcf;have pX:=zai (w0:=W3) y3;have pR:=zai (w0:=W3) y1;have pA:=zai (w0:=W3) y2;have j1:IntKind.i64.wrap (R.power-R.feeder)=R.power-R.feeder:=IntWalk.i64_in _ II;have j2:IntKind.i64.wrap (R.power-R.feeder+T)=R.power-R.feeder+T:=IntWalk.i64_in _ II;refine zab W3.heap.size W3 (Below.refl _ _) JI JI ?_
  repeat (go_big_quiet_step (first|(go_at_call 113;exact zah (Nat.le_refl _) (HTW.out _ (BG.out.trans ((zaa _ _ _).mono BG.out.size))))))
  refine wpQuiet_nil ?_;rintro _ ⟨Y,rfl⟩;have hY:=zaa W3.heap.size W3 Y;clear pX pR pA j1 j2;generalize over W3.heap.size W3 Y=w4 at *;have BH:=IJ (BG.out.trans (hY.mono BG.out.size));clear hY;go_wp2;go_ret;exact⟨by rw[HE.out];rfl,BH.out⟩
theorem zb0 (w:World):OwnV w (DNetwork.tr ⟨[],[],[],[]⟩) [IZ none 0 0,IZ none 0 0,IZ none 0 0,IZ none 0 0] []:=by
 have h:∀ k,Own w (.sl k []) (IZ none 0 0) []:=fun k=>⟨zb7.2 ⟨none,0,0,rfl,by simp,Nat.le_refl _,by unfold maxLen;omega,Or.inl ⟨rfl,rfl⟩⟩,List.nodup_nil,fun b h=>by simp at h⟩
 exact OwnV.cons (f:=[]) (g:=[]) (h 4) (OwnV.cons (f:=[]) (g:=[]) (h 9) (OwnV.cons (f:=[]) (g:=[]) (h 4) (OwnV.cons (f:=[]) (g:=[]) (h 6) OwnV.nil Q4a) Q4a) Q4a) Q4a
theorem zex {w:World} {n:DNetwork} {v0 v1 v2 v3:Value} {fp:List Nat} (h:OwnV w n.tr [v0,v1,v2,v3] fp) :
  ∃ f0 f1 f2 f3,(∀ x,x ∈ fp↔x ∈ f0∨x ∈ f1∨x ∈ f2∨x ∈ f3)∧Own w (DSite.sT n.sites) v0 f0∧Own w (DSector.sT n.sectors) v1 f1∧Own w (DAntenna.sT n.antennas) v2 f2∧Own w (DRadio.sT n.radios) v3 f3 ∧
   (∀ x ∈ f0,x ∉ f1∧x ∉ f2∧x ∉ f3)∧(∀ x ∈ f1,x ∉ f2∧x ∉ f3)∧∀ x ∈ f2,x ∉ f3:=by
 obtain⟨f0,g0,rfl,O0,h,d0⟩:=OwnV.uncons (show OwnV w [DSite.sT n.sites,DSector.sT n.sectors,DAntenna.sT n.antennas,DRadio.sT n.radios] [v0,v1,v2,v3] fp from h);obtain⟨f1,g1,rfl,O1,h,d1⟩:=h.uncons;obtain⟨f2,g2,rfl,O2,h,d2⟩:=h.uncons;obtain⟨f3,g3,rfl,O3,h,d3⟩:=h.uncons;obtain rfl:g3 = []:=h.rep;refine⟨f0,f1,f2,f3,fun x=>by simp,O0,O1,O2,O3,fun x hx=>?_,fun x hx=>?_,fun x hx=>?_⟩
 ·have:=d0 x hx;simp at this;exact⟨this.1,this.2.1,this.2.2⟩
 ·have:=d1 x hx;simp at this;exact this
 ·have:=d2 x hx;simp at this;exact this
theorem netJoin {w:World} {n:DNetwork} {v0 v1 v2 v3:Value} {f0 f1 f2 f3:List Nat} (O0:Own w (DSite.sT n.sites) v0 f0) (O1:Own w (DSector.sT n.sectors) v1 f1) (O2:Own w (DAntenna.sT n.antennas) v2 f2) (O3:Own w (DRadio.sT n.radios) v3 f3)
  (d0:∀ x ∈ f0,x ∉ f1∧x ∉ f2∧x ∉ f3) (d1:∀ x ∈ f1,x ∉ f2∧x ∉ f3) (d2:∀ x ∈ f2,x ∉ f3):OwnV w n.tr [v0,v1,v2,v3] (f0++(f1++(f2++(f3++[])))) :=
 OwnV.cons O0 (OwnV.cons O1 (OwnV.cons O2 (OwnV.cons O3 OwnV.nil Q4a) (by simpa using d2)) (fun x hx=>by have:=d1 x hx;simp[this])) (fun x hx=>by have:=d0 x hx;simp[this])
theorem Chg.setRow {fp:List Nat} {a w:World} (h:Chg fp a w) {b:Nat} (hb:b ∈ fp) (off:Nat) (vs:List Value):Chg fp a (setRow w b off vs):=by
 induction vs generalizing w off with
 | nil=>exact h
 | cons v vs ih=>exact ih (h.setCell (p:=⟨b,off,none⟩) hb v) (off+1)
def DSector.vals (x:DSector):List Value:=[IQ x.name,IQ x.site,IQ x.antenna,IQ x.radio,IQ x.band,J x.azimuth,J x.tilt,J x.above,J x.channel]
end Go.Proofs.YtpakghepnahooaaGreatDoor
