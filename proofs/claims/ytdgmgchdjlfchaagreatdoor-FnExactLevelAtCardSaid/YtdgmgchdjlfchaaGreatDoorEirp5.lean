/- Contract: the radiated power of a sector, for the reference. Conditions: valid networks. -/
import Derived.Test.YtdgmgchdjlfchaaGreatDoorEirp3
import Derived.Test.YtdgmgchdjlfchaaGreatDoorNetI
import Derived.Test.YtdgmgchdjlfchaaGreatDoorOverTail
import Derived.Deep.RegionHeld3
import Derived.Deep.DeepCutAuto
namespace Go.Proofs.YtdgmgchdjlfchaaGreatDoor
set_option maxHeartbeats 16000000
set_option maxRecDepth 100000
open Go.RowKit
set_option linter.unusedVariables false
set_option linter.unusedSimpArgs false
theorem cell_set_same {w:World} {a:Addr} {u:Value} (h:(w.cell? a).isSome=true):(w.setCell a u).cell? a=some u:=by
 obtain⟨v,hv⟩:=Option.isSome_iff_exists.1 h
 exact World.cell?_setCell_same w a u hv
def eirpN (n:DNetwork) (x:DSector) (b e:Int):Int:=(gRadio n.radios (idxRadio n.radios x.radio).toNat).power-(gRadio n.radios (idxRadio n.radios x.radio).toNat).feeder+towN (gAntenna n.antennas (idxAntenna n.antennas x.antenna).toNat) x.azimuth x.tilt b e
structure Parts (n:DNetwork) (x:DSector) (ka kr:Nat):Prop where
 la:ka<n.antennas.length
 lr:kr<n.radios.length
 ia:idxAntenna n.antennas x.antenna=(ka:Int)
 ir:idxRadio n.radios x.radio=(kr:Int)
 ok:antB (gAntenna n.antennas ka)=true
 rok:radB (gRadio n.radios kr)=true
 sec:sectorB x=true
theorem parts_of_sector {n:DNetwork} (h:netB n=true) {q:Nat} (hq:q<n.sectors.length):∃ ka kr,Parts n (gSector n.sectors q) ka kr:=by
 have hh:=h
 rw[netB_eq] at h
 unfold modelsB at h
 simp only[Bool.and_eq_true] at h
 have:=rowOk_ok h.2.2.2.2 hq
 rw[gSector_eq hq] at this
 have hs:sectorB (gSector n.sectors q)=true:=(Bool.and_eq_true_iff.1 this).1
 have h2:refersB n (gSector n.sectors q)=true:=(Bool.and_eq_true_iff.1 this).2
 unfold refersB at h2
 simp only[Bool.and_eq_true,decide_eq_true_iff] at h2
 rcases firstIdx_cases' (fun y:DAntenna=>eqS y.name (gSector n.sectors q).antenna) n.antennas with ⟨hi,_⟩|⟨ka,hka,hia,_,_⟩
 ·have:=h2.2.1;unfold idxAntenna at this;rw[hi] at this;omega
 rcases firstIdx_cases' (fun y:DRadio=>eqS y.name (gSector n.sectors q).radio) n.radios with ⟨hi,_⟩|⟨kr,hkr,hir,_,_⟩
 ·have:=h2.2.2;unfold idxRadio at this;rw[hi] at this;omega
 have ha:=rowOk_ok h.1.1 hka
 have hr:=rowOk_ok h.1.2.1 hkr
 rw[gAntenna_eq hka] at ha
 rw[gRadio_eq hkr] at hr
 exact⟨ka,kr,hka,hkr,hia,hir,ha,hr,hs⟩
theorem sector_bd {x:DSector} (h:sectorB x=true):(0≤x.azimuth∧x.azimuth≤359)∧(0≤x.tilt∧x.tilt≤30):=by
 unfold sectorB at h
 simp only[Bool.and_eq_true] at h
 exact⟨inB_true.1 h.2.2.2.2.2.1,inB_true.1 h.2.2.2.2.2.2.1⟩
theorem radio_bd {r:DRadio} (h:radB r=true):(-100000≤r.power∧r.power≤100000)∧(0≤r.feeder∧r.feeder≤30000):=by
 unfold radB at h
 simp only[Bool.and_eq_true] at h
 exact⟨inB_true.1 h.2.1,inB_true.1 h.2.2.1⟩
theorem ant_gain {a:DAntenna} (h:antB a=true):-60000≤a.gain∧a.gain≤60000:=by
 unfold antB at h
 simp only[Bool.and_eq_true] at h
 exact inB_true.1 h.2.1
theorem tow_bd {a:DAntenna} (h:antB a=true) (az tilt b e:Int):-120000≤towN a az tilt b e∧towN a az tilt b e≤60000:=by
 have hg:=ant_gain h
 obtain⟨hl,hm⟩:=antB_loss h
 have h1:=hor_bd hl (b-az)
 have hu:=up_bd e tilt
 have h2:=ver_bd hm (upN e tilt) hu.1 hu.2
 unfold towN
 omega
theorem iRadio_any (n:DNetwork) (x:DSector) (v0 v1 v2 v3:Value) (w:World) (r3:Rd w.heap.size w (DRadio.sT n.radios) v3) (l3:n.radios.length≤1099511627776) (k:Nat) (hk:k<n.radios.length) (hi:idxRadio n.radios x.radio=(k:Int)) (b off c cm:Nat) (am:Option Addr) (ev:v3=.slice (some ⟨b,off,none⟩) n.radios.length c) (hbl:b<w.heap.size) (sm:w.cell? ⟨b,off+k*6+5,none⟩=some (.slice am (gRadio n.radios k).modes.length cm)) :
  Calls Tryz.prog 122 #[.agg #[v0,v1,v2,v3],.agg #[.string x.name,.string x.site,.string x.antenna,.string x.radio,.string x.band,.int .i64 x.azimuth,.int .i64 x.tilt,.int .i64 x.above,.int .i64 x.channel]] w fun e w'=>e=.returned (.agg #[.string (gRadio n.radios k).name,.int .i64 (gRadio n.radios k).power,.int .i64 (gRadio n.radios k).feeder,.int .i64 (gRadio n.radios k).noise,.int .i64 (gRadio n.radios k).width,.slice am (gRadio n.radios k).modes.length cm])∧Below w.heap.size w w':=by
 have HS:Hid (∀ W:World,Below w.heap.size w W→Calls Tryz.prog 149 #[.agg #[v0,v1,v2,v3],.string x.radio] W fun e w'=>e=.returned (.int .i64 (k:Int))∧Below W.heap.size W w'):=fun W hW=>by
  have:=radioNamed_any n.radios x.radio v0 v1 v2 v3 w.heap.size W (r3.below hW) hW.size l3
  rw[hi] at this
  exact this
 obtain⟨a,c',e,_,_,hcl⟩:=DRadio.rd r3
 obtain⟨b',off',ea,hbl',hat⟩:=hcl (by omega)
 subst ea ev
 injection e with e1 _ e3
 injection e1 with e1
 injection e1 with e1 e2
 subst e1 e2 e3
 obtain⟨s0,s1,s2,s3,s4,_⟩:=hat k hk
 rw[gRadio_eq hk] at s0 s1 s2 s3 s4
 have s5:=sm
 have i1:(0:Int)≤(k:Int):=by omega
 have i2:(k:Int)<(n.radios.length:Int):=by omega
 clear hcl hat r3 hi sm hbl'
 generalize gRadio n.radios k=R at *
 have b0:Below w.heap.size w (((w.alloc (.cells #[v0,v1,v2,.slice (some ⟨b,off,none⟩) n.radios.length c] 46)).alloc (.cells #[.string x.name,.string x.site,.string x.antenna,.string x.radio,.string x.band,.int .i64 x.azimuth,.int .i64 x.tilt,.int .i64 x.above,.int .i64 x.channel] 102)).alloc (.cells #[.string ⟨#[]⟩,.int .i64 0,.int .i64 0,.int .i64 0,.int .i64 0,.slice none 0 0] 151)):=((((Below.refl _ _).alloc (Nat.le_refl _) _).alloc (by first|(simp;done)|(simp<;>omega)) _).alloc (by first|(simp;done)|(simp<;>omega)) _)
 have z0:w.heap.size+3≤(((w.alloc (.cells #[v0,v1,v2,.slice (some ⟨b,off,none⟩) n.radios.length c] 46)).alloc (.cells #[.string x.name,.string x.site,.string x.antenna,.string x.radio,.string x.band,.int .i64 x.azimuth,.int .i64 x.tilt,.int .i64 x.above,.int .i64 x.channel] 102)).alloc (.cells #[.string ⟨#[]⟩,.int .i64 0,.int .i64 0,.int .i64 0,.int .i64 0,.slice none 0 0] 151)).heap.size:=by simp
 go_enter Tryz.func122,Tryz.ntmps122
 go_wp2
 have f0:(((w.alloc (.cells #[v0,v1,v2,.slice (some ⟨b,off,none⟩) n.radios.length c] 46)).alloc (.cells #[.string x.name,.string x.site,.string x.antenna,.string x.radio,.string x.band,.int .i64 x.azimuth,.int .i64 x.tilt,.int .i64 x.above,.int .i64 x.channel] 102)).alloc (.cells #[.string ⟨#[]⟩,.int .i64 0,.int .i64 0,.int .i64 0,.int .i64 0,.slice none 0 0] 151)).cell? ⟨w.heap.size,0,none⟩=some (v0):=by simp[go_sem]
 have f1:(((w.alloc (.cells #[v0,v1,v2,.slice (some ⟨b,off,none⟩) n.radios.length c] 46)).alloc (.cells #[.string x.name,.string x.site,.string x.antenna,.string x.radio,.string x.band,.int .i64 x.azimuth,.int .i64 x.tilt,.int .i64 x.above,.int .i64 x.channel] 102)).alloc (.cells #[.string ⟨#[]⟩,.int .i64 0,.int .i64 0,.int .i64 0,.int .i64 0,.slice none 0 0] 151)).cell? ⟨w.heap.size,1,none⟩=some (v1):=by simp[go_sem]
 have f2:(((w.alloc (.cells #[v0,v1,v2,.slice (some ⟨b,off,none⟩) n.radios.length c] 46)).alloc (.cells #[.string x.name,.string x.site,.string x.antenna,.string x.radio,.string x.band,.int .i64 x.azimuth,.int .i64 x.tilt,.int .i64 x.above,.int .i64 x.channel] 102)).alloc (.cells #[.string ⟨#[]⟩,.int .i64 0,.int .i64 0,.int .i64 0,.int .i64 0,.slice none 0 0] 151)).cell? ⟨w.heap.size,2,none⟩=some (v2):=by simp[go_sem]
 have f3:(((w.alloc (.cells #[v0,v1,v2,.slice (some ⟨b,off,none⟩) n.radios.length c] 46)).alloc (.cells #[.string x.name,.string x.site,.string x.antenna,.string x.radio,.string x.band,.int .i64 x.azimuth,.int .i64 x.tilt,.int .i64 x.above,.int .i64 x.channel] 102)).alloc (.cells #[.string ⟨#[]⟩,.int .i64 0,.int .i64 0,.int .i64 0,.int .i64 0,.slice none 0 0] 151)).cell? ⟨w.heap.size,3,none⟩=some (.slice (some ⟨b,off,none⟩) n.radios.length c):=by simp[go_sem]
 have g3:(((w.alloc (.cells #[v0,v1,v2,.slice (some ⟨b,off,none⟩) n.radios.length c] 46)).alloc (.cells #[.string x.name,.string x.site,.string x.antenna,.string x.radio,.string x.band,.int .i64 x.azimuth,.int .i64 x.tilt,.int .i64 x.above,.int .i64 x.channel] 102)).alloc (.cells #[.string ⟨#[]⟩,.int .i64 0,.int .i64 0,.int .i64 0,.int .i64 0,.slice none 0 0] 151)).cell? ⟨w.heap.size+1,3,none⟩=some (.string x.radio):=by simp[go_sem]
 have h0:(((w.alloc (.cells #[v0,v1,v2,.slice (some ⟨b,off,none⟩) n.radios.length c] 46)).alloc (.cells #[.string x.name,.string x.site,.string x.antenna,.string x.radio,.string x.band,.int .i64 x.azimuth,.int .i64 x.tilt,.int .i64 x.above,.int .i64 x.channel] 102)).alloc (.cells #[.string ⟨#[]⟩,.int .i64 0,.int .i64 0,.int .i64 0,.int .i64 0,.slice none 0 0] 151)).cell? ⟨w.heap.size+1+1,0,none⟩=some (.string ⟨#[]⟩):=by simp[go_sem]
 have h1:(((w.alloc (.cells #[v0,v1,v2,.slice (some ⟨b,off,none⟩) n.radios.length c] 46)).alloc (.cells #[.string x.name,.string x.site,.string x.antenna,.string x.radio,.string x.band,.int .i64 x.azimuth,.int .i64 x.tilt,.int .i64 x.above,.int .i64 x.channel] 102)).alloc (.cells #[.string ⟨#[]⟩,.int .i64 0,.int .i64 0,.int .i64 0,.int .i64 0,.slice none 0 0] 151)).cell? ⟨w.heap.size+1+1,1,none⟩=some (.int .i64 0):=by simp[go_sem]
 have h2:(((w.alloc (.cells #[v0,v1,v2,.slice (some ⟨b,off,none⟩) n.radios.length c] 46)).alloc (.cells #[.string x.name,.string x.site,.string x.antenna,.string x.radio,.string x.band,.int .i64 x.azimuth,.int .i64 x.tilt,.int .i64 x.above,.int .i64 x.channel] 102)).alloc (.cells #[.string ⟨#[]⟩,.int .i64 0,.int .i64 0,.int .i64 0,.int .i64 0,.slice none 0 0] 151)).cell? ⟨w.heap.size+1+1,2,none⟩=some (.int .i64 0):=by simp[go_sem]
 have h3:(((w.alloc (.cells #[v0,v1,v2,.slice (some ⟨b,off,none⟩) n.radios.length c] 46)).alloc (.cells #[.string x.name,.string x.site,.string x.antenna,.string x.radio,.string x.band,.int .i64 x.azimuth,.int .i64 x.tilt,.int .i64 x.above,.int .i64 x.channel] 102)).alloc (.cells #[.string ⟨#[]⟩,.int .i64 0,.int .i64 0,.int .i64 0,.int .i64 0,.slice none 0 0] 151)).cell? ⟨w.heap.size+1+1,3,none⟩=some (.int .i64 0):=by simp[go_sem]
 have h4:(((w.alloc (.cells #[v0,v1,v2,.slice (some ⟨b,off,none⟩) n.radios.length c] 46)).alloc (.cells #[.string x.name,.string x.site,.string x.antenna,.string x.radio,.string x.band,.int .i64 x.azimuth,.int .i64 x.tilt,.int .i64 x.above,.int .i64 x.channel] 102)).alloc (.cells #[.string ⟨#[]⟩,.int .i64 0,.int .i64 0,.int .i64 0,.int .i64 0,.slice none 0 0] 151)).cell? ⟨w.heap.size+1+1,4,none⟩=some (.int .i64 0):=by simp[go_sem]
 have h5:(((w.alloc (.cells #[v0,v1,v2,.slice (some ⟨b,off,none⟩) n.radios.length c] 46)).alloc (.cells #[.string x.name,.string x.site,.string x.antenna,.string x.radio,.string x.band,.int .i64 x.azimuth,.int .i64 x.tilt,.int .i64 x.above,.int .i64 x.channel] 102)).alloc (.cells #[.string ⟨#[]⟩,.int .i64 0,.int .i64 0,.int .i64 0,.int .i64 0,.slice none 0 0] 151)).cell? ⟨w.heap.size+1+1,5,none⟩=some (.slice none 0 0):=by simp[go_sem]
 have hz:∀ o,(((w.alloc (.cells #[v0,v1,v2,.slice (some ⟨b,off,none⟩) n.radios.length c] 46)).alloc (.cells #[.string x.name,.string x.site,.string x.antenna,.string x.radio,.string x.band,.int .i64 x.azimuth,.int .i64 x.tilt,.int .i64 x.above,.int .i64 x.channel] 102)).alloc (.cells #[.string ⟨#[]⟩,.int .i64 0,.int .i64 0,.int .i64 0,.int .i64 0,.slice none 0 0] 151)).frozen? ⟨w.heap.size+1+1,o,none⟩=false:=by intro o;simp[go_sem]
 have t0:=(bat b0 b _ hbl).trans s0
 have t1:=(bat b0 b _ hbl).trans s1
 have t2:=(bat b0 b _ hbl).trans s2
 have t3:=(bat b0 b _ hbl).trans s3
 have t4:=(bat b0 b _ hbl).trans s4
 have t5:=(bat b0 b _ hbl).trans s5
 generalize (((w.alloc (.cells #[v0,v1,v2,.slice (some ⟨b,off,none⟩) n.radios.length c] 46)).alloc (.cells #[.string x.name,.string x.site,.string x.antenna,.string x.radio,.string x.band,.int .i64 x.azimuth,.int .i64 x.tilt,.int .i64 x.above,.int .i64 x.channel] 102)).alloc (.cells #[.string ⟨#[]⟩,.int .i64 0,.int .i64 0,.int .i64 0,.int .i64 0,.slice none 0 0] 151))=W1 at *
 have B0:=Lib.hid b0
 clear b0 s0 s1 s2 s3 s4 s5
 have oN:=overC (w0:=W1) (show w.heap.size<W1.heap.size by omega)
 have oX:=overC (w0:=W1) (show w.heap.size+1<W1.heap.size by omega)
 have oB:=overC (w0:=W1) (show b<W1.heap.size by omega)
 refine wp_region_over_tail 8 W1.heap.size W1 (Below.refl _ _) (by kernel_rfl) (by kernel_rfl) ?_
 simp only[List.take_succ_cons,List.take_zero,List.drop_succ_cons,List.drop_zero]
 repeat (go_big_quiet_step (first|(go_at_call 149;exact over_left (Nat.le_refl _) (HS.out _ (B0.out.trans ((over_below _ _ _).mono B0.out.size))))))
 refine wpQuiet_nil ?_
 intro X
 have hX:=over_below W1.heap.size W1 X
 clear oN oX oB
 generalize over W1.heap.size W1 X=w2 at *
 obtain⟨qe2,qf2,ye2⟩:=bcellAt hX (b:=w.heap.size+1+1) (by omega)
 have B2:=Lib.hid (B0.out.trans (hX.mono B0.out.size))
 clear hX
 go_wp2
 refine bodyPost_ret (v:=.agg #[.string R.name,.int .i64 R.power,.int .i64 R.feeder,.int .i64 R.noise,.int .i64 R.width,.slice am R.modes.length cm]) (by simp[results,Tryz.results122,go_sem, *]) rfl ?_
 exact⟨rfl,((((((B2.out.setCell (p:=⟨w.heap.size+1+1,0,none⟩) (by show w.heap.size≤w.heap.size+1+1;omega) _).setCell (p:=⟨w.heap.size+1+1,1,none⟩) (by show w.heap.size≤w.heap.size+1+1;omega) _).setCell (p:=⟨w.heap.size+1+1,2,none⟩) (by show w.heap.size≤w.heap.size+1+1;omega) _).setCell (p:=⟨w.heap.size+1+1,3,none⟩) (by show w.heap.size≤w.heap.size+1+1;omega) _).setCell (p:=⟨w.heap.size+1+1,4,none⟩) (by show w.heap.size≤w.heap.size+1+1;omega) _).setCell (p:=⟨w.heap.size+1+1,5,none⟩) (by show w.heap.size≤w.heap.size+1+1;omega) _)⟩
theorem iEirp_any (n:DNetwork) (x:DSector) (v0 v1 v2 v3:Value) (bb e:Int) (w:World) (r2:Rd w.heap.size w (DAntenna.sT n.antennas) v2) (r3:Rd w.heap.size w (DRadio.sT n.radios) v3) (l2:n.antennas.length≤1099511627776) (l3:n.radios.length≤1099511627776) (ka kr:Nat) (hp:Parts n x ka kr) (b0:0≤bb) (b1:bb≤359) (e0:-90≤e) (e1:e≤90) :
  Calls Tryz.prog 110 #[.agg #[v0,v1,v2,v3],.agg #[.string x.name,.string x.site,.string x.antenna,.string x.radio,.string x.band,.int .i64 x.azimuth,.int .i64 x.tilt,.int .i64 x.above,.int .i64 x.channel],.int .i64 bb,.int .i64 e] w fun r w'=>r=.returned (.int .i64 (eirpN n x bb e))∧Below w.heap.size w w':=by
 have hka:=hp.la
 have hia:=hp.ia
 have HE:Hid (eirpN n x bb e=(gRadio n.radios kr).power-(gRadio n.radios kr).feeder+towN (gAntenna n.antennas ka) x.azimuth x.tilt bb e):=by show _=_;unfold eirpN;rw[hp.ia,hp.ir,Int.toNat_natCast,Int.toNat_natCast]
 have HA:Hid (∀ W:World,Below w.heap.size w W→Calls Tryz.prog 123 #[.agg #[v0,v1,v2,v3],.string x.antenna] W fun e w'=>e=.returned (.int .i64 (ka:Int))∧Below W.heap.size W w'):=fun W hW=>by
  have:=antennaNamed_any n.antennas x.antenna v0 v1 v2 v3 w.heap.size W (r2.below hW) hW.size l2
  rw[hia] at this
  exact this
 obtain⟨ar,cr,er,_,_,hclr⟩:=DRadio.rd r3
 obtain⟨br,ofr,ear,hbr,hatr⟩:=hclr (by have:=hp.lr;omega)
 subst ear
 have hlr:=hp.lr
 obtain⟨-,-,-,-,-,⟨um,hsm,rum⟩⟩:=hatr kr hlr
 obtain⟨am,cm,eum,_,_,_⟩:=DMode.rd rum
 subst eum
 rw[gRadio_eq hlr] at hsm
 have HR:Hid (∀ W:World,Below w.heap.size w W→Calls Tryz.prog 122 #[.agg #[v0,v1,v2,v3],.agg #[.string x.name,.string x.site,.string x.antenna,.string x.radio,.string x.band,.int .i64 x.azimuth,.int .i64 x.tilt,.int .i64 x.above,.int .i64 x.channel]] W fun e w'=>e=.returned (.agg #[.string (gRadio n.radios kr).name,.int .i64 (gRadio n.radios kr).power,.int .i64 (gRadio n.radios kr).feeder,.int .i64 (gRadio n.radios kr).noise,.int .i64 (gRadio n.radios kr).width,.slice am (gRadio n.radios kr).modes.length cm])∧Below W.heap.size W w'):=fun W hW=>iRadio_any n x v0 v1 v2 v3 W ((r3.below hW).mono hW.size) l3 kr hp.lr hp.ir br ofr cr cm am er (by have:=hW.size;omega) ((bat hW br _ hbr).trans hsm)
 obtain⟨rp0,rp1⟩:=(radio_bd hp.rok).1
 obtain⟨rf0,rf1⟩:=(radio_bd hp.rok).2
 obtain⟨xa0,xa1⟩:=(sector_bd hp.sec).1
 obtain⟨xt0,xt1⟩:=(sector_bd hp.sec).2
 obtain⟨tb0,tb1⟩:=tow_bd hp.ok x.azimuth x.tilt bb e
 obtain⟨hl,hm⟩:=antB_loss hp.ok
 obtain⟨ag0,ag1⟩:=ant_gain hp.ok
 obtain⟨a,c,ee,_,_,hcl⟩:=DAntenna.rd r2
 obtain⟨b,off,ea,hbl,hat⟩:=hcl (by omega)
 subst ea ee
 obtain⟨s0,s1,⟨u2,s2,ru2⟩,⟨u3,s3,ru3⟩⟩:=hat ka hka
 rw[gAntenna_eq hka] at s0 s1 ru2 ru3
 have HTW:Hid (∀ W:World,Below w.heap.size w W→Calls Tryz.prog 160 #[.agg #[.string (gAntenna n.antennas ka).name,.int .i64 (gAntenna n.antennas ka).gain,u2,u3],.int .i64 x.azimuth,.int .i64 x.tilt,.int .i64 bb,.int .i64 e] W fun r w'=>r=.returned (.int .i64 (towN (gAntenna n.antennas ka) x.azimuth x.tilt bb e))∧Below W.heap.size W w'):=fun W hW=>toward_any _ _ _ _ _ _ _ W ((ru2.below hW).mono hW.size) ((ru3.below hW).mono hW.size) hl hm ag0 ag1 xa0 xa1 xt0 xt1 b0 b1 e0 e1
 obtain⟨ah,ch,e2,_,_,_⟩:=ru2.ints
 obtain⟨av,cv,e3,_,_,_⟩:=ru3.ints
 subst e2 e3
 have i1:(0:Int)≤(ka:Int):=by omega
 have i2:(ka:Int)<(n.antennas.length:Int):=by omega
 clear hcl hat r2 r3 hia hl hm ru2 ru3 hp hclr hatr rum
 clear hsm er
 generalize towN (gAntenna n.antennas ka) x.azimuth x.tilt bb e=T at *
 generalize gRadio n.radios kr=R at *
 generalize gAntenna n.antennas ka=A at *
 have w0:Below w.heap.size w ((w.alloc (.cells #[v0,v1,.slice (some ⟨b,off,none⟩) n.antennas.length c,v3] 46)).alloc (.cells #[.string x.name,.string x.site,.string x.antenna,.string x.radio,.string x.band,.int .i64 x.azimuth,.int .i64 x.tilt,.int .i64 x.above,.int .i64 x.channel] 102)):=(((Below.refl _ _).alloc (Nat.le_refl _) _).alloc (by first|(simp;done)|(simp<;>omega)) _)
 have z0:w.heap.size+2≤((w.alloc (.cells #[v0,v1,.slice (some ⟨b,off,none⟩) n.antennas.length c,v3] 46)).alloc (.cells #[.string x.name,.string x.site,.string x.antenna,.string x.radio,.string x.band,.int .i64 x.azimuth,.int .i64 x.tilt,.int .i64 x.above,.int .i64 x.channel] 102)).heap.size:=by simp
 go_enter Tryz.func110,Tryz.ntmps110
 go_wp2
 have f0:((w.alloc (.cells #[v0,v1,.slice (some ⟨b,off,none⟩) n.antennas.length c,v3] 46)).alloc (.cells #[.string x.name,.string x.site,.string x.antenna,.string x.radio,.string x.band,.int .i64 x.azimuth,.int .i64 x.tilt,.int .i64 x.above,.int .i64 x.channel] 102)).cell? ⟨w.heap.size,0,none⟩=some (v0):=by simp[go_sem]
 have f1:((w.alloc (.cells #[v0,v1,.slice (some ⟨b,off,none⟩) n.antennas.length c,v3] 46)).alloc (.cells #[.string x.name,.string x.site,.string x.antenna,.string x.radio,.string x.band,.int .i64 x.azimuth,.int .i64 x.tilt,.int .i64 x.above,.int .i64 x.channel] 102)).cell? ⟨w.heap.size,1,none⟩=some (v1):=by simp[go_sem]
 have f2:((w.alloc (.cells #[v0,v1,.slice (some ⟨b,off,none⟩) n.antennas.length c,v3] 46)).alloc (.cells #[.string x.name,.string x.site,.string x.antenna,.string x.radio,.string x.band,.int .i64 x.azimuth,.int .i64 x.tilt,.int .i64 x.above,.int .i64 x.channel] 102)).cell? ⟨w.heap.size,2,none⟩=some (.slice (some ⟨b,off,none⟩) n.antennas.length c):=by simp[go_sem]
 have f3:((w.alloc (.cells #[v0,v1,.slice (some ⟨b,off,none⟩) n.antennas.length c,v3] 46)).alloc (.cells #[.string x.name,.string x.site,.string x.antenna,.string x.radio,.string x.band,.int .i64 x.azimuth,.int .i64 x.tilt,.int .i64 x.above,.int .i64 x.channel] 102)).cell? ⟨w.heap.size,3,none⟩=some (v3):=by simp[go_sem]
 have g0:((w.alloc (.cells #[v0,v1,.slice (some ⟨b,off,none⟩) n.antennas.length c,v3] 46)).alloc (.cells #[.string x.name,.string x.site,.string x.antenna,.string x.radio,.string x.band,.int .i64 x.azimuth,.int .i64 x.tilt,.int .i64 x.above,.int .i64 x.channel] 102)).cell? ⟨w.heap.size+1,0,none⟩=some (.string x.name):=by simp[go_sem]
 have g1:((w.alloc (.cells #[v0,v1,.slice (some ⟨b,off,none⟩) n.antennas.length c,v3] 46)).alloc (.cells #[.string x.name,.string x.site,.string x.antenna,.string x.radio,.string x.band,.int .i64 x.azimuth,.int .i64 x.tilt,.int .i64 x.above,.int .i64 x.channel] 102)).cell? ⟨w.heap.size+1,1,none⟩=some (.string x.site):=by simp[go_sem]
 have g2:((w.alloc (.cells #[v0,v1,.slice (some ⟨b,off,none⟩) n.antennas.length c,v3] 46)).alloc (.cells #[.string x.name,.string x.site,.string x.antenna,.string x.radio,.string x.band,.int .i64 x.azimuth,.int .i64 x.tilt,.int .i64 x.above,.int .i64 x.channel] 102)).cell? ⟨w.heap.size+1,2,none⟩=some (.string x.antenna):=by simp[go_sem]
 have g3:((w.alloc (.cells #[v0,v1,.slice (some ⟨b,off,none⟩) n.antennas.length c,v3] 46)).alloc (.cells #[.string x.name,.string x.site,.string x.antenna,.string x.radio,.string x.band,.int .i64 x.azimuth,.int .i64 x.tilt,.int .i64 x.above,.int .i64 x.channel] 102)).cell? ⟨w.heap.size+1,3,none⟩=some (.string x.radio):=by simp[go_sem]
 have g4:((w.alloc (.cells #[v0,v1,.slice (some ⟨b,off,none⟩) n.antennas.length c,v3] 46)).alloc (.cells #[.string x.name,.string x.site,.string x.antenna,.string x.radio,.string x.band,.int .i64 x.azimuth,.int .i64 x.tilt,.int .i64 x.above,.int .i64 x.channel] 102)).cell? ⟨w.heap.size+1,4,none⟩=some (.string x.band):=by simp[go_sem]
 have g5:((w.alloc (.cells #[v0,v1,.slice (some ⟨b,off,none⟩) n.antennas.length c,v3] 46)).alloc (.cells #[.string x.name,.string x.site,.string x.antenna,.string x.radio,.string x.band,.int .i64 x.azimuth,.int .i64 x.tilt,.int .i64 x.above,.int .i64 x.channel] 102)).cell? ⟨w.heap.size+1,5,none⟩=some (.int .i64 x.azimuth):=by simp[go_sem]
 have g6:((w.alloc (.cells #[v0,v1,.slice (some ⟨b,off,none⟩) n.antennas.length c,v3] 46)).alloc (.cells #[.string x.name,.string x.site,.string x.antenna,.string x.radio,.string x.band,.int .i64 x.azimuth,.int .i64 x.tilt,.int .i64 x.above,.int .i64 x.channel] 102)).cell? ⟨w.heap.size+1,6,none⟩=some (.int .i64 x.tilt):=by simp[go_sem]
 have g7:((w.alloc (.cells #[v0,v1,.slice (some ⟨b,off,none⟩) n.antennas.length c,v3] 46)).alloc (.cells #[.string x.name,.string x.site,.string x.antenna,.string x.radio,.string x.band,.int .i64 x.azimuth,.int .i64 x.tilt,.int .i64 x.above,.int .i64 x.channel] 102)).cell? ⟨w.heap.size+1,7,none⟩=some (.int .i64 x.above):=by simp[go_sem]
 have g8:((w.alloc (.cells #[v0,v1,.slice (some ⟨b,off,none⟩) n.antennas.length c,v3] 46)).alloc (.cells #[.string x.name,.string x.site,.string x.antenna,.string x.radio,.string x.band,.int .i64 x.azimuth,.int .i64 x.tilt,.int .i64 x.above,.int .i64 x.channel] 102)).cell? ⟨w.heap.size+1,8,none⟩=some (.int .i64 x.channel):=by simp[go_sem]
 have t0:=(bat w0 b _ hbl).trans s0
 have t1:=(bat w0 b _ hbl).trans s1
 have t2:=(bat w0 b _ hbl).trans s2
 have t3:=(bat w0 b _ hbl).trans s3
 generalize ((w.alloc (.cells #[v0,v1,.slice (some ⟨b,off,none⟩) n.antennas.length c,v3] 46)).alloc (.cells #[.string x.name,.string x.site,.string x.antenna,.string x.radio,.string x.band,.int .i64 x.azimuth,.int .i64 x.tilt,.int .i64 x.above,.int .i64 x.channel] 102))=W1 at *
 have B0:=Lib.hid w0
 have hcf:W1.cell? ⟨w.heap.size,0,none⟩=some (v0)∧W1.cell? ⟨w.heap.size,1,none⟩=some (v1)∧W1.cell? ⟨w.heap.size,2,none⟩=some (.slice (some ⟨b,off,none⟩) n.antennas.length c)∧W1.cell? ⟨w.heap.size,3,none⟩=some (v3)∧W1.cell? ⟨w.heap.size+1,0,none⟩=some (.string x.name)∧W1.cell? ⟨w.heap.size+1,1,none⟩=some (.string x.site)∧W1.cell? ⟨w.heap.size+1,2,none⟩=some (.string x.antenna)∧W1.cell? ⟨w.heap.size+1,3,none⟩=some (.string x.radio)∧W1.cell? ⟨w.heap.size+1,4,none⟩=some (.string x.band)∧W1.cell? ⟨w.heap.size+1,5,none⟩=some (.int .i64 x.azimuth)∧W1.cell? ⟨w.heap.size+1,6,none⟩=some (.int .i64 x.tilt)∧W1.cell? ⟨w.heap.size+1,7,none⟩=some (.int .i64 x.above)∧W1.cell? ⟨w.heap.size+1,8,none⟩=some (.int .i64 x.channel)∧W1.cell? ⟨b,off+ka*4,none⟩=some (.string A.name)∧W1.cell? ⟨b,off+ka*4+1,none⟩=some (.int .i64 A.gain)∧W1.cell? ⟨b,off+ka*4+2,none⟩=some (.slice ah A.horizontal.length ch)∧W1.cell? ⟨b,off+ka*4+3,none⟩=some (.slice av A.vertical.length cv):=⟨f0,f1,f2,f3,g0,g1,g2,g3,g4,g5,g6,g7,g8,t0,t1,t2,t3⟩
 clear w0 s0 s1 s2 s3
 have u11:w.heap.size<W1.heap.size:=by omega
 have u12:w.heap.size+1<W1.heap.size:=by omega
 have u13:b<W1.heap.size:=by omega
 have HK:Hid (∀ W:World,Below W1.heap.size W1 W→W.cell? ⟨w.heap.size,0,none⟩=some (v0)∧W.cell? ⟨w.heap.size,1,none⟩=some (v1)∧W.cell? ⟨w.heap.size,2,none⟩=some (.slice (some ⟨b,off,none⟩) n.antennas.length c)∧W.cell? ⟨w.heap.size,3,none⟩=some (v3)∧W.cell? ⟨w.heap.size+1,0,none⟩=some (.string x.name)∧W.cell? ⟨w.heap.size+1,1,none⟩=some (.string x.site)∧W.cell? ⟨w.heap.size+1,2,none⟩=some (.string x.antenna)∧W.cell? ⟨w.heap.size+1,3,none⟩=some (.string x.radio)∧W.cell? ⟨w.heap.size+1,4,none⟩=some (.string x.band)∧W.cell? ⟨w.heap.size+1,5,none⟩=some (.int .i64 x.azimuth)∧W.cell? ⟨w.heap.size+1,6,none⟩=some (.int .i64 x.tilt)∧W.cell? ⟨w.heap.size+1,7,none⟩=some (.int .i64 x.above)∧W.cell? ⟨w.heap.size+1,8,none⟩=some (.int .i64 x.channel)∧W.cell? ⟨b,off+ka*4,none⟩=some (.string A.name)∧W.cell? ⟨b,off+ka*4+1,none⟩=some (.int .i64 A.gain)∧W.cell? ⟨b,off+ka*4+2,none⟩=some (.slice ah A.horizontal.length ch)∧W.cell? ⟨b,off+ka*4+3,none⟩=some (.slice av A.vertical.length cv)):=fun W h=>⟨(bat h _ _ u11).trans f0,(bat h _ _ u11).trans f1,(bat h _ _ u11).trans f2,(bat h _ _ u11).trans f3,(bat h _ _ u12).trans g0,(bat h _ _ u12).trans g1,(bat h _ _ u12).trans g2,(bat h _ _ u12).trans g3,(bat h _ _ u12).trans g4,(bat h _ _ u12).trans g5,(bat h _ _ u12).trans g6,(bat h _ _ u12).trans g7,(bat h _ _ u12).trans g8,(bat h _ _ u13).trans t0,(bat h _ _ u13).trans t1,(bat h _ _ u13).trans t2,(bat h _ _ u13).trans t3⟩
 have HBW:Hid (∀ W:World,Below W1.heap.size W1 W→Below w.heap.size w W):=fun W h=>B0.out.trans (h.mono B0.out.size)
 have xx1:W1.heap.size<W1.heap.size+1+1:=by omega
 go_cut [9,10] (fun s9 s10 wx=>∃ g h:Nat,s9=.pointer (some ⟨g,0,none⟩)∧s10=.pointer (some ⟨h,0,none⟩)∧wx.cell? ⟨g,1,none⟩=some (.int .i64 R.power)∧wx.cell? ⟨g,2,none⟩=some (.int .i64 R.feeder)∧wx.cell? ⟨h,0,none⟩=some (.string A.name)∧wx.cell? ⟨h,1,none⟩=some (.int .i64 A.gain)∧wx.cell? ⟨h,2,none⟩=some (.slice ah A.horizontal.length ch)∧wx.cell? ⟨h,3,none⟩=some (.slice av A.vertical.length cv)∧wx.cell? ⟨w.heap.size+1,5,none⟩=some (.int .i64 x.azimuth)∧wx.cell? ⟨w.heap.size+1,6,none⟩=some (.int .i64 x.tilt)∧g<wx.heap.size∧h<wx.heap.size∧w.heap.size+1<wx.heap.size∧Below w.heap.size w wx)
 case first =>
  go_region_held3 (fun W=>W.cell? ⟨w.heap.size,0,none⟩=some (v0)∧W.cell? ⟨w.heap.size,1,none⟩=some (v1)∧W.cell? ⟨w.heap.size,2,none⟩=some (.slice (some ⟨b,off,none⟩) n.antennas.length c)∧W.cell? ⟨w.heap.size,3,none⟩=some (v3)∧W.cell? ⟨w.heap.size+1,0,none⟩=some (.string x.name)∧W.cell? ⟨w.heap.size+1,1,none⟩=some (.string x.site)∧W.cell? ⟨w.heap.size+1,2,none⟩=some (.string x.antenna)∧W.cell? ⟨w.heap.size+1,3,none⟩=some (.string x.radio)∧W.cell? ⟨w.heap.size+1,4,none⟩=some (.string x.band)∧W.cell? ⟨w.heap.size+1,5,none⟩=some (.int .i64 x.azimuth)∧W.cell? ⟨w.heap.size+1,6,none⟩=some (.int .i64 x.tilt)∧W.cell? ⟨w.heap.size+1,7,none⟩=some (.int .i64 x.above)∧W.cell? ⟨w.heap.size+1,8,none⟩=some (.int .i64 x.channel)∧W.cell? ⟨b,off+ka*4,none⟩=some (.string A.name)∧W.cell? ⟨b,off+ka*4+1,none⟩=some (.int .i64 A.gain)∧W.cell? ⟨b,off+ka*4+2,none⟩=some (.slice ah A.horizontal.length ch)∧W.cell? ⟨b,off+ka*4+3,none⟩=some (.slice av A.vertical.length cv)) (exact HK.out _ (by repeat (first|(with_reducible exact K3.out)|(with_reducible exact K2.out)|(with_reducible exact Below.refl _ _)|(with_reducible refine Below.setCell ?_ (by first|exact Nat.le_refl _|(dsimp only;omega)|(simp<;>omega)) _)|(with_reducible refine Below.alloc ?_ (by first|exact Nat.le_refl _|omega|(simp;done)|(simp<;>omega)) _)|(with_reducible refine Below.drew ?_)))) (first|(go_at_call 122;refine (HR.out _ (HBW.out _ (by repeat (first|(with_reducible exact Below.refl _ _)|(with_reducible refine Below.setCell ?_ (by first|exact Nat.le_refl _|(dsimp only;omega)|(simp<;>omega)) _)|(with_reducible refine Below.alloc ?_ (by first|exact Nat.le_refl _|omega|(simp;done)|(simp<;>omega)) _)|(with_reducible refine Below.drew ?_))))).mono ?_;rintro e' w2 ⟨rfl,hb2⟩;have K2:Hid (Below W1.heap.size W1 w2):=Below.trans (by repeat (first|(with_reducible exact Below.refl _ _)|(with_reducible refine Below.setCell ?_ (by first|exact Nat.le_refl _|(dsimp only;omega)|(simp<;>omega)) _)|(with_reducible refine Below.alloc ?_ (by first|exact Nat.le_refl _|omega|(simp;done)|(simp<;>omega)) _)|(with_reducible refine Below.drew ?_))) (hb2.mono (by first|exact Nat.le_refl _|omega|(simp;done)|(simp<;>omega)));have yz2:W1.heap.size≤w2.heap.size:=K2.out.size;have hs2:=hb2.size;(try simp at hs2);(try have p21:W1.heap.size<w2.heap.size:=(by omega));(try have p22:W1.heap.size+1<w2.heap.size:=(by omega));have xx2:w2.heap.size<w2.heap.size+1+1:=(by omega);have p23:W1.heap.size<w2.heap.size+1:=(by omega);have p24:W1.heap.size<w2.heap.size+1+1:=(by omega);(try have p25:W1.heap.size+1<w2.heap.size+1:=(by omega));obtain⟨qq2,qf2⟩:=bcell hb2;clear hb2)|(go_at_call 123;refine (HA.out _ (HBW.out _ (by repeat (first|(with_reducible exact K2.out)|(with_reducible exact Below.refl _ _)|(with_reducible refine Below.setCell ?_ (by first|exact Nat.le_refl _|(dsimp only;omega)|(simp<;>omega)) _)|(with_reducible refine Below.alloc ?_ (by first|exact Nat.le_refl _|omega|(simp;done)|(simp<;>omega)) _)|(with_reducible refine Below.drew ?_))))).mono ?_;rintro e' w3 ⟨rfl,hb3⟩;have K3:Hid (Below W1.heap.size W1 w3):=Below.trans (by repeat (first|(with_reducible exact K2.out)|(with_reducible exact Below.refl _ _)|(with_reducible refine Below.setCell ?_ (by first|exact Nat.le_refl _|(dsimp only;omega)|(simp<;>omega)) _)|(with_reducible refine Below.alloc ?_ (by first|exact Nat.le_refl _|omega|(simp;done)|(simp<;>omega)) _)|(with_reducible refine Below.drew ?_))) (hb3.mono (by first|exact Nat.le_refl _|omega|(simp;done)|(simp<;>omega)));have yz3:w2.heap.size≤w3.heap.size:=(by have hh:=hb3.size;first|exact hh|(simp at hh;omega));have hs3:=hb3.size;(try simp at hs3);(try have p31:W1.heap.size<w3.heap.size:=(by omega));(try have p32:W1.heap.size+1<w3.heap.size:=(by omega));(try have p33:w2.heap.size<w3.heap.size:=(by omega));(try have p34:w2.heap.size+1<w3.heap.size:=(by omega));obtain⟨qq3,qf3⟩:=bcell hb3;clear hb3))
  all_goals (go_wp2_with fail;go_meet)
  all_goals refine⟨_,_,rfl,rfl,?_,?_,?_,?_,?_,?_,?_,?_,?_,?_,?_,HBW.out _ (by repeat (first|(with_reducible exact K3.out)|(with_reducible exact K2.out)|(with_reducible exact Below.refl _ _)|(with_reducible refine Below.setCell ?_ (by first|exact Nat.le_refl _|(dsimp only;omega)|(simp<;>omega)) _)|(with_reducible refine Below.alloc ?_ (by first|exact Nat.le_refl _|omega|(simp;done)|(simp<;>omega)) _)|(with_reducible refine Below.drew ?_)))⟩
  all_goals first|(simp[go_sem, *];done)|(simp[go_sem,cell_set_same, *];done)|(simp[size_setCell];omega)|(simp only[size_setCell];omega)|(simp[go_sem, *];omega)
 case rest =>
  obtain⟨gR,gA,rfl,rfl,k1,k2,m0,m1,m2,m3,d5,d6,y1,y2,y3,hBx⟩:=hcut
  go_wp2
  generalize wc=W3 at *
  have BG:=Lib.hid hBx
  clear hBx hcf
  have pX:=overC (w0:=W3) y3
  have pR:=overC (w0:=W3) y1
  have pA:=overC (w0:=W3) y2
  have j1:IntKind.i64.wrap (R.power-R.feeder)=R.power-R.feeder:=IntWalk.i64_in _ (by omega)
  have j2:IntKind.i64.wrap (R.power-R.feeder+T)=R.power-R.feeder+T:=IntWalk.i64_in _ (by omega)
  refine wp_region_over W3.heap.size W3 (Below.refl _ _) (by kernel_rfl) (by kernel_rfl) ?_
  repeat (go_big_quiet_step (first|(go_at_call 160;exact over_left (Nat.le_refl _) (HTW.out _ (BG.out.trans ((over_below _ _ _).mono BG.out.size))))))
  refine wpQuiet_nil ?_
  rintro _ ⟨Y,rfl⟩
  have hY:=over_below W3.heap.size W3 Y
  clear pX pR pA j1 j2
  generalize over W3.heap.size W3 Y=w4 at *
  have BH:=Lib.hid (BG.out.trans (hY.mono BG.out.size))
  clear hY
  go_wp2
  go_ret
  exact⟨by rw[HE.out];rfl,BH.out⟩
end Go.Proofs.YtdgmgchdjlfchaaGreatDoor
namespace Go.Proofs.YtdgmgchdjlfchaaGreatDoor
set_option maxHeartbeats 8000000
set_option maxRecDepth 100000
open Go.RowKit
set_option linter.unusedVariables false
set_option linter.unusedSimpArgs false
theorem over_drawn {P:Program} {f:FuncId} {args:Array Value} {B:Nat} {w0 X:World} {v:Value} (h:Calls P f args (over B w0 X) fun e w'=>e=.returned v∧∃ n,w' = (over B w0 X).drewN n) :
  Calls P f args (over B w0 X) fun e w''=>e=.returned v∧∃ X',w'' = over B w0 X' :=
 h.mono fun _ w' ⟨he,n,hw⟩=>⟨he,w',by rw[hw];exact (over_self (below_drewN (over_below B w0 X) n)).symm⟩
theorem l14Eirp_any (n:DNetwork) (v1 v2 v3:Value) (bp q:Nat) (bb e:Int) (w:World) (r1:Rd w.heap.size w (DSector.sT n.sectors) v1) (r2:Rd w.heap.size w (DAntenna.sT n.antennas) v2) (r3:Rd w.heap.size w (DRadio.sT n.radios) v3) (hbp:bp<w.heap.size) (p1:w.cell? ⟨bp,1,none⟩=some v1) (p2:w.cell? ⟨bp,2,none⟩=some v2) (p3:w.cell? ⟨bp,3,none⟩=some v3) (l1:n.sectors.length≤1099511627776) (l2:n.antennas.length≤1099511627776) (l3:n.radios.length≤1099511627776) (hq:q<n.sectors.length) (ka kr:Nat) (hp:Parts n (gSector n.sectors q) ka kr) (b0:0≤bb) (b1:bb≤359) (e0:-90≤e) (e1:e≤90) :
  Calls Tryz.prog 94 #[.pointer (some ⟨bp,0,none⟩),.int .i64 (q:Int),.int .i64 bb,.int .i64 e] w fun r w'=>r=.returned (.int .i64 (eirpN n (gSector n.sectors q) bb e))∧Below w.heap.size w w':=by
 have hka:=hp.la
 have hlr:=hp.lr
 have hia:=hp.ia
 have hir:=hp.ir
 have HE:Hid (eirpN n (gSector n.sectors q) bb e=(gRadio n.radios kr).power-(gRadio n.radios kr).feeder+towN (gAntenna n.antennas ka) (gSector n.sectors q).azimuth (gSector n.sectors q).tilt bb e):=by show _=_;unfold eirpN;rw[hia,hir,Int.toNat_natCast,Int.toNat_natCast]
 have HA:Hid (∀ W:World,Below w.heap.size w W→Calls Tryz.prog 130 #[.pointer (some ⟨bp,0,none⟩),.string (gSector n.sectors q).antenna] W fun e w'=>e=.returned (.int .i64 (ka:Int))∧W=w'):=fun W hW=>by
  have:=l14Antenna_any n.antennas (gSector n.sectors q).antenna v2 bp w.heap.size W (r2.below hW) hW.size ((bat hW bp 2 hbp).trans p2) l2
  rw[hia] at this
  exact this
 have HR:Hid (∀ W:World,Below w.heap.size w W→Calls Tryz.prog 131 #[.pointer (some ⟨bp,0,none⟩),.string (gSector n.sectors q).radio] W fun e w'=>e=.returned (.int .i64 (kr:Int))∧W=w'):=fun W hW=>by
  have:=l14Radio_any n.radios (gSector n.sectors q).radio v3 bp w.heap.size W (r3.below hW) hW.size ((bat hW bp 3 hbp).trans p3) l3
  rw[hir] at this
  exact this
 obtain⟨rp0,rp1⟩:=(radio_bd hp.rok).1
 obtain⟨rf0,rf1⟩:=(radio_bd hp.rok).2
 obtain⟨xa0,xa1⟩:=(sector_bd hp.sec).1
 obtain⟨xt0,xt1⟩:=(sector_bd hp.sec).2
 obtain⟨tb0,tb1⟩:=tow_bd hp.ok (gSector n.sectors q).azimuth (gSector n.sectors q).tilt bb e
 obtain⟨hl,hm⟩:=antB_loss hp.ok
 obtain⟨ag0,ag1⟩:=ant_gain hp.ok
 obtain⟨a1',c1,e1',-,-,hcl1⟩:=DSector.rd r1
 obtain⟨bs,os,es,hbs,hats⟩:=hcl1 (by omega)
 subst es e1'
 obtain⟨a2',c2,e2',-,-,hcl2⟩:=DAntenna.rd r2
 obtain⟨ba,oa,ea,hba,hata⟩:=hcl2 (by omega)
 subst ea e2'
 obtain⟨a3',c3,e3',-,-,hcl3⟩:=DRadio.rd r3
 obtain⟨br,og,eg,hbr,hatr⟩:=hcl3 (by omega)
 subst eg e3'
 obtain⟨-,-,u2,u3,-,u5,u6,-,-⟩:=hats q hq
 obtain⟨-,t1,⟨x2,t2,rx2⟩,⟨x3,t3,rx3⟩⟩:=hata ka hka
 obtain⟨-,g1,g2,-,-,-⟩:=hatr kr hlr
 rw[gSector_eq hq] at u2 u3 u5 u6
 rw[gAntenna_eq hka] at t1 rx2 rx3
 rw[gRadio_eq hlr] at g1 g2
 have HTW:Hid (∀ W:World,Below w.heap.size w W→Calls Tryz.prog 143 #[.pointer (some ⟨ba,oa+ka*4,none⟩),.int .i64 (gSector n.sectors q).azimuth,.int .i64 (gSector n.sectors q).tilt,.int .i64 bb,.int .i64 e] W fun r w'=>r=.returned (.int .i64 (towN (gAntenna n.antennas ka) (gSector n.sectors q).azimuth (gSector n.sectors q).tilt bb e))∧∃ m,w' = W.drewN m):=fun W hW=>l06Toward_any _ x2 x3 _ _ _ _ ba (oa+ka*4) w.heap.size W (rx2.below hW) (rx3.below hW) hW.size ((bat hW ba _ hba).trans t1) ((bat hW ba _ hba).trans t2) ((bat hW ba _ hba).trans t3) hl hm ag0 ag1 xa0 xa1 xt0 xt1 b0 b1 e0 e1
 have i1:(0:Int)≤(ka:Int):=by omega
 have i2:(ka:Int)<(n.antennas.length:Int):=by omega
 have i3:(0:Int)≤(kr:Int):=by omega
 have i4:(kr:Int)<(n.radios.length:Int):=by omega
 have i5:(0:Int)≤(q:Int):=by omega
 have i6:(q:Int)<(n.sectors.length:Int):=by omega
 clear hcl1 hcl2 hcl3 hats hata hatr r1 r2 r3 hia hir hl hm rx2 rx3 hp t1 t2 t3
 generalize towN (gAntenna n.antennas ka) (gSector n.sectors q).azimuth (gSector n.sectors q).tilt bb e=T at *
 generalize gRadio n.radios kr=R at *
 generalize gSector n.sectors q=x at *
 have j1:IntKind.i64.wrap (R.power-R.feeder)=R.power-R.feeder:=IntWalk.i64_in _ (by omega)
 have j2:IntKind.i64.wrap (R.power-R.feeder+T)=R.power-R.feeder+T:=IntWalk.i64_in _ (by omega)
 have J1:=Lib.hid j1
 have J2:=Lib.hid j2
 clear j1 j2
 have oP:=overC (w0:=w) hbp
 have oS:=overC (w0:=w) hbs
 have oR:=overC (w0:=w) hbr
 go_enter Tryz.func94,Tryz.ntmps94
 go_wp2
 refine wp_region_over w.heap.size w (Below.refl _ _) (by kernel_rfl) (by kernel_rfl) ?_
 repeat (go_big_quiet_step (first|(go_at_call 131;exact over_same (HR.out _ (over_below _ _ _)))))
 refine wpQuiet_nil ?_
 rintro _ ⟨X1,rfl⟩
 go_wp2
 refine wp_region_over w.heap.size w (over_below _ _ _) (by kernel_rfl) (by kernel_rfl) ?_
 repeat (go_big_quiet_step (first|(go_at_call 130;exact over_same (HA.out _ (over_below _ _ _)))))
 refine wpQuiet_nil ?_
 rintro _ ⟨X2,rfl⟩
 have j1:=J1.out
 have j2:=J2.out
 go_wp2
 refine wp_region_over w.heap.size w (over_below _ _ _) (by kernel_rfl) (by kernel_rfl) ?_
 repeat (go_big_quiet_step (first|(go_at_call 143;exact over_drawn (HTW.out _ (over_below _ _ _)))))
 refine wpQuiet_nil ?_
 rintro _ ⟨X3,rfl⟩
 have hX:=over_below w.heap.size w X3
 clear j1 j2 oP oS oR
 generalize over w.heap.size w X3=w4 at *
 have BH:=Lib.hid hX
 clear hX
 go_wp2
 go_ret
 exact⟨by rw[HE.out];rfl,BH.out⟩
end Go.Proofs.YtdgmgchdjlfchaaGreatDoor
